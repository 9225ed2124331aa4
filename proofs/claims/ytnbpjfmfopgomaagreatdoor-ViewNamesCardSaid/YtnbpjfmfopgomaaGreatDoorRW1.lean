/- Shallow functions, by program (gent4.py). -/
import Derived.Test.YtnbpjfmfopgomaaGreatDoorRW0
import Derived.Test.YtnbpjfmfopgomaaGreatDoorProg
import Derived.KernelRfl
noncomputable section
namespace Go.Eng.Sh
open Go.Proofs
set_option maxRecDepth 100000
set_option maxHeartbeats 4000000
set_option linter.all false
attribute [local irreducible] bV bR hd cnd jn jb loopK wnt chk newB bA bInt bStr bBool cmpO eqP eqS eqM eqF eqPL cvI cvSS slStr slArr ixArr ixSl ixStr fAd lnStr lnSl lnMap pk3 s2a bxV lkM upM dlM mkM callV nl outR tld endQ beginK endR endLp jmpK rfC mn2 mx2 aun pExtract pNil undefA isW aveq ldNp ld1p stNp cvBSp cvSBp slSlp ixAg1p ixAgNp fd1p fdNp apPp apZp cpyp bldSp bldAp bldLp mkSlp eqAp clSp bC pnK ifNil asrK noPan mkR clM acap mtp260_0
def s23 (D : Dyn) (n : Nat) : Tb := ⟨X, []⟩
def h23 : Hint := (.s .o (.s .o .o))
def f23 (D : Dyn) (n : Nat) := (⟨_, by conv => rhs; reduce⟩ : {g // g = fun vs H => funS (s23 D n) D n 23 Tryz.f23 h23 [] vs H}).1
theorem f23_eq (D : Dyn) (n : Nat) : f23 D n = funKp (s23 D n) D n 23 Tryz.f23 (ms h23) := by kernel_rfl
theorem f23_ok {D : Dyn} (hD : DP D) (n : Nat) : FP 23 (f23 D n) := fun_okP X_ok hD (SP.nil) Tryz.func23 (by kernel_rfl) (by kernel_rfl) (f23_eq D n)
attribute [local irreducible] f23

def s30 (D : Dyn) (n : Nat) : Tb := ⟨X, []⟩
def h30 : Hint := (.s .o (.s .o .o))
def f30 (D : Dyn) (n : Nat) := (⟨_, by conv => rhs; reduce⟩ : {g // g = fun vs H => funS (s30 D n) D n 30 Tryz.f30 h30 [] vs H}).1
theorem f30_eq (D : Dyn) (n : Nat) : f30 D n = funKp (s30 D n) D n 30 Tryz.f30 (ms h30) := by kernel_rfl
theorem f30_ok {D : Dyn} (hD : DP D) (n : Nat) : FP 30 (f30 D n) := fun_okP X_ok hD (SP.nil) Tryz.func30 (by kernel_rfl) (by kernel_rfl) (f30_eq D n)
attribute [local irreducible] f30

def s161 (D : Dyn) (n : Nat) : Tb := ⟨X, []⟩
def h161 : Hint := (.s .o (.s .o .o))
def f161 (D : Dyn) (n : Nat) := (⟨_, by conv => rhs; reduce⟩ : {g // g = fun vs H => funS (s161 D n) D n 161 Tryz.f161 h161 [] vs H}).1
theorem f161_eq (D : Dyn) (n : Nat) : f161 D n = funKp (s161 D n) D n 161 Tryz.f161 (ms h161) := by kernel_rfl
theorem f161_ok {D : Dyn} (hD : DP D) (n : Nat) : FP 161 (f161 D n) := fun_okP X_ok hD (SP.nil) Tryz.func161 (by kernel_rfl) (by kernel_rfl) (f161_eq D n)
attribute [local irreducible] f161

def s215 (D : Dyn) (n : Nat) : Tb := ⟨X, [(161, f161 D n)]⟩
def h215 : Hint := (.s .o (.s (.s .o (.cl (.s .o .o) .o)) (.s .o (.s (.s .o (.b [1,3] (.l [0,3,11,12,13] (.s .o (.s (.cr .o .o) (.s (.b0 (.s .o .o)) .o)))))) (.s .o .o)))))
def f215l0 (D : Dyn) (n : Nat) := (⟨_, by conv => rhs; reduce⟩ : {g // some g = prtF (s215 D n) D n 215 Tryz.f215 h215 [] 0}).1
attribute [local irreducible] f215l0
def f215b1 (D : Dyn) (n : Nat) := (⟨_, by conv => rhs; reduce⟩ : {g // some g = prtF (s215 D n) D n 215 Tryz.f215 h215 [f215l0 D n] 1}).1
attribute [local irreducible] f215b1
def f215 (D : Dyn) (n : Nat) := (⟨_, by conv => rhs; reduce⟩ : {g // g = fun vs H => funS (s215 D n) D n 215 Tryz.f215 h215 [f215l0 D n, f215b1 D n] vs H}).1
theorem f215_eq (D : Dyn) (n : Nat) : f215 D n = funKp (s215 D n) D n 215 Tryz.f215 (ms h215) := by kernel_rfl
theorem f215_ok {D : Dyn} (hD : DP D) (n : Nat) : FP 215 (f215 D n) := fun_okP X_ok hD (SP.cons (f161_ok hD n) (SP.nil)) Tryz.func215 (by kernel_rfl) (by kernel_rfl) (f215_eq D n)
attribute [local irreducible] f215

def s144 (D : Dyn) (n : Nat) : Tb := ⟨X, [(215, f215 D n)]⟩
def h144 : Hint := (.s .o (.s .o (.s .o .o)))
def f144 (D : Dyn) (n : Nat) := (⟨_, by conv => rhs; reduce⟩ : {g // g = fun vs H => funS (s144 D n) D n 144 Tryz.f144 h144 [] vs H}).1
theorem f144_eq (D : Dyn) (n : Nat) : f144 D n = funKp (s144 D n) D n 144 Tryz.f144 (ms h144) := by kernel_rfl
theorem f144_ok {D : Dyn} (hD : DP D) (n : Nat) : FP 144 (f144 D n) := fun_okP X_ok hD (SP.cons (f215_ok hD n) (SP.nil)) Tryz.func144 (by kernel_rfl) (by kernel_rfl) (f144_eq D n)
attribute [local irreducible] f144

def s162 (D : Dyn) (n : Nat) : Tb := ⟨X, []⟩
def f162 (D : Dyn) (n : Nat) (vs : List AV) (H : AH) : Option (AV × AH) :=
  outR (hd vs fun x0 vs => nl vs <|
  bV (cmpO .eql (eqP x0 .nilPtr)) fun x4 => 
  jn (wnt x4 false (bV (pNil x0) fun x7 => 
  bV (fAd 2 x7) fun x8 => 
  bV (ld1p x8 H) fun x9 => 
  bV (cmpO .eql (eqP x9 .nilPtr)) fun x10 => 
  some (.norm [x10], H)) (some (.norm [undefA], H))) fun vs H => hd vs fun x10_2 vs => 
  bV (pk3 (some x4) (some (.bool true)) (some x10_2)) fun x11 => 
  bV (some x11) fun x2 => some (.ret x2, H))
def h162 : Hint := (.s .o (.s .o .o))
theorem f162_eq (D : Dyn) (n : Nat) : f162 D n = funKp (s162 D n) D n 162 Tryz.f162 h162 := by kernel_rfl
theorem f162_ok {D : Dyn} (hD : DP D) (n : Nat) : FP 162 (f162 D n) := fun_okP X_ok hD (SP.nil) Tryz.func162 (by kernel_rfl) (by kernel_rfl) (f162_eq D n)
attribute [local irreducible] f162

def s101 (D : Dyn) (n : Nat) : Tb := ⟨X, [(162, f162 D n)]⟩
def h101 : Hint := (.s .o (.s (.s .o (.cl (.s .o .o) .o)) (.s .o .o)))
def f101 (D : Dyn) (n : Nat) := (⟨_, by conv => rhs; reduce⟩ : {g // g = fun vs H => funS (s101 D n) D n 101 Tryz.f101 h101 [] vs H}).1
theorem f101_eq (D : Dyn) (n : Nat) : f101 D n = funKp (s101 D n) D n 101 Tryz.f101 (ms h101) := by kernel_rfl
theorem f101_ok {D : Dyn} (hD : DP D) (n : Nat) : FP 101 (f101 D n) := fun_okP X_ok hD (SP.cons (f162_ok hD n) (SP.nil)) Tryz.func101 (by kernel_rfl) (by kernel_rfl) (f101_eq D n)
attribute [local irreducible] f101

def s282 (D : Dyn) (n : Nat) : Tb := ⟨X, []⟩
def h282 : Hint := (.s .o (.s (.s .o (.b [1] (.l [0,0,1,7,8] (.s .o (.s (.cr .o .o) (.s (.b0 (.s .o (.s .o (.cl (.s .o .o) .o)))) .o)))))) (.s .o .o)))
def f282l0 (D : Dyn) (n : Nat) := (⟨_, by conv => rhs; reduce⟩ : {g // some g = prtF (s282 D n) D n 282 Tryz.f282 h282 [] 0}).1
attribute [local irreducible] f282l0
def f282b1 (D : Dyn) (n : Nat) := (⟨_, by conv => rhs; reduce⟩ : {g // some g = prtF (s282 D n) D n 282 Tryz.f282 h282 [f282l0 D n] 1}).1
attribute [local irreducible] f282b1
def f282 (D : Dyn) (n : Nat) := (⟨_, by conv => rhs; reduce⟩ : {g // g = fun vs H => funS (s282 D n) D n 282 Tryz.f282 h282 [f282l0 D n, f282b1 D n] vs H}).1
theorem f282_eq (D : Dyn) (n : Nat) : f282 D n = funKp (s282 D n) D n 282 Tryz.f282 (ms h282) := by kernel_rfl
theorem f282_ok {D : Dyn} (hD : DP D) (n : Nat) : FP 282 (f282 D n) := fun_okP X_ok hD (SP.nil) Tryz.func282 (by kernel_rfl) (by kernel_rfl) (f282_eq D n)
attribute [local irreducible] f282

def s283 (D : Dyn) (n : Nat) : Tb := ⟨X, []⟩
def h283 : Hint := (.s .o (.s .o .o))
def f283 (D : Dyn) (n : Nat) := (⟨_, by conv => rhs; reduce⟩ : {g // g = fun vs H => funS (s283 D n) D n 283 Tryz.f283 h283 [] vs H}).1
theorem f283_eq (D : Dyn) (n : Nat) : f283 D n = funKp (s283 D n) D n 283 Tryz.f283 (ms h283) := by kernel_rfl
theorem f283_ok {D : Dyn} (hD : DP D) (n : Nat) : FP 283 (f283 D n) := fun_okP X_ok hD (SP.nil) Tryz.func283 (by kernel_rfl) (by kernel_rfl) (f283_eq D n)
attribute [local irreducible] f283

def s216 (D : Dyn) (n : Nat) : Tb := ⟨X, [(282, f282 D n)]⟩
def h216 : Hint := (.s .o (.s .o .o))
def f216 (D : Dyn) (n : Nat) := (⟨_, by conv => rhs; reduce⟩ : {g // g = fun vs H => funS (s216 D n) D n 216 Tryz.f216 h216 [] vs H}).1
theorem f216_eq (D : Dyn) (n : Nat) : f216 D n = funKp (s216 D n) D n 216 Tryz.f216 (ms h216) := by kernel_rfl
theorem f216_ok {D : Dyn} (hD : DP D) (n : Nat) : FP 216 (f216 D n) := fun_okP X_ok hD (SP.cons (f282_ok hD n) (SP.nil)) Tryz.func216 (by kernel_rfl) (by kernel_rfl) (f216_eq D n)
attribute [local irreducible] f216

def s209 (D : Dyn) (n : Nat) : Tb := ⟨X, []⟩
def h209 : Hint := (.s .o (.s (.s .o (.cl (.s .o .o) .o)) (.s .o .o)))
def f209 (D : Dyn) (n : Nat) := (⟨_, by conv => rhs; reduce⟩ : {g // g = fun vs H => funS (s209 D n) D n 209 Tryz.f209 h209 [] vs H}).1
theorem f209_eq (D : Dyn) (n : Nat) : f209 D n = funKp (s209 D n) D n 209 Tryz.f209 (ms h209) := by kernel_rfl
theorem f209_ok {D : Dyn} (hD : DP D) (n : Nat) : FP 209 (f209 D n) := fun_okP X_ok hD (SP.nil) Tryz.func209 (by kernel_rfl) (by kernel_rfl) (f209_eq D n)
attribute [local irreducible] f209

def s210 (D : Dyn) (n : Nat) : Tb := ⟨X, []⟩
def h210 : Hint := (.s .o (.b [1] (.l [0,0,1,6,7] (.s .o (.s (.cr .o .o) (.s (.b0 (.s .o .o)) .o))))))
def f210l0 (D : Dyn) (n : Nat) := (⟨_, by conv => rhs; reduce⟩ : {g // some g = prtF (s210 D n) D n 210 Tryz.f210 h210 [] 0}).1
attribute [local irreducible] f210l0
def f210b1 (D : Dyn) (n : Nat) := (⟨_, by conv => rhs; reduce⟩ : {g // some g = prtF (s210 D n) D n 210 Tryz.f210 h210 [f210l0 D n] 1}).1
attribute [local irreducible] f210b1
def f210 (D : Dyn) (n : Nat) := (⟨_, by conv => rhs; reduce⟩ : {g // g = fun vs H => funS (s210 D n) D n 210 Tryz.f210 h210 [f210l0 D n, f210b1 D n] vs H}).1
theorem f210_eq (D : Dyn) (n : Nat) : f210 D n = funKp (s210 D n) D n 210 Tryz.f210 (ms h210) := by kernel_rfl
theorem f210_ok {D : Dyn} (hD : DP D) (n : Nat) : FP 210 (f210 D n) := fun_okP X_ok hD (SP.nil) Tryz.func210 (by kernel_rfl) (by kernel_rfl) (f210_eq D n)
attribute [local irreducible] f210

def s137 (D : Dyn) (n : Nat) : Tb := ⟨X, [(209, f209 D n), (210, f210 D n)]⟩
def h137 : Hint := (.s .o (.s (.s .o (.cl (.s .o .o) .o)) (.s .o (.s (.b [4,15] .o) (.s (.b [4,15] .o) (.s (.b [3,7] .o) (.s .o .o)))))))
def f137 (D : Dyn) (n : Nat) := (⟨_, by conv => rhs; reduce⟩ : {g // g = fun vs H => funS (s137 D n) D n 137 Tryz.f137 h137 [] vs H}).1
theorem f137_eq (D : Dyn) (n : Nat) : f137 D n = funKp (s137 D n) D n 137 Tryz.f137 (ms h137) := by kernel_rfl
theorem f137_ok {D : Dyn} (hD : DP D) (n : Nat) : FP 137 (f137 D n) := fun_okP X_ok hD (SP.cons (f209_ok hD n) (SP.cons (f210_ok hD n) (SP.nil))) Tryz.func137 (by kernel_rfl) (by kernel_rfl) (f137_eq D n)
attribute [local irreducible] f137

def s81 (D : Dyn) (n : Nat) : Tb := ⟨X, [(137, f137 D n)]⟩
def h81 : Hint := (.s .o (.s (.s .o (.cl (.s .o .o) .o)) (.s (.s .o (.s .o (.cl (.s .o .o) .o))) (.s .o .o))))
def f81 (D : Dyn) (n : Nat) := (⟨_, by conv => rhs; reduce⟩ : {g // g = fun vs H => funS (s81 D n) D n 81 Tryz.f81 h81 [] vs H}).1
theorem f81_eq (D : Dyn) (n : Nat) : f81 D n = funKp (s81 D n) D n 81 Tryz.f81 (ms h81) := by kernel_rfl
theorem f81_ok {D : Dyn} (hD : DP D) (n : Nat) : FP 81 (f81 D n) := fun_okP X_ok hD (SP.cons (f137_ok hD n) (SP.nil)) Tryz.func81 (by kernel_rfl) (by kernel_rfl) (f81_eq D n)
attribute [local irreducible] f81

def s218 (D : Dyn) (n : Nat) : Tb := ⟨X, [(162, f162 D n), (81, f81 D n)]⟩
def h218 : Hint := (.s .o (.s (.s .o (.cl (.s .o .o) .o)) (.s (.b [9,511] .o) .o)))
def f218 (D : Dyn) (n : Nat) := (⟨_, by conv => rhs; reduce⟩ : {g // g = fun vs H => funS (s218 D n) D n 218 Tryz.f218 h218 [] vs H}).1
theorem f218_eq (D : Dyn) (n : Nat) : f218 D n = funKp (s218 D n) D n 218 Tryz.f218 (ms h218) := by kernel_rfl
theorem f218_ok {D : Dyn} (hD : DP D) (n : Nat) : FP 218 (f218 D n) := fun_okP X_ok hD (SP.cons (f162_ok hD n) (SP.cons (f81_ok hD n) (SP.nil))) Tryz.func218 (by kernel_rfl) (by kernel_rfl) (f218_eq D n)
attribute [local irreducible] f218

def s217 (D : Dyn) (n : Nat) : Tb := ⟨X, []⟩
def h217 : Hint := (.s .o (.s .o .o))
def f217 (D : Dyn) (n : Nat) := (⟨_, by conv => rhs; reduce⟩ : {g // g = fun vs H => funS (s217 D n) D n 217 Tryz.f217 h217 [] vs H}).1
theorem f217_eq (D : Dyn) (n : Nat) : f217 D n = funKp (s217 D n) D n 217 Tryz.f217 (ms h217) := by kernel_rfl
theorem f217_ok {D : Dyn} (hD : DP D) (n : Nat) : FP 217 (f217 D n) := fun_okP X_ok hD (SP.nil) Tryz.func217 (by kernel_rfl) (by kernel_rfl) (f217_eq D n)
attribute [local irreducible] f217

def s145 (D : Dyn) (n : Nat) : Tb := ⟨X, [(161, f161 D n), (101, f101 D n), (216, f216 D n), (218, f218 D n)]⟩
def h145 : Hint := (.s .o (.s (.s .o (.cl (.s .o .o) .o)) (.s (.s .o (.cl (.s .o .o) .o)) (.s .o (.s (.s .o (.cl (.s .o .o) .o)) (.s (.b [13,8191] .o) .o))))))
def f145 (D : Dyn) (n : Nat) := (⟨_, by conv => rhs; reduce⟩ : {g // g = fun vs H => funS (s145 D n) D n 145 Tryz.f145 h145 [] vs H}).1
theorem f145_eq (D : Dyn) (n : Nat) : f145 D n = funKp (s145 D n) D n 145 Tryz.f145 (ms h145) := by kernel_rfl
theorem f145_ok {D : Dyn} (hD : DP D) (n : Nat) : FP 145 (f145 D n) := fun_okP X_ok hD (SP.cons (f161_ok hD n) (SP.cons (f101_ok hD n) (SP.cons (f216_ok hD n) (SP.cons (f218_ok hD n) (SP.nil))))) Tryz.func145 (by kernel_rfl) (by kernel_rfl) (f145_eq D n)
attribute [local irreducible] f145

def s174 (D : Dyn) (n : Nat) : Tb := ⟨X, []⟩
def f174j0 (D : Dyn) (n : Nat) (vs : List AV) (H : AH) : Rs :=
  
  some (.norm [], H)
def f174j1 (D : Dyn) (n : Nat) (vs : List AV) (H : AH) : Rs :=
  
  some (.ret (.tuple []), H)
def rc174 (D : Dyn) (n : Nat) (rv : AV) (vs : List AV) (H : AH) : Option (AV × AH) :=
  noPan (outR (hd vs fun x0 vs => hd vs fun x1 vs => nl vs <|
  bV (ifNil .neq rv) fun x8 => 
  jn (cnd x8 (bA (bxV 23 (.agg [(.int .u8 (.ofNat 0)), (.int .i64 (.ofNat 0)), (.int .i64 (.ofNat 0)), (.int .i64 (.ofNat 0)), (.int .i64 (.ofNat 0)), (.int .i64 (.ofNat 0)), (.int .i64 (.ofNat 0)), (.int .i64 (.ofNat 0))])) H fun x3 H => 
  bV (ldNp 8 x3 H) fun x9 => 
  bR (stNp 8 x0 x9 H) fun x9999 H => 
  bR (stNp 1 x1 (.int .i64 (.ofNat 4)) H) fun x9999_2 H => 
  bV (asrK 169 (.agg [(.int .i64 (.ofNat 0))]) rv) fun x12 => 
  bV (pExtract x12 0) fun x13 => 
  bV (pExtract x12 1) fun x14 => 
  bA (bxV 169 (.agg [(.int .i64 (.ofNat 0))])) H fun x4 H => 
  bR (stNp 1 x4 x13 H) fun x9999_3 H => 
  jn (cnd x14 (bV (fAd 0 x4) fun x16 => 
  bV (ld1p x16 H) fun x17 => 
  bR (stNp 1 x1 x17 H) fun x9999_4 H => 
  some (.norm [], H))
  (some (.norm [], H))) (f174j0 D n))
  (some (.norm [], H))) (f174j1 D n)))
def h174 : Hint := (.s .pc (.c [] (.s .pc (.s .pc (.s .pc (.s .pc (.c [] .pc .o))))) .o))
theorem rc174_eq (D : Dyn) (n : Nat) : rc174 D n = funRp (s174 D n) D n 174 Tryz.f174 h174 := by kernel_rfl
theorem rc174_ok {D : Dyn} (hD : DP D) (n : Nat) : RcP 174 (rc174 D n) := funR_okP X_ok hD (SP.nil) Tryz.func174 (by kernel_rfl) (by kernel_rfl) (by kernel_rfl) (rc174_eq D n)
attribute [local irreducible] f174j0 f174j1 rc174

def s105 (D : Dyn) (n : Nat) : Tb := ⟨X, []⟩
def f105 (D : Dyn) (n : Nat) (vs : List AV) (H : AH) : Option (AV × AH) :=
  noPan (outR (hd vs fun x0 vs => hd vs fun x1 vs => hd vs fun x2 vs => nl vs <|
  bA (bxV 23 (.agg [(.int .u8 (.ofNat 0)), (.int .i64 (.ofNat 0)), (.int .i64 (.ofNat 0)), (.int .i64 (.ofNat 0)), (.int .i64 (.ofNat 0)), (.int .i64 (.ofNat 0)), (.int .i64 (.ofNat 0)), (.int .i64 (.ofNat 0))])) H fun x6 H => 
  bA (bxV 24 (.int .i64 (.ofNat 0))) H fun x7 H => 
  bV (bldSp [(0, 1), (1, 1)] [.nilPtr, (.int .i64 (.ofNat 0))] [(0, x0), (1, x1)]) fun x12 => 
  bC (callV (s105 D n).S D x2 [x12] H) (fun x H => bR (rc174 D n x [x6, x7] H) fun _ H => bV (ldNp 8 x6 H) fun x9006_5 => bV (ld1p x7 H) fun x9007_5 => some (.ret (.tuple [x9006_5, x9007_5]), H)) fun x13 H => 
  bR (stNp 8 x6 x13 H) fun x9999 H => 
  bR (stNp 1 x7 (.int .i64 (.ofNat 0)) H) fun x9999_2 H => 
  bR (rc174 D n .nilIface [x6, x7] H) fun _ H => bV (ldNp 8 x6 H) fun x9006_8 => bV (ld1p x7 H) fun x9007_8 => some (.ret (.tuple [x9006_8, x9007_8]), H)))
theorem f105_eq (D : Dyn) (n : Nat) : f105 D n = dfunKp (s105 D n) D Tryz.f105 174 (rc174 D n) := by kernel_rfl
theorem f105_ok {D : Dyn} (hD : DP D) (n : Nat) : FP 105 (f105 D n) := dfun_okP X_ok hD (SP.nil) Tryz.func105 (rc174_ok hD n) (f105_eq D n)
attribute [local irreducible] f105

def s32 (D : Dyn) (n : Nat) : Tb := ⟨X, [(105, f105 D n)]⟩
def h32 : Hint := (.s .o (.s (.s .o (.cl (.s .o (.s .o .o)) .o)) (.s .o .o)))
def f32 (D : Dyn) (n : Nat) := (⟨_, by conv => rhs; reduce⟩ : {g // g = fun vs H => funS (s32 D n) D n 32 Tryz.f32 h32 [] vs H}).1
theorem f32_eq (D : Dyn) (n : Nat) : f32 D n = funKp (s32 D n) D n 32 Tryz.f32 (ms h32) := by kernel_rfl
theorem f32_ok {D : Dyn} (hD : DP D) (n : Nat) : FP 32 (f32 D n) := fun_okP X_ok hD (SP.cons (f105_ok hD n) (SP.nil)) Tryz.func32 (by kernel_rfl) (by kernel_rfl) (f32_eq D n)
attribute [local irreducible] f32

def s175 (D : Dyn) (n : Nat) : Tb := ⟨X, []⟩
def h175 : Hint := (.s .o (.s .o .o))
def f175 (D : Dyn) (n : Nat) := (⟨_, by conv => rhs; reduce⟩ : {g // g = fun vs H => funS (s175 D n) D n 175 Tryz.f175 h175 [] vs H}).1
theorem f175_eq (D : Dyn) (n : Nat) : f175 D n = funKp (s175 D n) D n 175 Tryz.f175 (ms h175) := by kernel_rfl
theorem f175_ok {D : Dyn} (hD : DP D) (n : Nat) : FP 175 (f175 D n) := fun_okP X_ok hD (SP.nil) Tryz.func175 (by kernel_rfl) (by kernel_rfl) (f175_eq D n)
attribute [local irreducible] f175

def s106 (D : Dyn) (n : Nat) : Tb := ⟨X, [(175, f175 D n)]⟩
def h106 : Hint := (.s .o (.s .o .o))
def f106 (D : Dyn) (n : Nat) := (⟨_, by conv => rhs; reduce⟩ : {g // g = fun vs H => funS (s106 D n) D n 106 Tryz.f106 h106 [] vs H}).1
theorem f106_eq (D : Dyn) (n : Nat) : f106 D n = funKp (s106 D n) D n 106 Tryz.f106 (ms h106) := by kernel_rfl
theorem f106_ok {D : Dyn} (hD : DP D) (n : Nat) : FP 106 (f106 D n) := fun_okP X_ok hD (SP.cons (f175_ok hD n) (SP.nil)) Tryz.func106 (by kernel_rfl) (by kernel_rfl) (f106_eq D n)
attribute [local irreducible] f106

def s186 (D : Dyn) (n : Nat) : Tb := ⟨X, []⟩
def h186 : Hint := (.s .o (.s .o .o))
def f186 (D : Dyn) (n : Nat) := (⟨_, by conv => rhs; reduce⟩ : {g // g = fun vs H => funS (s186 D n) D n 186 Tryz.f186 h186 [] vs H}).1
theorem f186_eq (D : Dyn) (n : Nat) : f186 D n = funKp (s186 D n) D n 186 Tryz.f186 (ms h186) := by kernel_rfl
theorem f186_ok {D : Dyn} (hD : DP D) (n : Nat) : FP 186 (f186 D n) := fun_okP X_ok hD (SP.nil) Tryz.func186 (by kernel_rfl) (by kernel_rfl) (f186_eq D n)
attribute [local irreducible] f186

def s205 (D : Dyn) (n : Nat) : Tb := ⟨X, []⟩
def h205 : Hint := (.s .o (.s .o .o))
def f205 (D : Dyn) (n : Nat) := (⟨_, by conv => rhs; reduce⟩ : {g // g = fun vs H => funS (s205 D n) D n 205 Tryz.f205 h205 [] vs H}).1
theorem f205_eq (D : Dyn) (n : Nat) : f205 D n = funKp (s205 D n) D n 205 Tryz.f205 (ms h205) := by kernel_rfl
theorem f205_ok {D : Dyn} (hD : DP D) (n : Nat) : FP 205 (f205 D n) := fun_okP X_ok hD (SP.nil) Tryz.func205 (by kernel_rfl) (by kernel_rfl) (f205_eq D n)
attribute [local irreducible] f205

def s364 (D : Dyn) (n : Nat) : Tb := ⟨X, []⟩
def h364 : Hint := (.s .o (.s .o .o))
def f364 (D : Dyn) (n : Nat) := (⟨_, by conv => rhs; reduce⟩ : {g // g = fun vs H => funS (s364 D n) D n 364 Tryz.f364 h364 [] vs H}).1
theorem f364_eq (D : Dyn) (n : Nat) : f364 D n = funKp (s364 D n) D n 364 Tryz.f364 (ms h364) := by kernel_rfl
theorem f364_ok {D : Dyn} (hD : DP D) (n : Nat) : FP 364 (f364 D n) := fun_okP X_ok hD (SP.nil) Tryz.func364 (by kernel_rfl) (by kernel_rfl) (f364_eq D n)
attribute [local irreducible] f364

def s388 (D : Dyn) (n : Nat) : Tb := ⟨X, []⟩
def h388 : Hint := (.s .o (.s .o .o))
def f388 (D : Dyn) (n : Nat) := (⟨_, by conv => rhs; reduce⟩ : {g // g = fun vs H => funS (s388 D n) D n 388 Tryz.f388 h388 [] vs H}).1
theorem f388_eq (D : Dyn) (n : Nat) : f388 D n = funKp (s388 D n) D n 388 Tryz.f388 (ms h388) := by kernel_rfl
theorem f388_ok {D : Dyn} (hD : DP D) (n : Nat) : FP 388 (f388 D n) := fun_okP X_ok hD (SP.nil) Tryz.func388 (by kernel_rfl) (by kernel_rfl) (f388_eq D n)
attribute [local irreducible] f388

def s391 (D : Dyn) (n : Nat) : Tb := ⟨X, []⟩
def h391 : Hint := (.s .o (.s .o (.s .o (.s (.s .o (.c [0,2,6] .o .o)) (.s .o .o)))))
def f391j0 (D : Dyn) (n : Nat) := (⟨_, by conv => rhs; reduce⟩ : {g // some g = prtF (s391 D n) D n 391 Tryz.f391 h391 [] 0}).1
attribute [local irreducible] f391j0
def f391 (D : Dyn) (n : Nat) := (⟨_, by conv => rhs; reduce⟩ : {g // g = fun vs H => funS (s391 D n) D n 391 Tryz.f391 h391 [f391j0 D n] vs H}).1
theorem f391_eq (D : Dyn) (n : Nat) : f391 D n = funKp (s391 D n) D n 391 Tryz.f391 (ms h391) := by kernel_rfl
theorem f391_ok {D : Dyn} (hD : DP D) (n : Nat) : FP 391 (f391 D n) := fun_okP X_ok hD (SP.nil) Tryz.func391 (by kernel_rfl) (by kernel_rfl) (f391_eq D n)
attribute [local irreducible] f391

def s387 (D : Dyn) (n : Nat) : Tb := ⟨X, [(388, f388 D n), (391, f391 D n)]⟩
def h387 : Hint := (.s (.c [] (.l [0,1,2,4,5,6,3,7,8,9] .o) .o) (.s (.c [] (.l [0,1,2,4,5,6,3,7,8,9] .o) .o) (.s (.s .o (.b0 (.s .o (.c [3,0,1,2] (.s .o (.c [0,0,1,2] (.s .o .o) .o)) (.s .o (.c [2,0,1,2] (.s (.s .o (.c [1,0,1,2] .o .o)) .o) .o)))))) (.s .o (.s .o .o)))))
def f387j0 (D : Dyn) (n : Nat) := (⟨_, by conv => rhs; reduce⟩ : {g // some g = prtF (s387 D n) D n 387 Tryz.f387 h387 [] 0}).1
attribute [local irreducible] f387j0
def f387j1 (D : Dyn) (n : Nat) := (⟨_, by conv => rhs; reduce⟩ : {g // some g = prtF (s387 D n) D n 387 Tryz.f387 h387 [f387j0 D n] 1}).1
attribute [local irreducible] f387j1
def f387j2 (D : Dyn) (n : Nat) := (⟨_, by conv => rhs; reduce⟩ : {g // some g = prtF (s387 D n) D n 387 Tryz.f387 h387 [f387j0 D n, f387j1 D n] 2}).1
attribute [local irreducible] f387j2
def f387j3 (D : Dyn) (n : Nat) := (⟨_, by conv => rhs; reduce⟩ : {g // some g = prtF (s387 D n) D n 387 Tryz.f387 h387 [f387j0 D n, f387j1 D n, f387j2 D n] 3}).1
attribute [local irreducible] f387j3
def f387 (D : Dyn) (n : Nat) := (⟨_, by conv => rhs; reduce⟩ : {g // g = fun vs H => funS (s387 D n) D n 387 Tryz.f387 h387 [f387j0 D n, f387j1 D n, f387j2 D n, f387j3 D n] vs H}).1
theorem f387_eq (D : Dyn) (n : Nat) : f387 D n = funKp (s387 D n) D n 387 Tryz.f387 (ms h387) := by kernel_rfl
theorem f387_ok {D : Dyn} (hD : DP D) (n : Nat) : FP 387 (f387 D n) := fun_okP X_ok hD (SP.cons (f388_ok hD n) (SP.cons (f391_ok hD n) (SP.nil))) Tryz.func387 (by kernel_rfl) (by kernel_rfl) (f387_eq D n)
attribute [local irreducible] f387

def s390 (D : Dyn) (n : Nat) : Tb := ⟨X, []⟩
def h390 : Hint := (.s (.b [] .o) (.s (.s .o (.c [1,1,4] .o (.b [10,1023] .o))) (.s (.s .o (.c [0,1,4] .o (.b [10,1023] .o))) (.s .o .o))))
def f390j0 (D : Dyn) (n : Nat) := (⟨_, by conv => rhs; reduce⟩ : {g // some g = prtF (s390 D n) D n 390 Tryz.f390 h390 [] 0}).1
attribute [local irreducible] f390j0
def f390j1 (D : Dyn) (n : Nat) := (⟨_, by conv => rhs; reduce⟩ : {g // some g = prtF (s390 D n) D n 390 Tryz.f390 h390 [f390j0 D n] 1}).1
attribute [local irreducible] f390j1
def f390 (D : Dyn) (n : Nat) := (⟨_, by conv => rhs; reduce⟩ : {g // g = fun vs H => funS (s390 D n) D n 390 Tryz.f390 h390 [f390j0 D n, f390j1 D n] vs H}).1
theorem f390_eq (D : Dyn) (n : Nat) : f390 D n = funKp (s390 D n) D n 390 Tryz.f390 (ms h390) := by kernel_rfl
theorem f390_ok {D : Dyn} (hD : DP D) (n : Nat) : FP 390 (f390 D n) := fun_okP X_ok hD (SP.nil) Tryz.func390 (by kernel_rfl) (by kernel_rfl) (f390_eq D n)
attribute [local irreducible] f390

def s365 (D : Dyn) (n : Nat) : Tb := ⟨X, [(387, f387 D n), (388, f388 D n), (390, f390 D n), (391, f391 D n)]⟩
def h365 : Hint := (.s .o (.s (.s .o (.cl (.s .o .o) .o)) (.s (.s .o (.b0 (.s .o (.c [1,0,2,6] (.s (.c [] (.l [0,1,2,4,5,6,3,7,8,9,10] .o) .o) (.s (.b [14,16383] .o) .o)) (.s .o (.c [0,0,2,6] (.s (.c [] (.l [0,1,2,4,5,6,3,7,8,9,10] .o) .o) (.s .o .o)) .o)))))) (.s .o (.s .o .o)))))
def f365j0 (D : Dyn) (n : Nat) := (⟨_, by conv => rhs; reduce⟩ : {g // some g = prtF (s365 D n) D n 365 Tryz.f365 h365 [] 0}).1
attribute [local irreducible] f365j0
def f365j1 (D : Dyn) (n : Nat) := (⟨_, by conv => rhs; reduce⟩ : {g // some g = prtF (s365 D n) D n 365 Tryz.f365 h365 [f365j0 D n] 1}).1
attribute [local irreducible] f365j1
def f365 (D : Dyn) (n : Nat) := (⟨_, by conv => rhs; reduce⟩ : {g // g = fun vs H => funS (s365 D n) D n 365 Tryz.f365 h365 [f365j0 D n, f365j1 D n] vs H}).1
theorem f365_eq (D : Dyn) (n : Nat) : f365 D n = funKp (s365 D n) D n 365 Tryz.f365 (ms h365) := by kernel_rfl
theorem f365_ok {D : Dyn} (hD : DP D) (n : Nat) : FP 365 (f365 D n) := fun_okP X_ok hD (SP.cons (f387_ok hD n) (SP.cons (f388_ok hD n) (SP.cons (f390_ok hD n) (SP.cons (f391_ok hD n) (SP.nil))))) Tryz.func365 (by kernel_rfl) (by kernel_rfl) (f365_eq D n)
attribute [local irreducible] f365

def s329 (D : Dyn) (n : Nat) : Tb := ⟨X, [(364, f364 D n), (365, f365 D n)]⟩
def h329 : Hint := (.s .o (.s (.s .o (.cl (.s .o .o) .o)) (.s .o (.s (.s .o (.cl (.s .o .o) .o)) (.s .o (.s .o .o))))))
def f329 (D : Dyn) (n : Nat) := (⟨_, by conv => rhs; reduce⟩ : {g // g = fun vs H => funS (s329 D n) D n 329 Tryz.f329 h329 [] vs H}).1
theorem f329_eq (D : Dyn) (n : Nat) : f329 D n = funKp (s329 D n) D n 329 Tryz.f329 (ms h329) := by kernel_rfl
theorem f329_ok {D : Dyn} (hD : DP D) (n : Nat) : FP 329 (f329 D n) := fun_okP X_ok hD (SP.cons (f364_ok hD n) (SP.cons (f365_ok hD n) (SP.nil))) Tryz.func329 (by kernel_rfl) (by kernel_rfl) (f329_eq D n)
attribute [local irreducible] f329

def s220 (D : Dyn) (n : Nat) : Tb := ⟨X, []⟩
def h220 : Hint := (.s .o (.s (.s .o (.b [1,0] (.l [0,0,1,7,8] (.s .o (.s (.cr .o .o) (.s (.b0 (.s .o .o)) .o)))))) (.s .o .o)))
def f220l0 (D : Dyn) (n : Nat) := (⟨_, by conv => rhs; reduce⟩ : {g // some g = prtF (s220 D n) D n 220 Tryz.f220 h220 [] 0}).1
attribute [local irreducible] f220l0
def f220b1 (D : Dyn) (n : Nat) := (⟨_, by conv => rhs; reduce⟩ : {g // some g = prtF (s220 D n) D n 220 Tryz.f220 h220 [f220l0 D n] 1}).1
attribute [local irreducible] f220b1
def f220 (D : Dyn) (n : Nat) := (⟨_, by conv => rhs; reduce⟩ : {g // g = fun vs H => funS (s220 D n) D n 220 Tryz.f220 h220 [f220l0 D n, f220b1 D n] vs H}).1
theorem f220_eq (D : Dyn) (n : Nat) : f220 D n = funKp (s220 D n) D n 220 Tryz.f220 (ms h220) := by kernel_rfl
theorem f220_ok {D : Dyn} (hD : DP D) (n : Nat) : FP 220 (f220 D n) := fun_okP X_ok hD (SP.nil) Tryz.func220 (by kernel_rfl) (by kernel_rfl) (f220_eq D n)
def m220 (D : Dyn) (n : Nat) (vs : List AV) (H : AH) : Option (AV × AH) := sumK (f220 D n) vs H
theorem m220_ok {D : Dyn} (hD : DP D) (n : Nat) : FP 220 (m220 D n) := sumK_okP (F := f220 D) (by kernel_rfl) (fun n => f220_ok hD n) n
attribute [local irreducible] f220 m220

def s270 (D : Dyn) (n : Nat) : Tb := ⟨X, [(220, m220 D n)]⟩
def h270 : Hint := (.s .o (.s .o .o))
def f270 (D : Dyn) (n : Nat) := (⟨_, by conv => rhs; reduce⟩ : {g // g = fun vs H => funS (s270 D n) D n 270 Tryz.f270 h270 [] vs H}).1
theorem f270_eq (D : Dyn) (n : Nat) : f270 D n = funKp (s270 D n) D n 270 Tryz.f270 (ms h270) := by kernel_rfl
theorem f270_ok {D : Dyn} (hD : DP D) (n : Nat) : FP 270 (f270 D n) := fun_okP X_ok hD (SP.cons (m220_ok hD n) (SP.nil)) Tryz.func270 (by kernel_rfl) (by kernel_rfl) (f270_eq D n)
attribute [local irreducible] f270

def s366 (D : Dyn) (n : Nat) : Tb := ⟨X, [(270, f270 D n)]⟩
def h366 : Hint := (.s .o (.s .o .o))
def f366 (D : Dyn) (n : Nat) := (⟨_, by conv => rhs; reduce⟩ : {g // g = fun vs H => funS (s366 D n) D n 366 Tryz.f366 h366 [] vs H}).1
theorem f366_eq (D : Dyn) (n : Nat) : f366 D n = funKp (s366 D n) D n 366 Tryz.f366 (ms h366) := by kernel_rfl
theorem f366_ok {D : Dyn} (hD : DP D) (n : Nat) : FP 366 (f366 D n) := fun_okP X_ok hD (SP.cons (f270_ok hD n) (SP.nil)) Tryz.func366 (by kernel_rfl) (by kernel_rfl) (f366_eq D n)
attribute [local irreducible] f366

def s291 (D : Dyn) (n : Nat) : Tb := ⟨X, []⟩
def h291 : Hint := (.s .o (.s .o (.s (.s .o (.b [1,3] (.l [0,3,6,7,8] (.s .o (.s (.cr .o .o) (.s (.b0 (.s .o .o)) .o)))))) (.s .o .o))))
def f291l0 (D : Dyn) (n : Nat) := (⟨_, by conv => rhs; reduce⟩ : {g // some g = prtF (s291 D n) D n 291 Tryz.f291 h291 [] 0}).1
attribute [local irreducible] f291l0
def f291b1 (D : Dyn) (n : Nat) := (⟨_, by conv => rhs; reduce⟩ : {g // some g = prtF (s291 D n) D n 291 Tryz.f291 h291 [f291l0 D n] 1}).1
attribute [local irreducible] f291b1
def f291 (D : Dyn) (n : Nat) := (⟨_, by conv => rhs; reduce⟩ : {g // g = fun vs H => funS (s291 D n) D n 291 Tryz.f291 h291 [f291l0 D n, f291b1 D n] vs H}).1
theorem f291_eq (D : Dyn) (n : Nat) : f291 D n = funKp (s291 D n) D n 291 Tryz.f291 (ms h291) := by kernel_rfl
theorem f291_ok {D : Dyn} (hD : DP D) (n : Nat) : FP 291 (f291 D n) := fun_okP X_ok hD (SP.nil) Tryz.func291 (by kernel_rfl) (by kernel_rfl) (f291_eq D n)
attribute [local irreducible] f291

def s343 (D : Dyn) (n : Nat) : Tb := ⟨X, [(210, f210 D n)]⟩
def h343 : Hint := (.s .o (.s (.s .o (.cl (.s .o .o) .o)) (.s (.s .o (.cl (.s .o .o) .o)) (.s .o (.s .o (.s .o (.s .o (.s .o (.s .o (.s .o .o))))))))))
def f343 (D : Dyn) (n : Nat) := (⟨_, by conv => rhs; reduce⟩ : {g // g = fun vs H => funS (s343 D n) D n 343 Tryz.f343 h343 [] vs H}).1
theorem f343_eq (D : Dyn) (n : Nat) : f343 D n = funKp (s343 D n) D n 343 Tryz.f343 (ms h343) := by kernel_rfl
theorem f343_ok {D : Dyn} (hD : DP D) (n : Nat) : FP 343 (f343 D n) := fun_okP X_ok hD (SP.cons (f210_ok hD n) (SP.nil)) Tryz.func343 (by kernel_rfl) (by kernel_rfl) (f343_eq D n)
attribute [local irreducible] f343

def s345 (D : Dyn) (n : Nat) : Tb := ⟨X, [(291, f291 D n), (343, f343 D n)]⟩
def h345 : Hint := (.s .o (.s .o (.s (.s .o (.cl (.s .o .o) .o)) (.s .o (.s .o (.s .o (.s .o (.s (.s .o (.cl (.s .o .o) .o)) (.s .o .o)))))))))
def f345 (D : Dyn) (n : Nat) := (⟨_, by conv => rhs; reduce⟩ : {g // g = fun vs H => funS (s345 D n) D n 345 Tryz.f345 h345 [] vs H}).1
theorem f345_eq (D : Dyn) (n : Nat) : f345 D n = funKp (s345 D n) D n 345 Tryz.f345 (ms h345) := by kernel_rfl
theorem f345_ok {D : Dyn} (hD : DP D) (n : Nat) : FP 345 (f345 D n) := fun_okP X_ok hD (SP.cons (f291_ok hD n) (SP.cons (f343_ok hD n) (SP.nil))) Tryz.func345 (by kernel_rfl) (by kernel_rfl) (f345_eq D n)
attribute [local irreducible] f345

def s330 (D : Dyn) (n : Nat) : Tb := ⟨X, [(366, f366 D n), (345, f345 D n)]⟩
def h330 : Hint := (.s .o (.s (.s (.c [5,31] (.l [0,1,2,3,4,6,7,5,8,9] .o) .o) (.cl (.s .o .o) .o)) (.s .o (.s (.s .o (.cl (.s .o .o) .o)) (.s (.s .o (.cl (.s .o .o) .o)) (.s .o .o))))))
def f330 (D : Dyn) (n : Nat) := (⟨_, by conv => rhs; reduce⟩ : {g // g = fun vs H => funS (s330 D n) D n 330 Tryz.f330 h330 [] vs H}).1
theorem f330_eq (D : Dyn) (n : Nat) : f330 D n = funKp (s330 D n) D n 330 Tryz.f330 (ms h330) := by kernel_rfl
theorem f330_ok {D : Dyn} (hD : DP D) (n : Nat) : FP 330 (f330 D n) := fun_okP X_ok hD (SP.cons (f366_ok hD n) (SP.cons (f345_ok hD n) (SP.nil))) Tryz.func330 (by kernel_rfl) (by kernel_rfl) (f330_eq D n)
attribute [local irreducible] f330

def s223 (D : Dyn) (n : Nat) : Tb := ⟨X, []⟩
def h223 : Hint := (.s .o (.s (.s .o (.cl (.s .o .o) .o)) (.s (.s .o (.cl (.s .o .o) .o)) (.s .o .o))))
def f223 (D : Dyn) (n : Nat) := (⟨_, by conv => rhs; reduce⟩ : {g // g = fun vs H => funS (s223 D n) D n 223 Tryz.f223 h223 [] vs H}).1
theorem f223_eq (D : Dyn) (n : Nat) : f223 D n = funKp (s223 D n) D n 223 Tryz.f223 (ms h223) := by kernel_rfl
theorem f223_ok {D : Dyn} (hD : DP D) (n : Nat) : FP 223 (f223 D n) := fun_okP X_ok hD (SP.nil) Tryz.func223 (by kernel_rfl) (by kernel_rfl) (f223_eq D n)
attribute [local irreducible] f223

def s344 (D : Dyn) (n : Nat) : Tb := ⟨X, [(223, f223 D n)]⟩
def h344 : Hint := (.s .o (.s (.s .o (.s .o (.cl (.s .o .o) .o))) (.s (.s .o (.cl (.s .o .o) .o)) (.s .o .o))))
def f344 (D : Dyn) (n : Nat) := (⟨_, by conv => rhs; reduce⟩ : {g // g = fun vs H => funS (s344 D n) D n 344 Tryz.f344 h344 [] vs H}).1
theorem f344_eq (D : Dyn) (n : Nat) : f344 D n = funKp (s344 D n) D n 344 Tryz.f344 (ms h344) := by kernel_rfl
theorem f344_ok {D : Dyn} (hD : DP D) (n : Nat) : FP 344 (f344 D n) := fun_okP X_ok hD (SP.cons (f223_ok hD n) (SP.nil)) Tryz.func344 (by kernel_rfl) (by kernel_rfl) (f344_eq D n)
attribute [local irreducible] f344

def s289 (D : Dyn) (n : Nat) : Tb := ⟨X, [(344, f344 D n)]⟩
def h289 : Hint := (.s .o (.s (.s .o (.s .o (.cl (.s .o .o) .o))) (.s (.s .o (.s .o (.cl (.s .o .o) .o))) (.s .o .o))))
def f289 (D : Dyn) (n : Nat) := (⟨_, by conv => rhs; reduce⟩ : {g // g = fun vs H => funS (s289 D n) D n 289 Tryz.f289 h289 [] vs H}).1
theorem f289_eq (D : Dyn) (n : Nat) : f289 D n = funKp (s289 D n) D n 289 Tryz.f289 (ms h289) := by kernel_rfl
theorem f289_ok {D : Dyn} (hD : DP D) (n : Nat) : FP 289 (f289 D n) := fun_okP X_ok hD (SP.cons (f344_ok hD n) (SP.nil)) Tryz.func289 (by kernel_rfl) (by kernel_rfl) (f289_eq D n)
attribute [local irreducible] f289

def s331 (D : Dyn) (n : Nat) : Tb := ⟨X, [(364, f364 D n), (365, f365 D n)]⟩
def h331 : Hint := (.s .o (.s (.s .o (.cl (.s .o .o) .o)) (.s .o (.s .o .o))))
def f331 (D : Dyn) (n : Nat) := (⟨_, by conv => rhs; reduce⟩ : {g // g = fun vs H => funS (s331 D n) D n 331 Tryz.f331 h331 [] vs H}).1
theorem f331_eq (D : Dyn) (n : Nat) : f331 D n = funKp (s331 D n) D n 331 Tryz.f331 (ms h331) := by kernel_rfl
theorem f331_ok {D : Dyn} (hD : DP D) (n : Nat) : FP 331 (f331 D n) := fun_okP X_ok hD (SP.cons (f364_ok hD n) (SP.cons (f365_ok hD n) (SP.nil))) Tryz.func331 (by kernel_rfl) (by kernel_rfl) (f331_eq D n)
attribute [local irreducible] f331

def s278 (D : Dyn) (n : Nat) : Tb := ⟨X, [(329, f329 D n), (330, f330 D n), (289, f289 D n), (331, f331 D n)]⟩
def h278 : Hint := (.s .o (.s (.s .o (.c [2,0,3] (.s (.c [6,63,11,1535] (.l [0,1,2,3,4,5,10,6,7,8,9,11,12] .o) .o) (.s .o (.c [0,0,3] (.s .o (.s .o (.cl (.s .o .o) .o))) .o))) .o)) (.s (.c [6,63,11,1535] (.l [0,1,2,3,4,5,10,6,7,8,9,11,12] .o) .o) (.s (.s .o (.cl (.s .o .o) .o)) (.s .o (.s (.s .o (.cl (.s .o .o) .o)) (.s (.s .o (.c [1,14,15] (.b [7,127] .o) .o)) (.s .o .o))))))))
def f278j0 (D : Dyn) (n : Nat) := (⟨_, by conv => rhs; reduce⟩ : {g // some g = prtF (s278 D n) D n 278 Tryz.f278 h278 [] 0}).1
attribute [local irreducible] f278j0
def f278j1 (D : Dyn) (n : Nat) := (⟨_, by conv => rhs; reduce⟩ : {g // some g = prtF (s278 D n) D n 278 Tryz.f278 h278 [f278j0 D n] 1}).1
attribute [local irreducible] f278j1
def f278j2 (D : Dyn) (n : Nat) := (⟨_, by conv => rhs; reduce⟩ : {g // some g = prtF (s278 D n) D n 278 Tryz.f278 h278 [f278j0 D n, f278j1 D n] 2}).1
attribute [local irreducible] f278j2
def f278 (D : Dyn) (n : Nat) := (⟨_, by conv => rhs; reduce⟩ : {g // g = fun vs H => funS (s278 D n) D n 278 Tryz.f278 h278 [f278j0 D n, f278j1 D n, f278j2 D n] vs H}).1
theorem f278_eq (D : Dyn) (n : Nat) : f278 D n = funKp (s278 D n) D n 278 Tryz.f278 (ms h278) := by kernel_rfl
theorem f278_ok {D : Dyn} (hD : DP D) (n : Nat) : FP 278 (f278 D n) := fun_okP X_ok hD (SP.cons (f329_ok hD n) (SP.cons (f330_ok hD n) (SP.cons (f289_ok hD n) (SP.cons (f331_ok hD n) (SP.nil))))) Tryz.func278 (by kernel_rfl) (by kernel_rfl) (f278_eq D n)
attribute [local irreducible] f278

def s332 (D : Dyn) (n : Nat) : Tb := ⟨X, []⟩
def h332 : Hint := (.s .o (.s (.s .o (.cl (.s .o (.s .o .o)) .o)) (.s .o (.s .o (.s .o .o)))))
def f332 (D : Dyn) (n : Nat) := (⟨_, by conv => rhs; reduce⟩ : {g // g = fun vs H => funS (s332 D n) D n 332 Tryz.f332 h332 [] vs H}).1
theorem f332_eq (D : Dyn) (n : Nat) : f332 D n = funKp (s332 D n) D n 332 Tryz.f332 (ms h332) := by kernel_rfl
theorem f332_ok {D : Dyn} (hD : DP D) (n : Nat) : FP 332 (f332 D n) := fun_okP X_ok hD (SP.nil) Tryz.func332 (by kernel_rfl) (by kernel_rfl) (f332_eq D n)
attribute [local irreducible] f332

def s267 (D : Dyn) (n : Nat) : Tb := ⟨X, []⟩
def h267 : Hint := (.s .o (.s .o .o))
def f267 (D : Dyn) (n : Nat) := (⟨_, by conv => rhs; reduce⟩ : {g // g = fun vs H => funS (s267 D n) D n 267 Tryz.f267 h267 [] vs H}).1
theorem f267_eq (D : Dyn) (n : Nat) : f267 D n = funKp (s267 D n) D n 267 Tryz.f267 (ms h267) := by kernel_rfl
theorem f267_ok {D : Dyn} (hD : DP D) (n : Nat) : FP 267 (f267 D n) := fun_okP X_ok hD (SP.nil) Tryz.func267 (by kernel_rfl) (by kernel_rfl) (f267_eq D n)
attribute [local irreducible] f267

def s266 (D : Dyn) (n : Nat) : Tb := ⟨X, [(267, f267 D n)]⟩
def h266 : Hint := (.s .o (.s (.s .o (.b [5,1] (.l [0,1,10,11,12] (.s .o (.s (.cr .o .o) (.s (.b0 (.s .o (.s .o (.cl (.s .o .o) .o)))) .o)))))) (.s (.s .o (.cl (.s (.s .o (.cl (.s .o .o) .o)) (.s (.s .o (.b [2] (.l [1,51,52,53] (.s .o (.s (.cr .o .o) (.s (.b0 (.s .o (.s .o (.cl (.s .o .o) .o)))) .o)))))) (.s .o .o))) .o)) (.s (.s .o (.cl (.s .o .o) .o)) (.s (.s .o (.b [4] (.l [3,82,83,84] (.s .o (.s (.cr .o .o) (.s (.b0 (.s .o (.s .o (.cl (.s .o .o) .o)))) .o)))))) (.s .o .o))))))
def f266l0 (D : Dyn) (n : Nat) := (⟨_, by conv => rhs; reduce⟩ : {g // some g = prtF (s266 D n) D n 266 Tryz.f266 h266 [] 0}).1
attribute [local irreducible] f266l0
def f266l1 (D : Dyn) (n : Nat) := (⟨_, by conv => rhs; reduce⟩ : {g // some g = prtF (s266 D n) D n 266 Tryz.f266 h266 [f266l0 D n] 1}).1
attribute [local irreducible] f266l1
def f266b2 (D : Dyn) (n : Nat) := (⟨_, by conv => rhs; reduce⟩ : {g // some g = prtF (s266 D n) D n 266 Tryz.f266 h266 [f266l0 D n, f266l1 D n] 2}).1
attribute [local irreducible] f266b2
def f266l3 (D : Dyn) (n : Nat) := (⟨_, by conv => rhs; reduce⟩ : {g // some g = prtF (s266 D n) D n 266 Tryz.f266 h266 [f266l0 D n, f266l1 D n, f266b2 D n] 3}).1
attribute [local irreducible] f266l3
def f266b4 (D : Dyn) (n : Nat) := (⟨_, by conv => rhs; reduce⟩ : {g // some g = prtF (s266 D n) D n 266 Tryz.f266 h266 [f266l0 D n, f266l1 D n, f266b2 D n, f266l3 D n] 4}).1
attribute [local irreducible] f266b4
def f266b5 (D : Dyn) (n : Nat) := (⟨_, by conv => rhs; reduce⟩ : {g // some g = prtF (s266 D n) D n 266 Tryz.f266 h266 [f266l0 D n, f266l1 D n, f266b2 D n, f266l3 D n, f266b4 D n] 5}).1
attribute [local irreducible] f266b5
def f266 (D : Dyn) (n : Nat) := (⟨_, by conv => rhs; reduce⟩ : {g // g = fun vs H => funS (s266 D n) D n 266 Tryz.f266 h266 [f266l0 D n, f266l1 D n, f266b2 D n, f266l3 D n, f266b4 D n, f266b5 D n] vs H}).1
theorem f266_eq (D : Dyn) (n : Nat) : f266 D n = funKp (s266 D n) D n 266 Tryz.f266 (ms h266) := by kernel_rfl
theorem f266_ok {D : Dyn} (hD : DP D) (n : Nat) : FP 266 (f266 D n) := fun_okP X_ok hD (SP.cons (f267_ok hD n) (SP.nil)) Tryz.func266 (by kernel_rfl) (by kernel_rfl) (f266_eq D n)
attribute [local irreducible] f266

def s319 (D : Dyn) (n : Nat) : Tb := ⟨X, []⟩
def h319 : Hint := (.s .o (.s .o (.s (.s .o (.b [3,1,3] (.l [0,1,3,14,15,16] (.s .o (.s (.cr .o .o) (.s (.b0 (.s .o .o)) .o)))))) (.s (.s .o (.b [2,3] (.l [1,3,27,28,29] (.s .o (.s (.cr .o .o) (.s (.b0 (.s .o .o)) .o)))))) (.s .o .o)))))
def f319l0 (D : Dyn) (n : Nat) := (⟨_, by conv => rhs; reduce⟩ : {g // some g = prtF (s319 D n) D n 319 Tryz.f319 h319 [] 0}).1
attribute [local irreducible] f319l0
def f319l1 (D : Dyn) (n : Nat) := (⟨_, by conv => rhs; reduce⟩ : {g // some g = prtF (s319 D n) D n 319 Tryz.f319 h319 [f319l0 D n] 1}).1
attribute [local irreducible] f319l1
def f319b2 (D : Dyn) (n : Nat) := (⟨_, by conv => rhs; reduce⟩ : {g // some g = prtF (s319 D n) D n 319 Tryz.f319 h319 [f319l0 D n, f319l1 D n] 2}).1
attribute [local irreducible] f319b2
def f319b3 (D : Dyn) (n : Nat) := (⟨_, by conv => rhs; reduce⟩ : {g // some g = prtF (s319 D n) D n 319 Tryz.f319 h319 [f319l0 D n, f319l1 D n, f319b2 D n] 3}).1
attribute [local irreducible] f319b3
def f319 (D : Dyn) (n : Nat) := (⟨_, by conv => rhs; reduce⟩ : {g // g = fun vs H => funS (s319 D n) D n 319 Tryz.f319 h319 [f319l0 D n, f319l1 D n, f319b2 D n, f319b3 D n] vs H}).1
theorem f319_eq (D : Dyn) (n : Nat) : f319 D n = funKp (s319 D n) D n 319 Tryz.f319 (ms h319) := by kernel_rfl
theorem f319_ok {D : Dyn} (hD : DP D) (n : Nat) : FP 319 (f319 D n) := fun_okP X_ok hD (SP.nil) Tryz.func319 (by kernel_rfl) (by kernel_rfl) (f319_eq D n)
attribute [local irreducible] f319

def s336 (D : Dyn) (n : Nat) : Tb := ⟨X, [(266, f266 D n), (319, f319 D n)]⟩
def h336 : Hint := (.s .o (.s .o .o))
def f336 (D : Dyn) (n : Nat) := (⟨_, by conv => rhs; reduce⟩ : {g // g = fun vs H => funS (s336 D n) D n 336 Tryz.f336 h336 [] vs H}).1
theorem f336_eq (D : Dyn) (n : Nat) : f336 D n = funKp (s336 D n) D n 336 Tryz.f336 (ms h336) := by kernel_rfl
theorem f336_ok {D : Dyn} (hD : DP D) (n : Nat) : FP 336 (f336 D n) := fun_okP X_ok hD (SP.cons (f266_ok hD n) (SP.cons (f319_ok hD n) (SP.nil))) Tryz.func336 (by kernel_rfl) (by kernel_rfl) (f336_eq D n)
attribute [local irreducible] f336

def s367 (D : Dyn) (n : Nat) : Tb := ⟨X, [(332, f332 D n)]⟩
def h367 : Hint := (.s .o (.s .o (.s (.s .o (.cl (.s .o .o) .o)) (.s .o .o))))
def f367 (D : Dyn) (n : Nat) := (⟨_, by conv => rhs; reduce⟩ : {g // g = fun vs H => funS (s367 D n) D n 367 Tryz.f367 h367 [] vs H}).1
theorem f367_eq (D : Dyn) (n : Nat) : f367 D n = funKp (s367 D n) D n 367 Tryz.f367 (ms h367) := by kernel_rfl
theorem f367_ok {D : Dyn} (hD : DP D) (n : Nat) : FP 367 (f367 D n) := fun_okP X_ok hD (SP.cons (f332_ok hD n) (SP.nil)) Tryz.func367 (by kernel_rfl) (by kernel_rfl) (f367_eq D n)
attribute [local irreducible] f367

def s333 (D : Dyn) (n : Nat) : Tb := ⟨X, [(367, f367 D n)]⟩
def h333 : Hint := (.b [7,64,9,510,13,8191] .o)
def f333 (D : Dyn) (n : Nat) := (⟨_, by conv => rhs; reduce⟩ : {g // g = fun vs H => funS (s333 D n) D n 333 Tryz.f333 h333 [] vs H}).1
theorem f333_eq (D : Dyn) (n : Nat) : f333 D n = funKp (s333 D n) D n 333 Tryz.f333 (ms h333) := by kernel_rfl
theorem f333_ok {D : Dyn} (hD : DP D) (n : Nat) : FP 333 (f333 D n) := fun_okP X_ok hD (SP.cons (f367_ok hD n) (SP.nil)) Tryz.func333 (by kernel_rfl) (by kernel_rfl) (f333_eq D n)
attribute [local irreducible] f333

def s335 (D : Dyn) (n : Nat) : Tb := ⟨X, [(367, f367 D n)]⟩
def h335 : Hint := (.b [7,64,9,510,13,8191] .o)
def f335 (D : Dyn) (n : Nat) := (⟨_, by conv => rhs; reduce⟩ : {g // g = fun vs H => funS (s335 D n) D n 335 Tryz.f335 h335 [] vs H}).1
theorem f335_eq (D : Dyn) (n : Nat) : f335 D n = funKp (s335 D n) D n 335 Tryz.f335 (ms h335) := by kernel_rfl
theorem f335_ok {D : Dyn} (hD : DP D) (n : Nat) : FP 335 (f335 D n) := fun_okP X_ok hD (SP.cons (f367_ok hD n) (SP.nil)) Tryz.func335 (by kernel_rfl) (by kernel_rfl) (f335_eq D n)
attribute [local irreducible] f335

def s279 (D : Dyn) (n : Nat) : Tb := ⟨X, [(332, f332 D n), (336, f336 D n)]⟩
def h279 : Hint := (.s .o (.s (.s .o (.cl (.s .o .o) .o)) (.s .o (.s .o (.s (.s .o (.cl (.s .o .o) .o)) (.s .o (.s (.s .o (.c [4,4,6,7,8] .o .o)) (.s (.s (.b [] .o) (.b [3,4,6] (.l [2,4,6,8,47,48] (.s .o (.s (.cr .o .o) (.s (.b0 (.s (.s .o (.b [1,4,6,8,47,48] (.l [0,4,6,8,47,48,50,51,52] (.s .o (.s (.cr .o .o) (.s (.b0 (.s .o .o)) .o)))))) (.s .o (.cl .o .o)))) .o)))))) (.s (.s .o (.cl (.s .o .o) .o)) (.s .o .o))))))))))
def f279l0 (D : Dyn) (n : Nat) := (⟨_, by conv => rhs; reduce⟩ : {g // some g = prtF (s279 D n) D n 279 Tryz.f279 h279 [] 0}).1
attribute [local irreducible] f279l0
def f279b1 (D : Dyn) (n : Nat) := (⟨_, by conv => rhs; reduce⟩ : {g // some g = prtF (s279 D n) D n 279 Tryz.f279 h279 [f279l0 D n] 1}).1
attribute [local irreducible] f279b1
def f279l2 (D : Dyn) (n : Nat) := (⟨_, by conv => rhs; reduce⟩ : {g // some g = prtF (s279 D n) D n 279 Tryz.f279 h279 [f279l0 D n, f279b1 D n] 2}).1
attribute [local irreducible] f279l2
def f279b3 (D : Dyn) (n : Nat) := (⟨_, by conv => rhs; reduce⟩ : {g // some g = prtF (s279 D n) D n 279 Tryz.f279 h279 [f279l0 D n, f279b1 D n, f279l2 D n] 3}).1
attribute [local irreducible] f279b3
def f279j4 (D : Dyn) (n : Nat) := (⟨_, by conv => rhs; reduce⟩ : {g // some g = prtF (s279 D n) D n 279 Tryz.f279 h279 [f279l0 D n, f279b1 D n, f279l2 D n, f279b3 D n] 4}).1
attribute [local irreducible] f279j4
def f279 (D : Dyn) (n : Nat) := (⟨_, by conv => rhs; reduce⟩ : {g // g = fun vs H => funS (s279 D n) D n 279 Tryz.f279 h279 [f279l0 D n, f279b1 D n, f279l2 D n, f279b3 D n, f279j4 D n] vs H}).1
theorem f279_eq (D : Dyn) (n : Nat) : f279 D n = funKp (s279 D n) D n 279 Tryz.f279 (ms h279) := by kernel_rfl
theorem f279_ok {D : Dyn} (hD : DP D) (n : Nat) : FP 279 (f279 D n) := fun_okP X_ok hD (SP.cons (f332_ok hD n) (SP.cons (f336_ok hD n) (SP.nil))) Tryz.func279 (by kernel_rfl) (by kernel_rfl) (f279_eq D n)
attribute [local irreducible] f279

def s206 (D : Dyn) (n : Nat) : Tb := ⟨X, [(278, f278 D n), (279, f279 D n)]⟩
def h206 : Hint := (.s .o (.s (.s .o (.cl (.s (.b [11,1535] .o) (.s (.s .o (.cl (.s .o .o) .o)) (.s .o .o))) .o)) (.s .o (.s (.s .o (.cl (.s .o .o) .o)) (.s (.s .o (.cl (.s .o .o) .o)) (.s .o .o))))))
def f206 (D : Dyn) (n : Nat) := (⟨_, by conv => rhs; reduce⟩ : {g // g = fun vs H => funS (s206 D n) D n 206 Tryz.f206 h206 [] vs H}).1
theorem f206_eq (D : Dyn) (n : Nat) : f206 D n = funKp (s206 D n) D n 206 Tryz.f206 (ms h206) := by kernel_rfl
theorem f206_ok {D : Dyn} (hD : DP D) (n : Nat) : FP 206 (f206 D n) := fun_okP X_ok hD (SP.cons (f278_ok hD n) (SP.cons (f279_ok hD n) (SP.nil))) Tryz.func206 (by kernel_rfl) (by kernel_rfl) (f206_eq D n)
attribute [local irreducible] f206

def s280 (D : Dyn) (n : Nat) : Tb := ⟨X, []⟩
def h280 : Hint := (.s .o (.s (.s .o (.b [1] (.l [0,0,1,7,8] (.s .o (.s (.cr .o .o) (.s (.b0 (.s .o (.s .o (.cl (.s .o .o) .o)))) .o)))))) (.s .o .o)))
def f280l0 (D : Dyn) (n : Nat) := (⟨_, by conv => rhs; reduce⟩ : {g // some g = prtF (s280 D n) D n 280 Tryz.f280 h280 [] 0}).1
attribute [local irreducible] f280l0
def f280b1 (D : Dyn) (n : Nat) := (⟨_, by conv => rhs; reduce⟩ : {g // some g = prtF (s280 D n) D n 280 Tryz.f280 h280 [f280l0 D n] 1}).1
attribute [local irreducible] f280b1
def f280 (D : Dyn) (n : Nat) := (⟨_, by conv => rhs; reduce⟩ : {g // g = fun vs H => funS (s280 D n) D n 280 Tryz.f280 h280 [f280l0 D n, f280b1 D n] vs H}).1
theorem f280_eq (D : Dyn) (n : Nat) : f280 D n = funKp (s280 D n) D n 280 Tryz.f280 (ms h280) := by kernel_rfl
theorem f280_ok {D : Dyn} (hD : DP D) (n : Nat) : FP 280 (f280 D n) := fun_okP X_ok hD (SP.nil) Tryz.func280 (by kernel_rfl) (by kernel_rfl) (f280_eq D n)
attribute [local irreducible] f280

def s207 (D : Dyn) (n : Nat) : Tb := ⟨X, [(280, f280 D n)]⟩
def h207 : Hint := (.s .o (.s (.s .o (.cl (.s .o .o) .o)) (.s .o (.s (.s .o (.cl (.s .o .o) .o)) (.s .o .o)))))
def f207 (D : Dyn) (n : Nat) := (⟨_, by conv => rhs; reduce⟩ : {g // g = fun vs H => funS (s207 D n) D n 207 Tryz.f207 h207 [] vs H}).1
theorem f207_eq (D : Dyn) (n : Nat) : f207 D n = funKp (s207 D n) D n 207 Tryz.f207 (ms h207) := by kernel_rfl
theorem f207_ok {D : Dyn} (hD : DP D) (n : Nat) : FP 207 (f207 D n) := fun_okP X_ok hD (SP.cons (f280_ok hD n) (SP.nil)) Tryz.func207 (by kernel_rfl) (by kernel_rfl) (f207_eq D n)
attribute [local irreducible] f207

def s208 (D : Dyn) (n : Nat) : Tb := ⟨X, []⟩
def h208 : Hint := (.s .o (.s .o (.s (.s .o (.b [2,5] (.l [1,1,2,5,9,10,11] (.s .o (.s (.cr .o .o) (.s (.b0 (.s .o (.s .o (.c [0,1,2,5,9,10,11] .o .o)))) .o)))))) (.s .o .o))))
def f208j0 (D : Dyn) (n : Nat) := (⟨_, by conv => rhs; reduce⟩ : {g // some g = prtF (s208 D n) D n 208 Tryz.f208 h208 [] 0}).1
attribute [local irreducible] f208j0
def f208l1 (D : Dyn) (n : Nat) := (⟨_, by conv => rhs; reduce⟩ : {g // some g = prtF (s208 D n) D n 208 Tryz.f208 h208 [f208j0 D n] 1}).1
attribute [local irreducible] f208l1
def f208b2 (D : Dyn) (n : Nat) := (⟨_, by conv => rhs; reduce⟩ : {g // some g = prtF (s208 D n) D n 208 Tryz.f208 h208 [f208j0 D n, f208l1 D n] 2}).1
attribute [local irreducible] f208b2
def f208 (D : Dyn) (n : Nat) := (⟨_, by conv => rhs; reduce⟩ : {g // g = fun vs H => funS (s208 D n) D n 208 Tryz.f208 h208 [f208j0 D n, f208l1 D n, f208b2 D n] vs H}).1
theorem f208_eq (D : Dyn) (n : Nat) : f208 D n = funKp (s208 D n) D n 208 Tryz.f208 (ms h208) := by kernel_rfl
theorem f208_ok {D : Dyn} (hD : DP D) (n : Nat) : FP 208 (f208 D n) := fun_okP X_ok hD (SP.nil) Tryz.func208 (by kernel_rfl) (by kernel_rfl) (f208_eq D n)
attribute [local irreducible] f208

def s135 (D : Dyn) (n : Nat) : Tb := ⟨X, [(186, f186 D n), (205, f205 D n), (206, f206 D n), (207, f207 D n), (208, f208 D n)]⟩
def h135 : Hint := (.s .o (.s (.s .o (.cl (.s .o .o) .o)) (.s (.s .o (.cl (.s .o .o) .o)) (.s (.s .o (.cl (.s .o .o) .o)) (.s .o (.s (.s .o (.b [1] (.l [0,0,1,6,32,33] (.s .o (.s (.cr .o .o) (.s (.b0 (.s .o (.s (.s .o (.cl (.s .o .o) .o)) (.s (.s .o (.cl (.s .o (.s (.s .o (.cl (.s .o .o) .o)) (.s .o .o))) .o)) (.b [4,12,7,127] .o))))) .o)))))) (.s .o .o)))))))
def f135l0 (D : Dyn) (n : Nat) := (⟨_, by conv => rhs; reduce⟩ : {g // some g = prtF (s135 D n) D n 135 Tryz.f135 h135 [] 0}).1
attribute [local irreducible] f135l0
def f135b1 (D : Dyn) (n : Nat) := (⟨_, by conv => rhs; reduce⟩ : {g // some g = prtF (s135 D n) D n 135 Tryz.f135 h135 [f135l0 D n] 1}).1
attribute [local irreducible] f135b1
def f135 (D : Dyn) (n : Nat) := (⟨_, by conv => rhs; reduce⟩ : {g // g = fun vs H => funS (s135 D n) D n 135 Tryz.f135 h135 [f135l0 D n, f135b1 D n] vs H}).1
theorem f135_eq (D : Dyn) (n : Nat) : f135 D n = funKp (s135 D n) D n 135 Tryz.f135 (ms h135) := by kernel_rfl
theorem f135_ok {D : Dyn} (hD : DP D) (n : Nat) : FP 135 (f135 D n) := fun_okP X_ok hD (SP.cons (f186_ok hD n) (SP.cons (f205_ok hD n) (SP.cons (f206_ok hD n) (SP.cons (f207_ok hD n) (SP.cons (f208_ok hD n) (SP.nil)))))) Tryz.func135 (by kernel_rfl) (by kernel_rfl) (f135_eq D n)
attribute [local irreducible] f135

def s38 (D : Dyn) (n : Nat) : Tb := ⟨X, []⟩
def h38 : Hint := .pc
def f38 (D : Dyn) (n : Nat) := (⟨_, by conv => rhs; reduce⟩ : {g // g = fun vs H => funS (s38 D n) D n 38 Tryz.f38 h38 [] vs H}).1
theorem f38_eq (D : Dyn) (n : Nat) : f38 D n = funKp (s38 D n) D n 38 Tryz.f38 (ms h38) := by kernel_rfl
theorem f38_ok {D : Dyn} (hD : DP D) (n : Nat) : FP 38 (f38 D n) := fun_okP X_ok hD (SP.nil) Tryz.func38 (by kernel_rfl) (by kernel_rfl) (f38_eq D n)
attribute [local irreducible] f38

def s54 (D : Dyn) (n : Nat) : Tb := ⟨X, [(38, f38 D n)]⟩
def h54 : Hint := (.s .o (.c [0] .pc .o))
def f54j0 (D : Dyn) (n : Nat) := (⟨_, by conv => rhs; reduce⟩ : {g // some g = prtF (s54 D n) D n 54 Tryz.f54 h54 [] 0}).1
attribute [local irreducible] f54j0
def f54 (D : Dyn) (n : Nat) := (⟨_, by conv => rhs; reduce⟩ : {g // g = fun vs H => funS (s54 D n) D n 54 Tryz.f54 h54 [f54j0 D n] vs H}).1
theorem f54_eq (D : Dyn) (n : Nat) : f54 D n = funKp (s54 D n) D n 54 Tryz.f54 (ms h54) := by kernel_rfl
theorem f54_ok {D : Dyn} (hD : DP D) (n : Nat) : FP 54 (f54 D n) := fun_okP X_ok hD (SP.cons (f38_ok hD n) (SP.nil)) Tryz.func54 (by kernel_rfl) (by kernel_rfl) (f54_eq D n)
attribute [local irreducible] f54

def s76 (D : Dyn) (n : Nat) : Tb := ⟨X, [(135, f135 D n), (54, f54 D n)]⟩
def h76 : Hint := (.s .o (.s .o (.s (.s .o (.cl (.s .o .o) .o)) (.s .pc (.s .o .o)))))
def f76 (D : Dyn) (n : Nat) := (⟨_, by conv => rhs; reduce⟩ : {g // g = fun vs H => funS (s76 D n) D n 76 Tryz.f76 h76 [] vs H}).1
theorem f76_eq (D : Dyn) (n : Nat) : f76 D n = funKp (s76 D n) D n 76 Tryz.f76 (ms h76) := by kernel_rfl
theorem f76_ok {D : Dyn} (hD : DP D) (n : Nat) : FP 76 (f76 D n) := fun_okP X_ok hD (SP.cons (f135_ok hD n) (SP.cons (f54_ok hD n) (SP.nil))) Tryz.func76 (by kernel_rfl) (by kernel_rfl) (f76_eq D n)
attribute [local irreducible] f76

def s139 (D : Dyn) (n : Nat) : Tb := ⟨X, []⟩
def h139 : Hint := (.s .o (.s (.b [] .o) .o))
def f139 (D : Dyn) (n : Nat) := (⟨_, by conv => rhs; reduce⟩ : {g // g = fun vs H => funS (s139 D n) D n 139 Tryz.f139 h139 [] vs H}).1
theorem f139_eq (D : Dyn) (n : Nat) : f139 D n = funKp (s139 D n) D n 139 Tryz.f139 (ms h139) := by kernel_rfl
theorem f139_ok {D : Dyn} (hD : DP D) (n : Nat) : FP 139 (f139 D n) := fun_okP X_ok hD (SP.nil) Tryz.func139 (by kernel_rfl) (by kernel_rfl) (f139_eq D n)
attribute [local irreducible] f139

def s176 (D : Dyn) (n : Nat) : Tb := ⟨X, []⟩
def h176 : Hint := (.s .o (.s .o (.s (.s .o (.b [1,3] (.l [0,0,3,5] (.s .o (.s (.cr .o .o) (.s (.b0 (.s .o .o)) .o)))))) (.s .o .o))))
def f176l0 (D : Dyn) (n : Nat) := (⟨_, by conv => rhs; reduce⟩ : {g // some g = prtF (s176 D n) D n 176 Tryz.f176 h176 [] 0}).1
attribute [local irreducible] f176l0
def f176b1 (D : Dyn) (n : Nat) := (⟨_, by conv => rhs; reduce⟩ : {g // some g = prtF (s176 D n) D n 176 Tryz.f176 h176 [f176l0 D n] 1}).1
attribute [local irreducible] f176b1
def f176 (D : Dyn) (n : Nat) := (⟨_, by conv => rhs; reduce⟩ : {g // g = fun vs H => funS (s176 D n) D n 176 Tryz.f176 h176 [f176l0 D n, f176b1 D n] vs H}).1
theorem f176_eq (D : Dyn) (n : Nat) : f176 D n = funKp (s176 D n) D n 176 Tryz.f176 (ms h176) := by kernel_rfl
theorem f176_ok {D : Dyn} (hD : DP D) (n : Nat) : FP 176 (f176 D n) := fun_okP X_ok hD (SP.nil) Tryz.func176 (by kernel_rfl) (by kernel_rfl) (f176_eq D n)
attribute [local irreducible] f176

def s138 (D : Dyn) (n : Nat) : Tb := ⟨X, []⟩
def h138 : Hint := (.s .o (.s .o .o))
def f138 (D : Dyn) (n : Nat) := (⟨_, by conv => rhs; reduce⟩ : {g // g = fun vs H => funS (s138 D n) D n 138 Tryz.f138 h138 [] vs H}).1
theorem f138_eq (D : Dyn) (n : Nat) : f138 D n = funKp (s138 D n) D n 138 Tryz.f138 (ms h138) := by kernel_rfl
theorem f138_ok {D : Dyn} (hD : DP D) (n : Nat) : FP 138 (f138 D n) := fun_okP X_ok hD (SP.nil) Tryz.func138 (by kernel_rfl) (by kernel_rfl) (f138_eq D n)
attribute [local irreducible] f138

def s121 (D : Dyn) (n : Nat) : Tb := ⟨X, []⟩
def h121 : Hint := (.s .o (.s .o .o))
def f121 (D : Dyn) (n : Nat) := (⟨_, by conv => rhs; reduce⟩ : {g // g = fun vs H => funS (s121 D n) D n 121 Tryz.f121 h121 [] vs H}).1
theorem f121_eq (D : Dyn) (n : Nat) : f121 D n = funKp (s121 D n) D n 121 Tryz.f121 (ms h121) := by kernel_rfl
theorem f121_ok {D : Dyn} (hD : DP D) (n : Nat) : FP 121 (f121 D n) := fun_okP X_ok hD (SP.nil) Tryz.func121 (by kernel_rfl) (by kernel_rfl) (f121_eq D n)
attribute [local irreducible] f121

def s84 (D : Dyn) (n : Nat) : Tb := ⟨X, [(138, f138 D n), (139, f139 D n), (121, f121 D n)]⟩
def h84 : Hint := (.s .o (.s (.s .o (.cl (.s .o .o) .o)) (.s (.s .o (.b [1,1] (.l [0,1,14,15] (.s .o (.s (.cr .o .o) (.s (.b0 (.s .o (.s .o (.cl (.s .o .o) .o)))) .o)))))) (.s (.s .o (.cl (.s .o .o) .o)) (.s (.s .o (.b0 (.s .o (.cl (.s .o .o) (.s .o (.cl (.s .o .o) .o)))))) (.s .o .o))))))
def f84l0 (D : Dyn) (n : Nat) := (⟨_, by conv => rhs; reduce⟩ : {g // some g = prtF (s84 D n) D n 84 Tryz.f84 h84 [] 0}).1
attribute [local irreducible] f84l0
def f84b1 (D : Dyn) (n : Nat) := (⟨_, by conv => rhs; reduce⟩ : {g // some g = prtF (s84 D n) D n 84 Tryz.f84 h84 [f84l0 D n] 1}).1
attribute [local irreducible] f84b1
def f84 (D : Dyn) (n : Nat) := (⟨_, by conv => rhs; reduce⟩ : {g // g = fun vs H => funS (s84 D n) D n 84 Tryz.f84 h84 [f84l0 D n, f84b1 D n] vs H}).1
theorem f84_eq (D : Dyn) (n : Nat) : f84 D n = funKp (s84 D n) D n 84 Tryz.f84 (ms h84) := by kernel_rfl
theorem f84_ok {D : Dyn} (hD : DP D) (n : Nat) : FP 84 (f84 D n) := fun_okP X_ok hD (SP.cons (f138_ok hD n) (SP.cons (f139_ok hD n) (SP.cons (f121_ok hD n) (SP.nil)))) Tryz.func84 (by kernel_rfl) (by kernel_rfl) (f84_eq D n)
attribute [local irreducible] f84

def s107 (D : Dyn) (n : Nat) : Tb := ⟨X, [(139, f139 D n), (176, f176 D n), (84, f84 D n)]⟩
def h107 : Hint := (.s .o (.s (.s .o (.cl (.s .o .o) .o)) (.s .o (.s (.s .o (.b [1,2,4] (.l [0,0,2,4,14,15] (.s .o (.s (.cr .o .o) (.s (.b0 (.s .o .o)) .o)))))) (.s (.s .o (.cl (.s .o .o) .o)) (.s .o .o))))))
def f107l0 (D : Dyn) (n : Nat) := (⟨_, by conv => rhs; reduce⟩ : {g // some g = prtF (s107 D n) D n 107 Tryz.f107 h107 [] 0}).1
attribute [local irreducible] f107l0
def f107b1 (D : Dyn) (n : Nat) := (⟨_, by conv => rhs; reduce⟩ : {g // some g = prtF (s107 D n) D n 107 Tryz.f107 h107 [f107l0 D n] 1}).1
attribute [local irreducible] f107b1
def f107 (D : Dyn) (n : Nat) := (⟨_, by conv => rhs; reduce⟩ : {g // g = fun vs H => funS (s107 D n) D n 107 Tryz.f107 h107 [f107l0 D n, f107b1 D n] vs H}).1
theorem f107_eq (D : Dyn) (n : Nat) : f107 D n = funKp (s107 D n) D n 107 Tryz.f107 (ms h107) := by kernel_rfl
theorem f107_ok {D : Dyn} (hD : DP D) (n : Nat) : FP 107 (f107 D n) := fun_okP X_ok hD (SP.cons (f139_ok hD n) (SP.cons (f176_ok hD n) (SP.cons (f84_ok hD n) (SP.nil)))) Tryz.func107 (by kernel_rfl) (by kernel_rfl) (f107_eq D n)
attribute [local irreducible] f107

def s36 (D : Dyn) (n : Nat) : Tb := ⟨X, [(106, f106 D n), (76, f76 D n), (107, f107 D n), (54, f54 D n)]⟩
def h36 : Hint := (.s .o (.s (.s .o (.cl (.s .o .o) .o)) (.s (.b [2,2,3,7] .o) (.s (.s .o (.cl (.s .o .o) .o)) (.s .o (.s .pc (.s .o .o)))))))
def f36 (D : Dyn) (n : Nat) := (⟨_, by conv => rhs; reduce⟩ : {g // g = fun vs H => funS (s36 D n) D n 36 Tryz.f36 h36 [] vs H}).1
theorem f36_eq (D : Dyn) (n : Nat) : f36 D n = funKp (s36 D n) D n 36 Tryz.f36 (ms h36) := by kernel_rfl
theorem f36_ok {D : Dyn} (hD : DP D) (n : Nat) : FP 36 (f36 D n) := fun_okP X_ok hD (SP.cons (f106_ok hD n) (SP.cons (f76_ok hD n) (SP.cons (f107_ok hD n) (SP.cons (f54_ok hD n) (SP.nil))))) Tryz.func36 (by kernel_rfl) (by kernel_rfl) (f36_eq D n)
attribute [local irreducible] f36

def s108 (D : Dyn) (n : Nat) : Tb := ⟨X, []⟩
def h108 : Hint := (.s .o (.s .o .o))
def f108 (D : Dyn) (n : Nat) := (⟨_, by conv => rhs; reduce⟩ : {g // g = fun vs H => funS (s108 D n) D n 108 Tryz.f108 h108 [] vs H}).1
theorem f108_eq (D : Dyn) (n : Nat) : f108 D n = funKp (s108 D n) D n 108 Tryz.f108 (ms h108) := by kernel_rfl
theorem f108_ok {D : Dyn} (hD : DP D) (n : Nat) : FP 108 (f108 D n) := fun_okP X_ok hD (SP.nil) Tryz.func108 (by kernel_rfl) (by kernel_rfl) (f108_eq D n)
attribute [local irreducible] f108

def s37 (D : Dyn) (n : Nat) : Tb := ⟨X, [(108, f108 D n)]⟩
def h37 : Hint := (.s .o (.s (.c [3,7] (.l [0,1,2,4,3,5,6] .o) .o) .o))
def f37 (D : Dyn) (n : Nat) := (⟨_, by conv => rhs; reduce⟩ : {g // g = fun vs H => funS (s37 D n) D n 37 Tryz.f37 h37 [] vs H}).1
theorem f37_eq (D : Dyn) (n : Nat) : f37 D n = funKp (s37 D n) D n 37 Tryz.f37 (ms h37) := by kernel_rfl
theorem f37_ok {D : Dyn} (hD : DP D) (n : Nat) : FP 37 (f37 D n) := fun_okP X_ok hD (SP.cons (f108_ok hD n) (SP.nil)) Tryz.func37 (by kernel_rfl) (by kernel_rfl) (f37_eq D n)
attribute [local irreducible] f37

def s35 (D : Dyn) (n : Nat) : Tb := ⟨X, [(36, f36 D n), (37, f37 D n), (38, f38 D n)]⟩
def h35 : Hint := (.s .o (.s .pc (.s (.s .o (.c [0,3,4] .pc .o)) (.s .o .o))))
def f35j0 (D : Dyn) (n : Nat) := (⟨_, by conv => rhs; reduce⟩ : {g // some g = prtF (s35 D n) D n 35 Tryz.f35 h35 [] 0}).1
attribute [local irreducible] f35j0
def f35 (D : Dyn) (n : Nat) := (⟨_, by conv => rhs; reduce⟩ : {g // g = fun vs H => funS (s35 D n) D n 35 Tryz.f35 h35 [f35j0 D n] vs H}).1
theorem f35_eq (D : Dyn) (n : Nat) : f35 D n = funKp (s35 D n) D n 35 Tryz.f35 (ms h35) := by kernel_rfl
theorem f35_ok {D : Dyn} (hD : DP D) (n : Nat) : FP 35 (f35 D n) := fun_okP X_ok hD (SP.cons (f36_ok hD n) (SP.cons (f37_ok hD n) (SP.cons (f38_ok hD n) (SP.nil)))) Tryz.func35 (by kernel_rfl) (by kernel_rfl) (f35_eq D n)
attribute [local irreducible] f35

def s6 (D : Dyn) (n : Nat) : Tb := ⟨X, [(32, f32 D n)]⟩
def h6 : Hint := (.s .o (.s .o .o))
def f6 (D : Dyn) (n : Nat) := (⟨_, by conv => rhs; reduce⟩ : {g // g = fun vs H => funS (s6 D n) D n 6 Tryz.f6 h6 [] vs H}).1
theorem f6_eq (D : Dyn) (n : Nat) : f6 D n = funKp (s6 D n) D n 6 Tryz.f6 (ms h6) := by kernel_rfl
theorem f6_ok {D : Dyn} (hD : DP D) (n : Nat) : FP 6 (f6 D n) := fun_okP X_ok hD (SP.cons (f32_ok hD n) (SP.nil)) Tryz.func6 (by kernel_rfl) (by kernel_rfl) (f6_eq D n)
attribute [local irreducible] f6

def s86 (D : Dyn) (n : Nat) : Tb := ⟨X, [(30, f30 D n), (144, f144 D n), (145, f145 D n), (6, f6 D n)]⟩
def h86 : Hint := (.s .o (.s .o (.s (.s .o (.cl (.s .o .o) .o)) (.s .o (.s (.s (.b [1,0] .o) (.c [1,2,6,8,9] .o (.s .o (.s (.s .o (.c [0,2,4,6,8,9,10,11] .o .o)) (.s (.s .o (.cl (.s .o .o) .o)) (.s .o (.s .o (.s .o (.cl (.s .o .o) .o))))))))) (.s .o (.s (.s .o (.cl (.s .o .o) .o)) (.s .o .o))))))))
def f86j0 (D : Dyn) (n : Nat) := (⟨_, by conv => rhs; reduce⟩ : {g // some g = prtF (s86 D n) D n 86 Tryz.f86 h86 [] 0}).1
attribute [local irreducible] f86j0
def f86j1 (D : Dyn) (n : Nat) := (⟨_, by conv => rhs; reduce⟩ : {g // some g = prtF (s86 D n) D n 86 Tryz.f86 h86 [f86j0 D n] 1}).1
attribute [local irreducible] f86j1
def f86 (D : Dyn) (n : Nat) := (⟨_, by conv => rhs; reduce⟩ : {g // g = fun vs H => funS (s86 D n) D n 86 Tryz.f86 h86 [f86j0 D n, f86j1 D n] vs H}).1
theorem f86_eq (D : Dyn) (n : Nat) : f86 D n = funKp (s86 D n) D n 86 Tryz.f86 (ms h86) := by kernel_rfl
theorem f86_ok {D : Dyn} (hD : DP D) (n : Nat) : FP 86 (f86 D n) := fun_okP X_ok hD (SP.cons (f30_ok hD n) (SP.cons (f144_ok hD n) (SP.cons (f145_ok hD n) (SP.cons (f6_ok hD n) (SP.nil))))) Tryz.func86 (by kernel_rfl) (by kernel_rfl) (f86_eq D n)
attribute [local irreducible] f86

def s87 (D : Dyn) (n : Nat) : Tb := ⟨X, []⟩
def h87 : Hint := (.s .o (.s .o .o))
def f87 (D : Dyn) (n : Nat) := (⟨_, by conv => rhs; reduce⟩ : {g // g = fun vs H => funS (s87 D n) D n 87 Tryz.f87 h87 [] vs H}).1
theorem f87_eq (D : Dyn) (n : Nat) : f87 D n = funKp (s87 D n) D n 87 Tryz.f87 (ms h87) := by kernel_rfl
theorem f87_ok {D : Dyn} (hD : DP D) (n : Nat) : FP 87 (f87 D n) := fun_okP X_ok hD (SP.nil) Tryz.func87 (by kernel_rfl) (by kernel_rfl) (f87_eq D n)
attribute [local irreducible] f87

def s22 (D : Dyn) (n : Nat) : Tb := ⟨X, [(86, f86 D n)]⟩
def h22 : Hint := (.s .o (.s .o .o))
def f22 (D : Dyn) (n : Nat) := (⟨_, by conv => rhs; reduce⟩ : {g // g = fun vs H => funS (s22 D n) D n 22 Tryz.f22 h22 [] vs H}).1
theorem f22_eq (D : Dyn) (n : Nat) : f22 D n = funKp (s22 D n) D n 22 Tryz.f22 (ms h22) := by kernel_rfl
theorem f22_ok {D : Dyn} (hD : DP D) (n : Nat) : FP 22 (f22 D n) := fun_okP X_ok hD (SP.cons (f86_ok hD n) (SP.nil)) Tryz.func22 (by kernel_rfl) (by kernel_rfl) (f22_eq D n)
attribute [local irreducible] f22
end Go.Eng.Sh
