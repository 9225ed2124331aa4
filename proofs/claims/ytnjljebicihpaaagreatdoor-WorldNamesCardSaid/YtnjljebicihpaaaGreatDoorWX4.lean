/- Shallow functions, by program (gent4.py). -/
import Derived.Test.YtnjljebicihpaaaGreatDoorWX3
import Derived.Test.YtnjljebicihpaaaGreatDoorProg
import Derived.KernelRfl
noncomputable section
namespace Go.Eng.Sh
open Go.Proofs
set_option maxRecDepth 100000
set_option maxHeartbeats 4000000
set_option linter.all false
attribute [local irreducible] bV bR hd cnd jn jb loopK wnt chk newB bA bInt bStr bBool cmpO eqP eqS eqM eqF eqPL cvI cvSS slStr slArr ixArr ixSl ixStr fAd lnStr lnSl lnMap pk3 s2a bxV lkM upM dlM mkM callV nl outR tld endQ beginK endR endLp jmpK rfC mn2 mx2 aun pExtract pNil undefA isW aveq ldNp ld1p stNp cvBSp cvSBp slSlp ixAg1p ixAgNp fd1p fdNp apPp apZp cpyp bldSp bldAp bldLp mkSlp eqAp clSp bC pnK ifNil asrK noPan mkR clM acap mtp358_0 mtp295_0 mtp297_0 f33 f11 f98 f102 f58 f161l0 f161b1 f161 f167l0 f167b1 f167 f162 f103 f163 f104 f210 f141l0 f141b1 f141 f164 f105 f165l0 f165b1 f165 m165 f106 f59 f60 f34j0 f34l1 f34b2 f34 f166 f107 f266 f267 f237 f168 f109 f169 f108 f61 f110 f62l0 f62b1 f62 f35 f111 f112 f114 f170 f113l0 f113b1 f113 f115 f240 f369 f422 f425j0 f425 f421j0 f421j1 f421j2 f421j3 f421 f424j0 f424j1 f424 f370j0 f370j1 f370 f350 f407 f351 f318 f300j0 f300j1 f300j2 f300 f352 f365 f364l0 f364l1 f364b2 f364l3 f364b4 f364b5 f364 f409l0 f409l1 f409b2 f409b3 f409 f356 f408 f353 f355 f301l0 f301b1 f301l2 f301b3 f301j4 f301 f241 f242 f185 f183 f238l0 f238b1 f238 r238_0 f171 f116 r116_0 f63j0 f63 f119 f65 f66 f64l0 f64b1 f64l2 f64b3 f64 f67 f120 f175 m121 f121
def s176 (D : Dyn) (n : Nat) : Tb := ⟨X, []⟩
def h176 : Hint := (.s .o (.s .o .o))
def f176 (D : Dyn) (n : Nat) := (⟨_, by conv => rhs; reduce⟩ : {g // g = fun vs H => funS (s176 D n) D n 176 Tryz.f176 h176 [] vs H}).1
theorem f176_eq (D : Dyn) (n : Nat) : f176 D n = funKp (s176 D n) D n 176 Tryz.f176 (ms h176) := by kernel_rfl
theorem f176_ok {D : Dyn} (hD : DP D) (n : Nat) : FP 176 (f176 D n) := fun_okP X_ok hD (SP.nil) Tryz.func176 (by kernel_rfl) (by kernel_rfl) (f176_eq D n)
attribute [local irreducible] f176

def s177 (D : Dyn) (n : Nat) : Tb := ⟨X, []⟩
def h177 : Hint := (.s .o (.s .o .o))
def f177 (D : Dyn) (n : Nat) := (⟨_, by conv => rhs; reduce⟩ : {g // g = fun vs H => funS (s177 D n) D n 177 Tryz.f177 h177 [] vs H}).1
theorem f177_eq (D : Dyn) (n : Nat) : f177 D n = funKp (s177 D n) D n 177 Tryz.f177 (ms h177) := by kernel_rfl
theorem f177_ok {D : Dyn} (hD : DP D) (n : Nat) : FP 177 (f177 D n) := fun_okP X_ok hD (SP.nil) Tryz.func177 (by kernel_rfl) (by kernel_rfl) (f177_eq D n)
attribute [local irreducible] f177

def s178 (D : Dyn) (n : Nat) : Tb := ⟨X, []⟩
def h178 : Hint := (.s .o (.s .o .o))
def f178 (D : Dyn) (n : Nat) := (⟨_, by conv => rhs; reduce⟩ : {g // g = fun vs H => funS (s178 D n) D n 178 Tryz.f178 h178 [] vs H}).1
theorem f178_eq (D : Dyn) (n : Nat) : f178 D n = funKp (s178 D n) D n 178 Tryz.f178 (ms h178) := by kernel_rfl
theorem f178_ok {D : Dyn} (hD : DP D) (n : Nat) : FP 178 (f178 D n) := fun_okP X_ok hD (SP.nil) Tryz.func178 (by kernel_rfl) (by kernel_rfl) (f178_eq D n)
attribute [local irreducible] f178

def s179 (D : Dyn) (n : Nat) : Tb := ⟨X, []⟩
def h179 : Hint := (.s .o (.s .o .o))
def f179 (D : Dyn) (n : Nat) := (⟨_, by conv => rhs; reduce⟩ : {g // g = fun vs H => funS (s179 D n) D n 179 Tryz.f179 h179 [] vs H}).1
theorem f179_eq (D : Dyn) (n : Nat) : f179 D n = funKp (s179 D n) D n 179 Tryz.f179 (ms h179) := by kernel_rfl
theorem f179_ok {D : Dyn} (hD : DP D) (n : Nat) : FP 179 (f179 D n) := fun_okP X_ok hD (SP.nil) Tryz.func179 (by kernel_rfl) (by kernel_rfl) (f179_eq D n)
attribute [local irreducible] f179

def s180 (D : Dyn) (n : Nat) : Tb := ⟨X, []⟩
def h180 : Hint := (.s .o (.s .o (.c [0] .o .o)))
def f180j0 (D : Dyn) (n : Nat) := (⟨_, by conv => rhs; reduce⟩ : {g // some g = prtF (s180 D n) D n 180 Tryz.f180 h180 [] 0}).1
attribute [local irreducible] f180j0
def f180 (D : Dyn) (n : Nat) := (⟨_, by conv => rhs; reduce⟩ : {g // g = fun vs H => funS (s180 D n) D n 180 Tryz.f180 h180 [f180j0 D n] vs H}).1
theorem f180_eq (D : Dyn) (n : Nat) : f180 D n = funKp (s180 D n) D n 180 Tryz.f180 (ms h180) := by kernel_rfl
theorem f180_ok {D : Dyn} (hD : DP D) (n : Nat) : FP 180 (f180 D n) := fun_okP X_ok hD (SP.nil) Tryz.func180 (by kernel_rfl) (by kernel_rfl) (f180_eq D n)
attribute [local irreducible] f180

def s181 (D : Dyn) (n : Nat) : Tb := ⟨X, []⟩
def h181 : Hint := (.s .o (.s .o .o))
def f181 (D : Dyn) (n : Nat) := (⟨_, by conv => rhs; reduce⟩ : {g // g = fun vs H => funS (s181 D n) D n 181 Tryz.f181 h181 [] vs H}).1
theorem f181_eq (D : Dyn) (n : Nat) : f181 D n = funKp (s181 D n) D n 181 Tryz.f181 (ms h181) := by kernel_rfl
theorem f181_ok {D : Dyn} (hD : DP D) (n : Nat) : FP 181 (f181 D n) := fun_okP X_ok hD (SP.nil) Tryz.func181 (by kernel_rfl) (by kernel_rfl) (f181_eq D n)
attribute [local irreducible] f181

def s122 (D : Dyn) (n : Nat) : Tb := ⟨X, [(176, f176 D n), (177, f177 D n), (178, f178 D n), (179, f179 D n), (180, f180 D n)]⟩
def h122 : Hint := (.s .o (.s (.s .o (.cl (.s .o .o) .o)) (.s (.s .o (.cl (.s .o .o) .o)) (.s .o (.s (.s .o (.cl (.s .o .o) .o)) (.s .o (.s .o .o)))))))
def f122 (D : Dyn) (n : Nat) := (⟨_, by conv => rhs; reduce⟩ : {g // g = fun vs H => funS (s122 D n) D n 122 Tryz.f122 h122 [] vs H}).1
theorem f122_eq (D : Dyn) (n : Nat) : f122 D n = funKp (s122 D n) D n 122 Tryz.f122 (ms h122) := by kernel_rfl
theorem f122_ok {D : Dyn} (hD : DP D) (n : Nat) : FP 122 (f122 D n) := fun_okP X_ok hD (SP.cons (f176_ok hD n) (SP.cons (f177_ok hD n) (SP.cons (f178_ok hD n) (SP.cons (f179_ok hD n) (SP.cons (f180_ok hD n) (SP.nil)))))) Tryz.func122 (by kernel_rfl) (by kernel_rfl) (f122_eq D n)
attribute [local irreducible] f122

def s68 (D : Dyn) (n : Nat) : Tb := ⟨X, [(120, f120 D n), (121, m121 D n), (122, f122 D n)]⟩
def h68 : Hint := (.s .o (.b [2] (.l [1,0,1,9,10] (.s .o (.s (.cr .o .o) (.s (.b0 (.s .o (.s .o (.c [0,0,1,9,10] .o .o)))) .o))))))
def f68j0 (D : Dyn) (n : Nat) := (⟨_, by conv => rhs; reduce⟩ : {g // some g = prtF (s68 D n) D n 68 Tryz.f68 h68 [] 0}).1
attribute [local irreducible] f68j0
def f68l1 (D : Dyn) (n : Nat) := (⟨_, by conv => rhs; reduce⟩ : {g // some g = prtF (s68 D n) D n 68 Tryz.f68 h68 [f68j0 D n] 1}).1
attribute [local irreducible] f68l1
def f68b2 (D : Dyn) (n : Nat) := (⟨_, by conv => rhs; reduce⟩ : {g // some g = prtF (s68 D n) D n 68 Tryz.f68 h68 [f68j0 D n, f68l1 D n] 2}).1
attribute [local irreducible] f68b2
def f68 (D : Dyn) (n : Nat) := (⟨_, by conv => rhs; reduce⟩ : {g // g = fun vs H => funS (s68 D n) D n 68 Tryz.f68 h68 [f68j0 D n, f68l1 D n, f68b2 D n] vs H}).1
theorem f68_eq (D : Dyn) (n : Nat) : f68 D n = funKp (s68 D n) D n 68 Tryz.f68 (ms h68) := by kernel_rfl
theorem f68_ok {D : Dyn} (hD : DP D) (n : Nat) : FP 68 (f68 D n) := fun_okP X_ok hD (SP.cons (f120_ok hD n) (SP.cons (m121_ok hD n) (SP.cons (f122_ok hD n) (SP.nil)))) Tryz.func68 (by kernel_rfl) (by kernel_rfl) (f68_eq D n)
attribute [local irreducible] f68

def s36 (D : Dyn) (n : Nat) : Tb := ⟨X, [(63, f63 D n), (65, f65 D n), (66, f66 D n), (64, f64 D n), (67, f67 D n), (68, f68 D n)]⟩
def h36 : Hint := (.s .o (.s .o (.s (.s .o (.cl (.s .o .o) .o)) (.s .o (.s (.s .o (.cl (.s .o .o) .o)) (.s .o (.s .o (.s (.s .o (.b [1,10] (.l [0,10,43,44,45] (.s .o (.s (.cr .o .o) (.s (.b0 (.s .o (.s .o (.s (.s .o (.s .o (.cl (.s .o .o) .o))) (.b [7,126,10,1023] .o))))) .o)))))) (.s .o .o)))))))))
def f36l0 (D : Dyn) (n : Nat) := (⟨_, by conv => rhs; reduce⟩ : {g // some g = prtF (s36 D n) D n 36 Tryz.f36 h36 [] 0}).1
attribute [local irreducible] f36l0
def f36b1 (D : Dyn) (n : Nat) := (⟨_, by conv => rhs; reduce⟩ : {g // some g = prtF (s36 D n) D n 36 Tryz.f36 h36 [f36l0 D n] 1}).1
attribute [local irreducible] f36b1
def f36 (D : Dyn) (n : Nat) := (⟨_, by conv => rhs; reduce⟩ : {g // g = fun vs H => funS (s36 D n) D n 36 Tryz.f36 h36 [f36l0 D n, f36b1 D n] vs H}).1
theorem f36_eq (D : Dyn) (n : Nat) : f36 D n = funKp (s36 D n) D n 36 Tryz.f36 (ms h36) := by kernel_rfl
theorem f36_ok {D : Dyn} (hD : DP D) (n : Nat) : FP 36 (f36 D n) := fun_okP X_ok hD (SP.cons (f63_ok hD n) (SP.cons (f65_ok hD n) (SP.cons (f66_ok hD n) (SP.cons (f64_ok hD n) (SP.cons (f67_ok hD n) (SP.cons (f68_ok hD n) (SP.nil))))))) Tryz.func36 (by kernel_rfl) (by kernel_rfl) (f36_eq D n)
attribute [local irreducible] f36

def s71 (D : Dyn) (n : Nat) : Tb := ⟨X, []⟩
def h71 : Hint := (.s .o (.s .o .o))
def f71 (D : Dyn) (n : Nat) := (⟨_, by conv => rhs; reduce⟩ : {g // g = fun vs H => funS (s71 D n) D n 71 Tryz.f71 h71 [] vs H}).1
theorem f71_eq (D : Dyn) (n : Nat) : f71 D n = funKp (s71 D n) D n 71 Tryz.f71 (ms h71) := by kernel_rfl
theorem f71_ok {D : Dyn} (hD : DP D) (n : Nat) : FP 71 (f71 D n) := fun_okP X_ok hD (SP.nil) Tryz.func71 (by kernel_rfl) (by kernel_rfl) (f71_eq D n)
attribute [local irreducible] f71

def s126 (D : Dyn) (n : Nat) : Tb := ⟨X, []⟩
def h126 : Hint := (.s .o (.s .o .o))
def f126 (D : Dyn) (n : Nat) := (⟨_, by conv => rhs; reduce⟩ : {g // g = fun vs H => funS (s126 D n) D n 126 Tryz.f126 h126 [] vs H}).1
theorem f126_eq (D : Dyn) (n : Nat) : f126 D n = funKp (s126 D n) D n 126 Tryz.f126 (ms h126) := by kernel_rfl
theorem f126_ok {D : Dyn} (hD : DP D) (n : Nat) : FP 126 (f126 D n) := fun_okP X_ok hD (SP.nil) Tryz.func126 (by kernel_rfl) (by kernel_rfl) (f126_eq D n)
attribute [local irreducible] f126

def s72 (D : Dyn) (n : Nat) : Tb := ⟨X, [(126, f126 D n)]⟩
def h72 : Hint := (.s .o (.s (.s .o (.cl (.s .o .o) .o)) (.s .o .o)))
def f72 (D : Dyn) (n : Nat) := (⟨_, by conv => rhs; reduce⟩ : {g // g = fun vs H => funS (s72 D n) D n 72 Tryz.f72 h72 [] vs H}).1
theorem f72_eq (D : Dyn) (n : Nat) : f72 D n = funKp (s72 D n) D n 72 Tryz.f72 (ms h72) := by kernel_rfl
theorem f72_ok {D : Dyn} (hD : DP D) (n : Nat) : FP 72 (f72 D n) := fun_okP X_ok hD (SP.cons (f126_ok hD n) (SP.nil)) Tryz.func72 (by kernel_rfl) (by kernel_rfl) (f72_eq D n)
attribute [local irreducible] f72

def s184 (D : Dyn) (n : Nat) : Tb := ⟨X, []⟩
def h184 : Hint := (.s .o (.s (.s .o (.cl (.s .o .o) .o)) (.s .o .o)))
def f184 (D : Dyn) (n : Nat) := (⟨_, by conv => rhs; reduce⟩ : {g // g = fun vs H => funS (s184 D n) D n 184 Tryz.f184 h184 [] vs H}).1
theorem f184_eq (D : Dyn) (n : Nat) : f184 D n = funKp (s184 D n) D n 184 Tryz.f184 (ms h184) := by kernel_rfl
theorem f184_ok {D : Dyn} (hD : DP D) (n : Nat) : FP 184 (f184 D n) := fun_okP X_ok hD (SP.nil) Tryz.func184 (by kernel_rfl) (by kernel_rfl) (f184_eq D n)
def m184 (D : Dyn) (n : Nat) (vs : List AV) (H : AH) : Option (AV × AH) := clnK (f184 D n) vs H
theorem m184_ok {D : Dyn} (hD : DP D) (n : Nat) : FP 184 (m184 D n) := clnK_okP ⟨_, Tryz.func184, rfl⟩ (AnyW.maps_Clone Tryz.clone184) (f184_ok hD n)
attribute [local irreducible] f184 m184

def s127 (D : Dyn) (n : Nat) : Tb := ⟨X, [(184, m184 D n), (185, f185 D n)]⟩
def h127 : Hint := (.s .o (.s (.s .o (.cl (.s .o .o) .o)) (.s .o (.s .o (.s .o (.s .o .o))))))
def f127 (D : Dyn) (n : Nat) := (⟨_, by conv => rhs; reduce⟩ : {g // g = fun vs H => funS (s127 D n) D n 127 Tryz.f127 h127 [] vs H}).1
theorem f127_eq (D : Dyn) (n : Nat) : f127 D n = funKp (s127 D n) D n 127 Tryz.f127 (ms h127) := by kernel_rfl
theorem f127_ok {D : Dyn} (hD : DP D) (n : Nat) : FP 127 (f127 D n) := fun_okP X_ok hD (SP.cons (m184_ok hD n) (SP.cons (f185_ok hD n) (SP.nil))) Tryz.func127 (by kernel_rfl) (by kernel_rfl) (f127_eq D n)
attribute [local irreducible] f127

def s73 (D : Dyn) (n : Nat) : Tb := ⟨X, [(119, f119 D n), (127, f127 D n)]⟩
def h73 : Hint := (.s .o (.s (.s .o (.cl (.s .o .o) .o)) (.s (.c [9,480] (.l [0,1,2,3,4,5,6,7,8,10,11,12,13,9,14,15,16] .o) .o) .o)))
def f73 (D : Dyn) (n : Nat) := (⟨_, by conv => rhs; reduce⟩ : {g // g = fun vs H => funS (s73 D n) D n 73 Tryz.f73 h73 [] vs H}).1
theorem f73_eq (D : Dyn) (n : Nat) : f73 D n = funKp (s73 D n) D n 73 Tryz.f73 (ms h73) := by kernel_rfl
theorem f73_ok {D : Dyn} (hD : DP D) (n : Nat) : FP 73 (f73 D n) := fun_okP X_ok hD (SP.cons (f119_ok hD n) (SP.cons (f127_ok hD n) (SP.nil))) Tryz.func73 (by kernel_rfl) (by kernel_rfl) (f73_eq D n)
attribute [local irreducible] f73

def s128 (D : Dyn) (n : Nat) : Tb := ⟨X, [(119, f119 D n)]⟩
def h128 : Hint := (.s .o (.s (.s .o (.cl (.s .o .o) .o)) (.s .o .o)))
def f128 (D : Dyn) (n : Nat) := (⟨_, by conv => rhs; reduce⟩ : {g // g = fun vs H => funS (s128 D n) D n 128 Tryz.f128 h128 [] vs H}).1
theorem f128_eq (D : Dyn) (n : Nat) : f128 D n = funKp (s128 D n) D n 128 Tryz.f128 (ms h128) := by kernel_rfl
theorem f128_ok {D : Dyn} (hD : DP D) (n : Nat) : FP 128 (f128 D n) := fun_okP X_ok hD (SP.cons (f119_ok hD n) (SP.nil)) Tryz.func128 (by kernel_rfl) (by kernel_rfl) (f128_eq D n)
attribute [local irreducible] f128

def s302 (D : Dyn) (n : Nat) : Tb := ⟨X, []⟩
def f302j0 (D : Dyn) (n : Nat) (vs : List AV) (H : AH) : Rs :=
  
  some (.norm [], H)
def f302j1 (D : Dyn) (n : Nat) (vs : List AV) (H : AH) : Rs :=
  
  some (.ret (.tuple []), H)
def rc302 (D : Dyn) (n : Nat) (rv : AV) (vs : List AV) (H : AH) : Option (AV × AH) :=
  noPan (outR (hd vs fun x0 vs => hd vs fun x1 vs => nl vs <|
  bV (ifNil .neq rv) fun x8 => 
  jn (cnd x8 (bR (stNp 1 x0 (.int .i64 (.ofNat 0)) H) fun x9999 H => 
  bR (stNp 1 x1 (.int .i64 (.ofNat 4)) H) fun x9999_2 H => 
  bV (asrK 393 (.agg [(.int .i64 (.ofNat 0))]) rv) fun x12 => 
  bV (pExtract x12 0) fun x13 => 
  bV (pExtract x12 1) fun x14 => 
  bA (bxV 393 (.agg [(.int .i64 (.ofNat 0))])) H fun x4 H => 
  bR (stNp 1 x4 x13 H) fun x9999_3 H => 
  jn (cnd x14 (bV (fAd 0 x4) fun x16 => 
  bV (ld1p x16 H) fun x17 => 
  bR (stNp 1 x1 x17 H) fun x9999_4 H => 
  some (.norm [], H))
  (some (.norm [], H))) (f302j0 D n))
  (some (.norm [], H))) (f302j1 D n)))
def h302 : Hint := (.s .pc (.c [] (.s .pc (.s .pc (.s .pc (.s .pc (.c [] .pc .o))))) .o))
theorem rc302_eq (D : Dyn) (n : Nat) : rc302 D n = funRp (s302 D n) D n 302 Tryz.f302 h302 := by kernel_rfl
theorem rc302_ok {D : Dyn} (hD : DP D) (n : Nat) : RcP 302 (rc302 D n) := funR_okP X_ok hD (SP.nil) Tryz.func302 (by kernel_rfl) (by kernel_rfl) (by kernel_rfl) (rc302_eq D n)
attribute [local irreducible] f302j0 f302j1 rc302

def s243 (D : Dyn) (n : Nat) : Tb := ⟨X, []⟩
def f243 (D : Dyn) (n : Nat) (vs : List AV) (H : AH) : Option (AV × AH) :=
  noPan (outR (hd vs fun x0 vs => hd vs fun x1 vs => hd vs fun x2 vs => nl vs <|
  bA (bxV 3 (.int .i64 (.ofNat 0))) H fun x6 H => 
  bA (bxV 23 (.int .i64 (.ofNat 0))) H fun x7 H => 
  bV (bldSp [(0, 1), (1, 1)] [.nilPtr, (.int .i64 (.ofNat 0))] [(0, x0), (1, x1)]) fun x12 => 
  bC (callV (s243 D n).S D x2 [x12] H) (fun x H => bR (rc302 D n x [x6, x7] H) fun _ H => bV (ld1p x6 H) fun x9006_5 => bV (ld1p x7 H) fun x9007_5 => some (.ret (.tuple [x9006_5, x9007_5]), H)) fun x13 H => 
  bR (stNp 1 x6 x13 H) fun x9999 H => 
  bR (stNp 1 x7 (.int .i64 (.ofNat 0)) H) fun x9999_2 H => 
  bR (rc302 D n .nilIface [x6, x7] H) fun _ H => bV (ld1p x6 H) fun x9006_8 => bV (ld1p x7 H) fun x9007_8 => some (.ret (.tuple [x9006_8, x9007_8]), H)))
theorem f243_eq (D : Dyn) (n : Nat) : f243 D n = dfunKp (s243 D n) D Tryz.f243 302 (rc302 D n) := by kernel_rfl
theorem f243_ok {D : Dyn} (hD : DP D) (n : Nat) : FP 243 (f243 D n) := dfun_okP X_ok hD (SP.nil) Tryz.func243 (rc302_ok hD n) (f243_eq D n)
attribute [local irreducible] f243

def s186 (D : Dyn) (n : Nat) : Tb := ⟨X, [(127, f127 D n), (243, f243 D n)]⟩
def h186 : Hint := (.s .o (.s .o (.s (.s .o (.cl (.s .o .o) .o)) (.s (.s .o (.cl (.s .o .o) .o)) (.s .o (.s .o (.s (.s .o (.cl (.s .o .o) .o)) (.s .o (.s .o .o)))))))))
def f186 (D : Dyn) (n : Nat) := (⟨_, by conv => rhs; reduce⟩ : {g // g = fun vs H => funS (s186 D n) D n 186 Tryz.f186 h186 [] vs H}).1
theorem f186_eq (D : Dyn) (n : Nat) : f186 D n = funKp (s186 D n) D n 186 Tryz.f186 (ms h186) := by kernel_rfl
theorem f186_ok {D : Dyn} (hD : DP D) (n : Nat) : FP 186 (f186 D n) := fun_okP X_ok hD (SP.cons (f127_ok hD n) (SP.cons (f243_ok hD n) (SP.nil))) Tryz.func186 (by kernel_rfl) (by kernel_rfl) (f186_eq D n)
attribute [local irreducible] f186

def s303 (D : Dyn) (n : Nat) : Tb := ⟨X, []⟩
def h303 : Hint := (.s .o (.s .o .o))
def f303 (D : Dyn) (n : Nat) := (⟨_, by conv => rhs; reduce⟩ : {g // g = fun vs H => funS (s303 D n) D n 303 Tryz.f303 h303 [] vs H}).1
theorem f303_eq (D : Dyn) (n : Nat) : f303 D n = funKp (s303 D n) D n 303 Tryz.f303 (ms h303) := by kernel_rfl
theorem f303_ok {D : Dyn} (hD : DP D) (n : Nat) : FP 303 (f303 D n) := fun_okP X_ok hD (SP.nil) Tryz.func303 (by kernel_rfl) (by kernel_rfl) (f303_eq D n)
attribute [local irreducible] f303

def s357 (D : Dyn) (n : Nat) : Tb := ⟨X, []⟩
def h357 : Hint := (.s .o (.s (.s .o (.b [1] (.l [0,0,1,7,8] (.s .o (.s (.cr .o .o) (.s (.b0 (.s .o (.s .o (.cl (.s .o .o) .o)))) .o)))))) (.s .o .o)))
def f357l0 (D : Dyn) (n : Nat) := (⟨_, by conv => rhs; reduce⟩ : {g // some g = prtF (s357 D n) D n 357 Tryz.f357 h357 [] 0}).1
attribute [local irreducible] f357l0
def f357b1 (D : Dyn) (n : Nat) := (⟨_, by conv => rhs; reduce⟩ : {g // some g = prtF (s357 D n) D n 357 Tryz.f357 h357 [f357l0 D n] 1}).1
attribute [local irreducible] f357b1
def f357 (D : Dyn) (n : Nat) := (⟨_, by conv => rhs; reduce⟩ : {g // g = fun vs H => funS (s357 D n) D n 357 Tryz.f357 h357 [f357l0 D n, f357b1 D n] vs H}).1
theorem f357_eq (D : Dyn) (n : Nat) : f357 D n = funKp (s357 D n) D n 357 Tryz.f357 (ms h357) := by kernel_rfl
theorem f357_ok {D : Dyn} (hD : DP D) (n : Nat) : FP 357 (f357 D n) := fun_okP X_ok hD (SP.nil) Tryz.func357 (by kernel_rfl) (by kernel_rfl) (f357_eq D n)
attribute [local irreducible] f357

def s304 (D : Dyn) (n : Nat) : Tb := ⟨X, [(357, f357 D n)]⟩
def h304 : Hint := (.s .o (.s (.s .o (.cl (.s .o .o) .o)) (.s .o (.s (.s .o (.cl (.s .o .o) .o)) (.s .o .o)))))
def f304 (D : Dyn) (n : Nat) := (⟨_, by conv => rhs; reduce⟩ : {g // g = fun vs H => funS (s304 D n) D n 304 Tryz.f304 h304 [] vs H}).1
theorem f304_eq (D : Dyn) (n : Nat) : f304 D n = funKp (s304 D n) D n 304 Tryz.f304 (ms h304) := by kernel_rfl
theorem f304_ok {D : Dyn} (hD : DP D) (n : Nat) : FP 304 (f304 D n) := fun_okP X_ok hD (SP.cons (f357_ok hD n) (SP.nil)) Tryz.func304 (by kernel_rfl) (by kernel_rfl) (f304_eq D n)
attribute [local irreducible] f304

def s305 (D : Dyn) (n : Nat) : Tb := ⟨X, []⟩
def h305 : Hint := (.s .o (.s .o (.s (.s .o (.b [2,5] (.l [1,1,2,5,9,10,11] (.s .o (.s (.cr .o .o) (.s (.b0 (.s .o (.s .o (.c [0,1,2,5,9,10,11] .o .o)))) .o)))))) (.s .o .o))))
def f305j0 (D : Dyn) (n : Nat) := (⟨_, by conv => rhs; reduce⟩ : {g // some g = prtF (s305 D n) D n 305 Tryz.f305 h305 [] 0}).1
attribute [local irreducible] f305j0
def f305l1 (D : Dyn) (n : Nat) := (⟨_, by conv => rhs; reduce⟩ : {g // some g = prtF (s305 D n) D n 305 Tryz.f305 h305 [f305j0 D n] 1}).1
attribute [local irreducible] f305l1
def f305b2 (D : Dyn) (n : Nat) := (⟨_, by conv => rhs; reduce⟩ : {g // some g = prtF (s305 D n) D n 305 Tryz.f305 h305 [f305j0 D n, f305l1 D n] 2}).1
attribute [local irreducible] f305b2
def f305 (D : Dyn) (n : Nat) := (⟨_, by conv => rhs; reduce⟩ : {g // g = fun vs H => funS (s305 D n) D n 305 Tryz.f305 h305 [f305j0 D n, f305l1 D n, f305b2 D n] vs H}).1
theorem f305_eq (D : Dyn) (n : Nat) : f305 D n = funKp (s305 D n) D n 305 Tryz.f305 (ms h305) := by kernel_rfl
theorem f305_ok {D : Dyn} (hD : DP D) (n : Nat) : FP 305 (f305 D n) := fun_okP X_ok hD (SP.nil) Tryz.func305 (by kernel_rfl) (by kernel_rfl) (f305_eq D n)
attribute [local irreducible] f305

def s244 (D : Dyn) (n : Nat) : Tb := ⟨X, [(240, f240 D n), (303, f303 D n), (241, f241 D n), (304, f304 D n), (305, f305 D n)]⟩
def h244 : Hint := (.s .o (.s (.s .o (.cl (.s .o .o) .o)) (.s (.s .o (.cl (.s .o .o) .o)) (.s (.s .o (.cl (.s .o .o) .o)) (.s .o (.s (.s .o (.b [1] (.l [0,0,1,6,32,33] (.s .o (.s (.cr .o .o) (.s (.b0 (.s .o (.s (.s .o (.cl (.s .o .o) .o)) (.s (.s .o (.cl (.s .o (.s (.s .o (.cl (.s .o .o) .o)) (.s .o .o))) .o)) (.b [4,12,7,127] .o))))) .o)))))) (.s .o .o)))))))
def f244l0 (D : Dyn) (n : Nat) := (⟨_, by conv => rhs; reduce⟩ : {g // some g = prtF (s244 D n) D n 244 Tryz.f244 h244 [] 0}).1
attribute [local irreducible] f244l0
def f244b1 (D : Dyn) (n : Nat) := (⟨_, by conv => rhs; reduce⟩ : {g // some g = prtF (s244 D n) D n 244 Tryz.f244 h244 [f244l0 D n] 1}).1
attribute [local irreducible] f244b1
def f244 (D : Dyn) (n : Nat) := (⟨_, by conv => rhs; reduce⟩ : {g // g = fun vs H => funS (s244 D n) D n 244 Tryz.f244 h244 [f244l0 D n, f244b1 D n] vs H}).1
theorem f244_eq (D : Dyn) (n : Nat) : f244 D n = funKp (s244 D n) D n 244 Tryz.f244 (ms h244) := by kernel_rfl
theorem f244_ok {D : Dyn} (hD : DP D) (n : Nat) : FP 244 (f244 D n) := fun_okP X_ok hD (SP.cons (f240_ok hD n) (SP.cons (f303_ok hD n) (SP.cons (f241_ok hD n) (SP.cons (f304_ok hD n) (SP.cons (f305_ok hD n) (SP.nil)))))) Tryz.func244 (by kernel_rfl) (by kernel_rfl) (f244_eq D n)
attribute [local irreducible] f244

def s191 (D : Dyn) (n : Nat) : Tb := ⟨X, []⟩
def h191 : Hint := (.s .o (.c [0] .pc .o))
def f191j0 (D : Dyn) (n : Nat) := (⟨_, by conv => rhs; reduce⟩ : {g // some g = prtF (s191 D n) D n 191 Tryz.f191 h191 [] 0}).1
attribute [local irreducible] f191j0
def f191 (D : Dyn) (n : Nat) := (⟨_, by conv => rhs; reduce⟩ : {g // g = fun vs H => funS (s191 D n) D n 191 Tryz.f191 h191 [f191j0 D n] vs H}).1
theorem f191_eq (D : Dyn) (n : Nat) : f191 D n = funKp (s191 D n) D n 191 Tryz.f191 (ms h191) := by kernel_rfl
theorem f191_ok {D : Dyn} (hD : DP D) (n : Nat) : FP 191 (f191 D n) := fun_okP X_ok hD (SP.nil) Tryz.func191 (by kernel_rfl) (by kernel_rfl) (f191_eq D n)
attribute [local irreducible] f191

def s188 (D : Dyn) (n : Nat) : Tb := ⟨X, [(244, f244 D n), (191, f191 D n)]⟩
def h188 : Hint := (.s .o (.s .o (.s (.s .o (.cl (.s .o .o) .o)) (.s .pc (.s .o .o)))))
def f188 (D : Dyn) (n : Nat) := (⟨_, by conv => rhs; reduce⟩ : {g // g = fun vs H => funS (s188 D n) D n 188 Tryz.f188 h188 [] vs H}).1
theorem f188_eq (D : Dyn) (n : Nat) : f188 D n = funKp (s188 D n) D n 188 Tryz.f188 (ms h188) := by kernel_rfl
theorem f188_ok {D : Dyn} (hD : DP D) (n : Nat) : FP 188 (f188 D n) := fun_okP X_ok hD (SP.cons (f244_ok hD n) (SP.cons (f191_ok hD n) (SP.nil))) Tryz.func188 (by kernel_rfl) (by kernel_rfl) (f188_eq D n)
attribute [local irreducible] f188

def s306 (D : Dyn) (n : Nat) : Tb := ⟨X, []⟩
def h306 : Hint := (.s .o (.s .o .o))
def f306 (D : Dyn) (n : Nat) := (⟨_, by conv => rhs; reduce⟩ : {g // g = fun vs H => funS (s306 D n) D n 306 Tryz.f306 h306 [] vs H}).1
theorem f306_eq (D : Dyn) (n : Nat) : f306 D n = funKp (s306 D n) D n 306 Tryz.f306 (ms h306) := by kernel_rfl
theorem f306_ok {D : Dyn} (hD : DP D) (n : Nat) : FP 306 (f306 D n) := fun_okP X_ok hD (SP.nil) Tryz.func306 (by kernel_rfl) (by kernel_rfl) (f306_eq D n)
attribute [local irreducible] f306

def s307 (D : Dyn) (n : Nat) : Tb := ⟨X, []⟩
def h307 : Hint := (.s .o (.s (.b [] .o) .o))
def f307 (D : Dyn) (n : Nat) := (⟨_, by conv => rhs; reduce⟩ : {g // g = fun vs H => funS (s307 D n) D n 307 Tryz.f307 h307 [] vs H}).1
theorem f307_eq (D : Dyn) (n : Nat) : f307 D n = funKp (s307 D n) D n 307 Tryz.f307 (ms h307) := by kernel_rfl
theorem f307_ok {D : Dyn} (hD : DP D) (n : Nat) : FP 307 (f307 D n) := fun_okP X_ok hD (SP.nil) Tryz.func307 (by kernel_rfl) (by kernel_rfl) (f307_eq D n)
attribute [local irreducible] f307

def s308 (D : Dyn) (n : Nat) : Tb := ⟨X, []⟩
def h308 : Hint := (.s .o (.s .o .o))
def f308 (D : Dyn) (n : Nat) := (⟨_, by conv => rhs; reduce⟩ : {g // g = fun vs H => funS (s308 D n) D n 308 Tryz.f308 h308 [] vs H}).1
theorem f308_eq (D : Dyn) (n : Nat) : f308 D n = funKp (s308 D n) D n 308 Tryz.f308 (ms h308) := by kernel_rfl
theorem f308_ok {D : Dyn} (hD : DP D) (n : Nat) : FP 308 (f308 D n) := fun_okP X_ok hD (SP.nil) Tryz.func308 (by kernel_rfl) (by kernel_rfl) (f308_eq D n)
attribute [local irreducible] f308

def s245 (D : Dyn) (n : Nat) : Tb := ⟨X, [(306, f306 D n), (307, f307 D n), (308, f308 D n)]⟩
def h245 : Hint := (.s .o (.s (.s .o (.cl (.s .o .o) .o)) (.s (.s .o (.b [1,1] (.l [0,1,14,15] (.s .o (.s (.cr .o .o) (.s (.b0 (.s .o (.s .o (.cl (.s .o .o) .o)))) .o)))))) (.s (.s .o (.cl (.s .o .o) .o)) (.s (.s .o (.b0 (.s .o (.cl (.s .o .o) (.s .o (.cl (.s .o .o) .o)))))) (.s .o .o))))))
def f245l0 (D : Dyn) (n : Nat) := (⟨_, by conv => rhs; reduce⟩ : {g // some g = prtF (s245 D n) D n 245 Tryz.f245 h245 [] 0}).1
attribute [local irreducible] f245l0
def f245b1 (D : Dyn) (n : Nat) := (⟨_, by conv => rhs; reduce⟩ : {g // some g = prtF (s245 D n) D n 245 Tryz.f245 h245 [f245l0 D n] 1}).1
attribute [local irreducible] f245b1
def f245 (D : Dyn) (n : Nat) := (⟨_, by conv => rhs; reduce⟩ : {g // g = fun vs H => funS (s245 D n) D n 245 Tryz.f245 h245 [f245l0 D n, f245b1 D n] vs H}).1
theorem f245_eq (D : Dyn) (n : Nat) : f245 D n = funKp (s245 D n) D n 245 Tryz.f245 (ms h245) := by kernel_rfl
theorem f245_ok {D : Dyn} (hD : DP D) (n : Nat) : FP 245 (f245 D n) := fun_okP X_ok hD (SP.cons (f306_ok hD n) (SP.cons (f307_ok hD n) (SP.cons (f308_ok hD n) (SP.nil)))) Tryz.func245 (by kernel_rfl) (by kernel_rfl) (f245_eq D n)
attribute [local irreducible] f245

def s190 (D : Dyn) (n : Nat) : Tb := ⟨X, [(245, f245 D n)]⟩
def h190 : Hint := (.s .o (.s .o (.s (.s .o (.c [0,10,12] .o .o)) (.s (.s .o (.cl (.s .o .o) .o)) (.s .o .o)))))
def f190j0 (D : Dyn) (n : Nat) := (⟨_, by conv => rhs; reduce⟩ : {g // some g = prtF (s190 D n) D n 190 Tryz.f190 h190 [] 0}).1
attribute [local irreducible] f190j0
def f190 (D : Dyn) (n : Nat) := (⟨_, by conv => rhs; reduce⟩ : {g // g = fun vs H => funS (s190 D n) D n 190 Tryz.f190 h190 [f190j0 D n] vs H}).1
theorem f190_eq (D : Dyn) (n : Nat) : f190 D n = funKp (s190 D n) D n 190 Tryz.f190 (ms h190) := by kernel_rfl
theorem f190_ok {D : Dyn} (hD : DP D) (n : Nat) : FP 190 (f190 D n) := fun_okP X_ok hD (SP.cons (f245_ok hD n) (SP.nil)) Tryz.func190 (by kernel_rfl) (by kernel_rfl) (f190_eq D n)
attribute [local irreducible] f190

def s309 (D : Dyn) (n : Nat) : Tb := ⟨X, []⟩
def h309 : Hint := (.s .o (.s (.b [] .o) .o))
def f309 (D : Dyn) (n : Nat) := (⟨_, by conv => rhs; reduce⟩ : {g // g = fun vs H => funS (s309 D n) D n 309 Tryz.f309 h309 [] vs H}).1
theorem f309_eq (D : Dyn) (n : Nat) : f309 D n = funKp (s309 D n) D n 309 Tryz.f309 (ms h309) := by kernel_rfl
theorem f309_ok {D : Dyn} (hD : DP D) (n : Nat) : FP 309 (f309 D n) := fun_okP X_ok hD (SP.nil) Tryz.func309 (by kernel_rfl) (by kernel_rfl) (f309_eq D n)
attribute [local irreducible] f309

def s310 (D : Dyn) (n : Nat) : Tb := ⟨X, []⟩
def h310 : Hint := (.s .o (.s .o .o))
def f310 (D : Dyn) (n : Nat) := (⟨_, by conv => rhs; reduce⟩ : {g // g = fun vs H => funS (s310 D n) D n 310 Tryz.f310 h310 [] vs H}).1
theorem f310_eq (D : Dyn) (n : Nat) : f310 D n = funKp (s310 D n) D n 310 Tryz.f310 (ms h310) := by kernel_rfl
theorem f310_ok {D : Dyn} (hD : DP D) (n : Nat) : FP 310 (f310 D n) := fun_okP X_ok hD (SP.nil) Tryz.func310 (by kernel_rfl) (by kernel_rfl) (f310_eq D n)
attribute [local irreducible] f310

def s246 (D : Dyn) (n : Nat) : Tb := ⟨X, [(309, f309 D n), (308, f308 D n), (310, f310 D n)]⟩
def h246 : Hint := (.s .o (.s .o (.s (.s .o (.b [1,4] (.l [0,4,8,9] (.s .o (.s (.cr .o .o) (.s (.b0 (.s .o (.s (.s .o (.cl (.s .o .o) .o)) .o))) .o)))))) (.s .o .o))))
def f246l0 (D : Dyn) (n : Nat) := (⟨_, by conv => rhs; reduce⟩ : {g // some g = prtF (s246 D n) D n 246 Tryz.f246 h246 [] 0}).1
attribute [local irreducible] f246l0
def f246b1 (D : Dyn) (n : Nat) := (⟨_, by conv => rhs; reduce⟩ : {g // some g = prtF (s246 D n) D n 246 Tryz.f246 h246 [f246l0 D n] 1}).1
attribute [local irreducible] f246b1
def f246 (D : Dyn) (n : Nat) := (⟨_, by conv => rhs; reduce⟩ : {g // g = fun vs H => funS (s246 D n) D n 246 Tryz.f246 h246 [f246l0 D n, f246b1 D n] vs H}).1
theorem f246_eq (D : Dyn) (n : Nat) : f246 D n = funKp (s246 D n) D n 246 Tryz.f246 (ms h246) := by kernel_rfl
theorem f246_ok {D : Dyn} (hD : DP D) (n : Nat) : FP 246 (f246 D n) := fun_okP X_ok hD (SP.cons (f309_ok hD n) (SP.cons (f308_ok hD n) (SP.cons (f310_ok hD n) (SP.nil)))) Tryz.func246 (by kernel_rfl) (by kernel_rfl) (f246_eq D n)
attribute [local irreducible] f246

def s359 (D : Dyn) (n : Nat) : Tb := ⟨X, []⟩
def h359 : Hint := (.s .o (.s .o (.s (.b [9,511] .o) (.s .o .o))))
def f359 (D : Dyn) (n : Nat) := (⟨_, by conv => rhs; reduce⟩ : {g // g = fun vs H => funS (s359 D n) D n 359 Tryz.f359 h359 [] vs H}).1
theorem f359_eq (D : Dyn) (n : Nat) : f359 D n = funKp (s359 D n) D n 359 Tryz.f359 (ms h359) := by kernel_rfl
theorem f359_ok {D : Dyn} (hD : DP D) (n : Nat) : FP 359 (f359 D n) := fun_okP X_ok hD (SP.nil) Tryz.func359 (by kernel_rfl) (by kernel_rfl) (f359_eq D n)
attribute [local irreducible] f359

def s358 (D : Dyn) (n : Nat) : Tb := ⟨X, []⟩
def f358j0 (D : Dyn) (n : Nat) (vs : List AV) (H : AH) : Rs :=
  hd vs fun x0_3 vs => hd vs fun x3_3 vs => hd vs fun x4_2 vs => hd vs fun x16_3 vs => hd vs fun x17_3 vs => hd vs fun x18_2 vs => 
  bV (bInt .add x18_2 (.int .i64 (.ofNat 1))) fun x41 => 
  some (.norm [x0_3, x3_3, x4_2, x16_3, x17_3, x41], H)
def f358l1 (D : Dyn) (n : Nat) (vs : List AV) (H : AH) : Rs :=
  hd vs fun x0_2 vs => hd vs fun x3_2 vs => hd vs fun x4 vs => hd vs fun x16_2 vs => hd vs fun x17_2 vs => hd vs fun x18 vs => 
  bV (bInt .lss x18 x17_2) fun x19 => 
  cnd x19 (bV (ixSl 3 x16_2 x18) fun x20 => 
  bV (ldNp 3 x20 H) fun x21 => 
  bA (bxV 137 (.agg [(.int .i64 (.ofNat 0)), (.int .i64 (.ofNat 0)), (.int .u64 (.ofNat 0))])) H fun x6 H => 
  bR (stNp 3 x6 x21 H) fun x9999 H => 
  bV (fAd 0 x6) fun x22 => 
  bV (ld1p x22 H) fun x23 => 
  bV (bInt .eql x23 (.int .i64 (.ofNat 1))) fun x24 => 
  jn (cnd x24 (bV (pNil x4) fun x26 => 
  bV (fAd 5 x26) fun x27 => 
  bV (ld1p x27 H) fun x28 => 
  bV (fAd 2 x6) fun x29 => 
  bV (ld1p x29 H) fun x30 => 
  bR (dlM [10] x28 x30 H) fun x9999_2 H => 
  some (.norm [x0_2, x3_2, x4, x16_2, x17_2, x18], H))
  (bV (pNil x4) fun x33 => 
  bV (fAd 7 x33) fun x34 => 
  bV (ld1p x34 H) fun x35 => 
  bV (ldNp 3 x6 H) fun x36 => 
  bA (bldLp 137 3 1 [(.int .i64 (.ofNat 0)), (.int .i64 (.ofNat 0)), (.int .u64 (.ofNat 0))] [(0, x36)]) H fun x37 H => 
  bR (apPp 137 3 24 x35 x37 H) fun x38 H => 
  bV (pNil x4) fun x39 => 
  bV (fAd 7 x39) fun x40 => 
  bR (stNp 1 x40 x38 H) fun x9999_3 H => 
  some (.norm [x0_2, x3_2, x4, x16_2, x17_2, x18], H))) (f358j0 D n))
  (some (.exit 0 [x0_2, x3_2, x4], H))
def f358b2 (D : Dyn) (n : Nat) (vs : List AV) (H : AH) : Rs :=
  hd vs fun x0_4 vs => hd vs fun x3_4 vs => hd vs fun x4_3 vs => 
  tld (mtp358_0 [x0_4, x3_4, x4_3] H) H.next fun H => 
  bV (pNil x0_4) fun x60 => 
  bV (fAd 1 x60) fun x61 => 
  bV (ld1p x61 H) fun x62 => 
  bV (pNil x4_3) fun x63 => 
  bV (fAd 6 x63) fun x64 => 
  bR (stNp 1 x64 x62 H) fun x9999_4 H => 
  bV (ldNp 3 x3_4 H) fun x66 => 
  bV (pNil x4_3) fun x67 => 
  bV (fAd 2 x67) fun x68 => 
  bR (stNp 3 x68 x66 H) fun x9999_5 H => 
  some (.ret (.tuple []), H)
def f358 (D : Dyn) (n : Nat) (vs : List AV) (H : AH) : Option (AV × AH) :=
  outR (hd vs fun x0 vs => hd vs fun x1 vs => nl vs <|
  bA (bxV 137 x1) H fun x3 H => 
  bV (pNil x0) fun x10 => 
  bV (fAd 0 x10) fun x11 => 
  bV (ld1p x11 H) fun x12 => 
  bV (pNil x0) fun x14 => 
  bV (fAd 3 x14) fun x15 => 
  bV (ld1p x15 H) fun x16 => 
  bV (lnSl x16) fun x17 => 
  jb 0 (loopK n (f358l1 D n) [x0, x3, x12, x16, x17, (.int .i64 (.ofNat 0))] H) (f358b2 D n))
def h358 : Hint := (.s .o (.s .o (.s (.s .o (.b [0, 3, 4] (.l [0, 3, 4, 16, 17, 18] (.s .o (.s (.cr .o .o) (.s (.b0 (.s .o (.s .o (.c [0, 3, 4, 16, 17, 18] .o .o)))) .o)))))) (.s (.t [0, 3, 4] mtp358_0) (.s .o .o)))))
def ho358 : Hint := (.s .o (.s .o (.s (.s .o (.b [0, 3, 4] (.l [0, 3, 4, 16, 17, 18] (.s .o (.s (.cr .o .o) (.s (.b0 (.s .o (.s .o (.c [0, 3, 4, 16, 17, 18] .o .o)))) .o)))))) (.s (.t [0, 3, 4] mt358_0) (.s .o .o)))))
theorem f358_eq (D : Dyn) (n : Nat) : f358 D n = funKp (s358 D n) D n 358 Tryz.f358 h358 := by kernel_rfl
theorem f358_tolds : toldsF Tryz.f358 ho358 = [(q358_0.code, [0, 3, 4], mt358_0)] := by kernel_rfl
theorem f358_told : ∀ x ∈ toldsF Tryz.f358 ho358, ToldOk PP Tryz.f358.ntmps 358 x.1 x.2.1 x.2.2 := by
  rw [f358_tolds]; intro x hx
  simp only [List.mem_cons, List.not_mem_nil, or_false] at hx
  subst hx; exact told358_0
theorem f358_hs : HS h358 ho358 := by
  unfold h358 ho358
  repeat (first | exact HS.t mtp358_0_sim | constructor)
theorem f358_ok {D : Dyn} (hD : DP D) (n : Nat) : FP 358 (f358 D n) := fun_okPT X_ok hD (SP.nil) Tryz.func358 (sitesT_ok (by kernel_rfl) f358_told) f358_hs (f358_eq D n)
attribute [local irreducible] f358j0 f358l1 f358b2 f358

def s411 (D : Dyn) (n : Nat) : Tb := ⟨X, [(409, f409 D n)]⟩
def h411 : Hint := (.s .o (.s .o (.s .o (.s (.b [1,1,5,6] (.l [0,1,5,6] (.s (.s .o (.cr .o .o)) (.b0 (.s .o (.s (.s .o (.cl (.s .o .o) .o)) (.s .o (.s .o .o)))))))) (.s .o .o)))))
def f411l0 (D : Dyn) (n : Nat) := (⟨_, by conv => rhs; reduce⟩ : {g // some g = prtF (s411 D n) D n 411 Tryz.f411 h411 [] 0}).1
attribute [local irreducible] f411l0
def f411b1 (D : Dyn) (n : Nat) := (⟨_, by conv => rhs; reduce⟩ : {g // some g = prtF (s411 D n) D n 411 Tryz.f411 h411 [f411l0 D n] 1}).1
attribute [local irreducible] f411b1
def f411 (D : Dyn) (n : Nat) := (⟨_, by conv => rhs; reduce⟩ : {g // g = fun vs H => funS (s411 D n) D n 411 Tryz.f411 h411 [f411l0 D n, f411b1 D n] vs H}).1
theorem f411_eq (D : Dyn) (n : Nat) : f411 D n = funKp (s411 D n) D n 411 Tryz.f411 (ms h411) := by kernel_rfl
theorem f411_ok {D : Dyn} (hD : DP D) (n : Nat) : FP 411 (f411 D n) := fun_okP X_ok hD (SP.cons (f409_ok hD n) (SP.nil)) Tryz.func411 (by kernel_rfl) (by kernel_rfl) (f411_eq D n)
attribute [local irreducible] f411

def s414 (D : Dyn) (n : Nat) : Tb := ⟨X, [(359, f359 D n)]⟩
def h414 : Hint := (.s .o (.s .o (.s (.s .o (.b [1,5] (.l [0,0,5,8,9,10] (.s .o (.s (.cr .o .o) (.s (.b0 (.s .o .o)) .o)))))) (.s .o .o))))
def f414l0 (D : Dyn) (n : Nat) := (⟨_, by conv => rhs; reduce⟩ : {g // some g = prtF (s414 D n) D n 414 Tryz.f414 h414 [] 0}).1
attribute [local irreducible] f414l0
def f414b1 (D : Dyn) (n : Nat) := (⟨_, by conv => rhs; reduce⟩ : {g // some g = prtF (s414 D n) D n 414 Tryz.f414 h414 [f414l0 D n] 1}).1
attribute [local irreducible] f414b1
def f414 (D : Dyn) (n : Nat) := (⟨_, by conv => rhs; reduce⟩ : {g // g = fun vs H => funS (s414 D n) D n 414 Tryz.f414 h414 [f414l0 D n, f414b1 D n] vs H}).1
theorem f414_eq (D : Dyn) (n : Nat) : f414 D n = funKp (s414 D n) D n 414 Tryz.f414 (ms h414) := by kernel_rfl
theorem f414_ok {D : Dyn} (hD : DP D) (n : Nat) : FP 414 (f414 D n) := fun_okP X_ok hD (SP.cons (f359_ok hD n) (SP.nil)) Tryz.func414 (by kernel_rfl) (by kernel_rfl) (f414_eq D n)
attribute [local irreducible] f414

def s363 (D : Dyn) (n : Nat) : Tb := ⟨X, [(358, f358 D n), (411, f411 D n), (414, f414 D n), (359, f359 D n)]⟩
def h363 : Hint := (.s .o (.s (.s .o (.cl (.s (.s .o (.c [0] .o .o)) (.s .o .o)) .o)) (.s .o (.s (.s .o (.cl (.s .o .o) .o)) (.s .o (.s (.s .o (.c [1] .o .o)) (.s .o .o)))))))
def f363j0 (D : Dyn) (n : Nat) := (⟨_, by conv => rhs; reduce⟩ : {g // some g = prtF (s363 D n) D n 363 Tryz.f363 h363 [] 0}).1
attribute [local irreducible] f363j0
def f363j1 (D : Dyn) (n : Nat) := (⟨_, by conv => rhs; reduce⟩ : {g // some g = prtF (s363 D n) D n 363 Tryz.f363 h363 [f363j0 D n] 1}).1
attribute [local irreducible] f363j1
def f363 (D : Dyn) (n : Nat) := (⟨_, by conv => rhs; reduce⟩ : {g // g = fun vs H => funS (s363 D n) D n 363 Tryz.f363 h363 [f363j0 D n, f363j1 D n] vs H}).1
theorem f363_eq (D : Dyn) (n : Nat) : f363 D n = funKp (s363 D n) D n 363 Tryz.f363 (ms h363) := by kernel_rfl
theorem f363_ok {D : Dyn} (hD : DP D) (n : Nat) : FP 363 (f363 D n) := fun_okP X_ok hD (SP.cons (f358_ok hD n) (SP.cons (f411_ok hD n) (SP.cons (f414_ok hD n) (SP.cons (f359_ok hD n) (SP.nil))))) Tryz.func363 (by kernel_rfl) (by kernel_rfl) (f363_eq D n)
attribute [local irreducible] f363

def s362 (D : Dyn) (n : Nat) : Tb := ⟨X, []⟩
def h362 : Hint := (.s .o (.b [7,126,10,1023] .o))
def f362 (D : Dyn) (n : Nat) := (⟨_, by conv => rhs; reduce⟩ : {g // g = fun vs H => funS (s362 D n) D n 362 Tryz.f362 h362 [] vs H}).1
theorem f362_eq (D : Dyn) (n : Nat) : f362 D n = funKp (s362 D n) D n 362 Tryz.f362 (ms h362) := by kernel_rfl
theorem f362_ok {D : Dyn} (hD : DP D) (n : Nat) : FP 362 (f362 D n) := fun_okP X_ok hD (SP.nil) Tryz.func362 (by kernel_rfl) (by kernel_rfl) (f362_eq D n)
attribute [local irreducible] f362

def s360 (D : Dyn) (n : Nat) : Tb := ⟨X, [(303, f303 D n), (241, f241 D n), (305, f305 D n), (362, f362 D n)]⟩
def h360 : Hint := (.s .o (.s (.s .o (.s (.b [2,2] .o) (.cl (.s .o .o) .o))) (.s .o (.s (.s .o (.cl (.s .o .o) .o)) (.s (.s .o (.c [1,6,7,8,10,11] .o (.s .o (.s .o (.s (.b [6,63,10,511] .o) (.s .o (.c [0,6,7,8,10,11] .o .o))))))) (.s (.s .o (.cl (.s .o .o) .o)) (.s .o (.s .o .o))))))))
def f360j0 (D : Dyn) (n : Nat) := (⟨_, by conv => rhs; reduce⟩ : {g // some g = prtF (s360 D n) D n 360 Tryz.f360 h360 [] 0}).1
attribute [local irreducible] f360j0
def f360j1 (D : Dyn) (n : Nat) := (⟨_, by conv => rhs; reduce⟩ : {g // some g = prtF (s360 D n) D n 360 Tryz.f360 h360 [f360j0 D n] 1}).1
attribute [local irreducible] f360j1
def f360 (D : Dyn) (n : Nat) := (⟨_, by conv => rhs; reduce⟩ : {g // g = fun vs H => funS (s360 D n) D n 360 Tryz.f360 h360 [f360j0 D n, f360j1 D n] vs H}).1
theorem f360_eq (D : Dyn) (n : Nat) : f360 D n = funKp (s360 D n) D n 360 Tryz.f360 (ms h360) := by kernel_rfl
theorem f360_ok {D : Dyn} (hD : DP D) (n : Nat) : FP 360 (f360 D n) := fun_okP X_ok hD (SP.cons (f303_ok hD n) (SP.cons (f241_ok hD n) (SP.cons (f305_ok hD n) (SP.cons (f362_ok hD n) (SP.nil))))) Tryz.func360 (by kernel_rfl) (by kernel_rfl) (f360_eq D n)
attribute [local irreducible] f360

def s311 (D : Dyn) (n : Nat) : Tb := ⟨X, [(359, f359 D n), (358, f358 D n), (363, f363 D n)]⟩
def h311 : Hint := (.s .o (.s (.b [9,511] .o) (.s (.s .o (.cl (.s .o (.s (.s .o (.cl (.s .o .o) .o)) (.s (.b [3,6,4,15] .o) (.s .o .o)))) .o)) (.s .o (.s .o (.s .o (.s (.c [5,31,10,767] (.l [0,1,2,3,4,9,5,6,7,8,10,11] .o) .o) (.s (.s .o (.cl (.s .o .o) .o)) (.s .o .o)))))))))
def f311 (D : Dyn) (n : Nat) := (⟨_, by conv => rhs; reduce⟩ : {g // g = fun vs H => funS (s311 D n) D n 311 Tryz.f311 h311 [] vs H}).1
theorem f311_eq (D : Dyn) (n : Nat) : f311 D n = funKp (s311 D n) D n 311 Tryz.f311 (ms h311) := by kernel_rfl
theorem f311_ok {D : Dyn} (hD : DP D) (n : Nat) : FP 311 (f311 D n) := fun_okP X_ok hD (SP.cons (f359_ok hD n) (SP.cons (f358_ok hD n) (SP.cons (f363_ok hD n) (SP.nil)))) Tryz.func311 (by kernel_rfl) (by kernel_rfl) (f311_eq D n)
attribute [local irreducible] f311

def s366 (D : Dyn) (n : Nat) : Tb := ⟨X, []⟩
def h366 : Hint := (.s .o (.s .o (.s .o (.s (.s .o (.cl (.s .o .o) .o)) (.s .o (.s (.s .o (.cl (.s .o .o) .o)) (.s (.s .o (.cl (.s .o (.s .o (.s (.b [8,255] .o) (.s .o .o)))) .o)) (.s .o (.s (.s .o (.cl (.s (.b [8,255] .o) (.s .o (.s .o .o))) .o)) (.s .o (.s .o (.s .o .o))))))))))))
def f366 (D : Dyn) (n : Nat) := (⟨_, by conv => rhs; reduce⟩ : {g // g = fun vs H => funS (s366 D n) D n 366 Tryz.f366 h366 [] vs H}).1
theorem f366_eq (D : Dyn) (n : Nat) : f366 D n = funKp (s366 D n) D n 366 Tryz.f366 (ms h366) := by kernel_rfl
theorem f366_ok {D : Dyn} (hD : DP D) (n : Nat) : FP 366 (f366 D n) := fun_okP X_ok hD (SP.nil) Tryz.func366 (by kernel_rfl) (by kernel_rfl) (f366_eq D n)
def m366 (D : Dyn) (n : Nat) (vs : List AV) (H : AH) : Option (AV × AH) := insKp (f366 D n) vs H
theorem m366_ok {D : Dyn} (hD : DP D) (n : Nat) : FP 366 (m366 D n) := insKp_ok (by kernel_rfl) (f366_ok hD n)
attribute [local irreducible] f366 m366

def s313 (D : Dyn) (n : Nat) : Tb := ⟨X, [(364, f364 D n), (365, f365 D n), (242, f242 D n), (305, f305 D n), (366, m366 D n)]⟩
def h313 : Hint := (.s .o (.s (.s .o (.cl (.s .o .o) .o)) (.s (.c [2,3,5,31,8,255] (.l [0,1,3,4,7,2,5,6,8] .o) .o) (.s .o (.s (.s .o (.cl (.s .o (.s .o .o)) .o)) (.s .o (.s .o (.s .o .o))))))))
def f313 (D : Dyn) (n : Nat) := (⟨_, by conv => rhs; reduce⟩ : {g // g = fun vs H => funS (s313 D n) D n 313 Tryz.f313 h313 [] vs H}).1
theorem f313_eq (D : Dyn) (n : Nat) : f313 D n = funKp (s313 D n) D n 313 Tryz.f313 (ms h313) := by kernel_rfl
theorem f313_ok {D : Dyn} (hD : DP D) (n : Nat) : FP 313 (f313 D n) := fun_okP X_ok hD (SP.cons (f364_ok hD n) (SP.cons (f365_ok hD n) (SP.cons (f242_ok hD n) (SP.cons (f305_ok hD n) (SP.cons (m366_ok hD n) (SP.nil)))))) Tryz.func313 (by kernel_rfl) (by kernel_rfl) (f313_eq D n)
attribute [local irreducible] f313

def s312 (D : Dyn) (n : Nat) : Tb := ⟨X, [(313, f313 D n)]⟩
def h312 : Hint := (.s .o (.s .o .o))
def f312 (D : Dyn) (n : Nat) := (⟨_, by conv => rhs; reduce⟩ : {g // g = fun vs H => funS (s312 D n) D n 312 Tryz.f312 h312 [] vs H}).1
theorem f312_eq (D : Dyn) (n : Nat) : f312 D n = funKp (s312 D n) D n 312 Tryz.f312 (ms h312) := by kernel_rfl
theorem f312_ok {D : Dyn} (hD : DP D) (n : Nat) : FP 312 (f312 D n) := fun_okP X_ok hD (SP.cons (f313_ok hD n) (SP.nil)) Tryz.func312 (by kernel_rfl) (by kernel_rfl) (f312_eq D n)
attribute [local irreducible] f312

def s249 (D : Dyn) (n : Nat) : Tb := ⟨X, [(240, f240 D n), (311, f311 D n)]⟩
def h249 : Hint := (.s .o (.s (.s .o (.cl (.s .o .o) .o)) (.s (.s .o (.cl (.s .o .o) .o)) (.s .o .o))))
def f249 (D : Dyn) (n : Nat) := (⟨_, by conv => rhs; reduce⟩ : {g // g = fun vs H => funS (s249 D n) D n 249 Tryz.f249 h249 [] vs H}).1
theorem f249_eq (D : Dyn) (n : Nat) : f249 D n = funKp (s249 D n) D n 249 Tryz.f249 (ms h249) := by kernel_rfl
theorem f249_ok {D : Dyn} (hD : DP D) (n : Nat) : FP 249 (f249 D n) := fun_okP X_ok hD (SP.cons (f240_ok hD n) (SP.cons (f311_ok hD n) (SP.nil))) Tryz.func249 (by kernel_rfl) (by kernel_rfl) (f249_eq D n)
attribute [local irreducible] f249

def s194 (D : Dyn) (n : Nat) : Tb := ⟨X, [(249, f249 D n), (191, f191 D n)]⟩
def h194 : Hint := (.s .o .pc)
def f194 (D : Dyn) (n : Nat) := (⟨_, by conv => rhs; reduce⟩ : {g // g = fun vs H => funS (s194 D n) D n 194 Tryz.f194 h194 [] vs H}).1
theorem f194_eq (D : Dyn) (n : Nat) : f194 D n = funKp (s194 D n) D n 194 Tryz.f194 (ms h194) := by kernel_rfl
theorem f194_ok {D : Dyn} (hD : DP D) (n : Nat) : FP 194 (f194 D n) := fun_okP X_ok hD (SP.cons (f249_ok hD n) (SP.cons (f191_ok hD n) (SP.nil))) Tryz.func194 (by kernel_rfl) (by kernel_rfl) (f194_eq D n)
attribute [local irreducible] f194

def s192 (D : Dyn) (n : Nat) : Tb := ⟨X, [(246, f246 D n), (191, f191 D n), (194, f194 D n)]⟩
def h192 : Hint := (.s .o (.s .o (.s .pc .pc)))
def f192 (D : Dyn) (n : Nat) := (⟨_, by conv => rhs; reduce⟩ : {g // g = fun vs H => funS (s192 D n) D n 192 Tryz.f192 h192 [] vs H}).1
theorem f192_eq (D : Dyn) (n : Nat) : f192 D n = funKp (s192 D n) D n 192 Tryz.f192 (ms h192) := by kernel_rfl
theorem f192_ok {D : Dyn} (hD : DP D) (n : Nat) : FP 192 (f192 D n) := fun_okP X_ok hD (SP.cons (f246_ok hD n) (SP.cons (f191_ok hD n) (SP.cons (f194_ok hD n) (SP.nil)))) Tryz.func192 (by kernel_rfl) (by kernel_rfl) (f192_eq D n)
attribute [local irreducible] f192

def s247 (D : Dyn) (n : Nat) : Tb := ⟨X, [(245, f245 D n), (307, f307 D n), (310, f310 D n)]⟩
def h247 : Hint := (.s .o (.s (.s .o (.cl (.s .o .o) .o)) (.s .o (.s (.s .o (.b [1,4] (.l [0,4,13,14] (.s .o (.s (.cr .o .o) (.s (.b0 (.s .o .o)) .o)))))) (.s .o .o)))))
def f247l0 (D : Dyn) (n : Nat) := (⟨_, by conv => rhs; reduce⟩ : {g // some g = prtF (s247 D n) D n 247 Tryz.f247 h247 [] 0}).1
attribute [local irreducible] f247l0
def f247b1 (D : Dyn) (n : Nat) := (⟨_, by conv => rhs; reduce⟩ : {g // some g = prtF (s247 D n) D n 247 Tryz.f247 h247 [f247l0 D n] 1}).1
attribute [local irreducible] f247b1
def f247 (D : Dyn) (n : Nat) := (⟨_, by conv => rhs; reduce⟩ : {g // g = fun vs H => funS (s247 D n) D n 247 Tryz.f247 h247 [f247l0 D n, f247b1 D n] vs H}).1
theorem f247_eq (D : Dyn) (n : Nat) : f247 D n = funKp (s247 D n) D n 247 Tryz.f247 (ms h247) := by kernel_rfl
theorem f247_ok {D : Dyn} (hD : DP D) (n : Nat) : FP 247 (f247 D n) := fun_okP X_ok hD (SP.cons (f245_ok hD n) (SP.cons (f307_ok hD n) (SP.cons (f310_ok hD n) (SP.nil)))) Tryz.func247 (by kernel_rfl) (by kernel_rfl) (f247_eq D n)
attribute [local irreducible] f247

def s248 (D : Dyn) (n : Nat) : Tb := ⟨X, [(310, f310 D n)]⟩
def h248 : Hint := (.s .o (.s .o .o))
def f248 (D : Dyn) (n : Nat) := (⟨_, by conv => rhs; reduce⟩ : {g // g = fun vs H => funS (s248 D n) D n 248 Tryz.f248 h248 [] vs H}).1
theorem f248_eq (D : Dyn) (n : Nat) : f248 D n = funKp (s248 D n) D n 248 Tryz.f248 (ms h248) := by kernel_rfl
theorem f248_ok {D : Dyn} (hD : DP D) (n : Nat) : FP 248 (f248 D n) := fun_okP X_ok hD (SP.cons (f310_ok hD n) (SP.nil)) Tryz.func248 (by kernel_rfl) (by kernel_rfl) (f248_eq D n)
attribute [local irreducible] f248

def s193 (D : Dyn) (n : Nat) : Tb := ⟨X, [(247, f247 D n), (191, f191 D n), (248, f248 D n), (194, f194 D n)]⟩
def h193 : Hint := (.s .o (.s .o (.s .pc (.c [3,6,5,31] (.l [0,1,2,4,3,5] .o) .o))))
def f193 (D : Dyn) (n : Nat) := (⟨_, by conv => rhs; reduce⟩ : {g // g = fun vs H => funS (s193 D n) D n 193 Tryz.f193 h193 [] vs H}).1
theorem f193_eq (D : Dyn) (n : Nat) : f193 D n = funKp (s193 D n) D n 193 Tryz.f193 (ms h193) := by kernel_rfl
theorem f193_ok {D : Dyn} (hD : DP D) (n : Nat) : FP 193 (f193 D n) := fun_okP X_ok hD (SP.cons (f247_ok hD n) (SP.cons (f191_ok hD n) (SP.cons (f248_ok hD n) (SP.cons (f194_ok hD n) (SP.nil))))) Tryz.func193 (by kernel_rfl) (by kernel_rfl) (f193_eq D n)
attribute [local irreducible] f193

def s195 (D : Dyn) (n : Nat) : Tb := ⟨X, []⟩
def h195 : Hint := (.s .o (.s .o .o))
def f195 (D : Dyn) (n : Nat) := (⟨_, by conv => rhs; reduce⟩ : {g // g = fun vs H => funS (s195 D n) D n 195 Tryz.f195 h195 [] vs H}).1
theorem f195_eq (D : Dyn) (n : Nat) : f195 D n = funKp (s195 D n) D n 195 Tryz.f195 (ms h195) := by kernel_rfl
theorem f195_ok {D : Dyn} (hD : DP D) (n : Nat) : FP 195 (f195 D n) := fun_okP X_ok hD (SP.nil) Tryz.func195 (by kernel_rfl) (by kernel_rfl) (f195_eq D n)
attribute [local irreducible] f195

def s187 (D : Dyn) (n : Nat) : Tb := ⟨X, [(188, f188 D n), (190, f190 D n), (191, f191 D n), (192, f192 D n), (193, f193 D n), (195, f195 D n), (194, f194 D n)]⟩
def h187 : Hint := (.s .o (.s (.s .pc (.s .o (.c [0,1] .pc .o))) (.s .o (.s .pc (.s .pc (.s .pc (.s (.b [1,0,3,2,4,15] .o) (.s .o .o))))))))
def f187j0 (D : Dyn) (n : Nat) := (⟨_, by conv => rhs; reduce⟩ : {g // some g = prtF (s187 D n) D n 187 Tryz.f187 h187 [] 0}).1
attribute [local irreducible] f187j0
def f187 (D : Dyn) (n : Nat) := (⟨_, by conv => rhs; reduce⟩ : {g // g = fun vs H => funS (s187 D n) D n 187 Tryz.f187 h187 [f187j0 D n] vs H}).1
theorem f187_eq (D : Dyn) (n : Nat) : f187 D n = funKp (s187 D n) D n 187 Tryz.f187 (ms h187) := by kernel_rfl
theorem f187_ok {D : Dyn} (hD : DP D) (n : Nat) : FP 187 (f187 D n) := fun_okP X_ok hD (SP.cons (f188_ok hD n) (SP.cons (f190_ok hD n) (SP.cons (f191_ok hD n) (SP.cons (f192_ok hD n) (SP.cons (f193_ok hD n) (SP.cons (f195_ok hD n) (SP.cons (f194_ok hD n) (SP.nil)))))))) Tryz.func187 (by kernel_rfl) (by kernel_rfl) (f187_eq D n)
attribute [local irreducible] f187

def s129 (D : Dyn) (n : Nat) : Tb := ⟨X, [(186, f186 D n)]⟩
def h129 : Hint := (.s .o (.s .o (.s .o .o)))
def f129 (D : Dyn) (n : Nat) := (⟨_, by conv => rhs; reduce⟩ : {g // g = fun vs H => funS (s129 D n) D n 129 Tryz.f129 h129 [] vs H}).1
theorem f129_eq (D : Dyn) (n : Nat) : f129 D n = funKp (s129 D n) D n 129 Tryz.f129 (ms h129) := by kernel_rfl
theorem f129_ok {D : Dyn} (hD : DP D) (n : Nat) : FP 129 (f129 D n) := fun_okP X_ok hD (SP.cons (f186_ok hD n) (SP.nil)) Tryz.func129 (by kernel_rfl) (by kernel_rfl) (f129_eq D n)
attribute [local irreducible] f129

def s314 (D : Dyn) (n : Nat) : Tb := ⟨X, []⟩
def h314 : Hint := (.s .o (.s .o (.s (.s .o (.b [1,3] (.l [0,0,3,5] (.s .o (.s (.cr .o .o) (.s (.b0 (.s .o .o)) .o)))))) (.s .o .o))))
def f314l0 (D : Dyn) (n : Nat) := (⟨_, by conv => rhs; reduce⟩ : {g // some g = prtF (s314 D n) D n 314 Tryz.f314 h314 [] 0}).1
attribute [local irreducible] f314l0
def f314b1 (D : Dyn) (n : Nat) := (⟨_, by conv => rhs; reduce⟩ : {g // some g = prtF (s314 D n) D n 314 Tryz.f314 h314 [f314l0 D n] 1}).1
attribute [local irreducible] f314b1
def f314 (D : Dyn) (n : Nat) := (⟨_, by conv => rhs; reduce⟩ : {g // g = fun vs H => funS (s314 D n) D n 314 Tryz.f314 h314 [f314l0 D n, f314b1 D n] vs H}).1
theorem f314_eq (D : Dyn) (n : Nat) : f314 D n = funKp (s314 D n) D n 314 Tryz.f314 (ms h314) := by kernel_rfl
theorem f314_ok {D : Dyn} (hD : DP D) (n : Nat) : FP 314 (f314 D n) := fun_okP X_ok hD (SP.nil) Tryz.func314 (by kernel_rfl) (by kernel_rfl) (f314_eq D n)
attribute [local irreducible] f314

def s250 (D : Dyn) (n : Nat) : Tb := ⟨X, [(309, f309 D n), (314, f314 D n), (308, f308 D n)]⟩
def h250 : Hint := (.s .o (.s (.s .o (.cl (.s .o .o) .o)) (.s .o (.s (.s .o (.b [1,2,4] (.l [0,0,2,4,16,17] (.s .o (.s (.cr .o .o) (.s (.b0 (.s .o (.s .o (.s .o (.cl (.s .o .o) .o))))) .o)))))) (.s .o .o)))))
def f250l0 (D : Dyn) (n : Nat) := (⟨_, by conv => rhs; reduce⟩ : {g // some g = prtF (s250 D n) D n 250 Tryz.f250 h250 [] 0}).1
attribute [local irreducible] f250l0
def f250b1 (D : Dyn) (n : Nat) := (⟨_, by conv => rhs; reduce⟩ : {g // some g = prtF (s250 D n) D n 250 Tryz.f250 h250 [f250l0 D n] 1}).1
attribute [local irreducible] f250b1
def f250 (D : Dyn) (n : Nat) := (⟨_, by conv => rhs; reduce⟩ : {g // g = fun vs H => funS (s250 D n) D n 250 Tryz.f250 h250 [f250l0 D n, f250b1 D n] vs H}).1
theorem f250_eq (D : Dyn) (n : Nat) : f250 D n = funKp (s250 D n) D n 250 Tryz.f250 (ms h250) := by kernel_rfl
theorem f250_ok {D : Dyn} (hD : DP D) (n : Nat) : FP 250 (f250 D n) := fun_okP X_ok hD (SP.cons (f309_ok hD n) (SP.cons (f314_ok hD n) (SP.cons (f308_ok hD n) (SP.nil)))) Tryz.func250 (by kernel_rfl) (by kernel_rfl) (f250_eq D n)
attribute [local irreducible] f250

def s197 (D : Dyn) (n : Nat) : Tb := ⟨X, [(188, f188 D n), (250, f250 D n), (191, f191 D n)]⟩
def h197 : Hint := (.s .o (.s .pc (.s (.s .o (.c [0,2,3] .pc .o)) (.s .o (.s .pc (.s .o .o))))))
def f197j0 (D : Dyn) (n : Nat) := (⟨_, by conv => rhs; reduce⟩ : {g // some g = prtF (s197 D n) D n 197 Tryz.f197 h197 [] 0}).1
attribute [local irreducible] f197j0
def f197 (D : Dyn) (n : Nat) := (⟨_, by conv => rhs; reduce⟩ : {g // g = fun vs H => funS (s197 D n) D n 197 Tryz.f197 h197 [f197j0 D n] vs H}).1
theorem f197_eq (D : Dyn) (n : Nat) : f197 D n = funKp (s197 D n) D n 197 Tryz.f197 (ms h197) := by kernel_rfl
theorem f197_ok {D : Dyn} (hD : DP D) (n : Nat) : FP 197 (f197 D n) := fun_okP X_ok hD (SP.cons (f188_ok hD n) (SP.cons (f250_ok hD n) (SP.cons (f191_ok hD n) (SP.nil)))) Tryz.func197 (by kernel_rfl) (by kernel_rfl) (f197_eq D n)
attribute [local irreducible] f197

def s196 (D : Dyn) (n : Nat) : Tb := ⟨X, [(197, f197 D n), (192, f192 D n)]⟩
def h196 : Hint := (.s .o (.s .pc (.s (.s .o (.c [0,1,3] .pc .o)) (.s .o (.s .pc (.s .o .o))))))
def f196j0 (D : Dyn) (n : Nat) := (⟨_, by conv => rhs; reduce⟩ : {g // some g = prtF (s196 D n) D n 196 Tryz.f196 h196 [] 0}).1
attribute [local irreducible] f196j0
def f196 (D : Dyn) (n : Nat) := (⟨_, by conv => rhs; reduce⟩ : {g // g = fun vs H => funS (s196 D n) D n 196 Tryz.f196 h196 [f196j0 D n] vs H}).1
theorem f196_eq (D : Dyn) (n : Nat) : f196 D n = funKp (s196 D n) D n 196 Tryz.f196 (ms h196) := by kernel_rfl
theorem f196_ok {D : Dyn} (hD : DP D) (n : Nat) : FP 196 (f196 D n) := fun_okP X_ok hD (SP.cons (f197_ok hD n) (SP.cons (f192_ok hD n) (SP.nil))) Tryz.func196 (by kernel_rfl) (by kernel_rfl) (f196_eq D n)
attribute [local irreducible] f196

def s130 (D : Dyn) (n : Nat) : Tb := ⟨X, [(186, f186 D n)]⟩
def h130 : Hint := (.s .o (.s .o .o))
def f130 (D : Dyn) (n : Nat) := (⟨_, by conv => rhs; reduce⟩ : {g // g = fun vs H => funS (s130 D n) D n 130 Tryz.f130 h130 [] vs H}).1
theorem f130_eq (D : Dyn) (n : Nat) : f130 D n = funKp (s130 D n) D n 130 Tryz.f130 (ms h130) := by kernel_rfl
theorem f130_ok {D : Dyn} (hD : DP D) (n : Nat) : FP 130 (f130 D n) := fun_okP X_ok hD (SP.cons (f186_ok hD n) (SP.nil)) Tryz.func130 (by kernel_rfl) (by kernel_rfl) (f130_eq D n)
attribute [local irreducible] f130

def s253 (D : Dyn) (n : Nat) : Tb := ⟨X, []⟩
def h253 : Hint := (.s .o (.s (.s .o (.cl (.s .o .o) .o)) (.s .o (.s .o .o))))
def f253 (D : Dyn) (n : Nat) := (⟨_, by conv => rhs; reduce⟩ : {g // g = fun vs H => funS (s253 D n) D n 253 Tryz.f253 h253 [] vs H}).1
theorem f253_eq (D : Dyn) (n : Nat) : f253 D n = funKp (s253 D n) D n 253 Tryz.f253 (ms h253) := by kernel_rfl
theorem f253_ok {D : Dyn} (hD : DP D) (n : Nat) : FP 253 (f253 D n) := fun_okP X_ok hD (SP.nil) Tryz.func253 (by kernel_rfl) (by kernel_rfl) (f253_eq D n)
attribute [local irreducible] f253

def s316 (D : Dyn) (n : Nat) : Tb := ⟨X, []⟩
def h316 : Hint := (.s .o (.s (.s .o (.cl (.s .o .o) .o)) (.s .o .o)))
def f316 (D : Dyn) (n : Nat) := (⟨_, by conv => rhs; reduce⟩ : {g // g = fun vs H => funS (s316 D n) D n 316 Tryz.f316 h316 [] vs H}).1
theorem f316_eq (D : Dyn) (n : Nat) : f316 D n = funKp (s316 D n) D n 316 Tryz.f316 (ms h316) := by kernel_rfl
theorem f316_ok {D : Dyn} (hD : DP D) (n : Nat) : FP 316 (f316 D n) := fun_okP X_ok hD (SP.nil) Tryz.func316 (by kernel_rfl) (by kernel_rfl) (f316_eq D n)
attribute [local irreducible] f316

def s417 (D : Dyn) (n : Nat) : Tb := ⟨X, []⟩
def h417 : Hint := (.s .o .o)
def f417 (D : Dyn) (n : Nat) := (⟨_, by conv => rhs; reduce⟩ : {g // g = fun vs H => funS (s417 D n) D n 417 Tryz.f417 h417 [] vs H}).1
theorem f417_eq (D : Dyn) (n : Nat) : f417 D n = funKp (s417 D n) D n 417 Tryz.f417 (ms h417) := by kernel_rfl
theorem f417_ok {D : Dyn} (hD : DP D) (n : Nat) : FP 417 (f417 D n) := fun_okP X_ok hD (SP.nil) Tryz.func417 (by kernel_rfl) (by kernel_rfl) (f417_eq D n)
attribute [local irreducible] f417

def s367 (D : Dyn) (n : Nat) : Tb := ⟨X, [(364, f364 D n), (409, f409 D n)]⟩
def h367 : Hint := (.s .o (.s (.s .o (.cl (.s .o .o) .o)) (.s (.s .o (.cl (.s .o .o) .o)) (.s .o (.s .o (.s .o (.s .o (.s (.s .o (.c [3,1,4,5,6,7] .o .o)) (.s (.s .o (.b [2,4,5] (.l [1,1,4,5,6,7,38,39,40] (.s .o (.s (.cr .o .o) (.s (.b0 (.s .o (.s .o (.s .o (.c [0,1,4,5,6,7,38,39,40] .o .o))))) .o)))))) (.s (.s .o (.cl (.s (.b [] .o) .o) .o)) (.s .o .o)))))))))))
def f367j0 (D : Dyn) (n : Nat) := (⟨_, by conv => rhs; reduce⟩ : {g // some g = prtF (s367 D n) D n 367 Tryz.f367 h367 [] 0}).1
attribute [local irreducible] f367j0
def f367l1 (D : Dyn) (n : Nat) := (⟨_, by conv => rhs; reduce⟩ : {g // some g = prtF (s367 D n) D n 367 Tryz.f367 h367 [f367j0 D n] 1}).1
attribute [local irreducible] f367l1
def f367b2 (D : Dyn) (n : Nat) := (⟨_, by conv => rhs; reduce⟩ : {g // some g = prtF (s367 D n) D n 367 Tryz.f367 h367 [f367j0 D n, f367l1 D n] 2}).1
attribute [local irreducible] f367b2
def f367j3 (D : Dyn) (n : Nat) := (⟨_, by conv => rhs; reduce⟩ : {g // some g = prtF (s367 D n) D n 367 Tryz.f367 h367 [f367j0 D n, f367l1 D n, f367b2 D n] 3}).1
attribute [local irreducible] f367j3
def f367 (D : Dyn) (n : Nat) := (⟨_, by conv => rhs; reduce⟩ : {g // g = fun vs H => funS (s367 D n) D n 367 Tryz.f367 h367 [f367j0 D n, f367l1 D n, f367b2 D n, f367j3 D n] vs H}).1
theorem f367_eq (D : Dyn) (n : Nat) : f367 D n = funKp (s367 D n) D n 367 Tryz.f367 (ms h367) := by kernel_rfl
theorem f367_ok {D : Dyn} (hD : DP D) (n : Nat) : FP 367 (f367 D n) := fun_okP X_ok hD (SP.cons (f364_ok hD n) (SP.cons (f409_ok hD n) (SP.nil))) Tryz.func367 (by kernel_rfl) (by kernel_rfl) (f367_eq D n)
attribute [local irreducible] f367

def s426 (D : Dyn) (n : Nat) : Tb := ⟨X, []⟩
def h426 : Hint := (.s (.s (.b [] .o) (.cl .o .o)) (.s .o (.b [1] (.l [0,0,1,2,5] (.s (.s .o (.cr .o .o)) (.s (.b0 (.s (.b [11,2047] .o) (.cl .o .o))) .o))))))
def f426l0 (D : Dyn) (n : Nat) := (⟨_, by conv => rhs; reduce⟩ : {g // some g = prtF (s426 D n) D n 426 Tryz.f426 h426 [] 0}).1
attribute [local irreducible] f426l0
def f426b1 (D : Dyn) (n : Nat) := (⟨_, by conv => rhs; reduce⟩ : {g // some g = prtF (s426 D n) D n 426 Tryz.f426 h426 [f426l0 D n] 1}).1
attribute [local irreducible] f426b1
def f426 (D : Dyn) (n : Nat) := (⟨_, by conv => rhs; reduce⟩ : {g // g = fun vs H => funS (s426 D n) D n 426 Tryz.f426 h426 [f426l0 D n, f426b1 D n] vs H}).1
theorem f426_eq (D : Dyn) (n : Nat) : f426 D n = funKp (s426 D n) D n 426 Tryz.f426 (ms h426) := by kernel_rfl
theorem f426_ok {D : Dyn} (hD : DP D) (n : Nat) : FP 426 (f426 D n) := fun_okP X_ok hD (SP.nil) Tryz.func426 (by kernel_rfl) (by kernel_rfl) (f426_eq D n)
attribute [local irreducible] f426

def s371 (D : Dyn) (n : Nat) : Tb := ⟨X, []⟩
def h371 : Hint := (.s .o (.s .o .o))
def f371 (D : Dyn) (n : Nat) := (⟨_, by conv => rhs; reduce⟩ : {g // g = fun vs H => funS (s371 D n) D n 371 Tryz.f371 h371 [] vs H}).1
theorem f371_eq (D : Dyn) (n : Nat) : f371 D n = funKp (s371 D n) D n 371 Tryz.f371 (ms h371) := by kernel_rfl
theorem f371_ok {D : Dyn} (hD : DP D) (n : Nat) : FP 371 (f371 D n) := fun_okP X_ok hD (SP.nil) Tryz.func371 (by kernel_rfl) (by kernel_rfl) (f371_eq D n)
attribute [local irreducible] f371

def s419 (D : Dyn) (n : Nat) : Tb := ⟨X, [(371, f371 D n), (170, f170 D n)]⟩
def h419 : Hint := (.s .o (.s (.s .o (.cl (.s .o .o) .o)) (.s (.s .o (.b [1,2,3] (.l [0,1,2,3,13,14] (.s .o (.s (.cr .o .o) (.s (.b0 (.s .o (.s .o (.b0 (.rf 0 [1,2,3]))))) .o)))))) (.s .o .o))))
def f419l0 (D : Dyn) (n : Nat) := (⟨_, by conv => rhs; reduce⟩ : {g // some g = prtF (s419 D n) D n 419 Tryz.f419 h419 [] 0}).1
attribute [local irreducible] f419l0
def f419b1 (D : Dyn) (n : Nat) := (⟨_, by conv => rhs; reduce⟩ : {g // some g = prtF (s419 D n) D n 419 Tryz.f419 h419 [f419l0 D n] 1}).1
attribute [local irreducible] f419b1
def f419 (D : Dyn) (n : Nat) := (⟨_, by conv => rhs; reduce⟩ : {g // g = fun vs H => funS (s419 D n) D n 419 Tryz.f419 h419 [f419l0 D n, f419b1 D n] vs H}).1
theorem f419_eq (D : Dyn) (n : Nat) : f419 D n = funKp (s419 D n) D n 419 Tryz.f419 (ms h419) := by kernel_rfl
theorem f419_ok {D : Dyn} (hD : DP D) (n : Nat) : FP 419 (f419 D n) := fun_okP X_ok hD (SP.cons (f371_ok hD n) (SP.cons (f170_ok hD n) (SP.nil))) Tryz.func419 (by kernel_rfl) (by kernel_rfl) (f419_eq D n)
def r419_0a : Hint := .o
def r419_0b : Hint := (.b0 (.s .o (.s .o (.s .o .o))))
def r419_0 (D : Dyn) (n : Nat) := (⟨_, by conv => rhs; reduce⟩ : {g // g = fun A l az H => rndS (s419 D n) D n 419 0 [1, 2, 3] [0] r419_0a r419_0b [] A l az H}).1
theorem r419_0_eq (D : Dyn) (n : Nat) : r419_0 D n = rndKp (s419 D n) D n 419 0 [1, 2, 3] [0] (ms r419_0a) (ms r419_0b) := by kernel_rfl
theorem r419_0_ok {D : Dyn} (hD : DP D) (n : Nat) : RdP 419 0 (r419_0 D n) := round_okP X_ok hD (SP.cons (f371_ok hD n) (SP.cons (f170_ok hD n) (SP.nil))) (by kernel_rfl) (r419_0_eq D n)
attribute [local irreducible] f419 r419_0

def s420 (D : Dyn) (n : Nat) : Tb := ⟨X, [(103, f103 D n), (407, f407 D n)]⟩
def h420 : Hint := (.s .o (.s .o (.s (.s .o (.cl (.s .o .o) .o)) (.s (.s .o (.cl (.s .o .o) .o)) (.s .o .o)))))
def f420 (D : Dyn) (n : Nat) := (⟨_, by conv => rhs; reduce⟩ : {g // g = fun vs H => funS (s420 D n) D n 420 Tryz.f420 h420 [] vs H}).1
theorem f420_eq (D : Dyn) (n : Nat) : f420 D n = funKp (s420 D n) D n 420 Tryz.f420 (ms h420) := by kernel_rfl
theorem f420_ok {D : Dyn} (hD : DP D) (n : Nat) : FP 420 (f420 D n) := fun_okP X_ok hD (SP.cons (f103_ok hD n) (SP.cons (f407_ok hD n) (SP.nil))) Tryz.func420 (by kernel_rfl) (by kernel_rfl) (f420_eq D n)
attribute [local irreducible] f420

def s368 (D : Dyn) (n : Nat) : Tb := ⟨X, [(419, f419 D n), (169, f169 D n), (420, f420 D n)]⟩
def h368 : Hint := (.s .o (.s .o (.s (.s .o (.cl (.s .o .o) .o)) (.s .o (.s (.s (.b [9,511] .o) (.s .o (.cl (.s .o .o) .o))) (.s (.b [9,510,12,4095] .o) (.s .o .o)))))))
def f368 (D : Dyn) (n : Nat) := (⟨_, by conv => rhs; reduce⟩ : {g // g = fun vs H => funS (s368 D n) D n 368 Tryz.f368 h368 [] vs H}).1
theorem f368_eq (D : Dyn) (n : Nat) : f368 D n = funKp (s368 D n) D n 368 Tryz.f368 (ms h368) := by kernel_rfl
theorem f368_ok {D : Dyn} (hD : DP D) (n : Nat) : FP 368 (f368 D n) := fun_okP X_ok hD (SP.cons (f419_ok hD n) (SP.cons (f169_ok hD n) (SP.cons (f420_ok hD n) (SP.nil)))) Tryz.func368 (by kernel_rfl) (by kernel_rfl) (f368_eq D n)
attribute [local irreducible] f368

def s317 (D : Dyn) (n : Nat) : Tb := ⟨X, [(241, f241 D n), (367, f367 D n), (162, f162 D n), (368, f368 D n)]⟩
def h317 : Hint := (.s .o (.s (.s .o (.cl (.s .o .o) .o)) (.s (.s .o (.s .o (.cl (.s .o .o) .o))) (.s (.c [5,31,10,767] (.l [0,1,2,3,4,9,5,6,7,8,10,11] .o) .o) (.s (.s .o (.cl (.s .o .o) .o)) (.s .o (.s (.s .o (.b [2,0,4,6,8] (.l [0,0,4,6,8,49,50,51] (.s .o (.s (.cr .o .o) (.s (.b0 (.s .o (.s .o (.s .o (.cl (.s .o .o) .o))))) .o)))))) (.s .o (.s .o (.s (.s .o (.c [1,0,4,6,11] .o .o)) (.s .o (.s (.s .o (.cl (.s .o .o) .o)) (.s .o (.s (.s .o (.cl (.s .o .o) .o)) (.s .o .o)))))))))))))))
def f317l0 (D : Dyn) (n : Nat) := (⟨_, by conv => rhs; reduce⟩ : {g // some g = prtF (s317 D n) D n 317 Tryz.f317 h317 [] 0}).1
attribute [local irreducible] f317l0
def f317j1 (D : Dyn) (n : Nat) := (⟨_, by conv => rhs; reduce⟩ : {g // some g = prtF (s317 D n) D n 317 Tryz.f317 h317 [f317l0 D n] 1}).1
attribute [local irreducible] f317j1
def f317b2 (D : Dyn) (n : Nat) := (⟨_, by conv => rhs; reduce⟩ : {g // some g = prtF (s317 D n) D n 317 Tryz.f317 h317 [f317l0 D n, f317j1 D n] 2}).1
attribute [local irreducible] f317b2
def f317 (D : Dyn) (n : Nat) := (⟨_, by conv => rhs; reduce⟩ : {g // g = fun vs H => funS (s317 D n) D n 317 Tryz.f317 h317 [f317l0 D n, f317j1 D n, f317b2 D n] vs H}).1
theorem f317_eq (D : Dyn) (n : Nat) : f317 D n = funKp (s317 D n) D n 317 Tryz.f317 (ms h317) := by kernel_rfl
theorem f317_ok {D : Dyn} (hD : DP D) (n : Nat) : FP 317 (f317 D n) := fun_okP X_ok hD (SP.cons (f241_ok hD n) (SP.cons (f367_ok hD n) (SP.cons (f162_ok hD n) (SP.cons (f368_ok hD n) (SP.nil))))) Tryz.func317 (by kernel_rfl) (by kernel_rfl) (f317_eq D n)
attribute [local irreducible] f317
end Go.Eng.Sh
