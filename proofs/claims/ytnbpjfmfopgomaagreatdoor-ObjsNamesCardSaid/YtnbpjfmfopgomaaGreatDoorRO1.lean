/- Shallow functions, by program (gen.py). -/
import Derived.Test.YtnbpjfmfopgomaaGreatDoorRO0
import Derived.Test.YtnbpjfmfopgomaaGreatDoorProg
import Derived.KernelRfl
noncomputable section
namespace Go.Eng.Sh
open Go.Proofs
set_option maxRecDepth 100000
set_option linter.all false
def s174 (D : Dyn) (n : Nat) : Tb := ⟨X, []⟩
def f174j0 (D : Dyn) (n : Nat) (vs : List AV) (H : AH) : Rs :=
  
  some (.norm [], H)
def f174j1 (D : Dyn) (n : Nat) (vs : List AV) (H : AH) : Rs :=
  
  some (.ret (.tuple []), H)
/-- jetty/objs.run[jetty/api.Attr]$1 -/
def rc174 (D : Dyn) (n : Nat) (rv : AV) (vs : List AV) (H : AH) : Option (AV × AH) :=
  noPan (outR (hd vs fun x0 vs => hd vs fun x1 vs => nl vs <|
  bV (ifNil .neq rv) fun x8 => 
  jn (cnd x8 (bA (bxV 23 (.agg [(.int .u8 (.ofNat 0)), (.int .i64 (.ofNat 0)), (.int .i64 (.ofNat 0)), (.int .i64 (.ofNat 0)), (.int .i64 (.ofNat 0)), (.int .i64 (.ofNat 0)), (.int .i64 (.ofNat 0)), (.int .i64 (.ofNat 0))])) H fun x3 H => 
  bV (ldNp 8 x3 H) fun x9 => 
  bR (stNp 8 x0 x9 H) fun x9999 H => 
  bR (stNp 1 x1 (.int .i64 (.ofNat 4)) H) fun x9999_2 H => 
  bV (asrK 169 (.agg [(.int .i64 (.ofNat 0))]) rv) fun x12 => 
  bV (pExtract x12 0) fun x13 => 
  bV (pExtract x12 1) fun x14 => 
  bA (bxV 169 (.agg [(.int .i64 (.ofNat 0))])) H fun x4 H => 
  bR (stNp 1 x4 x13 H) fun x9999_3 H => 
  jn (cnd x14 (bV (fAd 0 x4) fun x16 => 
  bV (ld1p x16 H) fun x17 => 
  bR (stNp 1 x1 x17 H) fun x9999_4 H => 
  some (.norm [], H))
  (some (.norm [], H))) (f174j0 D n))
  (some (.norm [], H))) (f174j1 D n)))
def h174 : Hint := (.s .pc (.c [] (.s .pc (.s .pc (.s .pc (.s .pc (.c [] .pc .o))))) .o))
theorem rc174_eq (D : Dyn) (n : Nat) : rc174 D n = funRp (s174 D n) D n 174 Tryz.f174 h174 := by kernel_rfl
theorem rc174_ok {D : Dyn} (hD : DP D) (n : Nat) : RcP 174 (rc174 D n) := funR_okP X_ok hD (SP.nil) Tryz.func174 (by kernel_rfl) (by kernel_rfl) (by kernel_rfl) (rc174_eq D n)

def s105 (D : Dyn) (n : Nat) : Tb := ⟨X, []⟩
/-- jetty/objs.run[jetty/api.Attr] -/
def f105 (D : Dyn) (n : Nat) (vs : List AV) (H : AH) : Option (AV × AH) :=
  noPan (outR (hd vs fun x0 vs => hd vs fun x1 vs => hd vs fun x2 vs => nl vs <|
  bA (bxV 23 (.agg [(.int .u8 (.ofNat 0)), (.int .i64 (.ofNat 0)), (.int .i64 (.ofNat 0)), (.int .i64 (.ofNat 0)), (.int .i64 (.ofNat 0)), (.int .i64 (.ofNat 0)), (.int .i64 (.ofNat 0)), (.int .i64 (.ofNat 0))])) H fun x6 H => 
  bA (bxV 24 (.int .i64 (.ofNat 0))) H fun x7 H => 
  bV (bldSp [(0, 1), (1, 1)] [.nilPtr, (.int .i64 (.ofNat 0))] [(0, x0), (1, x1)]) fun x12 => 
  bC (callV (s105 D n).S D x2 [x12] H) (fun x H => bR (rc174 D n x [x6, x7] H) fun _ H => bV (ldNp 8 x6 H) fun x9006_5 => bV (ld1p x7 H) fun x9007_5 => some (.ret (.tuple [x9006_5, x9007_5]), H)) fun x13 H => 
  bR (stNp 8 x6 x13 H) fun x9999 H => 
  bR (stNp 1 x7 (.int .i64 (.ofNat 0)) H) fun x9999_2 H => 
  bR (rc174 D n .nilIface [x6, x7] H) fun _ H => bV (ldNp 8 x6 H) fun x9006_8 => bV (ld1p x7 H) fun x9007_8 => some (.ret (.tuple [x9006_8, x9007_8]), H)))
theorem f105_eq (D : Dyn) (n : Nat) : f105 D n = dfunKp (s105 D n) D Tryz.f105 174 (rc174 D n) := by kernel_rfl
theorem f105_ok {D : Dyn} (hD : DP D) (n : Nat) : FP 105 (f105 D n) := dfun_okP X_ok hD (SP.nil) Tryz.func105 (rc174_ok hD n) (f105_eq D n)

def s32 (D : Dyn) (n : Nat) : Tb := ⟨X, [(105, f105 D n)]⟩
/-- jetty/objs.look[jetty/api.Attr] -/
def f32 (D : Dyn) (n : Nat) (vs : List AV) (H : AH) : Option (AV × AH) :=
  outR (hd vs fun x0 vs => hd vs fun x1 vs => nl vs <|
  bA (bxV 23 (.agg [(.int .u8 (.ofNat 0)), (.int .i64 (.ofNat 0)), (.int .i64 (.ofNat 0)), (.int .i64 (.ofNat 0)), (.int .i64 (.ofNat 0)), (.int .i64 (.ofNat 0)), (.int .i64 (.ofNat 0)), (.int .i64 (.ofNat 0))])) H fun x4 H => 
  bV (cmpO .eql (eqP x0 .nilPtr)) fun x8 => 
  cnd x8 (bA (bxV 23 (.agg [(.int .u8 (.ofNat 0)), (.int .i64 (.ofNat 0)), (.int .i64 (.ofNat 0)), (.int .i64 (.ofNat 0)), (.int .i64 (.ofNat 0)), (.int .i64 (.ofNat 0)), (.int .i64 (.ofNat 0)), (.int .i64 (.ofNat 0))])) H fun x6 H => 
  bV (ldNp 8 x6 H) fun x9 => 
  bR (stNp 8 x4 x9 H) fun x9999 H => 
  bV (ldNp 8 x4 H) fun x9004 => bV (some (.int .i64 (.ofNat 2))) fun x5 => some (.ret (.tuple [x9004, x5]), H))
  (bR (noPan (f105 D n [x0, (.int .i64 (.ofNat 0)), x1] H)) fun x12 H => 
  bV (pExtract x12 0) fun x13 => 
  bV (pExtract x12 1) fun x14 => 
  bR (stNp 8 x4 x13 H) fun x9999_2 H => 
  bV (ldNp 8 x4 H) fun x9004_2 => bV (some x14) fun x5_2 => some (.ret (.tuple [x9004_2, x5_2]), H)))
def h32 : Hint := (.s .o (.s (.s .o (.cl (.s .o (.s .o .o)) .o)) (.s .o .o)))
theorem f32_eq (D : Dyn) (n : Nat) : f32 D n = funKp (s32 D n) D n 32 Tryz.f32 h32 := by kernel_rfl
theorem f32_ok {D : Dyn} (hD : DP D) (n : Nat) : FP 32 (f32 D n) := fun_okP X_ok hD (SP.cons (f105_ok hD n) (SP.nil)) Tryz.func32 (by kernel_rfl) (by kernel_rfl) (f32_eq D n)

def s175 (D : Dyn) (n : Nat) : Tb := ⟨X, []⟩
/-- jetty/inode.four -/
def f175 (D : Dyn) (n : Nat) (vs : List AV) (H : AH) : Option (AV × AH) :=
  outR (hd vs fun x0 vs => hd vs fun x1 vs => nl vs <|
  bV (bInt .shr x1 (.int .u64 (.ofNat 24))) fun x7 => 
  bV (cvI .u8 x7) fun x8 => 
  bV (bInt .shr x1 (.int .u64 (.ofNat 16))) fun x10 => 
  bV (cvI .u8 x10) fun x11 => 
  bV (bInt .shr x1 (.int .u64 (.ofNat 8))) fun x13 => 
  bV (cvI .u8 x13) fun x14 => 
  bV (cvI .u8 x1) fun x16 => 
  bA (bldLp 5 1 4 [(.int .u8 (.ofNat 0))] [(0, x8), (1, x11), (2, x14), (3, x16)]) H fun x17 H => 
  bR (apPp 5 1 1 x0 x17 H) fun x18 H => 
  bV (some x18) fun x4 => some (.ret x4, H))
def h175 : Hint := (.s .o (.s .o .o))
theorem f175_eq (D : Dyn) (n : Nat) : f175 D n = funKp (s175 D n) D n 175 Tryz.f175 h175 := by kernel_rfl
theorem f175_ok {D : Dyn} (hD : DP D) (n : Nat) : FP 175 (f175 D n) := fun_okP X_ok hD (SP.nil) Tryz.func175 (by kernel_rfl) (by kernel_rfl) (f175_eq D n)

def s106 (D : Dyn) (n : Nat) : Tb := ⟨X, [(175, f175 D n)]⟩
/-- jetty/inode.Key -/
def f106 (D : Dyn) (n : Nat) (vs : List AV) (H : AH) : Option (AV × AH) :=
  outR (hd vs fun x0 vs => nl vs <|
  bA (bldLp 5 1 1 [(.int .u8 (.ofNat 0))] [(0, (.int .u8 (.ofNat 105)))]) H fun x3 H => 
  bR (noPan (f175 D n [x3, x0] H)) fun x5 H => 
  bV (cvBSp x5 H) fun x6 => 
  bV (some x6) fun x2 => some (.ret x2, H))
def h106 : Hint := (.s .o (.s .o .o))
theorem f106_eq (D : Dyn) (n : Nat) : f106 D n = funKp (s106 D n) D n 106 Tryz.f106 h106 := by kernel_rfl
theorem f106_ok {D : Dyn} (hD : DP D) (n : Nat) : FP 106 (f106 D n) := fun_okP X_ok hD (SP.cons (f175_ok hD n) (SP.nil)) Tryz.func106 (by kernel_rfl) (by kernel_rfl) (f106_eq D n)

def s186 (D : Dyn) (n : Nat) : Tb := ⟨X, []⟩
/-- (*jetty/tree.Tree).none -/
def f186 (D : Dyn) (n : Nat) (vs : List AV) (H : AH) : Option (AV × AH) :=
  outR (hd vs fun x0 vs => nl vs <|
  bV (cmpO .eql (eqP x0 .nilPtr)) fun x4 => 
  jn (wnt x4 false (bV (pNil x0) fun x7 => 
  bV (fAd 0 x7) fun x8 => 
  bV (ld1p x8 H) fun x9 => 
  bV (cmpO .eql (eqP x9 .nilPtr)) fun x10 => 
  some (.norm [x10], H)) (some (.norm [undefA], H))) fun vs H => hd vs fun x10_2 vs => 
  bV (pk3 (some x4) (some (.bool true)) (some x10_2)) fun x11 => 
  jn (wnt x11 false (bV (pNil x0) fun x14 => 
  bV (fAd 5 x14) fun x15 => 
  bV (ld1p x15 H) fun x16 => 
  bV (cmpO .eql (eqM x16 .nilMap)) fun x17 => 
  some (.norm [x17], H)) (some (.norm [undefA], H))) fun vs H => hd vs fun x17_2 vs => 
  bV (pk3 (some x11) (some (.bool true)) (some x17_2)) fun x18 => 
  bV (some x18) fun x2 => some (.ret x2, H))
def h186 : Hint := (.s .o (.s .o .o))
theorem f186_eq (D : Dyn) (n : Nat) : f186 D n = funKp (s186 D n) D n 186 Tryz.f186 h186 := by kernel_rfl
theorem f186_ok {D : Dyn} (hD : DP D) (n : Nat) : FP 186 (f186 D n) := fun_okP X_ok hD (SP.nil) Tryz.func186 (by kernel_rfl) (by kernel_rfl) (f186_eq D n)

def s205 (D : Dyn) (n : Nat) : Tb := ⟨X, []⟩
/-- (*jetty/tree.Tree).most -/
def f205 (D : Dyn) (n : Nat) (vs : List AV) (H : AH) : Option (AV × AH) :=
  outR (hd vs fun x0 vs => nl vs <|
  bV (pNil x0) fun x4 => 
  bV (fAd 5 x4) fun x5 => 
  bV (ld1p x5 H) fun x6 => 
  bV (lnMap x6 H) fun x7 => 
  bV (bInt .add (.int .i64 (.ofNat 8192)) x7) fun x8 => 
  bV (some x8) fun x2 => some (.ret x2, H))
def h205 : Hint := (.s .o (.s .o .o))
theorem f205_eq (D : Dyn) (n : Nat) : f205 D n = funKp (s205 D n) D n 205 Tryz.f205 h205 := by kernel_rfl
theorem f205_ok {D : Dyn} (hD : DP D) (n : Nat) : FP 205 (f205 D n) := fun_okP X_ok hD (SP.nil) Tryz.func205 (by kernel_rfl) (by kernel_rfl) (f205_eq D n)

def s364 (D : Dyn) (n : Nat) : Tb := ⟨X, []⟩
/-- (*jetty/arc.Cache).none -/
def f364 (D : Dyn) (n : Nat) (vs : List AV) (H : AH) : Option (AV × AH) :=
  outR (hd vs fun x0 vs => nl vs <|
  bV (cmpO .eql (eqP x0 .nilPtr)) fun x4 => 
  jn (wnt x4 false (bV (pNil x0) fun x7 => 
  bV (fAd 13 x7) fun x8 => 
  bV (ld1p x8 H) fun x9 => 
  bV (bInt .lss x9 (.int .i64 (.ofNat 1))) fun x10 => 
  some (.norm [x10], H)) (some (.norm [undefA], H))) fun vs H => hd vs fun x10_2 vs => 
  bV (pk3 (some x4) (some (.bool true)) (some x10_2)) fun x11 => 
  jn (wnt x11 false (bV (pNil x0) fun x14 => 
  bV (fAd 0 x14) fun x15 => 
  bV (fAd 12 x15) fun x16 => 
  bV (ld1p x16 H) fun x17 => 
  bV (cmpO .eql (eqM x17 .nilMap)) fun x18 => 
  some (.norm [x18], H)) (some (.norm [undefA], H))) fun vs H => hd vs fun x18_2 vs => 
  bV (pk3 (some x11) (some (.bool true)) (some x18_2)) fun x19 => 
  bV (some x19) fun x2 => some (.ret x2, H))
def h364 : Hint := (.s .o (.s .o .o))
theorem f364_eq (D : Dyn) (n : Nat) : f364 D n = funKp (s364 D n) D n 364 Tryz.f364 h364 := by kernel_rfl
theorem f364_ok {D : Dyn} (hD : DP D) (n : Nat) : FP 364 (f364 D n) := fun_okP X_ok hD (SP.nil) Tryz.func364 (by kernel_rfl) (by kernel_rfl) (f364_eq D n)

def s388 (D : Dyn) (n : Nat) : Tb := ⟨X, []⟩
/-- (*jetty/arc.rows).size -/
def f388 (D : Dyn) (n : Nat) (vs : List AV) (H : AH) : Option (AV × AH) :=
  outR (hd vs fun x0 vs => hd vs fun x1 vs => nl vs <|
  bV (pNil x0) fun x7 => 
  bV (fAd 0 x7) fun x8 => 
  bV (ixArr 4 3 x8 x1) fun x9 => 
  bV (fAd 2 x9) fun x10 => 
  bV (ld1p x10 H) fun x11 => 
  bV (some x11) fun x4 => some (.ret x4, H))
def h388 : Hint := (.s .o (.s .o .o))
theorem f388_eq (D : Dyn) (n : Nat) : f388 D n = funKp (s388 D n) D n 388 Tryz.f388 h388 := by kernel_rfl
theorem f388_ok {D : Dyn} (hD : DP D) (n : Nat) : FP 388 (f388 D n) := fun_okP X_ok hD (SP.nil) Tryz.func388 (by kernel_rfl) (by kernel_rfl) (f388_eq D n)

def s390 (D : Dyn) (n : Nat) : Tb := ⟨X, []⟩
def f390j0 (D : Dyn) (n : Nat) (vs : List AV) (H : AH) : Rs :=
  hd vs fun x1_3 vs => hd vs fun x4_2 vs => 
  bV (pNil x1_3) fun x59 => 
  bV (fAd 3 x59) fun x60 => 
  bR (stNp 1 x60 .nilPtr H) fun x9999_5 H => 
  bV (pNil x1_3) fun x61 => 
  bV (fAd 4 x61) fun x62 => 
  bR (stNp 1 x62 .nilPtr H) fun x9999_6 H => 
  bV (pNil x4_2) fun x64 => 
  bV (fAd 2 x64) fun x65 => 
  bV (ld1p x65 H) fun x66 => 
  bV (bInt .sub x66 (.int .i64 (.ofNat 1))) fun x67 => 
  bV (pNil x4_2) fun x68 => 
  bV (fAd 2 x68) fun x69 => 
  bR (stNp 1 x69 x67 H) fun x9999_7 H => 
  some (.ret (.tuple []), H)
def f390j1 (D : Dyn) (n : Nat) (vs : List AV) (H : AH) : Rs :=
  hd vs fun x1_2 vs => hd vs fun x4 vs => 
  bV (pNil x1_2) fun x36 => 
  bV (fAd 4 x36) fun x37 => 
  bV (ld1p x37 H) fun x38 => 
  bV (cmpO .eql (eqP x38 .nilPtr)) fun x39 => 
  jn (cnd x39 (bV (pNil x1_2) fun x42 => 
  bV (fAd 3 x42) fun x43 => 
  bV (ld1p x43 H) fun x44 => 
  bV (pNil x4) fun x45 => 
  bV (fAd 1 x45) fun x46 => 
  bR (stNp 1 x46 x44 H) fun x9999_3 H => 
  some (.norm [x1_2, x4], H))
  (bV (pNil x1_2) fun x48 => 
  bV (fAd 4 x48) fun x49 => 
  bV (ld1p x49 H) fun x50 => 
  bV (pNil x1_2) fun x52 => 
  bV (fAd 3 x52) fun x53 => 
  bV (ld1p x53 H) fun x54 => 
  bV (pNil x50) fun x55 => 
  bV (fAd 3 x55) fun x56 => 
  bR (stNp 1 x56 x54 H) fun x9999_4 H => 
  some (.norm [x1_2, x4], H))) (f390j0 D n)
/-- (*jetty/arc.rows).detach -/
def f390 (D : Dyn) (n : Nat) (vs : List AV) (H : AH) : Option (AV × AH) :=
  outR (hd vs fun x0 vs => hd vs fun x1 vs => nl vs <|
  bV (pNil x1) fun x7 => 
  bV (fAd 1 x7) fun x8 => 
  bV (ld1p x8 H) fun x9 => 
  bV (pNil x0) fun x10 => 
  bV (fAd 0 x10) fun x11 => 
  bV (ixArr 4 3 x11 x9) fun x12 => 
  bV (pNil x1) fun x14 => 
  bV (fAd 3 x14) fun x15 => 
  bV (ld1p x15 H) fun x16 => 
  bV (cmpO .eql (eqP x16 .nilPtr)) fun x17 => 
  jn (cnd x17 (bV (pNil x1) fun x20 => 
  bV (fAd 4 x20) fun x21 => 
  bV (ld1p x21 H) fun x22 => 
  bV (pNil x12) fun x23 => 
  bV (fAd 0 x23) fun x24 => 
  bR (stNp 1 x24 x22 H) fun x9999 H => 
  some (.norm [x1, x12], H))
  (bV (pNil x1) fun x26 => 
  bV (fAd 3 x26) fun x27 => 
  bV (ld1p x27 H) fun x28 => 
  bV (pNil x1) fun x30 => 
  bV (fAd 4 x30) fun x31 => 
  bV (ld1p x31 H) fun x32 => 
  bV (pNil x28) fun x33 => 
  bV (fAd 4 x33) fun x34 => 
  bR (stNp 1 x34 x32 H) fun x9999_2 H => 
  some (.norm [x1, x12], H))) (f390j1 D n))
def h390 : Hint := (.s .o (.s (.s .o (.c [1, 4] .o .o)) (.s (.s .o (.c [1, 4] .o .o)) (.s .o .o))))
theorem f390_eq (D : Dyn) (n : Nat) : f390 D n = funKp (s390 D n) D n 390 Tryz.f390 h390 := by kernel_rfl
theorem f390_ok {D : Dyn} (hD : DP D) (n : Nat) : FP 390 (f390 D n) := fun_okP X_ok hD (SP.nil) Tryz.func390 (by kernel_rfl) (by kernel_rfl) (f390_eq D n)

def s411 (D : Dyn) (n : Nat) : Tb := ⟨X, [(390, f390 D n)]⟩
/-- (*jetty/arc.rows).forget -/
def f411 (D : Dyn) (n : Nat) (vs : List AV) (H : AH) : Option (AV × AH) :=
  outR (hd vs fun x0 vs => hd vs fun x1 vs => nl vs <|
  bV (pNil x0) fun x7 => 
  bV (fAd 0 x7) fun x8 => 
  bV (ixArr 4 3 x8 x1) fun x9 => 
  bV (fAd 0 x9) fun x10 => 
  bV (ld1p x10 H) fun x11 => 
  bV (cmpO .eql (eqP x11 .nilPtr)) fun x13 => 
  cnd x13 (some (.ret (.tuple []), H))
  (bR (noPan (f390 D n [x0, x11] H)) fun x16 H => 
  bV (pNil x0) fun x18 => 
  bV (fAd 12 x18) fun x19 => 
  bV (ld1p x19 H) fun x20 => 
  bV (pNil x11) fun x22 => 
  bV (fAd 0 x22) fun x23 => 
  bV (ld1p x23 H) fun x24 => 
  bR (dlM [6] x20 x24 H) fun x9999 H => 
  some (.ret (.tuple []), H)))
def h411 : Hint := (.s .o (.s (.s .o (.cl .o .o)) (.s .o .o)))
theorem f411_eq (D : Dyn) (n : Nat) : f411 D n = funKp (s411 D n) D n 411 Tryz.f411 h411 := by kernel_rfl
theorem f411_ok {D : Dyn} (hD : DP D) (n : Nat) : FP 411 (f411 D n) := fun_okP X_ok hD (SP.cons (f390_ok hD n) (SP.nil)) Tryz.func411 (by kernel_rfl) (by kernel_rfl) (f411_eq D n)

def s391 (D : Dyn) (n : Nat) : Tb := ⟨X, []⟩
def f391j0 (D : Dyn) (n : Nat) (vs : List AV) (H : AH) : Rs :=
  hd vs fun x2_2 vs => hd vs fun x6 vs => 
  bV (pNil x6) fun x44 => 
  bV (fAd 1 x44) fun x45 => 
  bR (stNp 1 x45 x2_2 H) fun x9999_6 H => 
  bV (pNil x6) fun x47 => 
  bV (fAd 2 x47) fun x48 => 
  bV (ld1p x48 H) fun x49 => 
  bV (bInt .add x49 (.int .i64 (.ofNat 1))) fun x50 => 
  bV (pNil x6) fun x51 => 
  bV (fAd 2 x51) fun x52 => 
  bR (stNp 1 x52 x50 H) fun x9999_7 H => 
  some (.ret (.tuple []), H)
/-- (*jetty/arc.rows).attach -/
def f391 (D : Dyn) (n : Nat) (vs : List AV) (H : AH) : Option (AV × AH) :=
  outR (hd vs fun x0 vs => hd vs fun x1 vs => hd vs fun x2 vs => nl vs <|
  bV (pNil x0) fun x9 => 
  bV (fAd 0 x9) fun x10 => 
  bV (ixArr 4 3 x10 x1) fun x11 => 
  bV (pNil x2) fun x14 => 
  bV (fAd 1 x14) fun x15 => 
  bR (stNp 1 x15 x1 H) fun x9999 H => 
  bV (pNil x11) fun x19 => 
  bV (fAd 1 x19) fun x20 => 
  bV (ld1p x20 H) fun x21 => 
  bV (pNil x2) fun x22 => 
  bV (fAd 3 x22) fun x23 => 
  bR (stNp 1 x23 x21 H) fun x9999_2 H => 
  bV (pNil x2) fun x24 => 
  bV (fAd 4 x24) fun x25 => 
  bR (stNp 1 x25 .nilPtr H) fun x9999_3 H => 
  bV (pNil x11) fun x27 => 
  bV (fAd 1 x27) fun x28 => 
  bV (ld1p x28 H) fun x29 => 
  bV (cmpO .eql (eqP x29 .nilPtr)) fun x30 => 
  jn (cnd x30 (bV (pNil x11) fun x33 => 
  bV (fAd 0 x33) fun x34 => 
  bR (stNp 1 x34 x2 H) fun x9999_4 H => 
  some (.norm [x2, x11], H))
  (bV (pNil x11) fun x36 => 
  bV (fAd 1 x36) fun x37 => 
  bV (ld1p x37 H) fun x38 => 
  bV (pNil x38) fun x40 => 
  bV (fAd 4 x40) fun x41 => 
  bR (stNp 1 x41 x2 H) fun x9999_5 H => 
  some (.norm [x2, x11], H))) (f391j0 D n))
def h391 : Hint := (.s .o (.s .o (.s .o (.s (.s .o (.c [2, 6] .o .o)) (.s .o .o)))))
theorem f391_eq (D : Dyn) (n : Nat) : f391 D n = funKp (s391 D n) D n 391 Tryz.f391 h391 := by kernel_rfl
theorem f391_ok {D : Dyn} (hD : DP D) (n : Nat) : FP 391 (f391 D n) := fun_okP X_ok hD (SP.nil) Tryz.func391 (by kernel_rfl) (by kernel_rfl) (f391_eq D n)

def s412 (D : Dyn) (n : Nat) : Tb := ⟨X, [(390, f390 D n), (391, f391 D n)]⟩
/-- (*jetty/arc.rows).ghost -/
def f412 (D : Dyn) (n : Nat) (vs : List AV) (H : AH) : Option (AV × AH) :=
  outR (hd vs fun x0 vs => hd vs fun x1 vs => hd vs fun x2 vs => nl vs <|
  bV (pNil x0) fun x9 => 
  bV (fAd 0 x9) fun x10 => 
  bV (ixArr 4 3 x10 x1) fun x11 => 
  bV (fAd 0 x11) fun x12 => 
  bV (ld1p x12 H) fun x13 => 
  bV (cmpO .eql (eqP x13 .nilPtr)) fun x15 => 
  cnd x15 (some (.ret (.tuple []), H))
  (bR (noPan (f390 D n [x0, x13] H)) fun x18 H => 
  bV (pNil x13) fun x20 => 
  bV (fAd 2 x20) fun x21 => 
  bR (stNp 1 x21 .nilPtr H) fun x9999 H => 
  bR (noPan (f391 D n [x0, x2, x13] H)) fun x25 H => 
  some (.ret (.tuple []), H)))
def h412 : Hint := (.s .o (.s (.s .o (.cl .o .o)) (.s .o (.s .o .o))))
theorem f412_eq (D : Dyn) (n : Nat) : f412 D n = funKp (s412 D n) D n 412 Tryz.f412 h412 := by kernel_rfl
theorem f412_ok {D : Dyn} (hD : DP D) (n : Nat) : FP 412 (f412 D n) := fun_okP X_ok hD (SP.cons (f390_ok hD n) (SP.cons (f391_ok hD n) (SP.nil))) Tryz.func412 (by kernel_rfl) (by kernel_rfl) (f412_eq D n)

def s389 (D : Dyn) (n : Nat) : Tb := ⟨X, [(388, f388 D n), (412, f412 D n)]⟩
/-- (*jetty/arc.Cache).makeRoom -/
def f389 (D : Dyn) (n : Nat) (vs : List AV) (H : AH) : Option (AV × AH) :=
  outR (hd vs fun x0 vs => hd vs fun x1 vs => nl vs <|
  bV (pNil x0) fun x7 => 
  bV (fAd 0 x7) fun x8 => 
  bV (pNil x0) fun x11 => 
  bV (fAd 0 x11) fun x12 => 
  bR (noPan (f388 D n [x8, (.int .i64 (.ofNat 0))] H)) fun x9 H => 
  bR (noPan (f388 D n [x12, (.int .i64 (.ofNat 1))] H)) fun x13 H => 
  bV (bInt .add x9 x13) fun x16 => 
  bV (pNil x0) fun x18 => 
  bV (fAd 13 x18) fun x19 => 
  bV (ld1p x19 H) fun x20 => 
  bV (bInt .lss x16 x20) fun x21 => 
  cnd x21 (some (.ret (.tuple []), H))
  (bV (bInt .gtr x9 (.int .i64 (.ofNat 0))) fun x23 => 
  jn (wnt x23 true (bV (bInt .eql x13 (.int .i64 (.ofNat 0))) fun x26 => 
  some (.norm [x26], H)) (some (.norm [undefA], H))) fun vs H => hd vs fun x27 vs => 
  jn (wnt x27 false (bV (pNil x0) fun x30 => 
  bV (fAd 14 x30) fun x31 => 
  bV (ld1p x31 H) fun x32 => 
  bV (bInt .gtr x9 x32) fun x33 => 
  some (.norm [x33], H)) (some (.norm [undefA], H))) fun vs H => hd vs fun x33_2 vs => 
  jn (wnt x23 true (bV (pk3 (some x27) (some (.bool true)) (some x33_2)) fun x34 => 
  some (.norm [x34], H)) (some (.norm [undefA], H))) fun vs H => hd vs fun x35 vs => 
  jn (wnt x35 false (some (.norm [x1], H)) (some (.norm [undefA], H))) fun vs H => hd vs fun x37 vs => 
  jn (wnt x37 true (bV (pNil x0) fun x40 => 
  bV (fAd 14 x40) fun x41 => 
  bV (ld1p x41 H) fun x42 => 
  bV (bInt .eql x9 x42) fun x43 => 
  some (.norm [x43], H)) (some (.norm [undefA], H))) fun vs H => hd vs fun x43_2 vs => 
  jn (wnt x35 false (bV (pk3 (some x37) (some x43_2) (some (.bool false))) fun x44 => 
  some (.norm [x44], H)) (some (.norm [undefA], H))) fun vs H => hd vs fun x44_2 vs => 
  jn (wnt x23 true (bV (pk3 (some x35) (some (.bool true)) (some x44_2)) fun x45 => 
  some (.norm [x45], H)) (some (.norm [undefA], H))) fun vs H => hd vs fun x45_2 vs => 
  bV (pk3 (some x23) (some x45_2) (some (.bool false))) fun x46 => 
  cnd x46 (bV (pNil x0) fun x48 => 
  bV (fAd 0 x48) fun x49 => 
  bR (noPan (f412 D n [x49, (.int .i64 (.ofNat 0)), (.int .i64 (.ofNat 2))] H)) fun x50 H => 
  some (.ret (.tuple []), H))
  (bV (pNil x0) fun x52 => 
  bV (fAd 0 x52) fun x53 => 
  bR (noPan (f412 D n [x53, (.int .i64 (.ofNat 1)), (.int .i64 (.ofNat 3))] H)) fun x54 H => 
  some (.ret (.tuple []), H))))
def h389 : Hint := (.s .o (.s (.s .o (.cl .o .o)) (.s (.s .o (.cl (.s .o .o) .o)) .o)))
theorem f389_eq (D : Dyn) (n : Nat) : f389 D n = funKp (s389 D n) D n 389 Tryz.f389 h389 := by kernel_rfl
theorem f389_ok {D : Dyn} (hD : DP D) (n : Nat) : FP 389 (f389 D n) := fun_okP X_ok hD (SP.cons (f388_ok hD n) (SP.cons (f412_ok hD n) (SP.nil))) Tryz.func389 (by kernel_rfl) (by kernel_rfl) (f389_eq D n)

def s387 (D : Dyn) (n : Nat) : Tb := ⟨X, [(388, f388 D n), (411, f411 D n), (389, f389 D n), (391, f391 D n)]⟩
def f387j0 (D : Dyn) (n : Nat) (vs : List AV) (H : AH) : Rs :=
  hd vs fun x0_2 vs => hd vs fun x1_2 vs => hd vs fun x2_2 vs => 
  some (.norm [x0_2, x1_2, x2_2], H)
def f387j1 (D : Dyn) (n : Nat) (vs : List AV) (H : AH) : Rs :=
  hd vs fun x0_3 vs => hd vs fun x1_3 vs => hd vs fun x2_3 vs => 
  bR (noPan (f389 D n [x0_3, (.bool false)] H)) fun x79 H => 
  some (.norm [x0_3, x1_3, x2_3], H)
def f387j2 (D : Dyn) (n : Nat) (vs : List AV) (H : AH) : Rs :=
  hd vs fun x0_4 vs => hd vs fun x1_4 vs => hd vs fun x2_4 vs => 
  some (.norm [x0_4, x1_4, x2_4], H)
def f387j3 (D : Dyn) (n : Nat) (vs : List AV) (H : AH) : Rs :=
  hd vs fun x0_5 vs => hd vs fun x1_5 vs => hd vs fun x2_5 vs => 
  bV (bldSp [(0, 1), (1, 1), (2, 1), (3, 1), (4, 1)] [(.int .i64 (.ofNat 0)), (.int .i64 (.ofNat 0)), .nilPtr, .nilPtr, .nilPtr] [(0, x1_5), (2, x2_5)]) fun x82 => 
  bA (bxV 476 x82) H fun x83 H => 
  bV (pNil x0_5) fun x85 => 
  bV (fAd 0 x85) fun x86 => 
  bV (fAd 12 x86) fun x87 => 
  bV (ld1p x87 H) fun x88 => 
  bR (upM [6] x88 x1_5 x83 H) fun x9999 H => 
  bV (pNil x0_5) fun x92 => 
  bV (fAd 0 x92) fun x93 => 
  bR (noPan (f391 D n [x93, (.int .i64 (.ofNat 0)), x83] H)) fun x95 H => 
  some (.ret (.tuple []), H)
/-- (*jetty/arc.Cache).meet -/
def f387 (D : Dyn) (n : Nat) (vs : List AV) (H : AH) : Option (AV × AH) :=
  outR (hd vs fun x0 vs => hd vs fun x1 vs => hd vs fun x2 vs => nl vs <|
  bV (pNil x0) fun x13 => 
  bV (fAd 0 x13) fun x14 => 
  bV (pNil x0) fun x17 => 
  bV (fAd 0 x17) fun x18 => 
  bR (noPan (f388 D n [x14, (.int .i64 (.ofNat 0))] H)) fun x15 H => 
  bR (noPan (f388 D n [x18, (.int .i64 (.ofNat 1))] H)) fun x19 H => 
  bV (pNil x0) fun x21 => 
  bV (fAd 0 x21) fun x22 => 
  bV (pNil x0) fun x25 => 
  bV (fAd 0 x25) fun x26 => 
  bR (noPan (f388 D n [x22, (.int .i64 (.ofNat 2))] H)) fun x23 H => 
  bR (noPan (f388 D n [x26, (.int .i64 (.ofNat 3))] H)) fun x27 H => 
  bV (bInt .add x15 x19) fun x30 => 
  bV (bInt .add x30 x23) fun x32 => 
  bV (bInt .add x32 x27) fun x34 => 
  bV (bInt .add x15 x23) fun x38 => 
  bV (pNil x0) fun x40 => 
  bV (fAd 13 x40) fun x41 => 
  bV (ld1p x41 H) fun x42 => 
  bV (bInt .geq x38 x42) fun x43 => 
  jn (cnd x43 (bV (pNil x0) fun x46 => 
  bV (fAd 13 x46) fun x47 => 
  bV (ld1p x47 H) fun x48 => 
  bV (bInt .lss x15 x48) fun x49 => 
  jn (cnd x49 (bV (pNil x0) fun x51 => 
  bV (fAd 0 x51) fun x52 => 
  bR (noPan (f411 D n [x52, (.int .i64 (.ofNat 2))] H)) fun x53 H => 
  bR (noPan (f389 D n [x0, (.bool false)] H)) fun x55 H => 
  some (.norm [x0, x1, x2], H))
  (bV (pNil x0) fun x57 => 
  bV (fAd 0 x57) fun x58 => 
  bR (noPan (f411 D n [x58, (.int .i64 (.ofNat 0))] H)) fun x59 H => 
  some (.norm [x0, x1, x2], H))) (f387j0 D n))
  (bV (pNil x0) fun x63 => 
  bV (fAd 13 x63) fun x64 => 
  bV (ld1p x64 H) fun x65 => 
  bV (bInt .geq x34 x65) fun x66 => 
  jn (cnd x66 (bV (pNil x0) fun x69 => 
  bV (fAd 13 x69) fun x70 => 
  bV (ld1p x70 H) fun x71 => 
  bV (bInt .mul (.int .i64 (.ofNat 2)) x71) fun x72 => 
  bV (bInt .geq x34 x72) fun x73 => 
  jn (cnd x73 (bV (pNil x0) fun x75 => 
  bV (fAd 0 x75) fun x76 => 
  bR (noPan (f411 D n [x76, (.int .i64 (.ofNat 3))] H)) fun x77 H => 
  some (.norm [x0, x1, x2], H))
  (some (.norm [x0, x1, x2], H))) (f387j1 D n))
  (some (.norm [x0, x1, x2], H))) (f387j2 D n))) (f387j3 D n))
def h387 : Hint := (.s .o (.s .o (.s (.s .o (.b0 (.s .o (.c [0, 1, 2] (.s .o (.c [0, 1, 2] (.s .o .o) .o)) (.s .o (.c [0, 1, 2] (.s (.s .o (.c [0, 1, 2] .o .o)) .o) .o)))))) (.s .o (.s .o .o)))))
theorem f387_eq (D : Dyn) (n : Nat) : f387 D n = funKp (s387 D n) D n 387 Tryz.f387 h387 := by kernel_rfl
theorem f387_ok {D : Dyn} (hD : DP D) (n : Nat) : FP 387 (f387 D n) := fun_okP X_ok hD (SP.cons (f388_ok hD n) (SP.cons (f411_ok hD n) (SP.cons (f389_ok hD n) (SP.cons (f391_ok hD n) (SP.nil))))) Tryz.func387 (by kernel_rfl) (by kernel_rfl) (f387_eq D n)

def s365 (D : Dyn) (n : Nat) : Tb := ⟨X, [(387, f387 D n), (388, f388 D n), (389, f389 D n), (390, f390 D n), (391, f391 D n)]⟩
def f365j0 (D : Dyn) (n : Nat) (vs : List AV) (H : AH) : Rs :=
  hd vs fun x0_2 vs => hd vs fun x2_2 vs => hd vs fun x6 vs => 
  some (.norm [x0_2, x2_2, x6], H)
def f365j1 (D : Dyn) (n : Nat) (vs : List AV) (H : AH) : Rs :=
  hd vs fun x0_3 vs => hd vs fun x2_3 vs => hd vs fun x6_2 vs => 
  bV (pNil x0_3) fun x79 => 
  bV (fAd 0 x79) fun x80 => 
  bR (noPan (f390 D n [x80, x6_2] H)) fun x82 H => 
  bV (pNil x6_2) fun x85 => 
  bV (fAd 2 x85) fun x86 => 
  bR (stNp 1 x86 x2_3 H) fun x9999_3 H => 
  bV (pNil x0_3) fun x88 => 
  bV (fAd 0 x88) fun x89 => 
  bR (noPan (f391 D n [x89, (.int .i64 (.ofNat 1)), x6_2] H)) fun x91 H => 
  some (.ret (.tuple []), H)
/-- (*jetty/arc.Cache).have -/
def f365 (D : Dyn) (n : Nat) (vs : List AV) (H : AH) : Option (AV × AH) :=
  outR (hd vs fun x0 vs => hd vs fun x1 vs => hd vs fun x2 vs => nl vs <|
  bV (pNil x0) fun x10 => 
  bV (fAd 0 x10) fun x11 => 
  bV (fAd 12 x11) fun x12 => 
  bV (ld1p x12 H) fun x13 => 
  bV (lkM [6] .nilPtr false x13 x1 H) fun x15 => 
  bV (cmpO .eql (eqP x15 .nilPtr)) fun x17 => 
  cnd x17 (bR (noPan (f387 D n [x0, x1, x2] H)) fun x21 H => 
  some (.ret (.tuple []), H))
  (bV (pNil x15) fun x23 => 
  bV (fAd 1 x23) fun x24 => 
  bV (ld1p x24 H) fun x25 => 
  bV (bInt .eql x25 (.int .i64 (.ofNat 2))) fun x27 => 
  jn (cnd x27 (bV (pNil x0) fun x29 => 
  bV (fAd 0 x29) fun x30 => 
  bV (pNil x0) fun x33 => 
  bV (fAd 0 x33) fun x34 => 
  bR (noPan (f388 D n [x30, (.int .i64 (.ofNat 3))] H)) fun x31 H => 
  bR (noPan (f388 D n [x34, (.int .i64 (.ofNat 2))] H)) fun x35 H => 
  bV (bInt .quo x31 x35) fun x36 => 
  bV (mx2 (.int .i64 (.ofNat 1)) x36) fun x37 => 
  bV (pNil x0) fun x40 => 
  bV (fAd 13 x40) fun x41 => 
  bV (ld1p x41 H) fun x42 => 
  bV (pNil x0) fun x44 => 
  bV (fAd 14 x44) fun x45 => 
  bV (ld1p x45 H) fun x46 => 
  bV (bInt .add x46 x37) fun x48 => 
  bV (mn2 x42 x48) fun x49 => 
  bV (pNil x0) fun x50 => 
  bV (fAd 14 x50) fun x51 => 
  bR (stNp 1 x51 x49 H) fun x9999 H => 
  bR (noPan (f389 D n [x0, (.bool false)] H)) fun x53 H => 
  some (.norm [x0, x2, x15], H))
  (bV (bInt .eql x25 (.int .i64 (.ofNat 3))) fun x55 => 
  jn (cnd x55 (bV (pNil x0) fun x57 => 
  bV (fAd 0 x57) fun x58 => 
  bV (pNil x0) fun x61 => 
  bV (fAd 0 x61) fun x62 => 
  bR (noPan (f388 D n [x58, (.int .i64 (.ofNat 2))] H)) fun x59 H => 
  bR (noPan (f388 D n [x62, (.int .i64 (.ofNat 3))] H)) fun x63 H => 
  bV (bInt .quo x59 x63) fun x64 => 
  bV (mx2 (.int .i64 (.ofNat 1)) x64) fun x65 => 
  bV (pNil x0) fun x68 => 
  bV (fAd 14 x68) fun x69 => 
  bV (ld1p x69 H) fun x70 => 
  bV (bInt .sub x70 x65) fun x72 => 
  bV (mx2 (.int .i64 (.ofNat 0)) x72) fun x73 => 
  bV (pNil x0) fun x74 => 
  bV (fAd 14 x74) fun x75 => 
  bR (stNp 1 x75 x73 H) fun x9999_2 H => 
  bR (noPan (f389 D n [x0, (.bool true)] H)) fun x77 H => 
  some (.norm [x0, x2, x15], H))
  (some (.norm [x0, x2, x15], H))) (f365j0 D n))) (f365j1 D n)))
def h365 : Hint := (.s .o (.s (.s .o (.cl (.s .o .o) .o)) (.s (.s .o (.b0 (.s .o (.c [0, 2, 6] (.s .o (.s .o .o)) (.s .o (.c [0, 2, 6] (.s .o (.s .o .o)) .o)))))) (.s .o (.s .o .o)))))
theorem f365_eq (D : Dyn) (n : Nat) : f365 D n = funKp (s365 D n) D n 365 Tryz.f365 h365 := by kernel_rfl
theorem f365_ok {D : Dyn} (hD : DP D) (n : Nat) : FP 365 (f365 D n) := fun_okP X_ok hD (SP.cons (f387_ok hD n) (SP.cons (f388_ok hD n) (SP.cons (f389_ok hD n) (SP.cons (f390_ok hD n) (SP.cons (f391_ok hD n) (SP.nil)))))) Tryz.func365 (by kernel_rfl) (by kernel_rfl) (f365_eq D n)

def s329 (D : Dyn) (n : Nat) : Tb := ⟨X, [(364, f364 D n), (365, f365 D n)]⟩
/-- (*jetty/arc.Cache).Get -/
def f329 (D : Dyn) (n : Nat) (vs : List AV) (H : AH) : Option (AV × AH) :=
  outR (hd vs fun x0 vs => hd vs fun x1 vs => nl vs <|
  bA (bxV 322 (.agg [.pk 512 0])) H fun x4 H => 
  bR (noPan (f364 D n [x0] H)) fun x8 H => 
  cnd x8 (bV (bldAp 1 [.pk 512 0] []) fun x9 => 
  bR (stNp 512 x4 x9 H) fun x9999 H => 
  bV (ldNp 512 x4 H) fun x9004 => bV (some (.int .i64 (.ofNat 2))) fun x5 => some (.ret (.tuple [x9004, x5]), H))
  (bV (pNil x0) fun x11 => 
  bV (fAd 0 x11) fun x12 => 
  bV (fAd 12 x12) fun x13 => 
  bV (ld1p x13 H) fun x14 => 
  bV (lkM [6] .nilPtr false x14 x1 H) fun x16 => 
  bV (cmpO .eql (eqP x16 .nilPtr)) fun x18 => 
  jn (wnt x18 false (bV (pNil x16) fun x21 => 
  bV (fAd 2 x21) fun x22 => 
  bV (ld1p x22 H) fun x23 => 
  bV (cmpO .eql (eqP x23 .nilPtr)) fun x24 => 
  some (.norm [x24], H)) (some (.norm [undefA], H))) fun vs H => hd vs fun x24_2 vs => 
  bV (pk3 (some x18) (some (.bool true)) (some x24_2)) fun x25 => 
  cnd x25 (bV (bldAp 1 [.pk 512 0] []) fun x26 => 
  bR (stNp 512 x4 x26 H) fun x9999_2 H => 
  bV (ldNp 512 x4 H) fun x9004_2 => bV (some (.int .i64 (.ofNat 5))) fun x5_2 => some (.ret (.tuple [x9004_2, x5_2]), H))
  (bV (pNil x16) fun x30 => 
  bV (fAd 2 x30) fun x31 => 
  bV (ld1p x31 H) fun x32 => 
  bR (noPan (f365 D n [x0, x1, x32] H)) fun x33 H => 
  bV (pNil x16) fun x35 => 
  bV (fAd 2 x35) fun x36 => 
  bV (ld1p x36 H) fun x37 => 
  bV (pNil x37) fun x38 => 
  bV (ldNp 512 x38 H) fun x39 => 
  bR (stNp 512 x4 x39 H) fun x9999_3 H => 
  bV (ldNp 512 x4 H) fun x9004_3 => bV (some (.int .i64 (.ofNat 0))) fun x5_3 => some (.ret (.tuple [x9004_3, x5_3]), H))))
def h329 : Hint := (.s .o (.s (.s .o (.cl (.s .o .o) .o)) (.s .o (.s (.s .o (.cl (.s .o .o) .o)) (.s .o (.s .o .o))))))
theorem f329_eq (D : Dyn) (n : Nat) : f329 D n = funKp (s329 D n) D n 329 Tryz.f329 h329 := by kernel_rfl
theorem f329_ok {D : Dyn} (hD : DP D) (n : Nat) : FP 329 (f329 D n) := fun_okP X_ok hD (SP.cons (f364_ok hD n) (SP.cons (f365_ok hD n) (SP.nil))) Tryz.func329 (by kernel_rfl) (by kernel_rfl) (f329_eq D n)

def s220 (D : Dyn) (n : Nat) : Tb := ⟨X, []⟩
def f220l0 (D : Dyn) (n : Nat) (vs : List AV) (H : AH) : Rs :=
  hd vs fun x0_2 vs => hd vs fun x1_2 vs => hd vs fun x7_2 vs => hd vs fun x8 vs => 
  bV (bInt .lss x8 x7_2) fun x9 => 
  cnd x9 (bV (ixStr x1_2 x8) fun x14 => 
  bV (cvI .u64 x14) fun x15 => 
  bV (bInt .xor x0_2 x15) fun x16 => 
  bV (bInt .mul x16 (.int .u64 (.ofNat 1099511628211))) fun x17 => 
  bV (bInt .add x8 (.int .i64 (.ofNat 1))) fun x18 => 
  some (.norm [x17, x1_2, x7_2, x18], H))
  (some (.exit 0 [x0_2], H))
def f220b1 (D : Dyn) (n : Nat) (vs : List AV) (H : AH) : Rs :=
  hd vs fun x0_3 vs => 
  bV (some x0_3) fun x4 => some (.ret x4, H)
/-- jetty/digest.sum[string] -/
def f220 (D : Dyn) (n : Nat) (vs : List AV) (H : AH) : Option (AV × AH) :=
  outR (hd vs fun x0 vs => hd vs fun x1 vs => nl vs <|
  bV (lnStr x1) fun x7 => 
  jb 0 (loopK n (f220l0 D n) [x0, x1, x7, (.int .i64 (.ofNat 0))] H) (f220b1 D n))
def h220 : Hint := (.s .o (.s (.s .o (.b [0] (.l [0, 1, 7, 8] (.s .o (.s (.cr .o .o) (.s (.b0 (.s .o .o)) .o)))))) (.s .o .o)))
theorem f220_eq (D : Dyn) (n : Nat) : f220 D n = funKp (s220 D n) D n 220 Tryz.f220 h220 := by kernel_rfl
theorem f220_ok {D : Dyn} (hD : DP D) (n : Nat) : FP 220 (f220 D n) := fun_okP X_ok hD (SP.nil) Tryz.func220 (by kernel_rfl) (by kernel_rfl) (f220_eq D n)
def m220 (D : Dyn) (n : Nat) (vs : List AV) (H : AH) : Option (AV × AH) := sumK (f220 D n) vs H
theorem m220_ok {D : Dyn} (hD : DP D) (n : Nat) : FP 220 (m220 D n) := sumK_okP (F := f220 D) rfl (fun n => f220_ok hD n) n

def s270 (D : Dyn) (n : Nat) : Tb := ⟨X, [(220, m220 D n)]⟩
/-- jetty/digest.Sum -/
def f270 (D : Dyn) (n : Nat) (vs : List AV) (H : AH) : Option (AV × AH) :=
  outR (hd vs fun x0 vs => nl vs <|
  bR (noPan (m220 D n [(.int .u64 (.ofNat 14695981039346656037)), x0] H)) fun x4 H => 
  bV (some x4) fun x2 => some (.ret x2, H))
def h270 : Hint := (.s .o (.s .o .o))
theorem f270_eq (D : Dyn) (n : Nat) : f270 D n = funKp (s270 D n) D n 270 Tryz.f270 h270 := by kernel_rfl
theorem f270_ok {D : Dyn} (hD : DP D) (n : Nat) : FP 270 (f270 D n) := fun_okP X_ok hD (SP.cons (m220_ok hD n) (SP.nil)) Tryz.func270 (by kernel_rfl) (by kernel_rfl) (f270_eq D n)

def s366 (D : Dyn) (n : Nat) : Tb := ⟨X, [(270, f270 D n)]⟩
/-- jetty/block.Sum -/
def f366 (D : Dyn) (n : Nat) (vs : List AV) (H : AH) : Option (AV × AH) :=
  outR (hd vs fun x0 vs => nl vs <|
  bA (bxV 322 x0) H fun x1 H => 
  bV (slArr 512 1 x1 none none none) fun x3 => 
  bV (cvBSp x3 H) fun x4 => 
  bR (noPan (f270 D n [x4] H)) fun x5 H => 
  bV (some x5) fun x2 => some (.ret x2, H))
def h366 : Hint := (.s .o (.s .o .o))
theorem f366_eq (D : Dyn) (n : Nat) : f366 D n = funKp (s366 D n) D n 366 Tryz.f366 h366 := by kernel_rfl
theorem f366_ok {D : Dyn} (hD : DP D) (n : Nat) : FP 366 (f366 D n) := fun_okP X_ok hD (SP.cons (f270_ok hD n) (SP.nil)) Tryz.func366 (by kernel_rfl) (by kernel_rfl) (f366_eq D n)

def s291 (D : Dyn) (n : Nat) : Tb := ⟨X, []⟩
def f291l0 (D : Dyn) (n : Nat) (vs : List AV) (H : AH) : Rs :=
  hd vs fun x3 vs => hd vs fun x6 vs => hd vs fun x7_2 vs => hd vs fun x8 vs => 
  bV (bInt .lss x8 x7_2) fun x9 => 
  cnd x9 (bV (ixSl 1 x6 x8) fun x10 => 
  bV (ld1p x10 H) fun x11 => 
  bV (bInt .shl x3 (.int .u64 (.ofNat 8))) fun x13 => 
  bV (cvI .u64 x11) fun x15 => 
  bV (bInt .or x13 x15) fun x16 => 
  bV (bInt .add x8 (.int .i64 (.ofNat 1))) fun x17 => 
  some (.norm [x16, x6, x7_2, x17], H))
  (some (.exit 0 [x3], H))
def f291b1 (D : Dyn) (n : Nat) (vs : List AV) (H : AH) : Rs :=
  hd vs fun x3_2 vs => 
  bV (some x3_2) fun x2 => some (.ret x2, H)
/-- jetty/block.get -/
def f291 (D : Dyn) (n : Nat) (vs : List AV) (H : AH) : Option (AV × AH) :=
  outR (hd vs fun x0 vs => nl vs <|
  bV (lnSl x0) fun x7 => 
  jb 0 (loopK n (f291l0 D n) [(.int .u64 (.ofNat 0)), x0, x7, (.int .i64 (.ofNat 0))] H) (f291b1 D n))
def h291 : Hint := (.s .o (.s .o (.s (.s .o (.b [3] (.l [3, 6, 7, 8] (.s .o (.s (.cr .o .o) (.s (.b0 (.s .o .o)) .o)))))) (.s .o .o))))
theorem f291_eq (D : Dyn) (n : Nat) : f291 D n = funKp (s291 D n) D n 291 Tryz.f291 h291 := by kernel_rfl
theorem f291_ok {D : Dyn} (hD : DP D) (n : Nat) : FP 291 (f291 D n) := fun_okP X_ok hD (SP.nil) Tryz.func291 (by kernel_rfl) (by kernel_rfl) (f291_eq D n)

def s210 (D : Dyn) (n : Nat) : Tb := ⟨X, []⟩
def f210l0 (D : Dyn) (n : Nat) (vs : List AV) (H : AH) : Rs :=
  hd vs fun x0_2 vs => hd vs fun x1_2 vs => hd vs fun x6_2 vs => hd vs fun x7 vs => 
  bV (bInt .lss x7 x6_2) fun x8 => 
  cnd x8 (bV (lnSl x0_2) fun x12 => 
  bV (bInt .sub x12 (.int .i64 (.ofNat 1))) fun x13 => 
  bV (bInt .sub x13 x7) fun x15 => 
  bV (bInt .mul (.int .i64 (.ofNat 8)) x7) fun x18 => 
  bV (bInt .shr x1_2 x18) fun x19 => 
  bV (cvI .u8 x19) fun x20 => 
  bV (ixSl 1 x0_2 x15) fun x21 => 
  bR (stNp 1 x21 x20 H) fun x9999 H => 
  bV (bInt .add x7 (.int .i64 (.ofNat 1))) fun x22 => 
  some (.norm [x0_2, x1_2, x6_2, x22], H))
  (some (.exit 0 [], H))
def f210b1 (D : Dyn) (n : Nat) (vs : List AV) (H : AH) : Rs :=
  
  some (.ret (.tuple []), H)
/-- jetty/block.put -/
def f210 (D : Dyn) (n : Nat) (vs : List AV) (H : AH) : Option (AV × AH) :=
  outR (hd vs fun x0 vs => hd vs fun x1 vs => nl vs <|
  bV (lnSl x0) fun x6 => 
  jb 0 (loopK n (f210l0 D n) [x0, x1, x6, (.int .i64 (.ofNat 0))] H) (f210b1 D n))
def h210 : Hint := (.s .o (.b [] (.l [0, 1, 6, 7] (.s .o (.s (.cr .o .o) (.s (.b0 (.s .o .o)) .o))))))
theorem f210_eq (D : Dyn) (n : Nat) : f210 D n = funKp (s210 D n) D n 210 Tryz.f210 h210 := by kernel_rfl
theorem f210_ok {D : Dyn} (hD : DP D) (n : Nat) : FP 210 (f210 D n) := fun_okP X_ok hD (SP.nil) Tryz.func210 (by kernel_rfl) (by kernel_rfl) (f210_eq D n)

def s343 (D : Dyn) (n : Nat) : Tb := ⟨X, [(210, f210 D n)]⟩
/-- jetty/block.Seal -/
def f343 (D : Dyn) (n : Nat) (vs : List AV) (H : AH) : Option (AV × AH) :=
  outR (hd vs fun x0 vs => hd vs fun x1 vs => hd vs fun x2 vs => nl vs <|
  bA (bxV 322 (.agg [.pk 512 0])) H fun x6 H => 
  bV (bInt .lss x1 (.int .i64 (.ofNat 0))) fun x10 => 
  jn (wnt x10 false (bV (bInt .gtr x1 (.int .i64 (.ofNat 2147483647))) fun x13 => 
  some (.norm [x13], H)) (some (.norm [undefA], H))) fun vs H => hd vs fun x13_2 vs => 
  bV (pk3 (some x10) (some (.bool true)) (some x13_2)) fun x14 => 
  cnd x14 (bV (bldAp 1 [.pk 512 0] []) fun x15 => 
  bR (stNp 512 x6 x15 H) fun x9999 H => 
  bV (ldNp 512 x6 H) fun x9006 => bV (some (.int .i64 (.ofNat 1))) fun x7 => some (.ret (.tuple [x9006, x7]), H))
  (bV (lnStr x2) fun x17 => 
  bV (bInt .gtr x17 (.int .i64 (.ofNat 500))) fun x18 => 
  cnd x18 (bV (bldAp 1 [.pk 512 0] []) fun x19 => 
  bR (stNp 512 x6 x19 H) fun x9999_2 H => 
  bV (ldNp 512 x6 H) fun x9006_2 => bV (some (.int .i64 (.ofNat 40))) fun x7_2 => some (.ret (.tuple [x9006_2, x7_2]), H))
  (bA (bxV 322 (.agg [.pk 512 0])) H fun x8 H => 
  bV (slArr 512 1 x8 none none none) fun x20 => 
  bR (cpyp 1 x20 (.str 4 2037675114) H) fun x21 H => 
  bV (ixArr 512 1 x8 (.int .i64 (.ofNat 4))) fun x23 => 
  bR (stNp 1 x23 x0 H) fun x9999_3 H => 
  bV (slArr 512 1 x8 (some (.int .i64 (.ofNat 6))) (some (.int .i64 (.ofNat 8))) none) fun x24 => 
  bV (lnStr x2) fun x26 => 
  bV (cvI .u64 x26) fun x27 => 
  bR (noPan (f210 D n [x24, x27] H)) fun x28 H => 
  bV (slArr 512 1 x8 (some (.int .i64 (.ofNat 8))) (some (.int .i64 (.ofNat 12))) none) fun x29 => 
  bV (cvI .u64 x1) fun x31 => 
  bR (noPan (f210 D n [x29, x31] H)) fun x32 H => 
  bV (slArr 512 1 x8 (some (.int .i64 (.ofNat 12))) none none) fun x33 => 
  bR (cpyp 1 x33 x2 H) fun x35 H => 
  bV (ldNp 512 x8 H) fun x36 => 
  bR (stNp 512 x6 x36 H) fun x9999_4 H => 
  bV (ldNp 512 x6 H) fun x9006_3 => bV (some (.int .i64 (.ofNat 0))) fun x7_3 => some (.ret (.tuple [x9006_3, x7_3]), H))))
def h343 : Hint := (.s .o (.s (.s .o (.cl (.s .o .o) .o)) (.s (.s .o (.cl (.s .o .o) .o)) (.s .o (.s .o (.s .o (.s .o (.s .o (.s .o (.s .o .o))))))))))
theorem f343_eq (D : Dyn) (n : Nat) : f343 D n = funKp (s343 D n) D n 343 Tryz.f343 h343 := by kernel_rfl
theorem f343_ok {D : Dyn} (hD : DP D) (n : Nat) : FP 343 (f343 D n) := fun_okP X_ok hD (SP.cons (f210_ok hD n) (SP.nil)) Tryz.func343 (by kernel_rfl) (by kernel_rfl) (f343_eq D n)

def s345 (D : Dyn) (n : Nat) : Tb := ⟨X, [(291, f291 D n), (343, f343 D n)]⟩
/-- jetty/block.Open -/
def f345 (D : Dyn) (n : Nat) (vs : List AV) (H : AH) : Option (AV × AH) :=
  outR (hd vs fun x0 vs => nl vs <|
  bA (bxV 322 x0) H fun x1 H => 
  bV (slArr 512 1 x1 (some (.int .i64 (.ofNat 6))) (some (.int .i64 (.ofNat 8))) none) fun x8 => 
  bR (noPan (f291 D n [x8] H)) fun x9 H => 
  bV (bInt .gtr x9 (.int .u64 (.ofNat 500))) fun x11 => 
  cnd x11 (bV (some (.int .u8 (.ofNat 0))) fun x2 => bV (some (.int .i64 (.ofNat 0))) fun x3 => bV (some (.str 0 0)) fun x4 => bV (some (.int .i64 (.ofNat 4))) fun x5 => some (.ret (.tuple [x2, x3, x4, x5]), H))
  (bV (ixArr 512 1 x1 (.int .i64 (.ofNat 4))) fun x12 => 
  bV (ld1p x12 H) fun x13 => 
  bV (slArr 512 1 x1 (some (.int .i64 (.ofNat 8))) (some (.int .i64 (.ofNat 12))) none) fun x14 => 
  bR (noPan (f291 D n [x14] H)) fun x15 H => 
  bV (cvI .i64 x15) fun x16 => 
  bV (bInt .add (.int .u64 (.ofNat 12)) x9) fun x18 => 
  bV (slArr 512 1 x1 (some (.int .i64 (.ofNat 12))) (some x18) none) fun x19 => 
  bV (cvBSp x19 H) fun x20 => 
  bR (noPan (f343 D n [x13, x16, x20] H)) fun x25 H => 
  bV (pExtract x25 0) fun x26 => 
  bV (pExtract x25 1) fun x27 => 
  bA (bxV 322 (.agg [.pk 512 0])) H fun x7 H => 
  bR (stNp 512 x7 x26 H) fun x9999 H => 
  bV (bInt .neq x27 (.int .i64 (.ofNat 0))) fun x29 => 
  jn (wnt x29 false (bV (ldNp 512 x7 H) fun x31 => 
  bV (ldNp 512 x1 H) fun x32 => 
  bV (cmpO .neq (eqAp [(7, 512)] x31 x32)) fun x33 => 
  some (.norm [x33], H)) (some (.norm [undefA], H))) fun vs H => hd vs fun x33_2 vs => 
  bV (pk3 (some x29) (some (.bool true)) (some x33_2)) fun x34 => 
  cnd x34 (bV (some (.int .u8 (.ofNat 0))) fun x2_2 => bV (some (.int .i64 (.ofNat 0))) fun x3_2 => bV (some (.str 0 0)) fun x4_2 => bV (some (.int .i64 (.ofNat 4))) fun x5_2 => some (.ret (.tuple [x2_2, x3_2, x4_2, x5_2]), H))
  (bV (some x13) fun x2_3 => bV (some x16) fun x3_3 => bV (some x20) fun x4_3 => bV (some (.int .i64 (.ofNat 0))) fun x5_3 => some (.ret (.tuple [x2_3, x3_3, x4_3, x5_3]), H))))
def h345 : Hint := (.s .o (.s .o (.s (.s .o (.cl (.s .o .o) .o)) (.s .o (.s .o (.s .o (.s .o (.s (.s .o (.cl (.s .o .o) .o)) (.s .o .o)))))))))
theorem f345_eq (D : Dyn) (n : Nat) : f345 D n = funKp (s345 D n) D n 345 Tryz.f345 h345 := by kernel_rfl
theorem f345_ok {D : Dyn} (hD : DP D) (n : Nat) : FP 345 (f345 D n) := fun_okP X_ok hD (SP.cons (f291_ok hD n) (SP.cons (f343_ok hD n) (SP.nil))) Tryz.func345 (by kernel_rfl) (by kernel_rfl) (f345_eq D n)

def s330 (D : Dyn) (n : Nat) : Tb := ⟨X, [(366, f366 D n), (345, f345 D n)]⟩
/-- jetty/block.Check -/
def f330 (D : Dyn) (n : Nat) (vs : List AV) (H : AH) : Option (AV × AH) :=
  outR (hd vs fun x0 vs => hd vs fun x1 vs => nl vs <|
  bA (bxV 119 x0) H fun x2 H => 
  bA (bxV 322 x1) H fun x3 H => 
  bV (fAd 0 x2) fun x8 => 
  bV (ld1p x8 H) fun x9 => 
  bV (bInt .eql x9 (.int .i64 (.ofNat 0))) fun x10 => 
  jn (wnt x10 false (bV (ldNp 512 x3 H) fun x12 => 
  bV (fAd 2 x2) fun x14 => 
  bV (ld1p x14 H) fun x15 => 
  bR (noPan (f366 D n [x12] H)) fun x13 H => chk (ld1p x14 H) x15 <| 
  bV (bInt .neq x13 x15) fun x16 => 
  some (.norm [x16], H)) (some (.norm [undefA], H))) fun vs H => hd vs fun x16_2 vs => 
  bV (pk3 (some x10) (some (.bool true)) (some x16_2)) fun x17 => 
  cnd x17 (bV (some (.int .u8 (.ofNat 0))) fun x4 => bV (some (.str 0 0)) fun x5 => bV (some (.int .i64 (.ofNat 52))) fun x6 => some (.ret (.tuple [x4, x5, x6]), H))
  (bV (ldNp 512 x3 H) fun x19 => 
  bR (noPan (f345 D n [x19] H)) fun x20 H => 
  bV (pExtract x20 0) fun x21 => 
  bV (pExtract x20 1) fun x22 => 
  bV (pExtract x20 2) fun x23 => 
  bV (pExtract x20 3) fun x24 => 
  bV (bInt .neq x24 (.int .i64 (.ofNat 0))) fun x26 => 
  cnd x26 (bV (some (.int .u8 (.ofNat 0))) fun x4_2 => bV (some (.str 0 0)) fun x5_2 => bV (some x24) fun x6_2 => some (.ret (.tuple [x4_2, x5_2, x6_2]), H))
  (bV (fAd 1 x2) fun x29 => 
  bV (ld1p x29 H) fun x30 => 
  bV (bInt .neq x22 x30) fun x31 => 
  cnd x31 (bV (some (.int .u8 (.ofNat 0))) fun x4_3 => bV (some (.str 0 0)) fun x5_3 => bV (some (.int .i64 (.ofNat 52))) fun x6_3 => some (.ret (.tuple [x4_3, x5_3, x6_3]), H))
  (bV (some x21) fun x4_4 => bV (some x23) fun x5_4 => bV (some (.int .i64 (.ofNat 0))) fun x6_4 => some (.ret (.tuple [x4_4, x5_4, x6_4]), H)))))
def h330 : Hint := (.s .o (.s (.s .o (.cl (.s .o .o) .o)) (.s .o (.s (.s .o (.cl (.s .o .o) .o)) (.s (.s .o (.cl (.s .o .o) .o)) (.s .o .o))))))
theorem f330_eq (D : Dyn) (n : Nat) : f330 D n = funKp (s330 D n) D n 330 Tryz.f330 h330 := by kernel_rfl
theorem f330_ok {D : Dyn} (hD : DP D) (n : Nat) : FP 330 (f330 D n) := fun_okP X_ok hD (SP.cons (f366_ok hD n) (SP.cons (f345_ok hD n) (SP.nil))) Tryz.func330 (by kernel_rfl) (by kernel_rfl) (f330_eq D n)

def s223 (D : Dyn) (n : Nat) : Tb := ⟨X, []⟩
/-- (*jetty/disk.Disk).ask -/
def f223 (D : Dyn) (n : Nat) (vs : List AV) (H : AH) : Option (AV × AH) :=
  outR (hd vs fun x0 vs => nl vs <|
  bV (cmpO .eql (eqP x0 .nilPtr)) fun x4 => 
  cnd x4 (bV (some (.int .i64 (.ofNat 2))) fun x2 => some (.ret x2, H))
  (bV (pNil x0) fun x6 => 
  bV (fAd 6 x6) fun x7 => 
  bV (ld1p x7 H) fun x8 => 
  cnd x8 (bV (some (.int .i64 (.ofNat 51))) fun x2_2 => some (.ret x2_2, H))
  (bV (some (.int .i64 (.ofNat 0))) fun x2_3 => some (.ret x2_3, H))))
def h223 : Hint := (.s .o (.s (.s .o (.cl (.s .o .o) .o)) (.s (.s .o (.cl (.s .o .o) .o)) (.s .o .o))))
theorem f223_eq (D : Dyn) (n : Nat) : f223 D n = funKp (s223 D n) D n 223 Tryz.f223 h223 := by kernel_rfl
theorem f223_ok {D : Dyn} (hD : DP D) (n : Nat) : FP 223 (f223 D n) := fun_okP X_ok hD (SP.nil) Tryz.func223 (by kernel_rfl) (by kernel_rfl) (f223_eq D n)

def s344 (D : Dyn) (n : Nat) : Tb := ⟨X, [(223, f223 D n)]⟩
/-- (*jetty/disk.Disk).askAt -/
def f344 (D : Dyn) (n : Nat) (vs : List AV) (H : AH) : Option (AV × AH) :=
  outR (hd vs fun x0 vs => hd vs fun x1 vs => nl vs <|
  bR (noPan (f223 D n [x0] H)) fun x7 H => 
  bV (bInt .neq x7 (.int .i64 (.ofNat 0))) fun x9 => 
  cnd x9 (bV (some x7) fun x4 => some (.ret x4, H))
  (bV (bInt .lss x1 (.int .i64 (.ofNat 0))) fun x12 => 
  jn (wnt x12 false (bV (pNil x0) fun x16 => 
  bV (fAd 0 x16) fun x17 => 
  bV (ld1p x17 H) fun x18 => 
  bV (bInt .geq x1 x18) fun x19 => 
  some (.norm [x19], H)) (some (.norm [undefA], H))) fun vs H => hd vs fun x19_2 vs => 
  bV (pk3 (some x12) (some (.bool true)) (some x19_2)) fun x20 => 
  cnd x20 (bV (some (.int .i64 (.ofNat 1))) fun x4_2 => some (.ret x4_2, H))
  (bV (some (.int .i64 (.ofNat 0))) fun x4_3 => some (.ret x4_3, H))))
def h344 : Hint := (.s .o (.s (.s .o (.s .o (.cl (.s .o .o) .o))) (.s (.s .o (.cl (.s .o .o) .o)) (.s .o .o))))
theorem f344_eq (D : Dyn) (n : Nat) : f344 D n = funKp (s344 D n) D n 344 Tryz.f344 h344 := by kernel_rfl
theorem f344_ok {D : Dyn} (hD : DP D) (n : Nat) : FP 344 (f344 D n) := fun_okP X_ok hD (SP.cons (f223_ok hD n) (SP.nil)) Tryz.func344 (by kernel_rfl) (by kernel_rfl) (f344_eq D n)

def s289 (D : Dyn) (n : Nat) : Tb := ⟨X, [(344, f344 D n)]⟩
/-- (*jetty/disk.Disk).Read -/
def f289 (D : Dyn) (n : Nat) (vs : List AV) (H : AH) : Option (AV × AH) :=
  outR (hd vs fun x0 vs => hd vs fun x1 vs => nl vs <|
  bA (bxV 322 (.agg [.pk 512 0])) H fun x4 H => 
  bR (noPan (f344 D n [x0, x1] H)) fun x11 H => 
  bV (bInt .neq x11 (.int .i64 (.ofNat 0))) fun x13 => 
  cnd x13 (bV (bldAp 1 [.pk 512 0] []) fun x14 => 
  bR (stNp 512 x4 x14 H) fun x9999 H => 
  bV (ldNp 512 x4 H) fun x9004 => bV (some x11) fun x5 => some (.ret (.tuple [x9004, x5]), H))
  (bV (pNil x0) fun x18 => 
  bV (fAd 3 x18) fun x19 => 
  bV (ld1p x19 H) fun x20 => 
  bV (lkM [6] (.int .i64 (.ofNat 0)) true x20 x1 H) fun x22 => 
  bV (pExtract x22 0) fun x23 => 
  bV (pExtract x22 1) fun x24 => 
  cnd x24 (bV (pNil x0) fun x27 => 
  bV (fAd 2 x27) fun x28 => 
  bV (ld1p x28 H) fun x29 => 
  bV (ixSl 513 x29 x23) fun x31 => 
  bV (fAd 1 x31) fun x32 => 
  bV (ldNp 512 x32 H) fun x33 => 
  bR (stNp 512 x4 x33 H) fun x9999_2 H => 
  bV (ldNp 512 x4 H) fun x9004_2 => bV (some (.int .i64 (.ofNat 0))) fun x5_2 => some (.ret (.tuple [x9004_2, x5_2]), H))
  (bV (pNil x0) fun x35 => 
  bV (fAd 1 x35) fun x36 => 
  bV (ld1p x36 H) fun x37 => 
  bV (lkM [6] (.agg [.pk 512 0]) false x37 x1 H) fun x39 => 
  bR (stNp 512 x4 x39 H) fun x9999_3 H => 
  bV (ldNp 512 x4 H) fun x9004_3 => bV (some (.int .i64 (.ofNat 0))) fun x5_3 => some (.ret (.tuple [x9004_3, x5_3]), H))))
def h289 : Hint := (.s .o (.s (.s .o (.s .o (.cl (.s .o .o) .o))) (.s (.s .o (.s .o (.cl (.s .o .o) .o))) (.s .o .o))))
theorem f289_eq (D : Dyn) (n : Nat) : f289 D n = funKp (s289 D n) D n 289 Tryz.f289 h289 := by kernel_rfl
theorem f289_ok {D : Dyn} (hD : DP D) (n : Nat) : FP 289 (f289 D n) := fun_okP X_ok hD (SP.cons (f344_ok hD n) (SP.nil)) Tryz.func289 (by kernel_rfl) (by kernel_rfl) (f289_eq D n)

def s331 (D : Dyn) (n : Nat) : Tb := ⟨X, [(364, f364 D n), (365, f365 D n)]⟩
/-- (*jetty/arc.Cache).Put -/
def f331 (D : Dyn) (n : Nat) (vs : List AV) (H : AH) : Option (AV × AH) :=
  outR (hd vs fun x0 vs => hd vs fun x1 vs => hd vs fun x2 vs => nl vs <|
  bA (bxV 322 x2) H fun x5 H => 
  bR (noPan (f364 D n [x0] H)) fun x8 H => 
  cnd x8 (bV (some (.int .i64 (.ofNat 2))) fun x6 => some (.ret x6, H))
  (bR (noPan (f365 D n [x0, x1, x5] H)) fun x11 H => 
  bV (some (.int .i64 (.ofNat 0))) fun x6_2 => some (.ret x6_2, H)))
def h331 : Hint := (.s .o (.s (.s .o (.cl (.s .o .o) .o)) (.s .o (.s .o .o))))
theorem f331_eq (D : Dyn) (n : Nat) : f331 D n = funKp (s331 D n) D n 331 Tryz.f331 h331 := by kernel_rfl
theorem f331_ok {D : Dyn} (hD : DP D) (n : Nat) : FP 331 (f331 D n) := fun_okP X_ok hD (SP.cons (f364_ok hD n) (SP.cons (f365_ok hD n) (SP.nil))) Tryz.func331 (by kernel_rfl) (by kernel_rfl) (f331_eq D n)

def s278 (D : Dyn) (n : Nat) : Tb := ⟨X, [(329, f329 D n), (330, f330 D n), (289, f289 D n), (331, f331 D n)]⟩
def f278j0 (D : Dyn) (n : Nat) (vs : List AV) (H : AH) : Rs :=
  hd vs fun x0_2 vs => hd vs fun x3_2 vs => 
  some (.norm [x0_2, x3_2], H)
def f278j1 (D : Dyn) (n : Nat) (vs : List AV) (H : AH) : Rs :=
  hd vs fun x14 vs => hd vs fun x15 vs => 
  bV (some x14) fun x4_4 => bV (some x15) fun x5_4 => bV (some (.int .i64 (.ofNat 0))) fun x6_4 => some (.ret (.tuple [x4_4, x5_4, x6_4]), H)
def f278j2 (D : Dyn) (n : Nat) (vs : List AV) (H : AH) : Rs :=
  hd vs fun x0_3 vs => hd vs fun x3_3 vs => 
  bV (pNil x0_3) fun x46 => 
  bV (fAd 0 x46) fun x47 => 
  bV (ld1p x47 H) fun x48 => 
  bV (fAd 0 x3_3) fun x49 => 
  bV (ld1p x49 H) fun x50 => 
  bA (bxV 322 (.agg [.pk 512 0])) H fun x12 H => 
  bR (noPan (f289 D n [x48, x50] H)) fun x51 H => 
  bV (pExtract x51 0) fun x52 => 
  bV (pExtract x51 1) fun x53 => 
  bR (stNp 512 x12 x52 H) fun x9999_2 H => 
  bV (bInt .neq x53 (.int .i64 (.ofNat 0))) fun x55 => 
  cnd x55 (bV (some (.int .u8 (.ofNat 0))) fun x4_2 => bV (some (.str 0 0)) fun x5_2 => bV (some x53) fun x6_2 => some (.ret (.tuple [x4_2, x5_2, x6_2]), H))
  (bV (ldNp 3 x3_3 H) fun x58 => 
  bV (ldNp 512 x12 H) fun x59 => 
  bR (noPan (f330 D n [x58, x59] H)) fun x60 H => 
  bV (pExtract x60 0) fun x61 => 
  bV (pExtract x60 1) fun x62 => 
  bV (pExtract x60 2) fun x63 => 
  bV (bInt .neq x63 (.int .i64 (.ofNat 0))) fun x65 => 
  cnd x65 (bV (some (.int .u8 (.ofNat 0))) fun x4_3 => bV (some (.str 0 0)) fun x5_3 => bV (some x63) fun x6_3 => some (.ret (.tuple [x4_3, x5_3, x6_3]), H))
  (bV (pNil x0_3) fun x68 => 
  bV (fAd 1 x68) fun x69 => 
  bV (ld1p x69 H) fun x70 => 
  bV (cmpO .neq (eqP x70 .nilPtr)) fun x71 => 
  jn (cnd x71 (bV (pNil x0_3) fun x73 => 
  bV (fAd 1 x73) fun x74 => 
  bV (ld1p x74 H) fun x75 => 
  bV (fAd 0 x3_3) fun x76 => 
  bV (ld1p x76 H) fun x77 => 
  bV (ldNp 512 x12 H) fun x78 => 
  bR (noPan (f331 D n [x75, x77, x78] H)) fun x79 H => 
  some (.norm [x61, x62], H))
  (some (.norm [x61, x62], H))) (f278j1 D n)))
/-- (*jetty/tree.Tree).body -/
def f278 (D : Dyn) (n : Nat) (vs : List AV) (H : AH) : Option (AV × AH) :=
  outR (hd vs fun x0 vs => hd vs fun x1 vs => nl vs <|
  bA (bxV 119 x1) H fun x3 H => 
  bV (pNil x0) fun x17 => 
  bV (fAd 1 x17) fun x18 => 
  bV (ld1p x18 H) fun x19 => 
  bV (cmpO .neq (eqP x19 .nilPtr)) fun x20 => 
  jn (cnd x20 (bV (pNil x0) fun x23 => 
  bV (fAd 1 x23) fun x24 => 
  bV (ld1p x24 H) fun x25 => 
  bV (fAd 0 x3) fun x26 => 
  bV (ld1p x26 H) fun x27 => 
  bA (bxV 322 (.agg [.pk 512 0])) H fun x7 H => 
  bR (noPan (f329 D n [x25, x27] H)) fun x28 H => 
  bV (pExtract x28 0) fun x29 => 
  bV (pExtract x28 1) fun x30 => 
  bR (stNp 512 x7 x29 H) fun x9999 H => 
  bV (bInt .eql x30 (.int .i64 (.ofNat 0))) fun x32 => 
  jn (cnd x32 (bV (ldNp 3 x3 H) fun x34 => 
  bV (ldNp 512 x7 H) fun x35 => 
  bR (noPan (f330 D n [x34, x35] H)) fun x36 H => 
  bV (pExtract x36 0) fun x37 => 
  bV (pExtract x36 1) fun x38 => 
  bV (pExtract x36 2) fun x39 => 
  bV (bInt .eql x39 (.int .i64 (.ofNat 0))) fun x41 => 
  cnd x41 (bV (some x37) fun x4 => bV (some x38) fun x5 => bV (some (.int .i64 (.ofNat 0))) fun x6 => some (.ret (.tuple [x4, x5, x6]), H))
  (some (.norm [x0, x3], H)))
  (some (.norm [x0, x3], H))) (f278j0 D n))
  (some (.norm [x0, x3], H))) (f278j2 D n))
def h278 : Hint := (.s .o (.s (.s .o (.c [0, 3] (.s .o (.s .o (.c [0, 3] (.s .o (.s .o (.cl (.s .o .o) .o))) .o))) .o)) (.s .o (.s (.s .o (.cl (.s .o .o) .o)) (.s .o (.s (.s .o (.cl (.s .o .o) .o)) (.s (.s .o (.c [14, 15] .o .o)) (.s .o .o))))))))
theorem f278_eq (D : Dyn) (n : Nat) : f278 D n = funKp (s278 D n) D n 278 Tryz.f278 h278 := by kernel_rfl
theorem f278_ok {D : Dyn} (hD : DP D) (n : Nat) : FP 278 (f278 D n) := fun_okP X_ok hD (SP.cons (f329_ok hD n) (SP.cons (f330_ok hD n) (SP.cons (f289_ok hD n) (SP.cons (f331_ok hD n) (SP.nil))))) Tryz.func278 (by kernel_rfl) (by kernel_rfl) (f278_eq D n)

def s332 (D : Dyn) (n : Nat) : Tb := ⟨X, []⟩
/-- (*jetty/node.reader).take -/
def f332 (D : Dyn) (n : Nat) (vs : List AV) (H : AH) : Option (AV × AH) :=
  outR (hd vs fun x0 vs => hd vs fun x1 vs => nl vs <|
  bV (pNil x0) fun x7 => 
  bV (fAd 1 x7) fun x8 => 
  bV (ld1p x8 H) fun x9 => 
  jn (wnt x9 false (bV (pNil x0) fun x12 => 
  bV (fAd 0 x12) fun x13 => 
  bV (ld1p x13 H) fun x14 => 
  bV (lnStr x14) fun x15 => 
  bV (bInt .lss x15 x1) fun x17 => 
  some (.norm [x17], H)) (some (.norm [undefA], H))) fun vs H => hd vs fun x17_2 vs => 
  bV (pk3 (some x9) (some (.bool true)) (some x17_2)) fun x18 => 
  cnd x18 (bV (pNil x0) fun x20 => 
  bV (fAd 1 x20) fun x21 => 
  bR (stNp 1 x21 (.bool true) H) fun x9999 H => 
  bV (some (.str 0 0)) fun x4 => some (.ret x4, H))
  (bV (pNil x0) fun x23 => 
  bV (fAd 0 x23) fun x24 => 
  bV (ld1p x24 H) fun x25 => 
  bV (slStr x25 none (some x1)) fun x27 => 
  bV (pNil x0) fun x30 => 
  bV (fAd 0 x30) fun x31 => 
  bV (ld1p x31 H) fun x32 => 
  bV (slStr x32 (some x1) none) fun x34 => 
  bV (pNil x0) fun x35 => 
  bV (fAd 0 x35) fun x36 => 
  bR (stNp 1 x36 x34 H) fun x9999_2 H => 
  bV (some x27) fun x4_2 => some (.ret x4_2, H)))
def h332 : Hint := (.s .o (.s (.s .o (.cl (.s .o (.s .o .o)) .o)) (.s .o (.s .o (.s .o .o)))))
theorem f332_eq (D : Dyn) (n : Nat) : f332 D n = funKp (s332 D n) D n 332 Tryz.f332 h332 := by kernel_rfl
theorem f332_ok {D : Dyn} (hD : DP D) (n : Nat) : FP 332 (f332 D n) := fun_okP X_ok hD (SP.nil) Tryz.func332 (by kernel_rfl) (by kernel_rfl) (f332_eq D n)

def s209 (D : Dyn) (n : Nat) : Tb := ⟨X, []⟩
/-- jetty/block.may -/
def f209 (D : Dyn) (n : Nat) (vs : List AV) (H : AH) : Option (AV × AH) :=
  outR (hd vs fun x0 vs => nl vs <|
  bA (bxV 119 x0) H fun x1 H => 
  bV (fAd 0 x1) fun x3 => 
  bV (ld1p x3 H) fun x4 => 
  bV (bInt .eql x4 (.int .i64 (.ofNat 0))) fun x5 => 
  cnd x5 (bV (ldNp 3 x1 H) fun x6 => 
  bV (bldSp [(0, 1), (1, 1), (2, 1)] [(.int .i64 (.ofNat 0)), (.int .i64 (.ofNat 0)), (.int .u64 (.ofNat 0))] []) fun x7 => 
  bV (cmpO .eql (eqAp [(6, 2), (10, 1)] x6 x7)) fun x8 => 
  bV (some x8) fun x2 => some (.ret x2, H))
  (bV (fAd 0 x1) fun x9 => 
  bV (ld1p x9 H) fun x10 => 
  bV (bInt .gtr x10 (.int .i64 (.ofNat 0))) fun x11 => 
  jn (wnt x11 true (bV (fAd 0 x1) fun x13 => 
  bV (ld1p x13 H) fun x14 => 
  bV (bInt .lss x14 (.int .i64 (.ofNat 8192))) fun x15 => 
  some (.norm [x15], H)) (some (.norm [undefA], H))) fun vs H => hd vs fun x15_2 vs => 
  bV (pk3 (some x11) (some x15_2) (some (.bool false))) fun x16 => 
  jn (wnt x16 true (bV (fAd 1 x1) fun x18 => 
  bV (ld1p x18 H) fun x19 => 
  bV (bInt .geq x19 (.int .i64 (.ofNat 0))) fun x20 => 
  some (.norm [x20], H)) (some (.norm [undefA], H))) fun vs H => hd vs fun x20_2 vs => 
  bV (pk3 (some x16) (some x20_2) (some (.bool false))) fun x21 => 
  jn (wnt x21 true (bV (fAd 1 x1) fun x23 => 
  bV (ld1p x23 H) fun x24 => 
  bV (bInt .leq x24 (.int .i64 (.ofNat 2147483647))) fun x25 => 
  some (.norm [x25], H)) (some (.norm [undefA], H))) fun vs H => hd vs fun x25_2 vs => 
  bV (pk3 (some x21) (some x25_2) (some (.bool false))) fun x26 => 
  bV (some x26) fun x2_2 => some (.ret x2_2, H)))
def h209 : Hint := (.s .o (.s (.s .o (.cl (.s .o .o) .o)) (.s .o .o)))
theorem f209_eq (D : Dyn) (n : Nat) : f209 D n = funKp (s209 D n) D n 209 Tryz.f209 h209 := by kernel_rfl
theorem f209_ok {D : Dyn} (hD : DP D) (n : Nat) : FP 209 (f209 D n) := fun_okP X_ok hD (SP.nil) Tryz.func209 (by kernel_rfl) (by kernel_rfl) (f209_eq D n)

def s227 (D : Dyn) (n : Nat) : Tb := ⟨X, [(291, f291 D n), (209, f209 D n)]⟩
/-- jetty/block.Decode -/
def f227 (D : Dyn) (n : Nat) (vs : List AV) (H : AH) : Option (AV × AH) :=
  outR (hd vs fun x0 vs => nl vs <|
  bA (bxV 119 (.agg [(.int .i64 (.ofNat 0)), (.int .i64 (.ofNat 0)), (.int .u64 (.ofNat 0))])) H fun x2 H => 
  bV (lnStr x0) fun x7 => 
  bV (bInt .neq x7 (.int .i64 (.ofNat 16))) fun x8 => 
  cnd x8 (bV (bldSp [(0, 1), (1, 1), (2, 1)] [(.int .i64 (.ofNat 0)), (.int .i64 (.ofNat 0)), (.int .u64 (.ofNat 0))] []) fun x9 => 
  bR (stNp 3 x2 x9 H) fun x9999 H => 
  bV (ldNp 3 x2 H) fun x9002 => bV (some (.int .i64 (.ofNat 4))) fun x3 => some (.ret (.tuple [x9002, x3]), H))
  (bA (cvSBp 5 x0) H fun x11 H => 
  bV (s2a 16 x11) fun x12 => 
  bV (ldNp 16 x12 H) fun x13 => 
  bA (bxV 307 (.agg [.pk 16 0])) H fun x4 H => 
  bR (stNp 16 x4 x13 H) fun x9999_2 H => 
  bV (slArr 16 1 x4 none (some (.int .i64 (.ofNat 4))) none) fun x14 => 
  bV (slArr 16 1 x4 (some (.int .i64 (.ofNat 4))) (some (.int .i64 (.ofNat 8))) none) fun x17 => 
  bV (slArr 16 1 x4 (some (.int .i64 (.ofNat 8))) none none) fun x20 => 
  bA (bxV 119 (.agg [(.int .i64 (.ofNat 0)), (.int .i64 (.ofNat 0)), (.int .u64 (.ofNat 0))])) H fun x5 H => 
  bR (noPan (f291 D n [x14] H)) fun x15 H => 
  bV (cvI .i64 x15) fun x16 => 
  bR (noPan (f291 D n [x17] H)) fun x18 H => 
  bV (cvI .i64 x18) fun x19 => 
  bR (noPan (f291 D n [x20] H)) fun x21 H => 
  bV (bldSp [(0, 1), (1, 1), (2, 1)] [(.int .i64 (.ofNat 0)), (.int .i64 (.ofNat 0)), (.int .u64 (.ofNat 0))] [(0, x16), (1, x19), (2, x21)]) fun x22 => 
  bR (stNp 3 x5 x22 H) fun x9999_3 H => 
  bV (ldNp 3 x5 H) fun x23 => 
  bR (noPan (f209 D n [x23] H)) fun x24 H => 
  bV (aun .not x24) fun x25 => 
  cnd x25 (bV (bldSp [(0, 1), (1, 1), (2, 1)] [(.int .i64 (.ofNat 0)), (.int .i64 (.ofNat 0)), (.int .u64 (.ofNat 0))] []) fun x26 => 
  bR (stNp 3 x2 x26 H) fun x9999_4 H => 
  bV (ldNp 3 x2 H) fun x9002_2 => bV (some (.int .i64 (.ofNat 4))) fun x3_2 => some (.ret (.tuple [x9002_2, x3_2]), H))
  (bV (ldNp 3 x5 H) fun x27 => 
  bR (stNp 3 x2 x27 H) fun x9999_5 H => 
  bV (ldNp 3 x2 H) fun x9002_3 => bV (some (.int .i64 (.ofNat 0))) fun x3_3 => some (.ret (.tuple [x9002_3, x3_3]), H))))
def h227 : Hint := (.s .o (.s (.s .o (.cl (.s .o .o) .o)) (.s .o (.s .o (.s (.s .o (.cl (.s .o .o) .o)) (.s .o .o))))))
theorem f227_eq (D : Dyn) (n : Nat) : f227 D n = funKp (s227 D n) D n 227 Tryz.f227 h227 := by kernel_rfl
theorem f227_ok {D : Dyn} (hD : DP D) (n : Nat) : FP 227 (f227 D n) := fun_okP X_ok hD (SP.cons (f291_ok hD n) (SP.cons (f209_ok hD n) (SP.nil))) Tryz.func227 (by kernel_rfl) (by kernel_rfl) (f227_eq D n)

def s334 (D : Dyn) (n : Nat) : Tb := ⟨X, [(332, f332 D n), (227, f227 D n)]⟩
/-- (*jetty/node.reader).kid -/
def f334 (D : Dyn) (n : Nat) (vs : List AV) (H : AH) : Option (AV × AH) :=
  outR (hd vs fun x0 vs => nl vs <|
  bR (noPan (f332 D n [x0, (.int .i64 (.ofNat 16))] H)) fun x6 H => 
  bV (pNil x0) fun x8 => 
  bV (fAd 1 x8) fun x9 => 
  bV (ld1p x9 H) fun x10 => 
  cnd x10 (some (.ret (.tuple []), H))
  (bR (noPan (f227 D n [x6] H)) fun x13 H => 
  bV (pExtract x13 0) fun x14 => 
  bV (pExtract x13 1) fun x15 => 
  bA (bxV 119 (.agg [(.int .i64 (.ofNat 0)), (.int .i64 (.ofNat 0)), (.int .u64 (.ofNat 0))])) H fun x3 H => 
  bR (stNp 3 x3 x14 H) fun x9999 H => 
  bV (bInt .neq x15 (.int .i64 (.ofNat 0))) fun x17 => 
  cnd x17 (bV (pNil x0) fun x19 => 
  bV (fAd 1 x19) fun x20 => 
  bR (stNp 1 x20 (.bool true) H) fun x9999_2 H => 
  some (.ret (.tuple []), H))
  (bV (pNil x0) fun x23 => 
  bV (fAd 2 x23) fun x24 => 
  bV (fAd 3 x24) fun x25 => 
  bV (ld1p x25 H) fun x26 => 
  bV (ldNp 3 x3 H) fun x27 => 
  bA (bldLp 119 3 1 [(.int .i64 (.ofNat 0)), (.int .i64 (.ofNat 0)), (.int .u64 (.ofNat 0))] [(0, x27)]) H fun x28 H => 
  bR (apPp 119 3 24 x26 x28 H) fun x29 H => 
  bV (pNil x0) fun x30 => 
  bV (fAd 2 x30) fun x31 => 
  bV (fAd 3 x31) fun x32 => 
  bR (stNp 1 x32 x29 H) fun x9999_3 H => 
  some (.ret (.tuple []), H))))
def h334 : Hint := (.s .o (.s (.s .o (.cl .o .o)) (.s .o (.s (.s .o (.cl (.s .o .o) .o)) .o))))
theorem f334_eq (D : Dyn) (n : Nat) : f334 D n = funKp (s334 D n) D n 334 Tryz.f334 h334 := by kernel_rfl
theorem f334_ok {D : Dyn} (hD : DP D) (n : Nat) : FP 334 (f334 D n) := fun_okP X_ok hD (SP.cons (f332_ok hD n) (SP.cons (f227_ok hD n) (SP.nil))) Tryz.func334 (by kernel_rfl) (by kernel_rfl) (f334_eq D n)
end Go.Eng.Sh
