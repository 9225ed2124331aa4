/- Shallow functions, by program (gen.py). -/
import Derived.Test.YtdbpihiihgkkdaaGreatDoorR30
import Derived.Test.YtdbpihiihgkkdaaGreatDoorProg
import Derived.KernelRfl
noncomputable section
namespace Go.Eng.Sh
open Go.Proofs
set_option maxRecDepth 100000
set_option linter.all false
def s10 (D : Dyn) (n : Nat) : Tb := ⟨X, []⟩
/-- jetty/extent.mayIno -/
def f10 (D : Dyn) (n : Nat) (vs : List AV) (H : AH) : Option (AV × AH) :=
  outR (hd vs fun x0 vs => nl vs <|
  bV (bInt .geq x0 (.int .i64 (.ofNat 1))) fun x4 => 
  jn (wnt x4 true (bV (bInt .leq x0 (.int .i64 (.ofNat 2147483647))) fun x7 => 
  some (.norm [x7], H)) (some (.norm [undefA], H))) fun vs H => hd vs fun x7_2 vs => 
  bV (pk3 (some x4) (some x7_2) (some (.bool false))) fun x8 => 
  bV (some x8) fun x2 => some (.ret x2, H))
def h10 : Hint := (.s .o (.s .o .o))
theorem f10_eq (D : Dyn) (n : Nat) : f10 D n = funKp (s10 D n) D n 10 Tryz.f10 h10 := by kernel_rfl
theorem f10_ok {D : Dyn} (hD : DP D) (n : Nat) : FP 10 (f10 D n) := fun_okP X_ok hD (SP.nil) Tryz.func10 (by kernel_rfl) (by kernel_rfl) (f10_eq D n)

def s23 (D : Dyn) (n : Nat) : Tb := ⟨X, []⟩
def f23l0 (D : Dyn) (n : Nat) (vs : List AV) (H : AH) : Rs :=
  hd vs fun x0_2 vs => hd vs fun x1_2 vs => hd vs fun x2_2 vs => 
  bV (ld1p x1_2 H) fun x5 => 
  bV (bInt .gtr x5 (.int .i64 (.ofNat 0))) fun x6 => 
  cnd x6 (bV (ld1p x2_2 H) fun x7 => 
  bV (bInt .quo x7 (.int .i64 (.ofNat 128))) fun x8 => 
  bV (ld1p x2_2 H) fun x9 => 
  bV (bInt .rem x9 (.int .i64 (.ofNat 128))) fun x10 => 
  bV (bldSp [(0, 1), (1, 1), (2, 1)] [(.int .i64 (.ofNat 0)), (.int .i64 (.ofNat 0)), (.int .i64 (.ofNat 0))] [(0, x8), (1, x10)]) fun x11 => 
  bA (bxV 38 (.agg [(.int .i64 (.ofNat 0)), (.int .i64 (.ofNat 0)), (.int .i64 (.ofNat 0))])) H fun x4 H => 
  bR (stNp 3 x4 x11 H) fun x9999 H => 
  bV (fAd 1 x4) fun x12 => 
  bV (ld1p x12 H) fun x13 => 
  bV (ld1p x1_2 H) fun x14 => 
  bV (bInt .add x13 x14) fun x15 => 
  bV (mn2 (.int .i64 (.ofNat 128)) x15) fun x16 => 
  bV (fAd 2 x4) fun x17 => 
  bR (stNp 1 x17 x16 H) fun x9999_2 H => 
  bV (ldNp 3 x4 H) fun x19 => 
  bR (callV (s23 D n).S D x0_2 [x19] H) fun x20 H => 
  bV (aun .not x20) fun x21 => 
  cnd x21 (some (.ret (.tuple []), H))
  (bV (ld1p x2_2 H) fun x22 => 
  bV (fAd 2 x4) fun x23 => 
  bV (ld1p x23 H) fun x24 => 
  bV (fAd 1 x4) fun x25 => 
  bV (ld1p x25 H) fun x26 => 
  bV (bInt .sub x24 x26) fun x27 => 
  bV (bInt .add x22 x27) fun x28 => 
  bR (stNp 1 x2_2 x28 H) fun x9999_3 H => 
  bV (ld1p x1_2 H) fun x29 => 
  bV (fAd 2 x4) fun x30 => 
  bV (ld1p x30 H) fun x31 => 
  bV (fAd 1 x4) fun x32 => 
  bV (ld1p x32 H) fun x33 => 
  bV (bInt .sub x31 x33) fun x34 => 
  bV (bInt .sub x29 x34) fun x35 => 
  bR (stNp 1 x1_2 x35 H) fun x9999_4 H => 
  some (.norm [x0_2, x1_2, x2_2], H)))
  (some (.exit 0 [], H))
def f23b1 (D : Dyn) (n : Nat) (vs : List AV) (H : AH) : Rs :=
  
  some (.ret (.tuple []), H)
/-- jetty/extent.parts$1 -/
def f23 (D : Dyn) (n : Nat) (vs : List AV) (H : AH) : Option (AV × AH) :=
  outR (hd vs fun x0 vs => hd vs fun x1 vs => hd vs fun x2 vs => nl vs <|
  jb 0 (loopK n (f23l0 D n) [x0, x1, x2] H) (f23b1 D n))
def h23 : Hint := (.b [] (.l [0, 1, 2] (.s (.s .o (.cr .o .o)) (.b0 (.s .o (.s .o (.s (.s .o (.cl .o .o)) (.s .o .o))))))))
theorem f23_eq (D : Dyn) (n : Nat) : f23 D n = funKp (s23 D n) D n 23 Tryz.f23 h23 := by kernel_rfl
theorem f23_ok {D : Dyn} (hD : DP D) (n : Nat) : FP 23 (f23 D n) := fun_okP X_ok hD (SP.nil) Tryz.func23 (by kernel_rfl) (by kernel_rfl) (f23_eq D n)

def s11 (D : Dyn) (n : Nat) : Tb := ⟨X, []⟩
/-- jetty/extent.parts -/
def f11 (D : Dyn) (n : Nat) (vs : List AV) (H : AH) : Option (AV × AH) :=
  outR (hd vs fun x0 vs => hd vs fun x1 vs => nl vs <|
  bA (bxV 3 x0) H fun x2 H => 
  bA (bxV 3 x1) H fun x3 H => 
  bV (some (.func 23 [] [x3, x2])) fun x4 => some (.ret x4, H))
def h11 : Hint := (.s .o (.s .o .o))
theorem f11_eq (D : Dyn) (n : Nat) : f11 D n = funKp (s11 D n) D n 11 Tryz.f11 h11 := by kernel_rfl
theorem f11_ok {D : Dyn} (hD : DP D) (n : Nat) : FP 11 (f11 D n) := fun_okP X_ok hD (SP.nil) Tryz.func11 (by kernel_rfl) (by kernel_rfl) (f11_eq D n)

def s26 (D : Dyn) (n : Nat) : Tb := ⟨X, []⟩
/-- jetty/extent.start -/
def f26 (D : Dyn) (n : Nat) (vs : List AV) (H : AH) : Option (AV × AH) :=
  outR (hd vs fun x0 vs => nl vs <|
  bV (bInt .shr x0 (.int .u64 (.ofNat 24))) fun x4 => 
  bV (cvI .u8 x4) fun x5 => 
  bV (bInt .shr x0 (.int .u64 (.ofNat 16))) fun x7 => 
  bV (cvI .u8 x7) fun x8 => 
  bV (bInt .shr x0 (.int .u64 (.ofNat 8))) fun x10 => 
  bV (cvI .u8 x10) fun x11 => 
  bV (cvI .u8 x0) fun x13 => 
  bA (bldLp 5 1 5 [(.int .u8 (.ofNat 0))] [(0, (.int .u8 (.ofNat 100))), (1, x5), (2, x8), (3, x11), (4, x13)]) H fun x14 H => 
  bV (cvBSp x14 H) fun x15 => 
  bV (some x15) fun x2 => some (.ret x2, H))
def h26 : Hint := (.s .o (.s .o .o))
theorem f26_eq (D : Dyn) (n : Nat) : f26 D n = funKp (s26 D n) D n 26 Tryz.f26 h26 := by kernel_rfl
theorem f26_ok {D : Dyn} (hD : DP D) (n : Nat) : FP 26 (f26 D n) := fun_okP X_ok hD (SP.nil) Tryz.func26 (by kernel_rfl) (by kernel_rfl) (f26_eq D n)

def s20 (D : Dyn) (n : Nat) : Tb := ⟨X, [(26, f26 D n)]⟩
/-- jetty/extent.Key -/
def f20 (D : Dyn) (n : Nat) (vs : List AV) (H : AH) : Option (AV × AH) :=
  outR (hd vs fun x0 vs => hd vs fun x1 vs => nl vs <|
  bV (bInt .shr x1 (.int .u64 (.ofNat 24))) fun x8 => 
  bV (cvI .u8 x8) fun x9 => 
  bV (bInt .shr x1 (.int .u64 (.ofNat 16))) fun x11 => 
  bV (cvI .u8 x11) fun x12 => 
  bV (bInt .shr x1 (.int .u64 (.ofNat 8))) fun x14 => 
  bV (cvI .u8 x14) fun x15 => 
  bV (cvI .u8 x1) fun x17 => 
  bA (bldLp 5 1 4 [(.int .u8 (.ofNat 0))] [(0, x9), (1, x12), (2, x15), (3, x17)]) H fun x18 H => 
  bV (cvBSp x18 H) fun x19 => 
  bR (f26 D n [x0] H) fun x6 H => chk (cvBSp x18 H) x19 <| 
  bV (bStr .add x6 x19) fun x20 => 
  bV (some x20) fun x4 => some (.ret x4, H))
def h20 : Hint := (.s .o (.s .o .o))
theorem f20_eq (D : Dyn) (n : Nat) : f20 D n = funKp (s20 D n) D n 20 Tryz.f20 h20 := by kernel_rfl
theorem f20_ok {D : Dyn} (hD : DP D) (n : Nat) : FP 20 (f20 D n) := fun_okP X_ok hD (SP.cons (f26_ok hD n) (SP.nil)) Tryz.func20 (by kernel_rfl) (by kernel_rfl) (f20_eq D n)

def s32 (D : Dyn) (n : Nat) : Tb := ⟨X, []⟩
/-- (*jetty/tree.Tree).none -/
def f32 (D : Dyn) (n : Nat) (vs : List AV) (H : AH) : Option (AV × AH) :=
  outR (hd vs fun x0 vs => nl vs <|
  bV (cmpO .eql (eqP x0 .nilPtr)) fun x4 => 
  jn (wnt x4 false (bV (pNil x0) fun x7 => 
  bV (fAd 0 x7) fun x8 => 
  bV (ld1p x8 H) fun x9 => 
  bV (cmpO .eql (eqP x9 .nilPtr)) fun x10 => 
  some (.norm [x10], H)) (some (.norm [undefA], H))) fun vs H => hd vs fun x10_2 vs => 
  bV (pk3 (some x4) (some (.bool true)) (some x10_2)) fun x11 => 
  jn (wnt x11 false (bV (pNil x0) fun x14 => 
  bV (fAd 5 x14) fun x15 => 
  bV (ld1p x15 H) fun x16 => 
  bV (cmpO .eql (eqM x16 .nilMap)) fun x17 => 
  some (.norm [x17], H)) (some (.norm [undefA], H))) fun vs H => hd vs fun x17_2 vs => 
  bV (pk3 (some x11) (some (.bool true)) (some x17_2)) fun x18 => 
  bV (some x18) fun x2 => some (.ret x2, H))
def h32 : Hint := (.s .o (.s .o .o))
theorem f32_eq (D : Dyn) (n : Nat) : f32 D n = funKp (s32 D n) D n 32 Tryz.f32 h32 := by kernel_rfl
theorem f32_ok {D : Dyn} (hD : DP D) (n : Nat) : FP 32 (f32 D n) := fun_okP X_ok hD (SP.nil) Tryz.func32 (by kernel_rfl) (by kernel_rfl) (f32_eq D n)

def s36 (D : Dyn) (n : Nat) : Tb := ⟨X, []⟩
/-- (*jetty/tree.Tree).most -/
def f36 (D : Dyn) (n : Nat) (vs : List AV) (H : AH) : Option (AV × AH) :=
  outR (hd vs fun x0 vs => nl vs <|
  bV (pNil x0) fun x4 => 
  bV (fAd 5 x4) fun x5 => 
  bV (ld1p x5 H) fun x6 => 
  bV (lnMap x6 H) fun x7 => 
  bV (bInt .add (.int .i64 (.ofNat 8192)) x7) fun x8 => 
  bV (some x8) fun x2 => some (.ret x2, H))
def h36 : Hint := (.s .o (.s .o .o))
theorem f36_eq (D : Dyn) (n : Nat) : f36 D n = funKp (s36 D n) D n 36 Tryz.f36 h36 := by kernel_rfl
theorem f36_ok {D : Dyn} (hD : DP D) (n : Nat) : FP 36 (f36 D n) := fun_okP X_ok hD (SP.nil) Tryz.func36 (by kernel_rfl) (by kernel_rfl) (f36_eq D n)

def s100 (D : Dyn) (n : Nat) : Tb := ⟨X, []⟩
/-- (*jetty/arc.Cache).none -/
def f100 (D : Dyn) (n : Nat) (vs : List AV) (H : AH) : Option (AV × AH) :=
  outR (hd vs fun x0 vs => nl vs <|
  bV (cmpO .eql (eqP x0 .nilPtr)) fun x4 => 
  jn (wnt x4 false (bV (pNil x0) fun x7 => 
  bV (fAd 13 x7) fun x8 => 
  bV (ld1p x8 H) fun x9 => 
  bV (bInt .lss x9 (.int .i64 (.ofNat 1))) fun x10 => 
  some (.norm [x10], H)) (some (.norm [undefA], H))) fun vs H => hd vs fun x10_2 vs => 
  bV (pk3 (some x4) (some (.bool true)) (some x10_2)) fun x11 => 
  jn (wnt x11 false (bV (pNil x0) fun x14 => 
  bV (fAd 0 x14) fun x15 => 
  bV (fAd 12 x15) fun x16 => 
  bV (ld1p x16 H) fun x17 => 
  bV (cmpO .eql (eqM x17 .nilMap)) fun x18 => 
  some (.norm [x18], H)) (some (.norm [undefA], H))) fun vs H => hd vs fun x18_2 vs => 
  bV (pk3 (some x11) (some (.bool true)) (some x18_2)) fun x19 => 
  bV (some x19) fun x2 => some (.ret x2, H))
def h100 : Hint := (.s .o (.s .o .o))
theorem f100_eq (D : Dyn) (n : Nat) : f100 D n = funKp (s100 D n) D n 100 Tryz.f100 h100 := by kernel_rfl
theorem f100_ok {D : Dyn} (hD : DP D) (n : Nat) : FP 100 (f100 D n) := fun_okP X_ok hD (SP.nil) Tryz.func100 (by kernel_rfl) (by kernel_rfl) (f100_eq D n)

def s116 (D : Dyn) (n : Nat) : Tb := ⟨X, []⟩
/-- (*jetty/arc.rows).size -/
def f116 (D : Dyn) (n : Nat) (vs : List AV) (H : AH) : Option (AV × AH) :=
  outR (hd vs fun x0 vs => hd vs fun x1 vs => nl vs <|
  bV (pNil x0) fun x7 => 
  bV (fAd 0 x7) fun x8 => 
  bV (ixArr 4 3 x8 x1) fun x9 => 
  bV (fAd 2 x9) fun x10 => 
  bV (ld1p x10 H) fun x11 => 
  bV (some x11) fun x4 => some (.ret x4, H))
def h116 : Hint := (.s .o (.s .o .o))
theorem f116_eq (D : Dyn) (n : Nat) : f116 D n = funKp (s116 D n) D n 116 Tryz.f116 h116 := by kernel_rfl
theorem f116_ok {D : Dyn} (hD : DP D) (n : Nat) : FP 116 (f116 D n) := fun_okP X_ok hD (SP.nil) Tryz.func116 (by kernel_rfl) (by kernel_rfl) (f116_eq D n)

def s118 (D : Dyn) (n : Nat) : Tb := ⟨X, []⟩
def f118j0 (D : Dyn) (n : Nat) (vs : List AV) (H : AH) : Rs :=
  hd vs fun x1_3 vs => hd vs fun x4_2 vs => 
  bV (pNil x1_3) fun x59 => 
  bV (fAd 3 x59) fun x60 => 
  bR (stNp 1 x60 .nilPtr H) fun x9999_5 H => 
  bV (pNil x1_3) fun x61 => 
  bV (fAd 4 x61) fun x62 => 
  bR (stNp 1 x62 .nilPtr H) fun x9999_6 H => 
  bV (pNil x4_2) fun x64 => 
  bV (fAd 2 x64) fun x65 => 
  bV (ld1p x65 H) fun x66 => 
  bV (bInt .sub x66 (.int .i64 (.ofNat 1))) fun x67 => 
  bV (pNil x4_2) fun x68 => 
  bV (fAd 2 x68) fun x69 => 
  bR (stNp 1 x69 x67 H) fun x9999_7 H => 
  some (.ret (.tuple []), H)
def f118j1 (D : Dyn) (n : Nat) (vs : List AV) (H : AH) : Rs :=
  hd vs fun x1_2 vs => hd vs fun x4 vs => 
  bV (pNil x1_2) fun x36 => 
  bV (fAd 4 x36) fun x37 => 
  bV (ld1p x37 H) fun x38 => 
  bV (cmpO .eql (eqP x38 .nilPtr)) fun x39 => 
  jn (cnd x39 (bV (pNil x1_2) fun x42 => 
  bV (fAd 3 x42) fun x43 => 
  bV (ld1p x43 H) fun x44 => 
  bV (pNil x4) fun x45 => 
  bV (fAd 1 x45) fun x46 => 
  bR (stNp 1 x46 x44 H) fun x9999_3 H => 
  some (.norm [x1_2, x4], H))
  (bV (pNil x1_2) fun x48 => 
  bV (fAd 4 x48) fun x49 => 
  bV (ld1p x49 H) fun x50 => 
  bV (pNil x1_2) fun x52 => 
  bV (fAd 3 x52) fun x53 => 
  bV (ld1p x53 H) fun x54 => 
  bV (pNil x50) fun x55 => 
  bV (fAd 3 x55) fun x56 => 
  bR (stNp 1 x56 x54 H) fun x9999_4 H => 
  some (.norm [x1_2, x4], H))) (f118j0 D n)
/-- (*jetty/arc.rows).detach -/
def f118 (D : Dyn) (n : Nat) (vs : List AV) (H : AH) : Option (AV × AH) :=
  outR (hd vs fun x0 vs => hd vs fun x1 vs => nl vs <|
  bV (pNil x1) fun x7 => 
  bV (fAd 1 x7) fun x8 => 
  bV (ld1p x8 H) fun x9 => 
  bV (pNil x0) fun x10 => 
  bV (fAd 0 x10) fun x11 => 
  bV (ixArr 4 3 x11 x9) fun x12 => 
  bV (pNil x1) fun x14 => 
  bV (fAd 3 x14) fun x15 => 
  bV (ld1p x15 H) fun x16 => 
  bV (cmpO .eql (eqP x16 .nilPtr)) fun x17 => 
  jn (cnd x17 (bV (pNil x1) fun x20 => 
  bV (fAd 4 x20) fun x21 => 
  bV (ld1p x21 H) fun x22 => 
  bV (pNil x12) fun x23 => 
  bV (fAd 0 x23) fun x24 => 
  bR (stNp 1 x24 x22 H) fun x9999 H => 
  some (.norm [x1, x12], H))
  (bV (pNil x1) fun x26 => 
  bV (fAd 3 x26) fun x27 => 
  bV (ld1p x27 H) fun x28 => 
  bV (pNil x1) fun x30 => 
  bV (fAd 4 x30) fun x31 => 
  bV (ld1p x31 H) fun x32 => 
  bV (pNil x28) fun x33 => 
  bV (fAd 4 x33) fun x34 => 
  bR (stNp 1 x34 x32 H) fun x9999_2 H => 
  some (.norm [x1, x12], H))) (f118j1 D n))
def h118 : Hint := (.s .o (.s (.s .o (.c [1, 4] .o .o)) (.s (.s .o (.c [1, 4] .o .o)) (.s .o .o))))
theorem f118_eq (D : Dyn) (n : Nat) : f118 D n = funKp (s118 D n) D n 118 Tryz.f118 h118 := by kernel_rfl
theorem f118_ok {D : Dyn} (hD : DP D) (n : Nat) : FP 118 (f118 D n) := fun_okP X_ok hD (SP.nil) Tryz.func118 (by kernel_rfl) (by kernel_rfl) (f118_eq D n)

def s126 (D : Dyn) (n : Nat) : Tb := ⟨X, [(118, f118 D n)]⟩
/-- (*jetty/arc.rows).forget -/
def f126 (D : Dyn) (n : Nat) (vs : List AV) (H : AH) : Option (AV × AH) :=
  outR (hd vs fun x0 vs => hd vs fun x1 vs => nl vs <|
  bV (pNil x0) fun x7 => 
  bV (fAd 0 x7) fun x8 => 
  bV (ixArr 4 3 x8 x1) fun x9 => 
  bV (fAd 0 x9) fun x10 => 
  bV (ld1p x10 H) fun x11 => 
  bV (cmpO .eql (eqP x11 .nilPtr)) fun x13 => 
  cnd x13 (some (.ret (.tuple []), H))
  (bR (f118 D n [x0, x11] H) fun x16 H => 
  bV (pNil x0) fun x18 => 
  bV (fAd 12 x18) fun x19 => 
  bV (ld1p x19 H) fun x20 => 
  bV (pNil x11) fun x22 => 
  bV (fAd 0 x22) fun x23 => 
  bV (ld1p x23 H) fun x24 => 
  bR (dlM [6] x20 x24 H) fun x9999 H => 
  some (.ret (.tuple []), H)))
def h126 : Hint := (.s .o (.s (.s .o (.cl .o .o)) (.s .o .o)))
theorem f126_eq (D : Dyn) (n : Nat) : f126 D n = funKp (s126 D n) D n 126 Tryz.f126 h126 := by kernel_rfl
theorem f126_ok {D : Dyn} (hD : DP D) (n : Nat) : FP 126 (f126 D n) := fun_okP X_ok hD (SP.cons (f118_ok hD n) (SP.nil)) Tryz.func126 (by kernel_rfl) (by kernel_rfl) (f126_eq D n)

def s119 (D : Dyn) (n : Nat) : Tb := ⟨X, []⟩
def f119j0 (D : Dyn) (n : Nat) (vs : List AV) (H : AH) : Rs :=
  hd vs fun x2_2 vs => hd vs fun x6 vs => 
  bV (pNil x6) fun x44 => 
  bV (fAd 1 x44) fun x45 => 
  bR (stNp 1 x45 x2_2 H) fun x9999_6 H => 
  bV (pNil x6) fun x47 => 
  bV (fAd 2 x47) fun x48 => 
  bV (ld1p x48 H) fun x49 => 
  bV (bInt .add x49 (.int .i64 (.ofNat 1))) fun x50 => 
  bV (pNil x6) fun x51 => 
  bV (fAd 2 x51) fun x52 => 
  bR (stNp 1 x52 x50 H) fun x9999_7 H => 
  some (.ret (.tuple []), H)
/-- (*jetty/arc.rows).attach -/
def f119 (D : Dyn) (n : Nat) (vs : List AV) (H : AH) : Option (AV × AH) :=
  outR (hd vs fun x0 vs => hd vs fun x1 vs => hd vs fun x2 vs => nl vs <|
  bV (pNil x0) fun x9 => 
  bV (fAd 0 x9) fun x10 => 
  bV (ixArr 4 3 x10 x1) fun x11 => 
  bV (pNil x2) fun x14 => 
  bV (fAd 1 x14) fun x15 => 
  bR (stNp 1 x15 x1 H) fun x9999 H => 
  bV (pNil x11) fun x19 => 
  bV (fAd 1 x19) fun x20 => 
  bV (ld1p x20 H) fun x21 => 
  bV (pNil x2) fun x22 => 
  bV (fAd 3 x22) fun x23 => 
  bR (stNp 1 x23 x21 H) fun x9999_2 H => 
  bV (pNil x2) fun x24 => 
  bV (fAd 4 x24) fun x25 => 
  bR (stNp 1 x25 .nilPtr H) fun x9999_3 H => 
  bV (pNil x11) fun x27 => 
  bV (fAd 1 x27) fun x28 => 
  bV (ld1p x28 H) fun x29 => 
  bV (cmpO .eql (eqP x29 .nilPtr)) fun x30 => 
  jn (cnd x30 (bV (pNil x11) fun x33 => 
  bV (fAd 0 x33) fun x34 => 
  bR (stNp 1 x34 x2 H) fun x9999_4 H => 
  some (.norm [x2, x11], H))
  (bV (pNil x11) fun x36 => 
  bV (fAd 1 x36) fun x37 => 
  bV (ld1p x37 H) fun x38 => 
  bV (pNil x38) fun x40 => 
  bV (fAd 4 x40) fun x41 => 
  bR (stNp 1 x41 x2 H) fun x9999_5 H => 
  some (.norm [x2, x11], H))) (f119j0 D n))
def h119 : Hint := (.s .o (.s .o (.s .o (.s (.s .o (.c [2, 6] .o .o)) (.s .o .o)))))
theorem f119_eq (D : Dyn) (n : Nat) : f119 D n = funKp (s119 D n) D n 119 Tryz.f119 h119 := by kernel_rfl
theorem f119_ok {D : Dyn} (hD : DP D) (n : Nat) : FP 119 (f119 D n) := fun_okP X_ok hD (SP.nil) Tryz.func119 (by kernel_rfl) (by kernel_rfl) (f119_eq D n)

def s127 (D : Dyn) (n : Nat) : Tb := ⟨X, [(118, f118 D n), (119, f119 D n)]⟩
/-- (*jetty/arc.rows).ghost -/
def f127 (D : Dyn) (n : Nat) (vs : List AV) (H : AH) : Option (AV × AH) :=
  outR (hd vs fun x0 vs => hd vs fun x1 vs => hd vs fun x2 vs => nl vs <|
  bV (pNil x0) fun x9 => 
  bV (fAd 0 x9) fun x10 => 
  bV (ixArr 4 3 x10 x1) fun x11 => 
  bV (fAd 0 x11) fun x12 => 
  bV (ld1p x12 H) fun x13 => 
  bV (cmpO .eql (eqP x13 .nilPtr)) fun x15 => 
  cnd x15 (some (.ret (.tuple []), H))
  (bR (f118 D n [x0, x13] H) fun x18 H => 
  bV (pNil x13) fun x20 => 
  bV (fAd 2 x20) fun x21 => 
  bR (stNp 1 x21 .nilPtr H) fun x9999 H => 
  bR (f119 D n [x0, x2, x13] H) fun x25 H => 
  some (.ret (.tuple []), H)))
def h127 : Hint := (.s .o (.s (.s .o (.cl .o .o)) (.s .o (.s .o .o))))
theorem f127_eq (D : Dyn) (n : Nat) : f127 D n = funKp (s127 D n) D n 127 Tryz.f127 h127 := by kernel_rfl
theorem f127_ok {D : Dyn} (hD : DP D) (n : Nat) : FP 127 (f127 D n) := fun_okP X_ok hD (SP.cons (f118_ok hD n) (SP.cons (f119_ok hD n) (SP.nil))) Tryz.func127 (by kernel_rfl) (by kernel_rfl) (f127_eq D n)

def s117 (D : Dyn) (n : Nat) : Tb := ⟨X, [(116, f116 D n), (127, f127 D n)]⟩
/-- (*jetty/arc.Cache).makeRoom -/
def f117 (D : Dyn) (n : Nat) (vs : List AV) (H : AH) : Option (AV × AH) :=
  outR (hd vs fun x0 vs => hd vs fun x1 vs => nl vs <|
  bV (pNil x0) fun x7 => 
  bV (fAd 0 x7) fun x8 => 
  bV (pNil x0) fun x11 => 
  bV (fAd 0 x11) fun x12 => 
  bR (f116 D n [x8, (.int .i64 (.ofNat 0))] H) fun x9 H => 
  bR (f116 D n [x12, (.int .i64 (.ofNat 1))] H) fun x13 H => 
  bV (bInt .add x9 x13) fun x16 => 
  bV (pNil x0) fun x18 => 
  bV (fAd 13 x18) fun x19 => 
  bV (ld1p x19 H) fun x20 => 
  bV (bInt .lss x16 x20) fun x21 => 
  cnd x21 (some (.ret (.tuple []), H))
  (bV (bInt .gtr x9 (.int .i64 (.ofNat 0))) fun x23 => 
  jn (wnt x23 true (bV (bInt .eql x13 (.int .i64 (.ofNat 0))) fun x26 => 
  some (.norm [x26], H)) (some (.norm [undefA], H))) fun vs H => hd vs fun x27 vs => 
  jn (wnt x27 false (bV (pNil x0) fun x30 => 
  bV (fAd 14 x30) fun x31 => 
  bV (ld1p x31 H) fun x32 => 
  bV (bInt .gtr x9 x32) fun x33 => 
  some (.norm [x33], H)) (some (.norm [undefA], H))) fun vs H => hd vs fun x33_2 vs => 
  jn (wnt x23 true (bV (pk3 (some x27) (some (.bool true)) (some x33_2)) fun x34 => 
  some (.norm [x34], H)) (some (.norm [undefA], H))) fun vs H => hd vs fun x35 vs => 
  jn (wnt x35 false (some (.norm [x1], H)) (some (.norm [undefA], H))) fun vs H => hd vs fun x37 vs => 
  jn (wnt x37 true (bV (pNil x0) fun x40 => 
  bV (fAd 14 x40) fun x41 => 
  bV (ld1p x41 H) fun x42 => 
  bV (bInt .eql x9 x42) fun x43 => 
  some (.norm [x43], H)) (some (.norm [undefA], H))) fun vs H => hd vs fun x43_2 vs => 
  jn (wnt x35 false (bV (pk3 (some x37) (some x43_2) (some (.bool false))) fun x44 => 
  some (.norm [x44], H)) (some (.norm [undefA], H))) fun vs H => hd vs fun x44_2 vs => 
  jn (wnt x23 true (bV (pk3 (some x35) (some (.bool true)) (some x44_2)) fun x45 => 
  some (.norm [x45], H)) (some (.norm [undefA], H))) fun vs H => hd vs fun x45_2 vs => 
  bV (pk3 (some x23) (some x45_2) (some (.bool false))) fun x46 => 
  cnd x46 (bV (pNil x0) fun x48 => 
  bV (fAd 0 x48) fun x49 => 
  bR (f127 D n [x49, (.int .i64 (.ofNat 0)), (.int .i64 (.ofNat 2))] H) fun x50 H => 
  some (.ret (.tuple []), H))
  (bV (pNil x0) fun x52 => 
  bV (fAd 0 x52) fun x53 => 
  bR (f127 D n [x53, (.int .i64 (.ofNat 1)), (.int .i64 (.ofNat 3))] H) fun x54 H => 
  some (.ret (.tuple []), H))))
def h117 : Hint := (.s .o (.s (.s .o (.cl .o .o)) (.s (.s .o (.cl (.s .o .o) .o)) .o)))
theorem f117_eq (D : Dyn) (n : Nat) : f117 D n = funKp (s117 D n) D n 117 Tryz.f117 h117 := by kernel_rfl
theorem f117_ok {D : Dyn} (hD : DP D) (n : Nat) : FP 117 (f117 D n) := fun_okP X_ok hD (SP.cons (f116_ok hD n) (SP.cons (f127_ok hD n) (SP.nil))) Tryz.func117 (by kernel_rfl) (by kernel_rfl) (f117_eq D n)

def s115 (D : Dyn) (n : Nat) : Tb := ⟨X, [(116, f116 D n), (126, f126 D n), (117, f117 D n), (119, f119 D n)]⟩
def f115j0 (D : Dyn) (n : Nat) (vs : List AV) (H : AH) : Rs :=
  hd vs fun x0_2 vs => hd vs fun x1_2 vs => hd vs fun x2_2 vs => 
  some (.norm [x0_2, x1_2, x2_2], H)
def f115j1 (D : Dyn) (n : Nat) (vs : List AV) (H : AH) : Rs :=
  hd vs fun x0_3 vs => hd vs fun x1_3 vs => hd vs fun x2_3 vs => 
  bR (f117 D n [x0_3, (.bool false)] H) fun x79 H => 
  some (.norm [x0_3, x1_3, x2_3], H)
def f115j2 (D : Dyn) (n : Nat) (vs : List AV) (H : AH) : Rs :=
  hd vs fun x0_4 vs => hd vs fun x1_4 vs => hd vs fun x2_4 vs => 
  some (.norm [x0_4, x1_4, x2_4], H)
def f115j3 (D : Dyn) (n : Nat) (vs : List AV) (H : AH) : Rs :=
  hd vs fun x0_5 vs => hd vs fun x1_5 vs => hd vs fun x2_5 vs => 
  bV (bldSp [(0, 1), (1, 1), (2, 1), (3, 1), (4, 1)] [(.int .i64 (.ofNat 0)), (.int .i64 (.ofNat 0)), .nilPtr, .nilPtr, .nilPtr] [(0, x1_5), (2, x2_5)]) fun x82 => 
  bA (bxV 182 x82) H fun x83 H => 
  bV (pNil x0_5) fun x85 => 
  bV (fAd 0 x85) fun x86 => 
  bV (fAd 12 x86) fun x87 => 
  bV (ld1p x87 H) fun x88 => 
  bR (upM [6] x88 x1_5 x83 H) fun x9999 H => 
  bV (pNil x0_5) fun x92 => 
  bV (fAd 0 x92) fun x93 => 
  bR (f119 D n [x93, (.int .i64 (.ofNat 0)), x83] H) fun x95 H => 
  some (.ret (.tuple []), H)
/-- (*jetty/arc.Cache).meet -/
def f115 (D : Dyn) (n : Nat) (vs : List AV) (H : AH) : Option (AV × AH) :=
  outR (hd vs fun x0 vs => hd vs fun x1 vs => hd vs fun x2 vs => nl vs <|
  bV (pNil x0) fun x13 => 
  bV (fAd 0 x13) fun x14 => 
  bV (pNil x0) fun x17 => 
  bV (fAd 0 x17) fun x18 => 
  bR (f116 D n [x14, (.int .i64 (.ofNat 0))] H) fun x15 H => 
  bR (f116 D n [x18, (.int .i64 (.ofNat 1))] H) fun x19 H => 
  bV (pNil x0) fun x21 => 
  bV (fAd 0 x21) fun x22 => 
  bV (pNil x0) fun x25 => 
  bV (fAd 0 x25) fun x26 => 
  bR (f116 D n [x22, (.int .i64 (.ofNat 2))] H) fun x23 H => 
  bR (f116 D n [x26, (.int .i64 (.ofNat 3))] H) fun x27 H => 
  bV (bInt .add x15 x19) fun x30 => 
  bV (bInt .add x30 x23) fun x32 => 
  bV (bInt .add x32 x27) fun x34 => 
  bV (bInt .add x15 x23) fun x38 => 
  bV (pNil x0) fun x40 => 
  bV (fAd 13 x40) fun x41 => 
  bV (ld1p x41 H) fun x42 => 
  bV (bInt .geq x38 x42) fun x43 => 
  jn (cnd x43 (bV (pNil x0) fun x46 => 
  bV (fAd 13 x46) fun x47 => 
  bV (ld1p x47 H) fun x48 => 
  bV (bInt .lss x15 x48) fun x49 => 
  jn (cnd x49 (bV (pNil x0) fun x51 => 
  bV (fAd 0 x51) fun x52 => 
  bR (f126 D n [x52, (.int .i64 (.ofNat 2))] H) fun x53 H => 
  bR (f117 D n [x0, (.bool false)] H) fun x55 H => 
  some (.norm [x0, x1, x2], H))
  (bV (pNil x0) fun x57 => 
  bV (fAd 0 x57) fun x58 => 
  bR (f126 D n [x58, (.int .i64 (.ofNat 0))] H) fun x59 H => 
  some (.norm [x0, x1, x2], H))) (f115j0 D n))
  (bV (pNil x0) fun x63 => 
  bV (fAd 13 x63) fun x64 => 
  bV (ld1p x64 H) fun x65 => 
  bV (bInt .geq x34 x65) fun x66 => 
  jn (cnd x66 (bV (pNil x0) fun x69 => 
  bV (fAd 13 x69) fun x70 => 
  bV (ld1p x70 H) fun x71 => 
  bV (bInt .mul (.int .i64 (.ofNat 2)) x71) fun x72 => 
  bV (bInt .geq x34 x72) fun x73 => 
  jn (cnd x73 (bV (pNil x0) fun x75 => 
  bV (fAd 0 x75) fun x76 => 
  bR (f126 D n [x76, (.int .i64 (.ofNat 3))] H) fun x77 H => 
  some (.norm [x0, x1, x2], H))
  (some (.norm [x0, x1, x2], H))) (f115j1 D n))
  (some (.norm [x0, x1, x2], H))) (f115j2 D n))) (f115j3 D n))
def h115 : Hint := (.s .o (.s .o (.s (.s .o (.b0 (.s .o (.c [0, 1, 2] (.s .o (.c [0, 1, 2] (.s .o .o) .o)) (.s .o (.c [0, 1, 2] (.s (.s .o (.c [0, 1, 2] .o .o)) .o) .o)))))) (.s .o (.s .o .o)))))
theorem f115_eq (D : Dyn) (n : Nat) : f115 D n = funKp (s115 D n) D n 115 Tryz.f115 h115 := by kernel_rfl
theorem f115_ok {D : Dyn} (hD : DP D) (n : Nat) : FP 115 (f115 D n) := fun_okP X_ok hD (SP.cons (f116_ok hD n) (SP.cons (f126_ok hD n) (SP.cons (f117_ok hD n) (SP.cons (f119_ok hD n) (SP.nil))))) Tryz.func115 (by kernel_rfl) (by kernel_rfl) (f115_eq D n)

def s101 (D : Dyn) (n : Nat) : Tb := ⟨X, [(115, f115 D n), (116, f116 D n), (117, f117 D n), (118, f118 D n), (119, f119 D n)]⟩
def f101j0 (D : Dyn) (n : Nat) (vs : List AV) (H : AH) : Rs :=
  hd vs fun x0_2 vs => hd vs fun x2_2 vs => hd vs fun x6 vs => 
  some (.norm [x0_2, x2_2, x6], H)
def f101j1 (D : Dyn) (n : Nat) (vs : List AV) (H : AH) : Rs :=
  hd vs fun x0_3 vs => hd vs fun x2_3 vs => hd vs fun x6_2 vs => 
  bV (pNil x0_3) fun x79 => 
  bV (fAd 0 x79) fun x80 => 
  bR (f118 D n [x80, x6_2] H) fun x82 H => 
  bV (pNil x6_2) fun x85 => 
  bV (fAd 2 x85) fun x86 => 
  bR (stNp 1 x86 x2_3 H) fun x9999_3 H => 
  bV (pNil x0_3) fun x88 => 
  bV (fAd 0 x88) fun x89 => 
  bR (f119 D n [x89, (.int .i64 (.ofNat 1)), x6_2] H) fun x91 H => 
  some (.ret (.tuple []), H)
/-- (*jetty/arc.Cache).have -/
def f101 (D : Dyn) (n : Nat) (vs : List AV) (H : AH) : Option (AV × AH) :=
  outR (hd vs fun x0 vs => hd vs fun x1 vs => hd vs fun x2 vs => nl vs <|
  bV (pNil x0) fun x10 => 
  bV (fAd 0 x10) fun x11 => 
  bV (fAd 12 x11) fun x12 => 
  bV (ld1p x12 H) fun x13 => 
  bV (lkM [6] .nilPtr false x13 x1 H) fun x15 => 
  bV (cmpO .eql (eqP x15 .nilPtr)) fun x17 => 
  cnd x17 (bR (f115 D n [x0, x1, x2] H) fun x21 H => 
  some (.ret (.tuple []), H))
  (bV (pNil x15) fun x23 => 
  bV (fAd 1 x23) fun x24 => 
  bV (ld1p x24 H) fun x25 => 
  bV (bInt .eql x25 (.int .i64 (.ofNat 2))) fun x27 => 
  jn (cnd x27 (bV (pNil x0) fun x29 => 
  bV (fAd 0 x29) fun x30 => 
  bV (pNil x0) fun x33 => 
  bV (fAd 0 x33) fun x34 => 
  bR (f116 D n [x30, (.int .i64 (.ofNat 3))] H) fun x31 H => 
  bR (f116 D n [x34, (.int .i64 (.ofNat 2))] H) fun x35 H => 
  bV (bInt .quo x31 x35) fun x36 => 
  bV (mx2 (.int .i64 (.ofNat 1)) x36) fun x37 => 
  bV (pNil x0) fun x40 => 
  bV (fAd 13 x40) fun x41 => 
  bV (ld1p x41 H) fun x42 => 
  bV (pNil x0) fun x44 => 
  bV (fAd 14 x44) fun x45 => 
  bV (ld1p x45 H) fun x46 => 
  bV (bInt .add x46 x37) fun x48 => 
  bV (mn2 x42 x48) fun x49 => 
  bV (pNil x0) fun x50 => 
  bV (fAd 14 x50) fun x51 => 
  bR (stNp 1 x51 x49 H) fun x9999 H => 
  bR (f117 D n [x0, (.bool false)] H) fun x53 H => 
  some (.norm [x0, x2, x15], H))
  (bV (bInt .eql x25 (.int .i64 (.ofNat 3))) fun x55 => 
  jn (cnd x55 (bV (pNil x0) fun x57 => 
  bV (fAd 0 x57) fun x58 => 
  bV (pNil x0) fun x61 => 
  bV (fAd 0 x61) fun x62 => 
  bR (f116 D n [x58, (.int .i64 (.ofNat 2))] H) fun x59 H => 
  bR (f116 D n [x62, (.int .i64 (.ofNat 3))] H) fun x63 H => 
  bV (bInt .quo x59 x63) fun x64 => 
  bV (mx2 (.int .i64 (.ofNat 1)) x64) fun x65 => 
  bV (pNil x0) fun x68 => 
  bV (fAd 14 x68) fun x69 => 
  bV (ld1p x69 H) fun x70 => 
  bV (bInt .sub x70 x65) fun x72 => 
  bV (mx2 (.int .i64 (.ofNat 0)) x72) fun x73 => 
  bV (pNil x0) fun x74 => 
  bV (fAd 14 x74) fun x75 => 
  bR (stNp 1 x75 x73 H) fun x9999_2 H => 
  bR (f117 D n [x0, (.bool true)] H) fun x77 H => 
  some (.norm [x0, x2, x15], H))
  (some (.norm [x0, x2, x15], H))) (f101j0 D n))) (f101j1 D n)))
def h101 : Hint := (.s .o (.s (.s .o (.cl (.s .o .o) .o)) (.s (.s .o (.b0 (.s .o (.c [0, 2, 6] (.s .o (.s .o .o)) (.s .o (.c [0, 2, 6] (.s .o (.s .o .o)) .o)))))) (.s .o (.s .o .o)))))
theorem f101_eq (D : Dyn) (n : Nat) : f101 D n = funKp (s101 D n) D n 101 Tryz.f101 h101 := by kernel_rfl
theorem f101_ok {D : Dyn} (hD : DP D) (n : Nat) : FP 101 (f101 D n) := fun_okP X_ok hD (SP.cons (f115_ok hD n) (SP.cons (f116_ok hD n) (SP.cons (f117_ok hD n) (SP.cons (f118_ok hD n) (SP.cons (f119_ok hD n) (SP.nil)))))) Tryz.func101 (by kernel_rfl) (by kernel_rfl) (f101_eq D n)

def s80 (D : Dyn) (n : Nat) : Tb := ⟨X, [(100, f100 D n), (101, f101 D n)]⟩
/-- (*jetty/arc.Cache).Get -/
def f80 (D : Dyn) (n : Nat) (vs : List AV) (H : AH) : Option (AV × AH) :=
  outR (hd vs fun x0 vs => hd vs fun x1 vs => nl vs <|
  bA (bxV 151 (.agg [.pk 512 0])) H fun x4 H => 
  bR (f100 D n [x0] H) fun x8 H => 
  cnd x8 (bV (bldAp 1 [.pk 512 0] []) fun x9 => 
  bR (stNp 512 x4 x9 H) fun x9999 H => 
  bV (ldNp 512 x4 H) fun x9004 => bV (some (.int .i64 (.ofNat 2))) fun x5 => some (.ret (.tuple [x9004, x5]), H))
  (bV (pNil x0) fun x11 => 
  bV (fAd 0 x11) fun x12 => 
  bV (fAd 12 x12) fun x13 => 
  bV (ld1p x13 H) fun x14 => 
  bV (lkM [6] .nilPtr false x14 x1 H) fun x16 => 
  bV (cmpO .eql (eqP x16 .nilPtr)) fun x18 => 
  jn (wnt x18 false (bV (pNil x16) fun x21 => 
  bV (fAd 2 x21) fun x22 => 
  bV (ld1p x22 H) fun x23 => 
  bV (cmpO .eql (eqP x23 .nilPtr)) fun x24 => 
  some (.norm [x24], H)) (some (.norm [undefA], H))) fun vs H => hd vs fun x24_2 vs => 
  bV (pk3 (some x18) (some (.bool true)) (some x24_2)) fun x25 => 
  cnd x25 (bV (bldAp 1 [.pk 512 0] []) fun x26 => 
  bR (stNp 512 x4 x26 H) fun x9999_2 H => 
  bV (ldNp 512 x4 H) fun x9004_2 => bV (some (.int .i64 (.ofNat 5))) fun x5_2 => some (.ret (.tuple [x9004_2, x5_2]), H))
  (bV (pNil x16) fun x30 => 
  bV (fAd 2 x30) fun x31 => 
  bV (ld1p x31 H) fun x32 => 
  bR (f101 D n [x0, x1, x32] H) fun x33 H => 
  bV (pNil x16) fun x35 => 
  bV (fAd 2 x35) fun x36 => 
  bV (ld1p x36 H) fun x37 => 
  bV (pNil x37) fun x38 => 
  bV (ldNp 512 x38 H) fun x39 => 
  bR (stNp 512 x4 x39 H) fun x9999_3 H => 
  bV (ldNp 512 x4 H) fun x9004_3 => bV (some (.int .i64 (.ofNat 0))) fun x5_3 => some (.ret (.tuple [x9004_3, x5_3]), H))))
def h80 : Hint := (.s .o (.s (.s .o (.cl (.s .o .o) .o)) (.s .o (.s (.s .o (.cl (.s .o .o) .o)) (.s .o (.s .o .o))))))
theorem f80_eq (D : Dyn) (n : Nat) : f80 D n = funKp (s80 D n) D n 80 Tryz.f80 h80 := by kernel_rfl
theorem f80_ok {D : Dyn} (hD : DP D) (n : Nat) : FP 80 (f80 D n) := fun_okP X_ok hD (SP.cons (f100_ok hD n) (SP.cons (f101_ok hD n) (SP.nil))) Tryz.func80 (by kernel_rfl) (by kernel_rfl) (f80_eq D n)

def s128 (D : Dyn) (n : Nat) : Tb := ⟨X, []⟩
def f128l0 (D : Dyn) (n : Nat) (vs : List AV) (H : AH) : Rs :=
  hd vs fun x0_2 vs => hd vs fun x1_2 vs => hd vs fun x7_2 vs => hd vs fun x8 vs => 
  bV (bInt .lss x8 x7_2) fun x9 => 
  cnd x9 (bV (ixStr x1_2 x8) fun x14 => 
  bV (cvI .u64 x14) fun x15 => 
  bV (bInt .xor x0_2 x15) fun x16 => 
  bV (bInt .mul x16 (.int .u64 (.ofNat 1099511628211))) fun x17 => 
  bV (bInt .add x8 (.int .i64 (.ofNat 1))) fun x18 => 
  some (.norm [x17, x1_2, x7_2, x18], H))
  (some (.exit 0 [x0_2], H))
def f128b1 (D : Dyn) (n : Nat) (vs : List AV) (H : AH) : Rs :=
  hd vs fun x0_3 vs => 
  bV (some x0_3) fun x4 => some (.ret x4, H)
/-- jetty/digest.sum[string] -/
def f128 (D : Dyn) (n : Nat) (vs : List AV) (H : AH) : Option (AV × AH) :=
  outR (hd vs fun x0 vs => hd vs fun x1 vs => nl vs <|
  bV (lnStr x1) fun x7 => 
  jb 0 (loopK n (f128l0 D n) [x0, x1, x7, (.int .i64 (.ofNat 0))] H) (f128b1 D n))
def h128 : Hint := (.s .o (.s (.s .o (.b [0] (.l [0, 1, 7, 8] (.s .o (.s (.cr .o .o) (.s (.b0 (.s .o .o)) .o)))))) (.s .o .o)))
theorem f128_eq (D : Dyn) (n : Nat) : f128 D n = funKp (s128 D n) D n 128 Tryz.f128 h128 := by kernel_rfl
theorem f128_ok {D : Dyn} (hD : DP D) (n : Nat) : FP 128 (f128 D n) := fun_okP X_ok hD (SP.nil) Tryz.func128 (by kernel_rfl) (by kernel_rfl) (f128_eq D n)
def m128 (D : Dyn) (n : Nat) (vs : List AV) (H : AH) : Option (AV × AH) := sumK (f128 D n) vs H
theorem m128_ok {D : Dyn} (hD : DP D) (n : Nat) : FP 128 (m128 D n) := sumK_okP (F := f128 D) rfl (fun n => f128_ok hD n) n

def s120 (D : Dyn) (n : Nat) : Tb := ⟨X, [(128, m128 D n)]⟩
/-- jetty/digest.Sum -/
def f120 (D : Dyn) (n : Nat) (vs : List AV) (H : AH) : Option (AV × AH) :=
  outR (hd vs fun x0 vs => nl vs <|
  bR (m128 D n [(.int .u64 (.ofNat 14695981039346656037)), x0] H) fun x4 H => 
  bV (some x4) fun x2 => some (.ret x2, H))
def h120 : Hint := (.s .o (.s .o .o))
theorem f120_eq (D : Dyn) (n : Nat) : f120 D n = funKp (s120 D n) D n 120 Tryz.f120 h120 := by kernel_rfl
theorem f120_ok {D : Dyn} (hD : DP D) (n : Nat) : FP 120 (f120 D n) := fun_okP X_ok hD (SP.cons (m128_ok hD n) (SP.nil)) Tryz.func120 (by kernel_rfl) (by kernel_rfl) (f120_eq D n)

def s102 (D : Dyn) (n : Nat) : Tb := ⟨X, [(120, f120 D n)]⟩
/-- jetty/block.Sum -/
def f102 (D : Dyn) (n : Nat) (vs : List AV) (H : AH) : Option (AV × AH) :=
  outR (hd vs fun x0 vs => nl vs <|
  bA (bxV 151 x0) H fun x1 H => 
  bV (slArr 512 1 x1 none none none) fun x3 => 
  bV (cvBSp x3 H) fun x4 => 
  bR (f120 D n [x4] H) fun x5 H => 
  bV (some x5) fun x2 => some (.ret x2, H))
def h102 : Hint := (.s .o (.s .o .o))
theorem f102_eq (D : Dyn) (n : Nat) : f102 D n = funKp (s102 D n) D n 102 Tryz.f102 h102 := by kernel_rfl
theorem f102_ok {D : Dyn} (hD : DP D) (n : Nat) : FP 102 (f102 D n) := fun_okP X_ok hD (SP.cons (f120_ok hD n) (SP.nil)) Tryz.func102 (by kernel_rfl) (by kernel_rfl) (f102_eq D n)

def s121 (D : Dyn) (n : Nat) : Tb := ⟨X, []⟩
def f121l0 (D : Dyn) (n : Nat) (vs : List AV) (H : AH) : Rs :=
  hd vs fun x3 vs => hd vs fun x6 vs => hd vs fun x7_2 vs => hd vs fun x8 vs => 
  bV (bInt .lss x8 x7_2) fun x9 => 
  cnd x9 (bV (ixSl 1 x6 x8) fun x10 => 
  bV (ld1p x10 H) fun x11 => 
  bV (bInt .shl x3 (.int .u64 (.ofNat 8))) fun x13 => 
  bV (cvI .u64 x11) fun x15 => 
  bV (bInt .or x13 x15) fun x16 => 
  bV (bInt .add x8 (.int .i64 (.ofNat 1))) fun x17 => 
  some (.norm [x16, x6, x7_2, x17], H))
  (some (.exit 0 [x3], H))
def f121b1 (D : Dyn) (n : Nat) (vs : List AV) (H : AH) : Rs :=
  hd vs fun x3_2 vs => 
  bV (some x3_2) fun x2 => some (.ret x2, H)
/-- jetty/block.get -/
def f121 (D : Dyn) (n : Nat) (vs : List AV) (H : AH) : Option (AV × AH) :=
  outR (hd vs fun x0 vs => nl vs <|
  bV (lnSl x0) fun x7 => 
  jb 0 (loopK n (f121l0 D n) [(.int .u64 (.ofNat 0)), x0, x7, (.int .i64 (.ofNat 0))] H) (f121b1 D n))
def h121 : Hint := (.s .o (.s .o (.s (.s .o (.b [3] (.l [3, 6, 7, 8] (.s .o (.s (.cr .o .o) (.s (.b0 (.s .o .o)) .o)))))) (.s .o .o))))
theorem f121_eq (D : Dyn) (n : Nat) : f121 D n = funKp (s121 D n) D n 121 Tryz.f121 h121 := by kernel_rfl
theorem f121_ok {D : Dyn} (hD : DP D) (n : Nat) : FP 121 (f121 D n) := fun_okP X_ok hD (SP.nil) Tryz.func121 (by kernel_rfl) (by kernel_rfl) (f121_eq D n)

def s44 (D : Dyn) (n : Nat) : Tb := ⟨X, []⟩
def f44l0 (D : Dyn) (n : Nat) (vs : List AV) (H : AH) : Rs :=
  hd vs fun x0_2 vs => hd vs fun x1_2 vs => hd vs fun x6_2 vs => hd vs fun x7 vs => 
  bV (bInt .lss x7 x6_2) fun x8 => 
  cnd x8 (bV (lnSl x0_2) fun x12 => 
  bV (bInt .sub x12 (.int .i64 (.ofNat 1))) fun x13 => 
  bV (bInt .sub x13 x7) fun x15 => 
  bV (bInt .mul (.int .i64 (.ofNat 8)) x7) fun x18 => 
  bV (bInt .shr x1_2 x18) fun x19 => 
  bV (cvI .u8 x19) fun x20 => 
  bV (ixSl 1 x0_2 x15) fun x21 => 
  bR (stNp 1 x21 x20 H) fun x9999 H => 
  bV (bInt .add x7 (.int .i64 (.ofNat 1))) fun x22 => 
  some (.norm [x0_2, x1_2, x6_2, x22], H))
  (some (.exit 0 [], H))
def f44b1 (D : Dyn) (n : Nat) (vs : List AV) (H : AH) : Rs :=
  
  some (.ret (.tuple []), H)
/-- jetty/block.put -/
def f44 (D : Dyn) (n : Nat) (vs : List AV) (H : AH) : Option (AV × AH) :=
  outR (hd vs fun x0 vs => hd vs fun x1 vs => nl vs <|
  bV (lnSl x0) fun x6 => 
  jb 0 (loopK n (f44l0 D n) [x0, x1, x6, (.int .i64 (.ofNat 0))] H) (f44b1 D n))
def h44 : Hint := (.s .o (.b [] (.l [0, 1, 6, 7] (.s .o (.s (.cr .o .o) (.s (.b0 (.s .o .o)) .o))))))
theorem f44_eq (D : Dyn) (n : Nat) : f44 D n = funKp (s44 D n) D n 44 Tryz.f44 h44 := by kernel_rfl
theorem f44_ok {D : Dyn} (hD : DP D) (n : Nat) : FP 44 (f44 D n) := fun_okP X_ok hD (SP.nil) Tryz.func44 (by kernel_rfl) (by kernel_rfl) (f44_eq D n)

def s122 (D : Dyn) (n : Nat) : Tb := ⟨X, [(44, f44 D n)]⟩
/-- jetty/block.Seal -/
def f122 (D : Dyn) (n : Nat) (vs : List AV) (H : AH) : Option (AV × AH) :=
  outR (hd vs fun x0 vs => hd vs fun x1 vs => hd vs fun x2 vs => nl vs <|
  bA (bxV 151 (.agg [.pk 512 0])) H fun x6 H => 
  bV (bInt .lss x1 (.int .i64 (.ofNat 0))) fun x10 => 
  jn (wnt x10 false (bV (bInt .gtr x1 (.int .i64 (.ofNat 2147483647))) fun x13 => 
  some (.norm [x13], H)) (some (.norm [undefA], H))) fun vs H => hd vs fun x13_2 vs => 
  bV (pk3 (some x10) (some (.bool true)) (some x13_2)) fun x14 => 
  cnd x14 (bV (bldAp 1 [.pk 512 0] []) fun x15 => 
  bR (stNp 512 x6 x15 H) fun x9999 H => 
  bV (ldNp 512 x6 H) fun x9006 => bV (some (.int .i64 (.ofNat 1))) fun x7 => some (.ret (.tuple [x9006, x7]), H))
  (bV (lnStr x2) fun x17 => 
  bV (bInt .gtr x17 (.int .i64 (.ofNat 500))) fun x18 => 
  cnd x18 (bV (bldAp 1 [.pk 512 0] []) fun x19 => 
  bR (stNp 512 x6 x19 H) fun x9999_2 H => 
  bV (ldNp 512 x6 H) fun x9006_2 => bV (some (.int .i64 (.ofNat 40))) fun x7_2 => some (.ret (.tuple [x9006_2, x7_2]), H))
  (bA (bxV 151 (.agg [.pk 512 0])) H fun x8 H => 
  bV (slArr 512 1 x8 none none none) fun x20 => 
  bR (cpyp 1 x20 (.str 4 2037675114) H) fun x21 H => 
  bV (ixArr 512 1 x8 (.int .i64 (.ofNat 4))) fun x23 => 
  bR (stNp 1 x23 x0 H) fun x9999_3 H => 
  bV (slArr 512 1 x8 (some (.int .i64 (.ofNat 6))) (some (.int .i64 (.ofNat 8))) none) fun x24 => 
  bV (lnStr x2) fun x26 => 
  bV (cvI .u64 x26) fun x27 => 
  bR (f44 D n [x24, x27] H) fun x28 H => 
  bV (slArr 512 1 x8 (some (.int .i64 (.ofNat 8))) (some (.int .i64 (.ofNat 12))) none) fun x29 => 
  bV (cvI .u64 x1) fun x31 => 
  bR (f44 D n [x29, x31] H) fun x32 H => 
  bV (slArr 512 1 x8 (some (.int .i64 (.ofNat 12))) none none) fun x33 => 
  bR (cpyp 1 x33 x2 H) fun x35 H => 
  bV (ldNp 512 x8 H) fun x36 => 
  bR (stNp 512 x6 x36 H) fun x9999_4 H => 
  bV (ldNp 512 x6 H) fun x9006_3 => bV (some (.int .i64 (.ofNat 0))) fun x7_3 => some (.ret (.tuple [x9006_3, x7_3]), H))))
def h122 : Hint := (.s .o (.s (.s .o (.cl (.s .o .o) .o)) (.s (.s .o (.cl (.s .o .o) .o)) (.s .o (.s .o (.s .o (.s .o (.s .o (.s .o (.s .o .o))))))))))
theorem f122_eq (D : Dyn) (n : Nat) : f122 D n = funKp (s122 D n) D n 122 Tryz.f122 h122 := by kernel_rfl
theorem f122_ok {D : Dyn} (hD : DP D) (n : Nat) : FP 122 (f122 D n) := fun_okP X_ok hD (SP.cons (f44_ok hD n) (SP.nil)) Tryz.func122 (by kernel_rfl) (by kernel_rfl) (f122_eq D n)

def s103 (D : Dyn) (n : Nat) : Tb := ⟨X, [(121, f121 D n), (122, f122 D n)]⟩
/-- jetty/block.Open -/
def f103 (D : Dyn) (n : Nat) (vs : List AV) (H : AH) : Option (AV × AH) :=
  outR (hd vs fun x0 vs => nl vs <|
  bA (bxV 151 x0) H fun x1 H => 
  bV (slArr 512 1 x1 (some (.int .i64 (.ofNat 6))) (some (.int .i64 (.ofNat 8))) none) fun x8 => 
  bR (f121 D n [x8] H) fun x9 H => 
  bV (bInt .gtr x9 (.int .u64 (.ofNat 500))) fun x11 => 
  cnd x11 (bV (some (.int .u8 (.ofNat 0))) fun x2 => bV (some (.int .i64 (.ofNat 0))) fun x3 => bV (some (.str 0 0)) fun x4 => bV (some (.int .i64 (.ofNat 4))) fun x5 => some (.ret (.tuple [x2, x3, x4, x5]), H))
  (bV (ixArr 512 1 x1 (.int .i64 (.ofNat 4))) fun x12 => 
  bV (ld1p x12 H) fun x13 => 
  bV (slArr 512 1 x1 (some (.int .i64 (.ofNat 8))) (some (.int .i64 (.ofNat 12))) none) fun x14 => 
  bR (f121 D n [x14] H) fun x15 H => 
  bV (cvI .i64 x15) fun x16 => 
  bV (bInt .add (.int .u64 (.ofNat 12)) x9) fun x18 => 
  bV (slArr 512 1 x1 (some (.int .i64 (.ofNat 12))) (some x18) none) fun x19 => 
  bV (cvBSp x19 H) fun x20 => 
  bR (f122 D n [x13, x16, x20] H) fun x25 H => 
  bV (pExtract x25 0) fun x26 => 
  bV (pExtract x25 1) fun x27 => 
  bA (bxV 151 (.agg [.pk 512 0])) H fun x7 H => 
  bR (stNp 512 x7 x26 H) fun x9999 H => 
  bV (bInt .neq x27 (.int .i64 (.ofNat 0))) fun x29 => 
  jn (wnt x29 false (bV (ldNp 512 x7 H) fun x31 => 
  bV (ldNp 512 x1 H) fun x32 => 
  bV (cmpO .neq (eqAp [(7, 512)] x31 x32)) fun x33 => 
  some (.norm [x33], H)) (some (.norm [undefA], H))) fun vs H => hd vs fun x33_2 vs => 
  bV (pk3 (some x29) (some (.bool true)) (some x33_2)) fun x34 => 
  cnd x34 (bV (some (.int .u8 (.ofNat 0))) fun x2_2 => bV (some (.int .i64 (.ofNat 0))) fun x3_2 => bV (some (.str 0 0)) fun x4_2 => bV (some (.int .i64 (.ofNat 4))) fun x5_2 => some (.ret (.tuple [x2_2, x3_2, x4_2, x5_2]), H))
  (bV (some x13) fun x2_3 => bV (some x16) fun x3_3 => bV (some x20) fun x4_3 => bV (some (.int .i64 (.ofNat 0))) fun x5_3 => some (.ret (.tuple [x2_3, x3_3, x4_3, x5_3]), H))))
def h103 : Hint := (.s .o (.s .o (.s (.s .o (.cl (.s .o .o) .o)) (.s .o (.s .o (.s .o (.s .o (.s (.s .o (.cl (.s .o .o) .o)) (.s .o .o)))))))))
theorem f103_eq (D : Dyn) (n : Nat) : f103 D n = funKp (s103 D n) D n 103 Tryz.f103 h103 := by kernel_rfl
theorem f103_ok {D : Dyn} (hD : DP D) (n : Nat) : FP 103 (f103 D n) := fun_okP X_ok hD (SP.cons (f121_ok hD n) (SP.cons (f122_ok hD n) (SP.nil))) Tryz.func103 (by kernel_rfl) (by kernel_rfl) (f103_eq D n)

def s81 (D : Dyn) (n : Nat) : Tb := ⟨X, [(102, f102 D n), (103, f103 D n)]⟩
/-- jetty/block.Check -/
def f81 (D : Dyn) (n : Nat) (vs : List AV) (H : AH) : Option (AV × AH) :=
  outR (hd vs fun x0 vs => hd vs fun x1 vs => nl vs <|
  bA (bxV 52 x0) H fun x2 H => 
  bA (bxV 151 x1) H fun x3 H => 
  bV (fAd 0 x2) fun x8 => 
  bV (ld1p x8 H) fun x9 => 
  bV (bInt .eql x9 (.int .i64 (.ofNat 0))) fun x10 => 
  jn (wnt x10 false (bV (ldNp 512 x3 H) fun x12 => 
  bV (fAd 2 x2) fun x14 => 
  bV (ld1p x14 H) fun x15 => 
  bR (f102 D n [x12] H) fun x13 H => chk (ld1p x14 H) x15 <| 
  bV (bInt .neq x13 x15) fun x16 => 
  some (.norm [x16], H)) (some (.norm [undefA], H))) fun vs H => hd vs fun x16_2 vs => 
  bV (pk3 (some x10) (some (.bool true)) (some x16_2)) fun x17 => 
  cnd x17 (bV (some (.int .u8 (.ofNat 0))) fun x4 => bV (some (.str 0 0)) fun x5 => bV (some (.int .i64 (.ofNat 52))) fun x6 => some (.ret (.tuple [x4, x5, x6]), H))
  (bV (ldNp 512 x3 H) fun x19 => 
  bR (f103 D n [x19] H) fun x20 H => 
  bV (pExtract x20 0) fun x21 => 
  bV (pExtract x20 1) fun x22 => 
  bV (pExtract x20 2) fun x23 => 
  bV (pExtract x20 3) fun x24 => 
  bV (bInt .neq x24 (.int .i64 (.ofNat 0))) fun x26 => 
  cnd x26 (bV (some (.int .u8 (.ofNat 0))) fun x4_2 => bV (some (.str 0 0)) fun x5_2 => bV (some x24) fun x6_2 => some (.ret (.tuple [x4_2, x5_2, x6_2]), H))
  (bV (fAd 1 x2) fun x29 => 
  bV (ld1p x29 H) fun x30 => 
  bV (bInt .neq x22 x30) fun x31 => 
  cnd x31 (bV (some (.int .u8 (.ofNat 0))) fun x4_3 => bV (some (.str 0 0)) fun x5_3 => bV (some (.int .i64 (.ofNat 52))) fun x6_3 => some (.ret (.tuple [x4_3, x5_3, x6_3]), H))
  (bV (some x21) fun x4_4 => bV (some x23) fun x5_4 => bV (some (.int .i64 (.ofNat 0))) fun x6_4 => some (.ret (.tuple [x4_4, x5_4, x6_4]), H)))))
def h81 : Hint := (.s .o (.s (.s .o (.cl (.s .o .o) .o)) (.s .o (.s (.s .o (.cl (.s .o .o) .o)) (.s (.s .o (.cl (.s .o .o) .o)) (.s .o .o))))))
theorem f81_eq (D : Dyn) (n : Nat) : f81 D n = funKp (s81 D n) D n 81 Tryz.f81 h81 := by kernel_rfl
theorem f81_ok {D : Dyn} (hD : DP D) (n : Nat) : FP 81 (f81 D n) := fun_okP X_ok hD (SP.cons (f102_ok hD n) (SP.cons (f103_ok hD n) (SP.nil))) Tryz.func81 (by kernel_rfl) (by kernel_rfl) (f81_eq D n)

def s123 (D : Dyn) (n : Nat) : Tb := ⟨X, []⟩
/-- (*jetty/disk.Disk).ask -/
def f123 (D : Dyn) (n : Nat) (vs : List AV) (H : AH) : Option (AV × AH) :=
  outR (hd vs fun x0 vs => nl vs <|
  bV (cmpO .eql (eqP x0 .nilPtr)) fun x4 => 
  cnd x4 (bV (some (.int .i64 (.ofNat 2))) fun x2 => some (.ret x2, H))
  (bV (pNil x0) fun x6 => 
  bV (fAd 6 x6) fun x7 => 
  bV (ld1p x7 H) fun x8 => 
  cnd x8 (bV (some (.int .i64 (.ofNat 51))) fun x2_2 => some (.ret x2_2, H))
  (bV (some (.int .i64 (.ofNat 0))) fun x2_3 => some (.ret x2_3, H))))
def h123 : Hint := (.s .o (.s (.s .o (.cl (.s .o .o) .o)) (.s (.s .o (.cl (.s .o .o) .o)) (.s .o .o))))
theorem f123_eq (D : Dyn) (n : Nat) : f123 D n = funKp (s123 D n) D n 123 Tryz.f123 h123 := by kernel_rfl
theorem f123_ok {D : Dyn} (hD : DP D) (n : Nat) : FP 123 (f123 D n) := fun_okP X_ok hD (SP.nil) Tryz.func123 (by kernel_rfl) (by kernel_rfl) (f123_eq D n)

def s104 (D : Dyn) (n : Nat) : Tb := ⟨X, [(123, f123 D n)]⟩
/-- (*jetty/disk.Disk).askAt -/
def f104 (D : Dyn) (n : Nat) (vs : List AV) (H : AH) : Option (AV × AH) :=
  outR (hd vs fun x0 vs => hd vs fun x1 vs => nl vs <|
  bR (f123 D n [x0] H) fun x7 H => 
  bV (bInt .neq x7 (.int .i64 (.ofNat 0))) fun x9 => 
  cnd x9 (bV (some x7) fun x4 => some (.ret x4, H))
  (bV (bInt .lss x1 (.int .i64 (.ofNat 0))) fun x12 => 
  jn (wnt x12 false (bV (pNil x0) fun x16 => 
  bV (fAd 0 x16) fun x17 => 
  bV (ld1p x17 H) fun x18 => 
  bV (bInt .geq x1 x18) fun x19 => 
  some (.norm [x19], H)) (some (.norm [undefA], H))) fun vs H => hd vs fun x19_2 vs => 
  bV (pk3 (some x12) (some (.bool true)) (some x19_2)) fun x20 => 
  cnd x20 (bV (some (.int .i64 (.ofNat 1))) fun x4_2 => some (.ret x4_2, H))
  (bV (some (.int .i64 (.ofNat 0))) fun x4_3 => some (.ret x4_3, H))))
def h104 : Hint := (.s .o (.s (.s .o (.s .o (.cl (.s .o .o) .o))) (.s (.s .o (.cl (.s .o .o) .o)) (.s .o .o))))
theorem f104_eq (D : Dyn) (n : Nat) : f104 D n = funKp (s104 D n) D n 104 Tryz.f104 h104 := by kernel_rfl
theorem f104_ok {D : Dyn} (hD : DP D) (n : Nat) : FP 104 (f104 D n) := fun_okP X_ok hD (SP.cons (f123_ok hD n) (SP.nil)) Tryz.func104 (by kernel_rfl) (by kernel_rfl) (f104_eq D n)

def s82 (D : Dyn) (n : Nat) : Tb := ⟨X, [(104, f104 D n)]⟩
/-- (*jetty/disk.Disk).Read -/
def f82 (D : Dyn) (n : Nat) (vs : List AV) (H : AH) : Option (AV × AH) :=
  outR (hd vs fun x0 vs => hd vs fun x1 vs => nl vs <|
  bA (bxV 151 (.agg [.pk 512 0])) H fun x4 H => 
  bR (f104 D n [x0, x1] H) fun x11 H => 
  bV (bInt .neq x11 (.int .i64 (.ofNat 0))) fun x13 => 
  cnd x13 (bV (bldAp 1 [.pk 512 0] []) fun x14 => 
  bR (stNp 512 x4 x14 H) fun x9999 H => 
  bV (ldNp 512 x4 H) fun x9004 => bV (some x11) fun x5 => some (.ret (.tuple [x9004, x5]), H))
  (bV (pNil x0) fun x18 => 
  bV (fAd 3 x18) fun x19 => 
  bV (ld1p x19 H) fun x20 => 
  bV (lkM [6] (.int .i64 (.ofNat 0)) true x20 x1 H) fun x22 => 
  bV (pExtract x22 0) fun x23 => 
  bV (pExtract x22 1) fun x24 => 
  cnd x24 (bV (pNil x0) fun x27 => 
  bV (fAd 2 x27) fun x28 => 
  bV (ld1p x28 H) fun x29 => 
  bV (ixSl 513 x29 x23) fun x31 => 
  bV (fAd 1 x31) fun x32 => 
  bV (ldNp 512 x32 H) fun x33 => 
  bR (stNp 512 x4 x33 H) fun x9999_2 H => 
  bV (ldNp 512 x4 H) fun x9004_2 => bV (some (.int .i64 (.ofNat 0))) fun x5_2 => some (.ret (.tuple [x9004_2, x5_2]), H))
  (bV (pNil x0) fun x35 => 
  bV (fAd 1 x35) fun x36 => 
  bV (ld1p x36 H) fun x37 => 
  bV (lkM [6] (.agg [.pk 512 0]) false x37 x1 H) fun x39 => 
  bR (stNp 512 x4 x39 H) fun x9999_3 H => 
  bV (ldNp 512 x4 H) fun x9004_3 => bV (some (.int .i64 (.ofNat 0))) fun x5_3 => some (.ret (.tuple [x9004_3, x5_3]), H))))
def h82 : Hint := (.s .o (.s (.s .o (.s .o (.cl (.s .o .o) .o))) (.s (.s .o (.s .o (.cl (.s .o .o) .o))) (.s .o .o))))
theorem f82_eq (D : Dyn) (n : Nat) : f82 D n = funKp (s82 D n) D n 82 Tryz.f82 h82 := by kernel_rfl
theorem f82_ok {D : Dyn} (hD : DP D) (n : Nat) : FP 82 (f82 D n) := fun_okP X_ok hD (SP.cons (f104_ok hD n) (SP.nil)) Tryz.func82 (by kernel_rfl) (by kernel_rfl) (f82_eq D n)

def s83 (D : Dyn) (n : Nat) : Tb := ⟨X, [(100, f100 D n), (101, f101 D n)]⟩
/-- (*jetty/arc.Cache).Put -/
def f83 (D : Dyn) (n : Nat) (vs : List AV) (H : AH) : Option (AV × AH) :=
  outR (hd vs fun x0 vs => hd vs fun x1 vs => hd vs fun x2 vs => nl vs <|
  bA (bxV 151 x2) H fun x5 H => 
  bR (f100 D n [x0] H) fun x8 H => 
  cnd x8 (bV (some (.int .i64 (.ofNat 2))) fun x6 => some (.ret x6, H))
  (bR (f101 D n [x0, x1, x5] H) fun x11 H => 
  bV (some (.int .i64 (.ofNat 0))) fun x6_2 => some (.ret x6_2, H)))
def h83 : Hint := (.s .o (.s (.s .o (.cl (.s .o .o) .o)) (.s .o (.s .o .o))))
theorem f83_eq (D : Dyn) (n : Nat) : f83 D n = funKp (s83 D n) D n 83 Tryz.f83 h83 := by kernel_rfl
theorem f83_ok {D : Dyn} (hD : DP D) (n : Nat) : FP 83 (f83 D n) := fun_okP X_ok hD (SP.cons (f100_ok hD n) (SP.cons (f101_ok hD n) (SP.nil))) Tryz.func83 (by kernel_rfl) (by kernel_rfl) (f83_eq D n)

def s61 (D : Dyn) (n : Nat) : Tb := ⟨X, [(80, f80 D n), (81, f81 D n), (82, f82 D n), (83, f83 D n)]⟩
def f61j0 (D : Dyn) (n : Nat) (vs : List AV) (H : AH) : Rs :=
  hd vs fun x0_2 vs => hd vs fun x3_2 vs => 
  some (.norm [x0_2, x3_2], H)
def f61j1 (D : Dyn) (n : Nat) (vs : List AV) (H : AH) : Rs :=
  hd vs fun x14 vs => hd vs fun x15 vs => 
  bV (some x14) fun x4_4 => bV (some x15) fun x5_4 => bV (some (.int .i64 (.ofNat 0))) fun x6_4 => some (.ret (.tuple [x4_4, x5_4, x6_4]), H)
def f61j2 (D : Dyn) (n : Nat) (vs : List AV) (H : AH) : Rs :=
  hd vs fun x0_3 vs => hd vs fun x3_3 vs => 
  bV (pNil x0_3) fun x46 => 
  bV (fAd 0 x46) fun x47 => 
  bV (ld1p x47 H) fun x48 => 
  bV (fAd 0 x3_3) fun x49 => 
  bV (ld1p x49 H) fun x50 => 
  bA (bxV 151 (.agg [.pk 512 0])) H fun x12 H => 
  bR (f82 D n [x48, x50] H) fun x51 H => 
  bV (pExtract x51 0) fun x52 => 
  bV (pExtract x51 1) fun x53 => 
  bR (stNp 512 x12 x52 H) fun x9999_2 H => 
  bV (bInt .neq x53 (.int .i64 (.ofNat 0))) fun x55 => 
  cnd x55 (bV (some (.int .u8 (.ofNat 0))) fun x4_2 => bV (some (.str 0 0)) fun x5_2 => bV (some x53) fun x6_2 => some (.ret (.tuple [x4_2, x5_2, x6_2]), H))
  (bV (ldNp 3 x3_3 H) fun x58 => 
  bV (ldNp 512 x12 H) fun x59 => 
  bR (f81 D n [x58, x59] H) fun x60 H => 
  bV (pExtract x60 0) fun x61 => 
  bV (pExtract x60 1) fun x62 => 
  bV (pExtract x60 2) fun x63 => 
  bV (bInt .neq x63 (.int .i64 (.ofNat 0))) fun x65 => 
  cnd x65 (bV (some (.int .u8 (.ofNat 0))) fun x4_3 => bV (some (.str 0 0)) fun x5_3 => bV (some x63) fun x6_3 => some (.ret (.tuple [x4_3, x5_3, x6_3]), H))
  (bV (pNil x0_3) fun x68 => 
  bV (fAd 1 x68) fun x69 => 
  bV (ld1p x69 H) fun x70 => 
  bV (cmpO .neq (eqP x70 .nilPtr)) fun x71 => 
  jn (cnd x71 (bV (pNil x0_3) fun x73 => 
  bV (fAd 1 x73) fun x74 => 
  bV (ld1p x74 H) fun x75 => 
  bV (fAd 0 x3_3) fun x76 => 
  bV (ld1p x76 H) fun x77 => 
  bV (ldNp 512 x12 H) fun x78 => 
  bR (f83 D n [x75, x77, x78] H) fun x79 H => 
  some (.norm [x61, x62], H))
  (some (.norm [x61, x62], H))) (f61j1 D n)))
/-- (*jetty/tree.Tree).body -/
def f61 (D : Dyn) (n : Nat) (vs : List AV) (H : AH) : Option (AV × AH) :=
  outR (hd vs fun x0 vs => hd vs fun x1 vs => nl vs <|
  bA (bxV 52 x1) H fun x3 H => 
  bV (pNil x0) fun x17 => 
  bV (fAd 1 x17) fun x18 => 
  bV (ld1p x18 H) fun x19 => 
  bV (cmpO .neq (eqP x19 .nilPtr)) fun x20 => 
  jn (cnd x20 (bV (pNil x0) fun x23 => 
  bV (fAd 1 x23) fun x24 => 
  bV (ld1p x24 H) fun x25 => 
  bV (fAd 0 x3) fun x26 => 
  bV (ld1p x26 H) fun x27 => 
  bA (bxV 151 (.agg [.pk 512 0])) H fun x7 H => 
  bR (f80 D n [x25, x27] H) fun x28 H => 
  bV (pExtract x28 0) fun x29 => 
  bV (pExtract x28 1) fun x30 => 
  bR (stNp 512 x7 x29 H) fun x9999 H => 
  bV (bInt .eql x30 (.int .i64 (.ofNat 0))) fun x32 => 
  jn (cnd x32 (bV (ldNp 3 x3 H) fun x34 => 
  bV (ldNp 512 x7 H) fun x35 => 
  bR (f81 D n [x34, x35] H) fun x36 H => 
  bV (pExtract x36 0) fun x37 => 
  bV (pExtract x36 1) fun x38 => 
  bV (pExtract x36 2) fun x39 => 
  bV (bInt .eql x39 (.int .i64 (.ofNat 0))) fun x41 => 
  cnd x41 (bV (some x37) fun x4 => bV (some x38) fun x5 => bV (some (.int .i64 (.ofNat 0))) fun x6 => some (.ret (.tuple [x4, x5, x6]), H))
  (some (.norm [x0, x3], H)))
  (some (.norm [x0, x3], H))) (f61j0 D n))
  (some (.norm [x0, x3], H))) (f61j2 D n))
def h61 : Hint := (.s .o (.s (.s .o (.c [0, 3] (.s .o (.s .o (.c [0, 3] (.s .o (.s .o (.cl (.s .o .o) .o))) .o))) .o)) (.s .o (.s (.s .o (.cl (.s .o .o) .o)) (.s .o (.s (.s .o (.cl (.s .o .o) .o)) (.s (.s .o (.c [14, 15] .o .o)) (.s .o .o))))))))
theorem f61_eq (D : Dyn) (n : Nat) : f61 D n = funKp (s61 D n) D n 61 Tryz.f61 h61 := by kernel_rfl
theorem f61_ok {D : Dyn} (hD : DP D) (n : Nat) : FP 61 (f61 D n) := fun_okP X_ok hD (SP.cons (f80_ok hD n) (SP.cons (f81_ok hD n) (SP.cons (f82_ok hD n) (SP.cons (f83_ok hD n) (SP.nil))))) Tryz.func61 (by kernel_rfl) (by kernel_rfl) (f61_eq D n)

def s84 (D : Dyn) (n : Nat) : Tb := ⟨X, []⟩
/-- (*jetty/node.reader).take -/
def f84 (D : Dyn) (n : Nat) (vs : List AV) (H : AH) : Option (AV × AH) :=
  outR (hd vs fun x0 vs => hd vs fun x1 vs => nl vs <|
  bV (pNil x0) fun x7 => 
  bV (fAd 1 x7) fun x8 => 
  bV (ld1p x8 H) fun x9 => 
  jn (wnt x9 false (bV (pNil x0) fun x12 => 
  bV (fAd 0 x12) fun x13 => 
  bV (ld1p x13 H) fun x14 => 
  bV (lnStr x14) fun x15 => 
  bV (bInt .lss x15 x1) fun x17 => 
  some (.norm [x17], H)) (some (.norm [undefA], H))) fun vs H => hd vs fun x17_2 vs => 
  bV (pk3 (some x9) (some (.bool true)) (some x17_2)) fun x18 => 
  cnd x18 (bV (pNil x0) fun x20 => 
  bV (fAd 1 x20) fun x21 => 
  bR (stNp 1 x21 (.bool true) H) fun x9999 H => 
  bV (some (.str 0 0)) fun x4 => some (.ret x4, H))
  (bV (pNil x0) fun x23 => 
  bV (fAd 0 x23) fun x24 => 
  bV (ld1p x24 H) fun x25 => 
  bV (slStr x25 none (some x1)) fun x27 => 
  bV (pNil x0) fun x30 => 
  bV (fAd 0 x30) fun x31 => 
  bV (ld1p x31 H) fun x32 => 
  bV (slStr x32 (some x1) none) fun x34 => 
  bV (pNil x0) fun x35 => 
  bV (fAd 0 x35) fun x36 => 
  bR (stNp 1 x36 x34 H) fun x9999_2 H => 
  bV (some x27) fun x4_2 => some (.ret x4_2, H)))
def h84 : Hint := (.s .o (.s (.s .o (.cl (.s .o (.s .o .o)) .o)) (.s .o (.s .o (.s .o .o)))))
theorem f84_eq (D : Dyn) (n : Nat) : f84 D n = funKp (s84 D n) D n 84 Tryz.f84 h84 := by kernel_rfl
theorem f84_ok {D : Dyn} (hD : DP D) (n : Nat) : FP 84 (f84 D n) := fun_okP X_ok hD (SP.nil) Tryz.func84 (by kernel_rfl) (by kernel_rfl) (f84_eq D n)

def s43 (D : Dyn) (n : Nat) : Tb := ⟨X, []⟩
/-- jetty/block.may -/
def f43 (D : Dyn) (n : Nat) (vs : List AV) (H : AH) : Option (AV × AH) :=
  outR (hd vs fun x0 vs => nl vs <|
  bA (bxV 52 x0) H fun x1 H => 
  bV (fAd 0 x1) fun x3 => 
  bV (ld1p x3 H) fun x4 => 
  bV (bInt .eql x4 (.int .i64 (.ofNat 0))) fun x5 => 
  cnd x5 (bV (ldNp 3 x1 H) fun x6 => 
  bV (bldSp [(0, 1), (1, 1), (2, 1)] [(.int .i64 (.ofNat 0)), (.int .i64 (.ofNat 0)), (.int .u64 (.ofNat 0))] []) fun x7 => 
  bV (cmpO .eql (eqAp [(6, 2), (10, 1)] x6 x7)) fun x8 => 
  bV (some x8) fun x2 => some (.ret x2, H))
  (bV (fAd 0 x1) fun x9 => 
  bV (ld1p x9 H) fun x10 => 
  bV (bInt .gtr x10 (.int .i64 (.ofNat 0))) fun x11 => 
  jn (wnt x11 true (bV (fAd 0 x1) fun x13 => 
  bV (ld1p x13 H) fun x14 => 
  bV (bInt .lss x14 (.int .i64 (.ofNat 8192))) fun x15 => 
  some (.norm [x15], H)) (some (.norm [undefA], H))) fun vs H => hd vs fun x15_2 vs => 
  bV (pk3 (some x11) (some x15_2) (some (.bool false))) fun x16 => 
  jn (wnt x16 true (bV (fAd 1 x1) fun x18 => 
  bV (ld1p x18 H) fun x19 => 
  bV (bInt .geq x19 (.int .i64 (.ofNat 0))) fun x20 => 
  some (.norm [x20], H)) (some (.norm [undefA], H))) fun vs H => hd vs fun x20_2 vs => 
  bV (pk3 (some x16) (some x20_2) (some (.bool false))) fun x21 => 
  jn (wnt x21 true (bV (fAd 1 x1) fun x23 => 
  bV (ld1p x23 H) fun x24 => 
  bV (bInt .leq x24 (.int .i64 (.ofNat 2147483647))) fun x25 => 
  some (.norm [x25], H)) (some (.norm [undefA], H))) fun vs H => hd vs fun x25_2 vs => 
  bV (pk3 (some x21) (some x25_2) (some (.bool false))) fun x26 => 
  bV (some x26) fun x2_2 => some (.ret x2_2, H)))
def h43 : Hint := (.s .o (.s (.s .o (.cl (.s .o .o) .o)) (.s .o .o)))
theorem f43_eq (D : Dyn) (n : Nat) : f43 D n = funKp (s43 D n) D n 43 Tryz.f43 h43 := by kernel_rfl
theorem f43_ok {D : Dyn} (hD : DP D) (n : Nat) : FP 43 (f43 D n) := fun_okP X_ok hD (SP.nil) Tryz.func43 (by kernel_rfl) (by kernel_rfl) (f43_eq D n)

def s106 (D : Dyn) (n : Nat) : Tb := ⟨X, [(121, f121 D n), (43, f43 D n)]⟩
/-- jetty/block.Decode -/
def f106 (D : Dyn) (n : Nat) (vs : List AV) (H : AH) : Option (AV × AH) :=
  outR (hd vs fun x0 vs => nl vs <|
  bA (bxV 52 (.agg [(.int .i64 (.ofNat 0)), (.int .i64 (.ofNat 0)), (.int .u64 (.ofNat 0))])) H fun x2 H => 
  bV (lnStr x0) fun x7 => 
  bV (bInt .neq x7 (.int .i64 (.ofNat 16))) fun x8 => 
  cnd x8 (bV (bldSp [(0, 1), (1, 1), (2, 1)] [(.int .i64 (.ofNat 0)), (.int .i64 (.ofNat 0)), (.int .u64 (.ofNat 0))] []) fun x9 => 
  bR (stNp 3 x2 x9 H) fun x9999 H => 
  bV (ldNp 3 x2 H) fun x9002 => bV (some (.int .i64 (.ofNat 4))) fun x3 => some (.ret (.tuple [x9002, x3]), H))
  (bA (cvSBp 5 x0) H fun x11 H => 
  bV (s2a 16 x11) fun x12 => 
  bV (ldNp 16 x12 H) fun x13 => 
  bA (bxV 103 (.agg [.pk 16 0])) H fun x4 H => 
  bR (stNp 16 x4 x13 H) fun x9999_2 H => 
  bV (slArr 16 1 x4 none (some (.int .i64 (.ofNat 4))) none) fun x14 => 
  bV (slArr 16 1 x4 (some (.int .i64 (.ofNat 4))) (some (.int .i64 (.ofNat 8))) none) fun x17 => 
  bV (slArr 16 1 x4 (some (.int .i64 (.ofNat 8))) none none) fun x20 => 
  bA (bxV 52 (.agg [(.int .i64 (.ofNat 0)), (.int .i64 (.ofNat 0)), (.int .u64 (.ofNat 0))])) H fun x5 H => 
  bR (f121 D n [x14] H) fun x15 H => 
  bV (cvI .i64 x15) fun x16 => 
  bR (f121 D n [x17] H) fun x18 H => 
  bV (cvI .i64 x18) fun x19 => 
  bR (f121 D n [x20] H) fun x21 H => 
  bV (bldSp [(0, 1), (1, 1), (2, 1)] [(.int .i64 (.ofNat 0)), (.int .i64 (.ofNat 0)), (.int .u64 (.ofNat 0))] [(0, x16), (1, x19), (2, x21)]) fun x22 => 
  bR (stNp 3 x5 x22 H) fun x9999_3 H => 
  bV (ldNp 3 x5 H) fun x23 => 
  bR (f43 D n [x23] H) fun x24 H => 
  bV (aun .not x24) fun x25 => 
  cnd x25 (bV (bldSp [(0, 1), (1, 1), (2, 1)] [(.int .i64 (.ofNat 0)), (.int .i64 (.ofNat 0)), (.int .u64 (.ofNat 0))] []) fun x26 => 
  bR (stNp 3 x2 x26 H) fun x9999_4 H => 
  bV (ldNp 3 x2 H) fun x9002_2 => bV (some (.int .i64 (.ofNat 4))) fun x3_2 => some (.ret (.tuple [x9002_2, x3_2]), H))
  (bV (ldNp 3 x5 H) fun x27 => 
  bR (stNp 3 x2 x27 H) fun x9999_5 H => 
  bV (ldNp 3 x2 H) fun x9002_3 => bV (some (.int .i64 (.ofNat 0))) fun x3_3 => some (.ret (.tuple [x9002_3, x3_3]), H))))
def h106 : Hint := (.s .o (.s (.s .o (.cl (.s .o .o) .o)) (.s .o (.s .o (.s (.s .o (.cl (.s .o .o) .o)) (.s .o .o))))))
theorem f106_eq (D : Dyn) (n : Nat) : f106 D n = funKp (s106 D n) D n 106 Tryz.f106 h106 := by kernel_rfl
theorem f106_ok {D : Dyn} (hD : DP D) (n : Nat) : FP 106 (f106 D n) := fun_okP X_ok hD (SP.cons (f121_ok hD n) (SP.cons (f43_ok hD n) (SP.nil))) Tryz.func106 (by kernel_rfl) (by kernel_rfl) (f106_eq D n)

def s86 (D : Dyn) (n : Nat) : Tb := ⟨X, [(84, f84 D n), (106, f106 D n)]⟩
/-- (*jetty/node.reader).kid -/
def f86 (D : Dyn) (n : Nat) (vs : List AV) (H : AH) : Option (AV × AH) :=
  outR (hd vs fun x0 vs => nl vs <|
  bR (f84 D n [x0, (.int .i64 (.ofNat 16))] H) fun x6 H => 
  bV (pNil x0) fun x8 => 
  bV (fAd 1 x8) fun x9 => 
  bV (ld1p x9 H) fun x10 => 
  cnd x10 (some (.ret (.tuple []), H))
  (bR (f106 D n [x6] H) fun x13 H => 
  bV (pExtract x13 0) fun x14 => 
  bV (pExtract x13 1) fun x15 => 
  bA (bxV 52 (.agg [(.int .i64 (.ofNat 0)), (.int .i64 (.ofNat 0)), (.int .u64 (.ofNat 0))])) H fun x3 H => 
  bR (stNp 3 x3 x14 H) fun x9999 H => 
  bV (bInt .neq x15 (.int .i64 (.ofNat 0))) fun x17 => 
  cnd x17 (bV (pNil x0) fun x19 => 
  bV (fAd 1 x19) fun x20 => 
  bR (stNp 1 x20 (.bool true) H) fun x9999_2 H => 
  some (.ret (.tuple []), H))
  (bV (pNil x0) fun x23 => 
  bV (fAd 2 x23) fun x24 => 
  bV (fAd 3 x24) fun x25 => 
  bV (ld1p x25 H) fun x26 => 
  bV (ldNp 3 x3 H) fun x27 => 
  bA (bldLp 52 3 1 [(.int .i64 (.ofNat 0)), (.int .i64 (.ofNat 0)), (.int .u64 (.ofNat 0))] [(0, x27)]) H fun x28 H => 
  bR (apPp 52 3 24 x26 x28 H) fun x29 H => 
  bV (pNil x0) fun x30 => 
  bV (fAd 2 x30) fun x31 => 
  bV (fAd 3 x31) fun x32 => 
  bR (stNp 1 x32 x29 H) fun x9999_3 H => 
  some (.ret (.tuple []), H))))
def h86 : Hint := (.s .o (.s (.s .o (.cl .o .o)) (.s .o (.s (.s .o (.cl (.s .o .o) .o)) .o))))
theorem f86_eq (D : Dyn) (n : Nat) : f86 D n = funKp (s86 D n) D n 86 Tryz.f86 h86 := by kernel_rfl
theorem f86_ok {D : Dyn} (hD : DP D) (n : Nat) : FP 86 (f86 D n) := fun_okP X_ok hD (SP.cons (f84_ok hD n) (SP.cons (f106_ok hD n) (SP.nil))) Tryz.func86 (by kernel_rfl) (by kernel_rfl) (f86_eq D n)

def s71 (D : Dyn) (n : Nat) : Tb := ⟨X, []⟩
/-- jetty/node.mayKey -/
def f71 (D : Dyn) (n : Nat) (vs : List AV) (H : AH) : Option (AV × AH) :=
  outR (hd vs fun x0 vs => nl vs <|
  bV (lnStr x0) fun x4 => 
  bV (bInt .geq x4 (.int .i64 (.ofNat 1))) fun x5 => 
  jn (wnt x5 true (bV (lnStr x0) fun x8 => 
  bV (bInt .leq x8 (.int .i64 (.ofNat 40))) fun x9 => 
  some (.norm [x9], H)) (some (.norm [undefA], H))) fun vs H => hd vs fun x9_2 vs => 
  bV (pk3 (some x5) (some x9_2) (some (.bool false))) fun x10 => 
  bV (some x10) fun x2 => some (.ret x2, H))
def h71 : Hint := (.s .o (.s .o .o))
theorem f71_eq (D : Dyn) (n : Nat) : f71 D n = funKp (s71 D n) D n 71 Tryz.f71 h71 := by kernel_rfl
theorem f71_ok {D : Dyn} (hD : DP D) (n : Nat) : FP 71 (f71 D n) := fun_okP X_ok hD (SP.nil) Tryz.func71 (by kernel_rfl) (by kernel_rfl) (f71_eq D n)

def s59 (D : Dyn) (n : Nat) : Tb := ⟨X, [(71, f71 D n)]⟩
def f59l0 (D : Dyn) (n : Nat) (vs : List AV) (H : AH) : Rs :=
  hd vs fun x1_2 vs => hd vs fun x10_2 vs => hd vs fun x11_2 vs => hd vs fun x12 vs => 
  bV (bInt .lss x12 x11_2) fun x13 => 
  cnd x13 (bV (ixSl 1 x10_2 x12) fun x15 => 
  bV (ld1p x15 H) fun x16 => 
  bR (f71 D n [x16] H) fun x18 H => 
  bV (aun .not x18) fun x19 => 
  jn (wnt x19 false (bV (bInt .gtr x12 (.int .i64 (.ofNat 0))) fun x22 => 
  some (.norm [x22], H)) (some (.norm [undefA], H))) fun vs H => hd vs fun x23 vs => 
  jn (wnt x23 true (bV (fAd 1 x1_2) fun x24 => 
  bV (ld1p x24 H) fun x25 => 
  bV (bInt .sub x12 (.int .i64 (.ofNat 1))) fun x27 => 
  bV (ixSl 1 x25 x27) fun x28 => 
  bV (ld1p x28 H) fun x29 => 
  bV (bStr .geq x29 x16) fun x31 => 
  some (.norm [x31], H)) (some (.norm [undefA], H))) fun vs H => hd vs fun x31_2 vs => 
  jn (wnt x19 false (bV (pk3 (some x23) (some x31_2) (some (.bool false))) fun x32 => 
  some (.norm [x32], H)) (some (.norm [undefA], H))) fun vs H => hd vs fun x32_2 vs => 
  bV (pk3 (some x19) (some (.bool true)) (some x32_2)) fun x33 => 
  cnd x33 (bV (some (.bool false)) fun x2 => some (.ret x2, H))
  (bV (bInt .add x12 (.int .i64 (.ofNat 1))) fun x34 => 
  some (.norm [x1_2, x10_2, x11_2, x34], H)))
  (some (.exit 0 [x1_2], H))
def f59l1 (D : Dyn) (n : Nat) (vs : List AV) (H : AH) : Rs :=
  hd vs fun x51_2 vs => hd vs fun x52_2 vs => hd vs fun x53 vs => 
  bV (bInt .lss x53 x52_2) fun x54 => 
  cnd x54 (bV (ixSl 1 x51_2 x53) fun x55 => 
  bV (ld1p x55 H) fun x56 => 
  bV (lnStr x56) fun x58 => 
  bV (bInt .gtr x58 (.int .i64 (.ofNat 200))) fun x59 => 
  cnd x59 (bV (some (.bool false)) fun x2_3 => some (.ret x2_3, H))
  (bV (bInt .add x53 (.int .i64 (.ofNat 1))) fun x60 => 
  some (.norm [x51_2, x52_2, x60], H)))
  (some (.exit 2 [], H))
def f59b2 (D : Dyn) (n : Nat) (vs : List AV) (H : AH) : Rs :=
  
  bV (some (.bool true)) fun x2_4 => some (.ret x2_4, H)
def f59l3 (D : Dyn) (n : Nat) (vs : List AV) (H : AH) : Rs :=
  hd vs fun x82_2 vs => hd vs fun x83_2 vs => hd vs fun x84 vs => 
  bV (bInt .lss x84 x83_2) fun x85 => 
  cnd x85 (bV (ixSl 3 x82_2 x84) fun x86 => 
  bV (ldNp 3 x86 H) fun x87 => 
  bA (bxV 52 (.agg [(.int .i64 (.ofNat 0)), (.int .i64 (.ofNat 0)), (.int .u64 (.ofNat 0))])) H fun x8 H => 
  bR (stNp 3 x8 x87 H) fun x9999 H => 
  bV (fAd 0 x8) fun x88 => 
  bV (ld1p x88 H) fun x89 => 
  bV (bInt .lss x89 (.int .i64 (.ofNat 1))) fun x90 => 
  jn (wnt x90 false (bV (fAd 0 x8) fun x92 => 
  bV (ld1p x92 H) fun x93 => 
  bV (bInt .geq x93 (.int .i64 (.ofNat 8192))) fun x94 => 
  some (.norm [x94], H)) (some (.norm [undefA], H))) fun vs H => hd vs fun x94_2 vs => 
  bV (pk3 (some x90) (some (.bool true)) (some x94_2)) fun x95 => 
  jn (wnt x95 false (bV (fAd 1 x8) fun x97 => 
  bV (ld1p x97 H) fun x98 => 
  bV (bInt .lss x98 (.int .i64 (.ofNat 0))) fun x99 => 
  some (.norm [x99], H)) (some (.norm [undefA], H))) fun vs H => hd vs fun x99_2 vs => 
  bV (pk3 (some x95) (some (.bool true)) (some x99_2)) fun x100 => 
  jn (wnt x100 false (bV (fAd 1 x8) fun x102 => 
  bV (ld1p x102 H) fun x103 => 
  bV (bInt .gtr x103 (.int .i64 (.ofNat 2147483647))) fun x104 => 
  some (.norm [x104], H)) (some (.norm [undefA], H))) fun vs H => hd vs fun x104_2 vs => 
  bV (pk3 (some x100) (some (.bool true)) (some x104_2)) fun x105 => 
  cnd x105 (bV (some (.bool false)) fun x2_6 => some (.ret x2_6, H))
  (bV (bInt .add x84 (.int .i64 (.ofNat 1))) fun x106 => 
  some (.norm [x82_2, x83_2, x106], H)))
  (some (.exit 4 [], H))
def f59b4 (D : Dyn) (n : Nat) (vs : List AV) (H : AH) : Rs :=
  
  bV (some (.bool true)) fun x2_7 => some (.ret x2_7, H)
def f59b5 (D : Dyn) (n : Nat) (vs : List AV) (H : AH) : Rs :=
  hd vs fun x1_3 vs => 
  bV (fAd 0 x1_3) fun x35 => 
  bV (ld1p x35 H) fun x36 => 
  cnd x36 (bV (fAd 2 x1_3) fun x37 => 
  bV (ld1p x37 H) fun x38 => 
  bV (lnSl x38) fun x39 => 
  bV (fAd 1 x1_3) fun x40 => 
  bV (ld1p x40 H) fun x41 => 
  bV (lnSl x41) fun x42 => 
  bV (bInt .neq x39 x42) fun x43 => 
  jn (wnt x43 false (bV (fAd 3 x1_3) fun x45 => 
  bV (ld1p x45 H) fun x46 => 
  bV (lnSl x46) fun x47 => 
  bV (bInt .neq x47 (.int .i64 (.ofNat 0))) fun x48 => 
  some (.norm [x48], H)) (some (.norm [undefA], H))) fun vs H => hd vs fun x48_2 vs => 
  bV (pk3 (some x43) (some (.bool true)) (some x48_2)) fun x49 => 
  cnd x49 (bV (some (.bool false)) fun x2_2 => some (.ret x2_2, H))
  (bV (fAd 2 x1_3) fun x50 => 
  bV (ld1p x50 H) fun x51 => 
  bV (lnSl x51) fun x52 => 
  jb 2 (loopK n (f59l1 D n) [x51, x52, (.int .i64 (.ofNat 0))] H) (f59b2 D n)))
  (bV (fAd 1 x1_3) fun x61 => 
  bV (ld1p x61 H) fun x62 => 
  bV (lnSl x62) fun x63 => 
  bV (bInt .eql x63 (.int .i64 (.ofNat 0))) fun x64 => 
  jn (wnt x64 false (bV (fAd 2 x1_3) fun x66 => 
  bV (ld1p x66 H) fun x67 => 
  bV (lnSl x67) fun x68 => 
  bV (bInt .neq x68 (.int .i64 (.ofNat 0))) fun x69 => 
  some (.norm [x69], H)) (some (.norm [undefA], H))) fun vs H => hd vs fun x69_2 vs => 
  bV (pk3 (some x64) (some (.bool true)) (some x69_2)) fun x70 => 
  jn (wnt x70 false (bV (fAd 3 x1_3) fun x72 => 
  bV (ld1p x72 H) fun x73 => 
  bV (lnSl x73) fun x74 => 
  bV (fAd 1 x1_3) fun x75 => 
  bV (ld1p x75 H) fun x76 => 
  bV (lnSl x76) fun x77 => 
  bV (bInt .add x77 (.int .i64 (.ofNat 1))) fun x78 => 
  bV (bInt .neq x74 x78) fun x79 => 
  some (.norm [x79], H)) (some (.norm [undefA], H))) fun vs H => hd vs fun x79_2 vs => 
  bV (pk3 (some x70) (some (.bool true)) (some x79_2)) fun x80 => 
  cnd x80 (bV (some (.bool false)) fun x2_5 => some (.ret x2_5, H))
  (bV (fAd 3 x1_3) fun x81 => 
  bV (ld1p x81 H) fun x82 => 
  bV (lnSl x82) fun x83 => 
  jb 4 (loopK n (f59l3 D n) [x82, x83, (.int .i64 (.ofNat 0))] H) (f59b4 D n)))
/-- jetty/node.shaped -/
def f59 (D : Dyn) (n : Nat) (vs : List AV) (H : AH) : Option (AV × AH) :=
  outR (hd vs fun x0 vs => nl vs <|
  bA (bxV 80 x0) H fun x1 H => 
  bV (fAd 1 x1) fun x9 => 
  bV (ld1p x9 H) fun x10 => 
  bV (lnSl x10) fun x11 => 
  jb 0 (loopK n (f59l0 D n) [x1, x10, x11, (.int .i64 (.ofNat 0))] H) (f59b5 D n))
def h59 : Hint := (.s .o (.s (.s .o (.b [1] (.l [1, 10, 11, 12] (.s .o (.s (.cr .o .o) (.s (.b0 (.s .o (.s .o (.cl (.s .o .o) .o)))) .o)))))) (.s (.s .o (.cl (.s (.s .o (.cl (.s .o .o) .o)) (.s (.s .o (.b [] (.l [51, 52, 53] (.s .o (.s (.cr .o .o) (.s (.b0 (.s .o (.s .o (.cl (.s .o .o) .o)))) .o)))))) (.s .o .o))) .o)) (.s (.s .o (.cl (.s .o .o) .o)) (.s (.s .o (.b [] (.l [82, 83, 84] (.s .o (.s (.cr .o .o) (.s (.b0 (.s .o (.s .o (.cl (.s .o .o) .o)))) .o)))))) (.s .o .o))))))
theorem f59_eq (D : Dyn) (n : Nat) : f59 D n = funKp (s59 D n) D n 59 Tryz.f59 h59 := by kernel_rfl
theorem f59_ok {D : Dyn} (hD : DP D) (n : Nat) : FP 59 (f59 D n) := fun_okP X_ok hD (SP.cons (f71_ok hD n) (SP.nil)) Tryz.func59 (by kernel_rfl) (by kernel_rfl) (f59_eq D n)

def s74 (D : Dyn) (n : Nat) : Tb := ⟨X, []⟩
def f74l0 (D : Dyn) (n : Nat) (vs : List AV) (H : AH) : Rs :=
  hd vs fun x1_2 vs => hd vs fun x3 vs => hd vs fun x14_2 vs => hd vs fun x15_2 vs => hd vs fun x16 vs => 
  bV (bInt .lss x16 x15_2) fun x17 => 
  cnd x17 (bV (ixSl 1 x14_2 x16) fun x18 => 
  bV (ld1p x18 H) fun x19 => 
  bV (lnStr x19) fun x22 => 
  bV (bInt .add (.int .i64 (.ofNat 1)) x22) fun x23 => 
  bV (bInt .add x3 x23) fun x24 => 
  bV (bInt .add x16 (.int .i64 (.ofNat 1))) fun x25 => 
  some (.norm [x1_2, x24, x14_2, x15_2, x25], H))
  (some (.exit 0 [x1_2, x3], H))
def f74l1 (D : Dyn) (n : Nat) (vs : List AV) (H : AH) : Rs :=
  hd vs fun x3_3 vs => hd vs fun x27_2 vs => hd vs fun x28_2 vs => hd vs fun x29 vs => 
  bV (bInt .lss x29 x28_2) fun x30 => 
  cnd x30 (bV (ixSl 1 x27_2 x29) fun x31 => 
  bV (ld1p x31 H) fun x32 => 
  bV (lnStr x32) fun x35 => 
  bV (bInt .add (.int .i64 (.ofNat 1)) x35) fun x36 => 
  bV (bInt .add x3_3 x36) fun x37 => 
  bV (bInt .add x29 (.int .i64 (.ofNat 1))) fun x38 => 
  some (.norm [x37, x27_2, x28_2, x38], H))
  (some (.exit 2 [x3_3], H))
def f74b2 (D : Dyn) (n : Nat) (vs : List AV) (H : AH) : Rs :=
  hd vs fun x3_4 vs => 
  bV (some x3_4) fun x2 => some (.ret x2, H)
def f74b3 (D : Dyn) (n : Nat) (vs : List AV) (H : AH) : Rs :=
  hd vs fun x1_3 vs => hd vs fun x3_2 vs => 
  bV (fAd 2 x1_3) fun x26 => 
  bV (ld1p x26 H) fun x27 => 
  bV (lnSl x27) fun x28 => 
  jb 2 (loopK n (f74l1 D n) [x3_2, x27, x28, (.int .i64 (.ofNat 0))] H) (f74b2 D n)
/-- jetty/node.Size -/
def f74 (D : Dyn) (n : Nat) (vs : List AV) (H : AH) : Option (AV × AH) :=
  outR (hd vs fun x0 vs => nl vs <|
  bA (bxV 80 x0) H fun x1 H => 
  bV (fAd 3 x1) fun x8 => 
  bV (ld1p x8 H) fun x9 => 
  bV (lnSl x9) fun x10 => 
  bV (bInt .mul (.int .i64 (.ofNat 16)) x10) fun x11 => 
  bV (bInt .add (.int .i64 (.ofNat 2)) x11) fun x12 => 
  bV (fAd 1 x1) fun x13 => 
  bV (ld1p x13 H) fun x14 => 
  bV (lnSl x14) fun x15 => 
  jb 0 (loopK n (f74l0 D n) [x1, x12, x14, x15, (.int .i64 (.ofNat 0))] H) (f74b3 D n))
def h74 : Hint := (.s .o (.s .o (.s (.s .o (.b [1, 3] (.l [1, 3, 14, 15, 16] (.s .o (.s (.cr .o .o) (.s (.b0 (.s .o .o)) .o)))))) (.s (.s .o (.b [3] (.l [3, 27, 28, 29] (.s .o (.s (.cr .o .o) (.s (.b0 (.s .o .o)) .o)))))) (.s .o .o)))))
theorem f74_eq (D : Dyn) (n : Nat) : f74 D n = funKp (s74 D n) D n 74 Tryz.f74 h74 := by kernel_rfl
theorem f74_ok {D : Dyn} (hD : DP D) (n : Nat) : FP 74 (f74 D n) := fun_okP X_ok hD (SP.nil) Tryz.func74 (by kernel_rfl) (by kernel_rfl) (f74_eq D n)

def s88 (D : Dyn) (n : Nat) : Tb := ⟨X, [(59, f59 D n), (74, f74 D n)]⟩
/-- jetty/node.May -/
def f88 (D : Dyn) (n : Nat) (vs : List AV) (H : AH) : Option (AV × AH) :=
  outR (hd vs fun x0 vs => nl vs <|
  bA (bxV 80 x0) H fun x1 H => 
  bV (ldNp 4 x1 H) fun x3 => 
  bR (f59 D n [x3] H) fun x4 H => 
  jn (wnt x4 true (bV (ldNp 4 x1 H) fun x6 => 
  bR (f74 D n [x6] H) fun x7 H => 
  bV (bInt .leq x7 (.int .i64 (.ofNat 500))) fun x8 => 
  some (.norm [x8], H)) (some (.norm [undefA], H))) fun vs H => hd vs fun x8_2 vs => 
  bV (pk3 (some x4) (some x8_2) (some (.bool false))) fun x9 => 
  bV (some x9) fun x2 => some (.ret x2, H))
def h88 : Hint := (.s .o (.s .o .o))
theorem f88_eq (D : Dyn) (n : Nat) : f88 D n = funKp (s88 D n) D n 88 Tryz.f88 h88 := by kernel_rfl
theorem f88_ok {D : Dyn} (hD : DP D) (n : Nat) : FP 88 (f88 D n) := fun_okP X_ok hD (SP.cons (f59_ok hD n) (SP.cons (f74_ok hD n) (SP.nil))) Tryz.func88 (by kernel_rfl) (by kernel_rfl) (f88_eq D n)

def s105 (D : Dyn) (n : Nat) : Tb := ⟨X, [(84, f84 D n)]⟩
/-- (*jetty/node.reader).text -/
def f105 (D : Dyn) (n : Nat) (vs : List AV) (H : AH) : Option (AV × AH) :=
  outR (hd vs fun x0 vs => nl vs <|
  bR (f84 D n [x0, (.int .i64 (.ofNat 1))] H) fun x5 H => 
  bV (pNil x0) fun x7 => 
  bV (fAd 1 x7) fun x8 => 
  bV (ld1p x8 H) fun x9 => 
  cnd x9 (bV (some (.str 0 0)) fun x2 => some (.ret x2, H))
  (bV (ixStr x5 (.int .i64 (.ofNat 0))) fun x12 => 
  bV (cvI .i64 x12) fun x13 => 
  bR (f84 D n [x0, x13] H) fun x14 H => 
  bV (some x14) fun x2_2 => some (.ret x2_2, H)))
def h105 : Hint := (.s .o (.s .o (.s (.s .o (.cl (.s .o .o) .o)) (.s .o .o))))
theorem f105_eq (D : Dyn) (n : Nat) : f105 D n = funKp (s105 D n) D n 105 Tryz.f105 h105 := by kernel_rfl
theorem f105_ok {D : Dyn} (hD : DP D) (n : Nat) : FP 105 (f105 D n) := fun_okP X_ok hD (SP.cons (f84_ok hD n) (SP.nil)) Tryz.func105 (by kernel_rfl) (by kernel_rfl) (f105_eq D n)

def s85 (D : Dyn) (n : Nat) : Tb := ⟨X, [(105, f105 D n)]⟩
/-- (*jetty/node.reader).key -/
def f85 (D : Dyn) (n : Nat) (vs : List AV) (H : AH) : Option (AV × AH) :=
  outR (hd vs fun x0 vs => nl vs <|
  bV (pNil x0) fun x4 => 
  bV (fAd 2 x4) fun x5 => 
  bV (fAd 1 x5) fun x6 => 
  bV (ld1p x6 H) fun x7 => 
  bR (f105 D n [x0] H) fun x9 H => chk (ld1p x6 H) x7 <| 
  bA (bldLp 9 1 1 [(.str 0 0)] [(0, x9)]) H fun x10 H => 
  bR (apPp 9 1 16 x7 x10 H) fun x11 H => 
  bV (pNil x0) fun x12 => 
  bV (fAd 2 x12) fun x13 => 
  bV (fAd 1 x13) fun x14 => 
  bR (stNp 1 x14 x11 H) fun x9999 H => 
  some (.ret (.tuple []), H))
def h85 : Hint := .o
theorem f85_eq (D : Dyn) (n : Nat) : f85 D n = funKp (s85 D n) D n 85 Tryz.f85 h85 := by kernel_rfl
theorem f85_ok {D : Dyn} (hD : DP D) (n : Nat) : FP 85 (f85 D n) := fun_okP X_ok hD (SP.cons (f105_ok hD n) (SP.nil)) Tryz.func85 (by kernel_rfl) (by kernel_rfl) (f85_eq D n)

def s87 (D : Dyn) (n : Nat) : Tb := ⟨X, [(105, f105 D n)]⟩
/-- (*jetty/node.reader).value -/
def f87 (D : Dyn) (n : Nat) (vs : List AV) (H : AH) : Option (AV × AH) :=
  outR (hd vs fun x0 vs => nl vs <|
  bV (pNil x0) fun x4 => 
  bV (fAd 2 x4) fun x5 => 
  bV (fAd 2 x5) fun x6 => 
  bV (ld1p x6 H) fun x7 => 
  bR (f105 D n [x0] H) fun x9 H => chk (ld1p x6 H) x7 <| 
  bA (bldLp 9 1 1 [(.str 0 0)] [(0, x9)]) H fun x10 H => 
  bR (apPp 9 1 16 x7 x10 H) fun x11 H => 
  bV (pNil x0) fun x12 => 
  bV (fAd 2 x12) fun x13 => 
  bV (fAd 2 x13) fun x14 => 
  bR (stNp 1 x14 x11 H) fun x9999 H => 
  some (.ret (.tuple []), H))
def h87 : Hint := .o
theorem f87_eq (D : Dyn) (n : Nat) : f87 D n = funKp (s87 D n) D n 87 Tryz.f87 h87 := by kernel_rfl
theorem f87_ok {D : Dyn} (hD : DP D) (n : Nat) : FP 87 (f87 D n) := fun_okP X_ok hD (SP.cons (f105_ok hD n) (SP.nil)) Tryz.func87 (by kernel_rfl) (by kernel_rfl) (f87_eq D n)

def s62 (D : Dyn) (n : Nat) : Tb := ⟨X, [(84, f84 D n), (86, f86 D n), (88, f88 D n)]⟩
def f62l0 (D : Dyn) (n : Nat) (vs : List AV) (H : AH) : Rs :=
  hd vs fun x4_4 vs => hd vs fun x6_3 vs => hd vs fun x8_3 vs => hd vs fun x47_3 vs => hd vs fun x48_2 vs => hd vs fun x50 vs => hd vs fun x51_2 vs => hd vs fun x52 vs => 
  bV (bInt .lss x52 x51_2) fun x53 => 
  cnd x53 (bV (ixSl 1 x50 x52) fun x54 => 
  bV (ld1p x54 H) fun x55 => 
  bR (callV (s62 D n).S D x55 [] H) fun x57 H => 
  bV (bInt .add x52 (.int .i64 (.ofNat 1))) fun x58 => 
  some (.norm [x4_4, x6_3, x8_3, x47_3, x48_2, x50, x51_2, x58], H))
  (some (.exit 2 [x4_4, x6_3, x8_3, x47_3, x48_2], H))
def f62b1 (D : Dyn) (n : Nat) (vs : List AV) (H : AH) : Rs :=
  hd vs fun x4_5 vs => hd vs fun x6_4 vs => hd vs fun x8_4 vs => hd vs fun x47_4 vs => hd vs fun x48_3 vs => 
  bV (pNil x6_4) fun x60 => 
  bV (fAd 1 x60) fun x61 => 
  bV (ld1p x61 H) fun x62 => 
  cnd x62 (some (.exit 0 [x4_5, x6_4], H))
  (bV (bInt .add x48_3 (.int .i64 (.ofNat 1))) fun x63 => 
  some (.norm [x4_5, x6_4, x8_4, x47_4, x63], H))
def f62l2 (D : Dyn) (n : Nat) (vs : List AV) (H : AH) : Rs :=
  hd vs fun x4_3 vs => hd vs fun x6_2 vs => hd vs fun x8_2 vs => hd vs fun x47_2 vs => hd vs fun x48 vs => 
  bV (bInt .lss x48 x47_2) fun x49 => 
  cnd x49 (bV (lnSl x8_2) fun x51 => 
  jb 2 (loopK n (f62l0 D n) [x4_3, x6_2, x8_2, x47_2, x48, x8_2, x51, (.int .i64 (.ofNat 0))] H) (f62b1 D n))
  (some (.exit 0 [x4_3, x6_2], H))
def f62b3 (D : Dyn) (n : Nat) (vs : List AV) (H : AH) : Rs :=
  hd vs fun x4_6 vs => hd vs fun x6_5 vs => 
  bV (pNil x6_5) fun x65 => 
  bV (fAd 1 x65) fun x66 => 
  bV (ld1p x66 H) fun x67 => 
  jn (wnt x67 false (bV (pNil x6_5) fun x70 => 
  bV (fAd 0 x70) fun x71 => 
  bV (ld1p x71 H) fun x72 => 
  bV (bStr .neq x72 (.str 0 0)) fun x73 => 
  some (.norm [x73], H)) (some (.norm [undefA], H))) fun vs H => hd vs fun x73_2 vs => 
  bV (pk3 (some x67) (some (.bool true)) (some x73_2)) fun x74 => 
  jn (wnt x74 false (bV (pNil x6_5) fun x77 => 
  bV (fAd 2 x77) fun x78 => 
  bV (ldNp 4 x78 H) fun x79 => 
  bR (f88 D n [x79] H) fun x80 H => 
  bV (aun .not x80) fun x81 => 
  some (.norm [x81], H)) (some (.norm [undefA], H))) fun vs H => hd vs fun x81_2 vs => 
  bV (pk3 (some x74) (some (.bool true)) (some x81_2)) fun x82 => 
  cnd x82 (bV (bldSp [(0, 1), (1, 1), (2, 1), (3, 1)] [(.bool false), .nilSlice, .nilSlice, .nilSlice] []) fun x83 => 
  bR (stNp 4 x4_6 x83 H) fun x9999_3 H => 
  bV (ldNp 4 x4_6 H) fun x9004_3 => bV (some (.int .i64 (.ofNat 4))) fun x5_3 => some (.ret (.tuple [x9004_3, x5_3]), H))
  (bV (pNil x6_5) fun x85 => 
  bV (fAd 2 x85) fun x86 => 
  bV (ldNp 4 x86 H) fun x87 => 
  bR (stNp 4 x4_6 x87 H) fun x9999_4 H => 
  bV (ldNp 4 x4_6 H) fun x9004_4 => bV (some (.int .i64 (.ofNat 0))) fun x5_4 => some (.ret (.tuple [x9004_4, x5_4]), H))
def f62j4 (D : Dyn) (n : Nat) (vs : List AV) (H : AH) : Rs :=
  hd vs fun x4_2 vs => hd vs fun x6 vs => hd vs fun x7 vs => hd vs fun x8 vs => 
  bV (ixStr x7 (.int .i64 (.ofNat 0))) fun x41 => 
  bV (cvI .i64 x41) fun x42 => 
  bV (bInt .shl x42 (.int .u64 (.ofNat 8))) fun x43 => 
  bV (ixStr x7 (.int .i64 (.ofNat 1))) fun x45 => 
  bV (cvI .i64 x45) fun x46 => 
  bV (bInt .or x43 x46) fun x47 => 
  jb 0 (loopK n (f62l2 D n) [x4_2, x6, x8, x47, (.int .i64 (.ofNat 0))] H) (f62b3 D n)
/-- jetty/node.Decode -/
def f62 (D : Dyn) (n : Nat) (vs : List AV) (H : AH) : Option (AV × AH) :=
  outR (hd vs fun x0 vs => hd vs fun x1 vs => nl vs <|
  bA (bxV 80 (.agg [(.bool false), .nilSlice, .nilSlice, .nilSlice])) H fun x4 H => 
  bV (lnStr x1) fun x12 => 
  bV (bInt .gtr x12 (.int .i64 (.ofNat 500))) fun x13 => 
  cnd x13 (bV (bldSp [(0, 1), (1, 1), (2, 1), (3, 1)] [(.bool false), .nilSlice, .nilSlice, .nilSlice] []) fun x14 => 
  bR (stNp 4 x4 x14 H) fun x9999 H => 
  bV (ldNp 4 x4 H) fun x9004 => bV (some (.int .i64 (.ofNat 4))) fun x5 => some (.ret (.tuple [x9004, x5]), H))
  (bV (bldSp [(0, 1), (1, 1), (2, 1), (3, 1)] [(.bool false), .nilSlice, .nilSlice, .nilSlice] [(0, x0)]) fun x17 => 
  bV (bldSp [(0, 1), (1, 1), (2, 4)] [(.str 0 0), (.bool false), (.bool false), .nilSlice, .nilSlice, .nilSlice] [(0, x1), (2, x17)]) fun x18 => 
  bA (bxV 158 x18) H fun x19 H => 
  bR (f84 D n [x19, (.int .i64 (.ofNat 2))] H) fun x21 H => 
  bV (pNil x19) fun x23 => 
  bV (fAd 1 x23) fun x24 => 
  bV (ld1p x24 H) fun x25 => 
  cnd x25 (bV (bldSp [(0, 1), (1, 1), (2, 1), (3, 1)] [(.bool false), .nilSlice, .nilSlice, .nilSlice] []) fun x26 => 
  bR (stNp 4 x4 x26 H) fun x9999_2 H => 
  bV (ldNp 4 x4 H) fun x9004_2 => bV (some (.int .i64 (.ofNat 4))) fun x5_2 => some (.ret (.tuple [x9004_2, x5_2]), H))
  (bA (bldLp 1 1 2 [.nilFunc] [(0, (.func 85 [x19] [])), (1, (.func 86 [x19] []))]) H fun x31 H => 
  jn (cnd x0 (bA (bldLp 1 1 2 [.nilFunc] [(0, (.func 85 [x19] [])), (1, (.func 87 [x19] []))]) H fun x37 H => 
  some (.norm [x4, x19, x21, x37], H))
  (bR (f86 D n [x19] H) fun x39 H => 
  some (.norm [x4, x19, x21, x31], H))) (f62j4 D n))))
def h62 : Hint := (.s .o (.s (.s .o (.cl (.s .o .o) .o)) (.s .o (.s .o (.s (.s .o (.cl (.s .o .o) .o)) (.s .o (.s (.s .o (.c [4, 6, 7, 8] .o .o)) (.s (.s .o (.b [4, 6] (.l [4, 6, 8, 47, 48] (.s .o (.s (.cr .o .o) (.s (.b0 (.s (.s .o (.b [4, 6, 8, 47, 48] (.l [4, 6, 8, 47, 48, 50, 51, 52] (.s .o (.s (.cr .o .o) (.s (.b0 (.s .o .o)) .o)))))) (.s .o (.cl .o .o)))) .o)))))) (.s (.s .o (.cl (.s .o .o) .o)) (.s .o .o))))))))))
theorem f62_eq (D : Dyn) (n : Nat) : f62 D n = funKp (s62 D n) D n 62 Tryz.f62 h62 := by kernel_rfl
theorem f62_ok {D : Dyn} (hD : DP D) (n : Nat) : FP 62 (f62 D n) := fun_okP X_ok hD (SP.cons (f84_ok hD n) (SP.cons (f86_ok hD n) (SP.cons (f88_ok hD n) (SP.nil)))) Tryz.func62 (by kernel_rfl) (by kernel_rfl) (f62_eq D n)

def s37 (D : Dyn) (n : Nat) : Tb := ⟨X, [(61, f61 D n), (62, f62 D n)]⟩
/-- (*jetty/tree.Tree).read -/
def f37 (D : Dyn) (n : Nat) (vs : List AV) (H : AH) : Option (AV × AH) :=
  outR (hd vs fun x0 vs => hd vs fun x1 vs => nl vs <|
  bA (bxV 52 x1) H fun x3 H => 
  bA (bxV 80 (.agg [(.bool false), .nilSlice, .nilSlice, .nilSlice])) H fun x4 H => 
  bV (fAd 0 x3) fun x11 => 
  bV (ld1p x11 H) fun x12 => 
  bV (bInt .eql x12 (.int .i64 (.ofNat 1))) fun x13 => 
  cnd x13 (bV (pNil x0) fun x16 => 
  bV (fAd 5 x16) fun x17 => 
  bV (ld1p x17 H) fun x18 => 
  bV (fAd 2 x3) fun x19 => 
  bV (ld1p x19 H) fun x20 => 
  bV (lkM [10] (.agg [(.bool false), .nilSlice, .nilSlice, .nilSlice]) true x18 x20 H) fun x21 => 
  bV (pExtract x21 0) fun x22 => 
  bV (pExtract x21 1) fun x23 => 
  bA (bxV 80 (.agg [(.bool false), .nilSlice, .nilSlice, .nilSlice])) H fun x6 H => 
  bR (stNp 4 x6 x22 H) fun x9999 H => 
  bV (aun .not x23) fun x25 => 
  jn (wnt x25 false (bV (fAd 1 x3) fun x27 => 
  bV (ld1p x27 H) fun x28 => 
  bV (bInt .neq x28 (.int .i64 (.ofNat 0))) fun x29 => 
  some (.norm [x29], H)) (some (.norm [undefA], H))) fun vs H => hd vs fun x29_2 vs => 
  bV (pk3 (some x25) (some (.bool true)) (some x29_2)) fun x30 => 
  cnd x30 (bV (bldSp [(0, 1), (1, 1), (2, 1), (3, 1)] [(.bool false), .nilSlice, .nilSlice, .nilSlice] []) fun x31 => 
  bR (stNp 4 x4 x31 H) fun x9999_2 H => 
  bV (ldNp 4 x4 H) fun x9004 => bV (some (.int .i64 (.ofNat 1))) fun x5 => some (.ret (.tuple [x9004, x5]), H))
  (bV (ldNp 4 x6 H) fun x32 => 
  bR (stNp 4 x4 x32 H) fun x9999_3 H => 
  bV (ldNp 4 x4 H) fun x9004_2 => bV (some (.int .i64 (.ofNat 0))) fun x5_2 => some (.ret (.tuple [x9004_2, x5_2]), H)))
  (bV (ldNp 3 x3 H) fun x35 => 
  bR (f61 D n [x0, x35] H) fun x36 H => 
  bV (pExtract x36 0) fun x37 => 
  bV (pExtract x36 1) fun x38 => 
  bV (pExtract x36 2) fun x39 => 
  bV (bInt .neq x39 (.int .i64 (.ofNat 0))) fun x41 => 
  cnd x41 (bV (bldSp [(0, 1), (1, 1), (2, 1), (3, 1)] [(.bool false), .nilSlice, .nilSlice, .nilSlice] []) fun x42 => 
  bR (stNp 4 x4 x42 H) fun x9999_4 H => 
  bV (ldNp 4 x4 H) fun x9004_3 => bV (some x39) fun x5_3 => some (.ret (.tuple [x9004_3, x5_3]), H))
  (bV (bInt .neq x37 (.int .u8 (.ofNat 1))) fun x45 => 
  jn (wnt x45 true (bV (bInt .neq x37 (.int .u8 (.ofNat 2))) fun x48 => 
  some (.norm [x48], H)) (some (.norm [undefA], H))) fun vs H => hd vs fun x48_2 vs => 
  bV (pk3 (some x45) (some x48_2) (some (.bool false))) fun x49 => 
  cnd x49 (bV (bldSp [(0, 1), (1, 1), (2, 1), (3, 1)] [(.bool false), .nilSlice, .nilSlice, .nilSlice] []) fun x50 => 
  bR (stNp 4 x4 x50 H) fun x9999_5 H => 
  bV (ldNp 4 x4 H) fun x9004_4 => bV (some (.int .i64 (.ofNat 4))) fun x5_4 => some (.ret (.tuple [x9004_4, x5_4]), H))
  (bV (bInt .eql x37 (.int .u8 (.ofNat 1))) fun x52 => 
  bR (f62 D n [x52, x38] H) fun x54 H => 
  bV (pExtract x54 0) fun x55 => 
  bV (pExtract x54 1) fun x56 => 
  bR (stNp 4 x4 x55 H) fun x9999_6 H => 
  bV (ldNp 4 x4 H) fun x9004_5 => bV (some x56) fun x5_5 => some (.ret (.tuple [x9004_5, x5_5]), H)))))
def h37 : Hint := (.s .o (.s (.s .o (.cl (.s .o (.s (.s .o (.cl (.s .o .o) .o)) (.s .o .o))) .o)) (.s .o (.s (.s .o (.cl (.s .o .o) .o)) (.s (.s .o (.cl (.s .o .o) .o)) (.s .o .o))))))
theorem f37_eq (D : Dyn) (n : Nat) : f37 D n = funKp (s37 D n) D n 37 Tryz.f37 h37 := by kernel_rfl
theorem f37_ok {D : Dyn} (hD : DP D) (n : Nat) : FP 37 (f37 D n) := fun_okP X_ok hD (SP.cons (f61_ok hD n) (SP.cons (f62_ok hD n) (SP.nil))) Tryz.func37 (by kernel_rfl) (by kernel_rfl) (f37_eq D n)

def s63 (D : Dyn) (n : Nat) : Tb := ⟨X, []⟩
def f63l0 (D : Dyn) (n : Nat) (vs : List AV) (H : AH) : Rs :=
  hd vs fun x0_2 vs => hd vs fun x1_2 vs => hd vs fun x7_2 vs => hd vs fun x8 vs => 
  bV (bInt .lss x8 x7_2) fun x9 => 
  cnd x9 (bV (ixSl 1 x0_2 x8) fun x14 => 
  bV (ld1p x14 H) fun x15 => 
  bV (bStr .eql x1_2 x15) fun x16 => 
  cnd x16 (bV (some x8) fun x4 => some (.ret x4, H))
  (bV (bInt .add x8 (.int .i64 (.ofNat 1))) fun x18 => 
  some (.norm [x0_2, x1_2, x7_2, x18], H)))
  (some (.exit 0 [], H))
def f63b1 (D : Dyn) (n : Nat) (vs : List AV) (H : AH) : Rs :=
  
  bV (some (.int .i64 (.negSucc 0))) fun x4_2 => some (.ret x4_2, H)
/-- slices.Index[[]string,string] -/
def f63 (D : Dyn) (n : Nat) (vs : List AV) (H : AH) : Option (AV × AH) :=
  outR (hd vs fun x0 vs => hd vs fun x1 vs => nl vs <|
  bV (lnSl x0) fun x7 => 
  jb 0 (loopK n (f63l0 D n) [x0, x1, x7, (.int .i64 (.ofNat 0))] H) (f63b1 D n))
def h63 : Hint := (.s .o (.s (.s .o (.b [] (.l [0, 1, 7, 8] (.s .o (.s (.cr .o .o) (.s (.b0 (.s .o (.s .o (.cl (.s .o .o) .o)))) .o)))))) (.s .o .o)))
theorem f63_eq (D : Dyn) (n : Nat) : f63 D n = funKp (s63 D n) D n 63 Tryz.f63 h63 := by kernel_rfl
theorem f63_ok {D : Dyn} (hD : DP D) (n : Nat) : FP 63 (f63 D n) := fun_okP X_ok hD (SP.nil) Tryz.func63 (by kernel_rfl) (by kernel_rfl) (f63_eq D n)

def s38 (D : Dyn) (n : Nat) : Tb := ⟨X, [(63, f63 D n)]⟩
/-- jetty/node.Get -/
def f38 (D : Dyn) (n : Nat) (vs : List AV) (H : AH) : Option (AV × AH) :=
  outR (hd vs fun x0 vs => hd vs fun x1 vs => nl vs <|
  bA (bxV 80 x0) H fun x2 H => 
  bV (fAd 0 x2) fun x7 => 
  bV (ld1p x7 H) fun x8 => 
  bV (aun .not x8) fun x9 => 
  cnd x9 (bV (some (.str 0 0)) fun x4 => bV (some (.bool false)) fun x5 => some (.ret (.tuple [x4, x5]), H))
  (bV (fAd 1 x2) fun x10 => 
  bV (ld1p x10 H) fun x11 => 
  bR (f63 D n [x11, x1] H) fun x13 H => 
  bV (bInt .lss x13 (.int .i64 (.ofNat 0))) fun x15 => 
  jn (wnt x15 false (bV (fAd 2 x2) fun x18 => 
  bV (ld1p x18 H) fun x19 => 
  bV (lnSl x19) fun x20 => 
  bV (bInt .geq x13 x20) fun x21 => 
  some (.norm [x21], H)) (some (.norm [undefA], H))) fun vs H => hd vs fun x21_2 vs => 
  bV (pk3 (some x15) (some (.bool true)) (some x21_2)) fun x22 => 
  cnd x22 (bV (some (.str 0 0)) fun x4_2 => bV (some (.bool false)) fun x5_2 => some (.ret (.tuple [x4_2, x5_2]), H))
  (bV (fAd 2 x2) fun x23 => 
  bV (ld1p x23 H) fun x24 => 
  bV (ixSl 1 x24 x13) fun x26 => 
  bV (ld1p x26 H) fun x27 => 
  bV (some x27) fun x4_3 => bV (some (.bool true)) fun x5_3 => some (.ret (.tuple [x4_3, x5_3]), H))))
def h38 : Hint := (.s .o (.s (.s .o (.cl (.s .o .o) .o)) (.s .o (.s (.s .o (.cl (.s .o .o) .o)) (.s .o .o)))))
theorem f38_eq (D : Dyn) (n : Nat) : f38 D n = funKp (s38 D n) D n 38 Tryz.f38 h38 := by kernel_rfl
theorem f38_ok {D : Dyn} (hD : DP D) (n : Nat) : FP 38 (f38 D n) := fun_okP X_ok hD (SP.cons (f63_ok hD n) (SP.nil)) Tryz.func38 (by kernel_rfl) (by kernel_rfl) (f38_eq D n)

def s39 (D : Dyn) (n : Nat) : Tb := ⟨X, []⟩
def f39j0 (D : Dyn) (n : Nat) (vs : List AV) (H : AH) : Rs :=
  hd vs fun x1_3 vs => hd vs fun x2_3 vs => hd vs fun x5_2 vs => hd vs fun x9_3 vs => hd vs fun x10_3 vs => hd vs fun x11_2 vs => 
  bV (bInt .add x11_2 (.int .i64 (.ofNat 1))) fun x30 => 
  some (.norm [x1_3, x2_3, x5_2, x9_3, x10_3, x30], H)
def f39l1 (D : Dyn) (n : Nat) (vs : List AV) (H : AH) : Rs :=
  hd vs fun x1_2 vs => hd vs fun x2_2 vs => hd vs fun x5 vs => hd vs fun x9_2 vs => hd vs fun x10_2 vs => hd vs fun x11 vs => 
  bV (bInt .lss x11 x10_2) fun x12 => 
  cnd x12 (bV (ixSl 1 x9_2 x11) fun x13 => 
  bV (ld1p x13 H) fun x14 => 
  bV (bStr .lss x14 x1_2) fun x17 => 
  jn (wnt x17 false (bV (fAd 0 x2_2) fun x19 => 
  bV (ld1p x19 H) fun x20 => 
  bV (aun .not x20) fun x21 => 
  some (.norm [x21], H)) (some (.norm [undefA], H))) fun vs H => hd vs fun x22 vs => 
  jn (wnt x22 true (bV (bStr .eql x14 x1_2) fun x25 => 
  some (.norm [x25], H)) (some (.norm [undefA], H))) fun vs H => hd vs fun x25_2 vs => 
  jn (wnt x17 false (bV (pk3 (some x22) (some x25_2) (some (.bool false))) fun x26 => 
  some (.norm [x26], H)) (some (.norm [undefA], H))) fun vs H => hd vs fun x26_2 vs => 
  bV (pk3 (some x17) (some (.bool true)) (some x26_2)) fun x27 => 
  jn (cnd x27 (bV (bInt .add x5 (.int .i64 (.ofNat 1))) fun x29 => 
  some (.norm [x1_2, x2_2, x29, x9_2, x10_2, x11], H))
  (some (.norm [x1_2, x2_2, x5, x9_2, x10_2, x11], H))) (f39j0 D n))
  (some (.exit 0 [x5], H))
def f39b2 (D : Dyn) (n : Nat) (vs : List AV) (H : AH) : Rs :=
  hd vs fun x5_3 vs => 
  bV (some x5_3) fun x4 => some (.ret x4, H)
/-- jetty/node.Where -/
def f39 (D : Dyn) (n : Nat) (vs : List AV) (H : AH) : Option (AV × AH) :=
  outR (hd vs fun x0 vs => hd vs fun x1 vs => nl vs <|
  bA (bxV 80 x0) H fun x2 H => 
  bV (fAd 1 x2) fun x8 => 
  bV (ld1p x8 H) fun x9 => 
  bV (lnSl x9) fun x10 => 
  jb 0 (loopK n (f39l1 D n) [x1, x2, (.int .i64 (.ofNat 0)), x9, x10, (.int .i64 (.ofNat 0))] H) (f39b2 D n))
def h39 : Hint := (.s .o (.s .o (.s (.s .o (.b [5] (.l [1, 2, 5, 9, 10, 11] (.s .o (.s (.cr .o .o) (.s (.b0 (.s .o (.s .o (.c [1, 2, 5, 9, 10, 11] .o .o)))) .o)))))) (.s .o .o))))
theorem f39_eq (D : Dyn) (n : Nat) : f39 D n = funKp (s39 D n) D n 39 Tryz.f39 h39 := by kernel_rfl
theorem f39_ok {D : Dyn} (hD : DP D) (n : Nat) : FP 39 (f39 D n) := fun_okP X_ok hD (SP.nil) Tryz.func39 (by kernel_rfl) (by kernel_rfl) (f39_eq D n)
end Go.Eng.Sh
