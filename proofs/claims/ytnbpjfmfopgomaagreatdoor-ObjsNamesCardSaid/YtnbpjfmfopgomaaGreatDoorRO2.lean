/- Shallow functions, by program (gen.py). -/
import Derived.Test.YtnbpjfmfopgomaaGreatDoorRO1
import Derived.Test.YtnbpjfmfopgomaaGreatDoorProg
import Derived.KernelRfl
noncomputable section
namespace Go.Eng.Sh
open Go.Proofs
set_option maxRecDepth 100000
set_option linter.all false
def s267 (D : Dyn) (n : Nat) : Tb := ⟨X, []⟩
/-- jetty/node.mayKey -/
def f267 (D : Dyn) (n : Nat) (vs : List AV) (H : AH) : Option (AV × AH) :=
  outR (hd vs fun x0 vs => nl vs <|
  bV (lnStr x0) fun x4 => 
  bV (bInt .geq x4 (.int .i64 (.ofNat 1))) fun x5 => 
  jn (wnt x5 true (bV (lnStr x0) fun x8 => 
  bV (bInt .leq x8 (.int .i64 (.ofNat 40))) fun x9 => 
  some (.norm [x9], H)) (some (.norm [undefA], H))) fun vs H => hd vs fun x9_2 vs => 
  bV (pk3 (some x5) (some x9_2) (some (.bool false))) fun x10 => 
  bV (some x10) fun x2 => some (.ret x2, H))
def h267 : Hint := (.s .o (.s .o .o))
theorem f267_eq (D : Dyn) (n : Nat) : f267 D n = funKp (s267 D n) D n 267 Tryz.f267 h267 := by kernel_rfl
theorem f267_ok {D : Dyn} (hD : DP D) (n : Nat) : FP 267 (f267 D n) := fun_okP X_ok hD (SP.nil) Tryz.func267 (by kernel_rfl) (by kernel_rfl) (f267_eq D n)

def s266 (D : Dyn) (n : Nat) : Tb := ⟨X, [(267, f267 D n)]⟩
def f266l0 (D : Dyn) (n : Nat) (vs : List AV) (H : AH) : Rs :=
  hd vs fun x1_2 vs => hd vs fun x10_2 vs => hd vs fun x11_2 vs => hd vs fun x12 vs => 
  bV (bInt .lss x12 x11_2) fun x13 => 
  cnd x13 (bV (ixSl 1 x10_2 x12) fun x15 => 
  bV (ld1p x15 H) fun x16 => 
  bR (noPan (f267 D n [x16] H)) fun x18 H => 
  bV (aun .not x18) fun x19 => 
  jn (wnt x19 false (bV (bInt .gtr x12 (.int .i64 (.ofNat 0))) fun x22 => 
  some (.norm [x22], H)) (some (.norm [undefA], H))) fun vs H => hd vs fun x23 vs => 
  jn (wnt x23 true (bV (fAd 1 x1_2) fun x24 => 
  bV (ld1p x24 H) fun x25 => 
  bV (bInt .sub x12 (.int .i64 (.ofNat 1))) fun x27 => 
  bV (ixSl 1 x25 x27) fun x28 => 
  bV (ld1p x28 H) fun x29 => 
  bV (bStr .geq x29 x16) fun x31 => 
  some (.norm [x31], H)) (some (.norm [undefA], H))) fun vs H => hd vs fun x31_2 vs => 
  jn (wnt x19 false (bV (pk3 (some x23) (some x31_2) (some (.bool false))) fun x32 => 
  some (.norm [x32], H)) (some (.norm [undefA], H))) fun vs H => hd vs fun x32_2 vs => 
  bV (pk3 (some x19) (some (.bool true)) (some x32_2)) fun x33 => 
  cnd x33 (bV (some (.bool false)) fun x2 => some (.ret x2, H))
  (bV (bInt .add x12 (.int .i64 (.ofNat 1))) fun x34 => 
  some (.norm [x1_2, x10_2, x11_2, x34], H)))
  (some (.exit 0 [x1_2], H))
def f266l1 (D : Dyn) (n : Nat) (vs : List AV) (H : AH) : Rs :=
  hd vs fun x51_2 vs => hd vs fun x52_2 vs => hd vs fun x53 vs => 
  bV (bInt .lss x53 x52_2) fun x54 => 
  cnd x54 (bV (ixSl 1 x51_2 x53) fun x55 => 
  bV (ld1p x55 H) fun x56 => 
  bV (lnStr x56) fun x58 => 
  bV (bInt .gtr x58 (.int .i64 (.ofNat 200))) fun x59 => 
  cnd x59 (bV (some (.bool false)) fun x2_3 => some (.ret x2_3, H))
  (bV (bInt .add x53 (.int .i64 (.ofNat 1))) fun x60 => 
  some (.norm [x51_2, x52_2, x60], H)))
  (some (.exit 2 [], H))
def f266b2 (D : Dyn) (n : Nat) (vs : List AV) (H : AH) : Rs :=
  
  bV (some (.bool true)) fun x2_4 => some (.ret x2_4, H)
def f266l3 (D : Dyn) (n : Nat) (vs : List AV) (H : AH) : Rs :=
  hd vs fun x82_2 vs => hd vs fun x83_2 vs => hd vs fun x84 vs => 
  bV (bInt .lss x84 x83_2) fun x85 => 
  cnd x85 (bV (ixSl 3 x82_2 x84) fun x86 => 
  bV (ldNp 3 x86 H) fun x87 => 
  bA (bxV 119 (.agg [(.int .i64 (.ofNat 0)), (.int .i64 (.ofNat 0)), (.int .u64 (.ofNat 0))])) H fun x8 H => 
  bR (stNp 3 x8 x87 H) fun x9999 H => 
  bV (fAd 0 x8) fun x88 => 
  bV (ld1p x88 H) fun x89 => 
  bV (bInt .lss x89 (.int .i64 (.ofNat 1))) fun x90 => 
  jn (wnt x90 false (bV (fAd 0 x8) fun x92 => 
  bV (ld1p x92 H) fun x93 => 
  bV (bInt .geq x93 (.int .i64 (.ofNat 8192))) fun x94 => 
  some (.norm [x94], H)) (some (.norm [undefA], H))) fun vs H => hd vs fun x94_2 vs => 
  bV (pk3 (some x90) (some (.bool true)) (some x94_2)) fun x95 => 
  jn (wnt x95 false (bV (fAd 1 x8) fun x97 => 
  bV (ld1p x97 H) fun x98 => 
  bV (bInt .lss x98 (.int .i64 (.ofNat 0))) fun x99 => 
  some (.norm [x99], H)) (some (.norm [undefA], H))) fun vs H => hd vs fun x99_2 vs => 
  bV (pk3 (some x95) (some (.bool true)) (some x99_2)) fun x100 => 
  jn (wnt x100 false (bV (fAd 1 x8) fun x102 => 
  bV (ld1p x102 H) fun x103 => 
  bV (bInt .gtr x103 (.int .i64 (.ofNat 2147483647))) fun x104 => 
  some (.norm [x104], H)) (some (.norm [undefA], H))) fun vs H => hd vs fun x104_2 vs => 
  bV (pk3 (some x100) (some (.bool true)) (some x104_2)) fun x105 => 
  cnd x105 (bV (some (.bool false)) fun x2_6 => some (.ret x2_6, H))
  (bV (bInt .add x84 (.int .i64 (.ofNat 1))) fun x106 => 
  some (.norm [x82_2, x83_2, x106], H)))
  (some (.exit 4 [], H))
def f266b4 (D : Dyn) (n : Nat) (vs : List AV) (H : AH) : Rs :=
  
  bV (some (.bool true)) fun x2_7 => some (.ret x2_7, H)
def f266b5 (D : Dyn) (n : Nat) (vs : List AV) (H : AH) : Rs :=
  hd vs fun x1_3 vs => 
  bV (fAd 0 x1_3) fun x35 => 
  bV (ld1p x35 H) fun x36 => 
  cnd x36 (bV (fAd 2 x1_3) fun x37 => 
  bV (ld1p x37 H) fun x38 => 
  bV (lnSl x38) fun x39 => 
  bV (fAd 1 x1_3) fun x40 => 
  bV (ld1p x40 H) fun x41 => 
  bV (lnSl x41) fun x42 => 
  bV (bInt .neq x39 x42) fun x43 => 
  jn (wnt x43 false (bV (fAd 3 x1_3) fun x45 => 
  bV (ld1p x45 H) fun x46 => 
  bV (lnSl x46) fun x47 => 
  bV (bInt .neq x47 (.int .i64 (.ofNat 0))) fun x48 => 
  some (.norm [x48], H)) (some (.norm [undefA], H))) fun vs H => hd vs fun x48_2 vs => 
  bV (pk3 (some x43) (some (.bool true)) (some x48_2)) fun x49 => 
  cnd x49 (bV (some (.bool false)) fun x2_2 => some (.ret x2_2, H))
  (bV (fAd 2 x1_3) fun x50 => 
  bV (ld1p x50 H) fun x51 => 
  bV (lnSl x51) fun x52 => 
  jb 2 (loopK n (f266l1 D n) [x51, x52, (.int .i64 (.ofNat 0))] H) (f266b2 D n)))
  (bV (fAd 1 x1_3) fun x61 => 
  bV (ld1p x61 H) fun x62 => 
  bV (lnSl x62) fun x63 => 
  bV (bInt .eql x63 (.int .i64 (.ofNat 0))) fun x64 => 
  jn (wnt x64 false (bV (fAd 2 x1_3) fun x66 => 
  bV (ld1p x66 H) fun x67 => 
  bV (lnSl x67) fun x68 => 
  bV (bInt .neq x68 (.int .i64 (.ofNat 0))) fun x69 => 
  some (.norm [x69], H)) (some (.norm [undefA], H))) fun vs H => hd vs fun x69_2 vs => 
  bV (pk3 (some x64) (some (.bool true)) (some x69_2)) fun x70 => 
  jn (wnt x70 false (bV (fAd 3 x1_3) fun x72 => 
  bV (ld1p x72 H) fun x73 => 
  bV (lnSl x73) fun x74 => 
  bV (fAd 1 x1_3) fun x75 => 
  bV (ld1p x75 H) fun x76 => 
  bV (lnSl x76) fun x77 => 
  bV (bInt .add x77 (.int .i64 (.ofNat 1))) fun x78 => 
  bV (bInt .neq x74 x78) fun x79 => 
  some (.norm [x79], H)) (some (.norm [undefA], H))) fun vs H => hd vs fun x79_2 vs => 
  bV (pk3 (some x70) (some (.bool true)) (some x79_2)) fun x80 => 
  cnd x80 (bV (some (.bool false)) fun x2_5 => some (.ret x2_5, H))
  (bV (fAd 3 x1_3) fun x81 => 
  bV (ld1p x81 H) fun x82 => 
  bV (lnSl x82) fun x83 => 
  jb 4 (loopK n (f266l3 D n) [x82, x83, (.int .i64 (.ofNat 0))] H) (f266b4 D n)))
/-- jetty/node.shaped -/
def f266 (D : Dyn) (n : Nat) (vs : List AV) (H : AH) : Option (AV × AH) :=
  outR (hd vs fun x0 vs => nl vs <|
  bA (bxV 269 x0) H fun x1 H => 
  bV (fAd 1 x1) fun x9 => 
  bV (ld1p x9 H) fun x10 => 
  bV (lnSl x10) fun x11 => 
  jb 0 (loopK n (f266l0 D n) [x1, x10, x11, (.int .i64 (.ofNat 0))] H) (f266b5 D n))
def h266 : Hint := (.s .o (.s (.s .o (.b [1] (.l [1, 10, 11, 12] (.s .o (.s (.cr .o .o) (.s (.b0 (.s .o (.s .o (.cl (.s .o .o) .o)))) .o)))))) (.s (.s .o (.cl (.s (.s .o (.cl (.s .o .o) .o)) (.s (.s .o (.b [] (.l [51, 52, 53] (.s .o (.s (.cr .o .o) (.s (.b0 (.s .o (.s .o (.cl (.s .o .o) .o)))) .o)))))) (.s .o .o))) .o)) (.s (.s .o (.cl (.s .o .o) .o)) (.s (.s .o (.b [] (.l [82, 83, 84] (.s .o (.s (.cr .o .o) (.s (.b0 (.s .o (.s .o (.cl (.s .o .o) .o)))) .o)))))) (.s .o .o))))))
theorem f266_eq (D : Dyn) (n : Nat) : f266 D n = funKp (s266 D n) D n 266 Tryz.f266 h266 := by kernel_rfl
theorem f266_ok {D : Dyn} (hD : DP D) (n : Nat) : FP 266 (f266 D n) := fun_okP X_ok hD (SP.cons (f267_ok hD n) (SP.nil)) Tryz.func266 (by kernel_rfl) (by kernel_rfl) (f266_eq D n)

def s319 (D : Dyn) (n : Nat) : Tb := ⟨X, []⟩
def f319l0 (D : Dyn) (n : Nat) (vs : List AV) (H : AH) : Rs :=
  hd vs fun x1_2 vs => hd vs fun x3 vs => hd vs fun x14_2 vs => hd vs fun x15_2 vs => hd vs fun x16 vs => 
  bV (bInt .lss x16 x15_2) fun x17 => 
  cnd x17 (bV (ixSl 1 x14_2 x16) fun x18 => 
  bV (ld1p x18 H) fun x19 => 
  bV (lnStr x19) fun x22 => 
  bV (bInt .add (.int .i64 (.ofNat 1)) x22) fun x23 => 
  bV (bInt .add x3 x23) fun x24 => 
  bV (bInt .add x16 (.int .i64 (.ofNat 1))) fun x25 => 
  some (.norm [x1_2, x24, x14_2, x15_2, x25], H))
  (some (.exit 0 [x1_2, x3], H))
def f319l1 (D : Dyn) (n : Nat) (vs : List AV) (H : AH) : Rs :=
  hd vs fun x3_3 vs => hd vs fun x27_2 vs => hd vs fun x28_2 vs => hd vs fun x29 vs => 
  bV (bInt .lss x29 x28_2) fun x30 => 
  cnd x30 (bV (ixSl 1 x27_2 x29) fun x31 => 
  bV (ld1p x31 H) fun x32 => 
  bV (lnStr x32) fun x35 => 
  bV (bInt .add (.int .i64 (.ofNat 1)) x35) fun x36 => 
  bV (bInt .add x3_3 x36) fun x37 => 
  bV (bInt .add x29 (.int .i64 (.ofNat 1))) fun x38 => 
  some (.norm [x37, x27_2, x28_2, x38], H))
  (some (.exit 2 [x3_3], H))
def f319b2 (D : Dyn) (n : Nat) (vs : List AV) (H : AH) : Rs :=
  hd vs fun x3_4 vs => 
  bV (some x3_4) fun x2 => some (.ret x2, H)
def f319b3 (D : Dyn) (n : Nat) (vs : List AV) (H : AH) : Rs :=
  hd vs fun x1_3 vs => hd vs fun x3_2 vs => 
  bV (fAd 2 x1_3) fun x26 => 
  bV (ld1p x26 H) fun x27 => 
  bV (lnSl x27) fun x28 => 
  jb 2 (loopK n (f319l1 D n) [x3_2, x27, x28, (.int .i64 (.ofNat 0))] H) (f319b2 D n)
/-- jetty/node.Size -/
def f319 (D : Dyn) (n : Nat) (vs : List AV) (H : AH) : Option (AV × AH) :=
  outR (hd vs fun x0 vs => nl vs <|
  bA (bxV 269 x0) H fun x1 H => 
  bV (fAd 3 x1) fun x8 => 
  bV (ld1p x8 H) fun x9 => 
  bV (lnSl x9) fun x10 => 
  bV (bInt .mul (.int .i64 (.ofNat 16)) x10) fun x11 => 
  bV (bInt .add (.int .i64 (.ofNat 2)) x11) fun x12 => 
  bV (fAd 1 x1) fun x13 => 
  bV (ld1p x13 H) fun x14 => 
  bV (lnSl x14) fun x15 => 
  jb 0 (loopK n (f319l0 D n) [x1, x12, x14, x15, (.int .i64 (.ofNat 0))] H) (f319b3 D n))
def h319 : Hint := (.s .o (.s .o (.s (.s .o (.b [1, 3] (.l [1, 3, 14, 15, 16] (.s .o (.s (.cr .o .o) (.s (.b0 (.s .o .o)) .o)))))) (.s (.s .o (.b [3] (.l [3, 27, 28, 29] (.s .o (.s (.cr .o .o) (.s (.b0 (.s .o .o)) .o)))))) (.s .o .o)))))
theorem f319_eq (D : Dyn) (n : Nat) : f319 D n = funKp (s319 D n) D n 319 Tryz.f319 h319 := by kernel_rfl
theorem f319_ok {D : Dyn} (hD : DP D) (n : Nat) : FP 319 (f319 D n) := fun_okP X_ok hD (SP.nil) Tryz.func319 (by kernel_rfl) (by kernel_rfl) (f319_eq D n)

def s336 (D : Dyn) (n : Nat) : Tb := ⟨X, [(266, f266 D n), (319, f319 D n)]⟩
/-- jetty/node.May -/
def f336 (D : Dyn) (n : Nat) (vs : List AV) (H : AH) : Option (AV × AH) :=
  outR (hd vs fun x0 vs => nl vs <|
  bA (bxV 269 x0) H fun x1 H => 
  bV (ldNp 4 x1 H) fun x3 => 
  bR (noPan (f266 D n [x3] H)) fun x4 H => 
  jn (wnt x4 true (bV (ldNp 4 x1 H) fun x6 => 
  bR (noPan (f319 D n [x6] H)) fun x7 H => 
  bV (bInt .leq x7 (.int .i64 (.ofNat 500))) fun x8 => 
  some (.norm [x8], H)) (some (.norm [undefA], H))) fun vs H => hd vs fun x8_2 vs => 
  bV (pk3 (some x4) (some x8_2) (some (.bool false))) fun x9 => 
  bV (some x9) fun x2 => some (.ret x2, H))
def h336 : Hint := (.s .o (.s .o .o))
theorem f336_eq (D : Dyn) (n : Nat) : f336 D n = funKp (s336 D n) D n 336 Tryz.f336 h336 := by kernel_rfl
theorem f336_ok {D : Dyn} (hD : DP D) (n : Nat) : FP 336 (f336 D n) := fun_okP X_ok hD (SP.cons (f266_ok hD n) (SP.cons (f319_ok hD n) (SP.nil))) Tryz.func336 (by kernel_rfl) (by kernel_rfl) (f336_eq D n)

def s367 (D : Dyn) (n : Nat) : Tb := ⟨X, [(332, f332 D n)]⟩
/-- (*jetty/node.reader).text -/
def f367 (D : Dyn) (n : Nat) (vs : List AV) (H : AH) : Option (AV × AH) :=
  outR (hd vs fun x0 vs => nl vs <|
  bR (noPan (f332 D n [x0, (.int .i64 (.ofNat 1))] H)) fun x5 H => 
  bV (pNil x0) fun x7 => 
  bV (fAd 1 x7) fun x8 => 
  bV (ld1p x8 H) fun x9 => 
  cnd x9 (bV (some (.str 0 0)) fun x2 => some (.ret x2, H))
  (bV (ixStr x5 (.int .i64 (.ofNat 0))) fun x12 => 
  bV (cvI .i64 x12) fun x13 => 
  bR (noPan (f332 D n [x0, x13] H)) fun x14 H => 
  bV (some x14) fun x2_2 => some (.ret x2_2, H)))
def h367 : Hint := (.s .o (.s .o (.s (.s .o (.cl (.s .o .o) .o)) (.s .o .o))))
theorem f367_eq (D : Dyn) (n : Nat) : f367 D n = funKp (s367 D n) D n 367 Tryz.f367 h367 := by kernel_rfl
theorem f367_ok {D : Dyn} (hD : DP D) (n : Nat) : FP 367 (f367 D n) := fun_okP X_ok hD (SP.cons (f332_ok hD n) (SP.nil)) Tryz.func367 (by kernel_rfl) (by kernel_rfl) (f367_eq D n)

def s333 (D : Dyn) (n : Nat) : Tb := ⟨X, [(367, f367 D n)]⟩
/-- (*jetty/node.reader).key -/
def f333 (D : Dyn) (n : Nat) (vs : List AV) (H : AH) : Option (AV × AH) :=
  outR (hd vs fun x0 vs => nl vs <|
  bV (pNil x0) fun x4 => 
  bV (fAd 2 x4) fun x5 => 
  bV (fAd 1 x5) fun x6 => 
  bV (ld1p x6 H) fun x7 => 
  bR (noPan (f367 D n [x0] H)) fun x9 H => chk (ld1p x6 H) x7 <| 
  bA (bldLp 9 1 1 [(.str 0 0)] [(0, x9)]) H fun x10 H => 
  bR (apPp 9 1 16 x7 x10 H) fun x11 H => 
  bV (pNil x0) fun x12 => 
  bV (fAd 2 x12) fun x13 => 
  bV (fAd 1 x13) fun x14 => 
  bR (stNp 1 x14 x11 H) fun x9999 H => 
  some (.ret (.tuple []), H))
def h333 : Hint := .o
theorem f333_eq (D : Dyn) (n : Nat) : f333 D n = funKp (s333 D n) D n 333 Tryz.f333 h333 := by kernel_rfl
theorem f333_ok {D : Dyn} (hD : DP D) (n : Nat) : FP 333 (f333 D n) := fun_okP X_ok hD (SP.cons (f367_ok hD n) (SP.nil)) Tryz.func333 (by kernel_rfl) (by kernel_rfl) (f333_eq D n)

def s335 (D : Dyn) (n : Nat) : Tb := ⟨X, [(367, f367 D n)]⟩
/-- (*jetty/node.reader).value -/
def f335 (D : Dyn) (n : Nat) (vs : List AV) (H : AH) : Option (AV × AH) :=
  outR (hd vs fun x0 vs => nl vs <|
  bV (pNil x0) fun x4 => 
  bV (fAd 2 x4) fun x5 => 
  bV (fAd 2 x5) fun x6 => 
  bV (ld1p x6 H) fun x7 => 
  bR (noPan (f367 D n [x0] H)) fun x9 H => chk (ld1p x6 H) x7 <| 
  bA (bldLp 9 1 1 [(.str 0 0)] [(0, x9)]) H fun x10 H => 
  bR (apPp 9 1 16 x7 x10 H) fun x11 H => 
  bV (pNil x0) fun x12 => 
  bV (fAd 2 x12) fun x13 => 
  bV (fAd 2 x13) fun x14 => 
  bR (stNp 1 x14 x11 H) fun x9999 H => 
  some (.ret (.tuple []), H))
def h335 : Hint := .o
theorem f335_eq (D : Dyn) (n : Nat) : f335 D n = funKp (s335 D n) D n 335 Tryz.f335 h335 := by kernel_rfl
theorem f335_ok {D : Dyn} (hD : DP D) (n : Nat) : FP 335 (f335 D n) := fun_okP X_ok hD (SP.cons (f367_ok hD n) (SP.nil)) Tryz.func335 (by kernel_rfl) (by kernel_rfl) (f335_eq D n)

def s279 (D : Dyn) (n : Nat) : Tb := ⟨X, [(332, f332 D n), (334, f334 D n), (336, f336 D n)]⟩
def f279l0 (D : Dyn) (n : Nat) (vs : List AV) (H : AH) : Rs :=
  hd vs fun x4_4 vs => hd vs fun x6_3 vs => hd vs fun x8_3 vs => hd vs fun x47_3 vs => hd vs fun x48_2 vs => hd vs fun x50 vs => hd vs fun x51_2 vs => hd vs fun x52 vs => 
  bV (bInt .lss x52 x51_2) fun x53 => 
  cnd x53 (bV (ixSl 1 x50 x52) fun x54 => 
  bV (ld1p x54 H) fun x55 => 
  bR (noPan (callV (s279 D n).S D x55 [] H)) fun x57 H => 
  bV (bInt .add x52 (.int .i64 (.ofNat 1))) fun x58 => 
  some (.norm [x4_4, x6_3, x8_3, x47_3, x48_2, x50, x51_2, x58], H))
  (some (.exit 2 [x4_4, x6_3, x8_3, x47_3, x48_2], H))
def f279b1 (D : Dyn) (n : Nat) (vs : List AV) (H : AH) : Rs :=
  hd vs fun x4_5 vs => hd vs fun x6_4 vs => hd vs fun x8_4 vs => hd vs fun x47_4 vs => hd vs fun x48_3 vs => 
  bV (pNil x6_4) fun x60 => 
  bV (fAd 1 x60) fun x61 => 
  bV (ld1p x61 H) fun x62 => 
  cnd x62 (some (.exit 0 [x4_5, x6_4], H))
  (bV (bInt .add x48_3 (.int .i64 (.ofNat 1))) fun x63 => 
  some (.norm [x4_5, x6_4, x8_4, x47_4, x63], H))
def f279l2 (D : Dyn) (n : Nat) (vs : List AV) (H : AH) : Rs :=
  hd vs fun x4_3 vs => hd vs fun x6_2 vs => hd vs fun x8_2 vs => hd vs fun x47_2 vs => hd vs fun x48 vs => 
  bV (bInt .lss x48 x47_2) fun x49 => 
  cnd x49 (bV (lnSl x8_2) fun x51 => 
  jb 2 (loopK n (f279l0 D n) [x4_3, x6_2, x8_2, x47_2, x48, x8_2, x51, (.int .i64 (.ofNat 0))] H) (f279b1 D n))
  (some (.exit 0 [x4_3, x6_2], H))
def f279b3 (D : Dyn) (n : Nat) (vs : List AV) (H : AH) : Rs :=
  hd vs fun x4_6 vs => hd vs fun x6_5 vs => 
  bV (pNil x6_5) fun x65 => 
  bV (fAd 1 x65) fun x66 => 
  bV (ld1p x66 H) fun x67 => 
  jn (wnt x67 false (bV (pNil x6_5) fun x70 => 
  bV (fAd 0 x70) fun x71 => 
  bV (ld1p x71 H) fun x72 => 
  bV (bStr .neq x72 (.str 0 0)) fun x73 => 
  some (.norm [x73], H)) (some (.norm [undefA], H))) fun vs H => hd vs fun x73_2 vs => 
  bV (pk3 (some x67) (some (.bool true)) (some x73_2)) fun x74 => 
  jn (wnt x74 false (bV (pNil x6_5) fun x77 => 
  bV (fAd 2 x77) fun x78 => 
  bV (ldNp 4 x78 H) fun x79 => 
  bR (noPan (f336 D n [x79] H)) fun x80 H => 
  bV (aun .not x80) fun x81 => 
  some (.norm [x81], H)) (some (.norm [undefA], H))) fun vs H => hd vs fun x81_2 vs => 
  bV (pk3 (some x74) (some (.bool true)) (some x81_2)) fun x82 => 
  cnd x82 (bV (bldSp [(0, 1), (1, 1), (2, 1), (3, 1)] [(.bool false), .nilSlice, .nilSlice, .nilSlice] []) fun x83 => 
  bR (stNp 4 x4_6 x83 H) fun x9999_3 H => 
  bV (ldNp 4 x4_6 H) fun x9004_3 => bV (some (.int .i64 (.ofNat 4))) fun x5_3 => some (.ret (.tuple [x9004_3, x5_3]), H))
  (bV (pNil x6_5) fun x85 => 
  bV (fAd 2 x85) fun x86 => 
  bV (ldNp 4 x86 H) fun x87 => 
  bR (stNp 4 x4_6 x87 H) fun x9999_4 H => 
  bV (ldNp 4 x4_6 H) fun x9004_4 => bV (some (.int .i64 (.ofNat 0))) fun x5_4 => some (.ret (.tuple [x9004_4, x5_4]), H))
def f279j4 (D : Dyn) (n : Nat) (vs : List AV) (H : AH) : Rs :=
  hd vs fun x4_2 vs => hd vs fun x6 vs => hd vs fun x7 vs => hd vs fun x8 vs => 
  bV (ixStr x7 (.int .i64 (.ofNat 0))) fun x41 => 
  bV (cvI .i64 x41) fun x42 => 
  bV (bInt .shl x42 (.int .u64 (.ofNat 8))) fun x43 => 
  bV (ixStr x7 (.int .i64 (.ofNat 1))) fun x45 => 
  bV (cvI .i64 x45) fun x46 => 
  bV (bInt .or x43 x46) fun x47 => 
  jb 0 (loopK n (f279l2 D n) [x4_2, x6, x8, x47, (.int .i64 (.ofNat 0))] H) (f279b3 D n)
/-- jetty/node.Decode -/
def f279 (D : Dyn) (n : Nat) (vs : List AV) (H : AH) : Option (AV × AH) :=
  outR (hd vs fun x0 vs => hd vs fun x1 vs => nl vs <|
  bA (bxV 269 (.agg [(.bool false), .nilSlice, .nilSlice, .nilSlice])) H fun x4 H => 
  bV (lnStr x1) fun x12 => 
  bV (bInt .gtr x12 (.int .i64 (.ofNat 500))) fun x13 => 
  cnd x13 (bV (bldSp [(0, 1), (1, 1), (2, 1), (3, 1)] [(.bool false), .nilSlice, .nilSlice, .nilSlice] []) fun x14 => 
  bR (stNp 4 x4 x14 H) fun x9999 H => 
  bV (ldNp 4 x4 H) fun x9004 => bV (some (.int .i64 (.ofNat 4))) fun x5 => some (.ret (.tuple [x9004, x5]), H))
  (bV (bldSp [(0, 1), (1, 1), (2, 1), (3, 1)] [(.bool false), .nilSlice, .nilSlice, .nilSlice] [(0, x0)]) fun x17 => 
  bV (bldSp [(0, 1), (1, 1), (2, 4)] [(.str 0 0), (.bool false), (.bool false), .nilSlice, .nilSlice, .nilSlice] [(0, x1), (2, x17)]) fun x18 => 
  bA (bxV 442 x18) H fun x19 H => 
  bR (noPan (f332 D n [x19, (.int .i64 (.ofNat 2))] H)) fun x21 H => 
  bV (pNil x19) fun x23 => 
  bV (fAd 1 x23) fun x24 => 
  bV (ld1p x24 H) fun x25 => 
  cnd x25 (bV (bldSp [(0, 1), (1, 1), (2, 1), (3, 1)] [(.bool false), .nilSlice, .nilSlice, .nilSlice] []) fun x26 => 
  bR (stNp 4 x4 x26 H) fun x9999_2 H => 
  bV (ldNp 4 x4 H) fun x9004_2 => bV (some (.int .i64 (.ofNat 4))) fun x5_2 => some (.ret (.tuple [x9004_2, x5_2]), H))
  (bA (bldLp 1 1 2 [.nilFunc] [(0, (.func 333 [x19] [])), (1, (.func 334 [x19] []))]) H fun x31 H => 
  jn (cnd x0 (bA (bldLp 1 1 2 [.nilFunc] [(0, (.func 333 [x19] [])), (1, (.func 335 [x19] []))]) H fun x37 H => 
  some (.norm [x4, x19, x21, x37], H))
  (bR (noPan (f334 D n [x19] H)) fun x39 H => 
  some (.norm [x4, x19, x21, x31], H))) (f279j4 D n))))
def h279 : Hint := (.s .o (.s (.s .o (.cl (.s .o .o) .o)) (.s .o (.s .o (.s (.s .o (.cl (.s .o .o) .o)) (.s .o (.s (.s .o (.c [4, 6, 7, 8] .o .o)) (.s (.s .o (.b [4, 6] (.l [4, 6, 8, 47, 48] (.s .o (.s (.cr .o .o) (.s (.b0 (.s (.s .o (.b [4, 6, 8, 47, 48] (.l [4, 6, 8, 47, 48, 50, 51, 52] (.s .o (.s (.cr .o .o) (.s (.b0 (.s .o .o)) .o)))))) (.s .o (.cl .o .o)))) .o)))))) (.s (.s .o (.cl (.s .o .o) .o)) (.s .o .o))))))))))
theorem f279_eq (D : Dyn) (n : Nat) : f279 D n = funKp (s279 D n) D n 279 Tryz.f279 h279 := by kernel_rfl
theorem f279_ok {D : Dyn} (hD : DP D) (n : Nat) : FP 279 (f279 D n) := fun_okP X_ok hD (SP.cons (f332_ok hD n) (SP.cons (f334_ok hD n) (SP.cons (f336_ok hD n) (SP.nil)))) Tryz.func279 (by kernel_rfl) (by kernel_rfl) (f279_eq D n)

def s206 (D : Dyn) (n : Nat) : Tb := ⟨X, [(278, f278 D n), (279, f279 D n)]⟩
/-- (*jetty/tree.Tree).read -/
def f206 (D : Dyn) (n : Nat) (vs : List AV) (H : AH) : Option (AV × AH) :=
  outR (hd vs fun x0 vs => hd vs fun x1 vs => nl vs <|
  bA (bxV 119 x1) H fun x3 H => 
  bA (bxV 269 (.agg [(.bool false), .nilSlice, .nilSlice, .nilSlice])) H fun x4 H => 
  bV (fAd 0 x3) fun x11 => 
  bV (ld1p x11 H) fun x12 => 
  bV (bInt .eql x12 (.int .i64 (.ofNat 1))) fun x13 => 
  cnd x13 (bV (pNil x0) fun x16 => 
  bV (fAd 5 x16) fun x17 => 
  bV (ld1p x17 H) fun x18 => 
  bV (fAd 2 x3) fun x19 => 
  bV (ld1p x19 H) fun x20 => 
  bV (lkM [10] (.agg [(.bool false), .nilSlice, .nilSlice, .nilSlice]) true x18 x20 H) fun x21 => 
  bV (pExtract x21 0) fun x22 => 
  bV (pExtract x21 1) fun x23 => 
  bA (bxV 269 (.agg [(.bool false), .nilSlice, .nilSlice, .nilSlice])) H fun x6 H => 
  bR (stNp 4 x6 x22 H) fun x9999 H => 
  bV (aun .not x23) fun x25 => 
  jn (wnt x25 false (bV (fAd 1 x3) fun x27 => 
  bV (ld1p x27 H) fun x28 => 
  bV (bInt .neq x28 (.int .i64 (.ofNat 0))) fun x29 => 
  some (.norm [x29], H)) (some (.norm [undefA], H))) fun vs H => hd vs fun x29_2 vs => 
  bV (pk3 (some x25) (some (.bool true)) (some x29_2)) fun x30 => 
  cnd x30 (bV (bldSp [(0, 1), (1, 1), (2, 1), (3, 1)] [(.bool false), .nilSlice, .nilSlice, .nilSlice] []) fun x31 => 
  bR (stNp 4 x4 x31 H) fun x9999_2 H => 
  bV (ldNp 4 x4 H) fun x9004 => bV (some (.int .i64 (.ofNat 1))) fun x5 => some (.ret (.tuple [x9004, x5]), H))
  (bV (ldNp 4 x6 H) fun x32 => 
  bR (stNp 4 x4 x32 H) fun x9999_3 H => 
  bV (ldNp 4 x4 H) fun x9004_2 => bV (some (.int .i64 (.ofNat 0))) fun x5_2 => some (.ret (.tuple [x9004_2, x5_2]), H)))
  (bV (ldNp 3 x3 H) fun x35 => 
  bR (noPan (f278 D n [x0, x35] H)) fun x36 H => 
  bV (pExtract x36 0) fun x37 => 
  bV (pExtract x36 1) fun x38 => 
  bV (pExtract x36 2) fun x39 => 
  bV (bInt .neq x39 (.int .i64 (.ofNat 0))) fun x41 => 
  cnd x41 (bV (bldSp [(0, 1), (1, 1), (2, 1), (3, 1)] [(.bool false), .nilSlice, .nilSlice, .nilSlice] []) fun x42 => 
  bR (stNp 4 x4 x42 H) fun x9999_4 H => 
  bV (ldNp 4 x4 H) fun x9004_3 => bV (some x39) fun x5_3 => some (.ret (.tuple [x9004_3, x5_3]), H))
  (bV (bInt .neq x37 (.int .u8 (.ofNat 1))) fun x45 => 
  jn (wnt x45 true (bV (bInt .neq x37 (.int .u8 (.ofNat 2))) fun x48 => 
  some (.norm [x48], H)) (some (.norm [undefA], H))) fun vs H => hd vs fun x48_2 vs => 
  bV (pk3 (some x45) (some x48_2) (some (.bool false))) fun x49 => 
  cnd x49 (bV (bldSp [(0, 1), (1, 1), (2, 1), (3, 1)] [(.bool false), .nilSlice, .nilSlice, .nilSlice] []) fun x50 => 
  bR (stNp 4 x4 x50 H) fun x9999_5 H => 
  bV (ldNp 4 x4 H) fun x9004_4 => bV (some (.int .i64 (.ofNat 4))) fun x5_4 => some (.ret (.tuple [x9004_4, x5_4]), H))
  (bV (bInt .eql x37 (.int .u8 (.ofNat 1))) fun x52 => 
  bR (noPan (f279 D n [x52, x38] H)) fun x54 H => 
  bV (pExtract x54 0) fun x55 => 
  bV (pExtract x54 1) fun x56 => 
  bR (stNp 4 x4 x55 H) fun x9999_6 H => 
  bV (ldNp 4 x4 H) fun x9004_5 => bV (some x56) fun x5_5 => some (.ret (.tuple [x9004_5, x5_5]), H)))))
def h206 : Hint := (.s .o (.s (.s .o (.cl (.s .o (.s (.s .o (.cl (.s .o .o) .o)) (.s .o .o))) .o)) (.s .o (.s (.s .o (.cl (.s .o .o) .o)) (.s (.s .o (.cl (.s .o .o) .o)) (.s .o .o))))))
theorem f206_eq (D : Dyn) (n : Nat) : f206 D n = funKp (s206 D n) D n 206 Tryz.f206 h206 := by kernel_rfl
theorem f206_ok {D : Dyn} (hD : DP D) (n : Nat) : FP 206 (f206 D n) := fun_okP X_ok hD (SP.cons (f278_ok hD n) (SP.cons (f279_ok hD n) (SP.nil))) Tryz.func206 (by kernel_rfl) (by kernel_rfl) (f206_eq D n)

def s280 (D : Dyn) (n : Nat) : Tb := ⟨X, []⟩
def f280l0 (D : Dyn) (n : Nat) (vs : List AV) (H : AH) : Rs :=
  hd vs fun x0_2 vs => hd vs fun x1_2 vs => hd vs fun x7_2 vs => hd vs fun x8 vs => 
  bV (bInt .lss x8 x7_2) fun x9 => 
  cnd x9 (bV (ixSl 1 x0_2 x8) fun x14 => 
  bV (ld1p x14 H) fun x15 => 
  bV (bStr .eql x1_2 x15) fun x16 => 
  cnd x16 (bV (some x8) fun x4 => some (.ret x4, H))
  (bV (bInt .add x8 (.int .i64 (.ofNat 1))) fun x18 => 
  some (.norm [x0_2, x1_2, x7_2, x18], H)))
  (some (.exit 0 [], H))
def f280b1 (D : Dyn) (n : Nat) (vs : List AV) (H : AH) : Rs :=
  
  bV (some (.int .i64 (.negSucc 0))) fun x4_2 => some (.ret x4_2, H)
/-- slices.Index[[]string,string] -/
def f280 (D : Dyn) (n : Nat) (vs : List AV) (H : AH) : Option (AV × AH) :=
  outR (hd vs fun x0 vs => hd vs fun x1 vs => nl vs <|
  bV (lnSl x0) fun x7 => 
  jb 0 (loopK n (f280l0 D n) [x0, x1, x7, (.int .i64 (.ofNat 0))] H) (f280b1 D n))
def h280 : Hint := (.s .o (.s (.s .o (.b [] (.l [0, 1, 7, 8] (.s .o (.s (.cr .o .o) (.s (.b0 (.s .o (.s .o (.cl (.s .o .o) .o)))) .o)))))) (.s .o .o)))
theorem f280_eq (D : Dyn) (n : Nat) : f280 D n = funKp (s280 D n) D n 280 Tryz.f280 h280 := by kernel_rfl
theorem f280_ok {D : Dyn} (hD : DP D) (n : Nat) : FP 280 (f280 D n) := fun_okP X_ok hD (SP.nil) Tryz.func280 (by kernel_rfl) (by kernel_rfl) (f280_eq D n)

def s207 (D : Dyn) (n : Nat) : Tb := ⟨X, [(280, f280 D n)]⟩
/-- jetty/node.Get -/
def f207 (D : Dyn) (n : Nat) (vs : List AV) (H : AH) : Option (AV × AH) :=
  outR (hd vs fun x0 vs => hd vs fun x1 vs => nl vs <|
  bA (bxV 269 x0) H fun x2 H => 
  bV (fAd 0 x2) fun x7 => 
  bV (ld1p x7 H) fun x8 => 
  bV (aun .not x8) fun x9 => 
  cnd x9 (bV (some (.str 0 0)) fun x4 => bV (some (.bool false)) fun x5 => some (.ret (.tuple [x4, x5]), H))
  (bV (fAd 1 x2) fun x10 => 
  bV (ld1p x10 H) fun x11 => 
  bR (noPan (f280 D n [x11, x1] H)) fun x13 H => 
  bV (bInt .lss x13 (.int .i64 (.ofNat 0))) fun x15 => 
  jn (wnt x15 false (bV (fAd 2 x2) fun x18 => 
  bV (ld1p x18 H) fun x19 => 
  bV (lnSl x19) fun x20 => 
  bV (bInt .geq x13 x20) fun x21 => 
  some (.norm [x21], H)) (some (.norm [undefA], H))) fun vs H => hd vs fun x21_2 vs => 
  bV (pk3 (some x15) (some (.bool true)) (some x21_2)) fun x22 => 
  cnd x22 (bV (some (.str 0 0)) fun x4_2 => bV (some (.bool false)) fun x5_2 => some (.ret (.tuple [x4_2, x5_2]), H))
  (bV (fAd 2 x2) fun x23 => 
  bV (ld1p x23 H) fun x24 => 
  bV (ixSl 1 x24 x13) fun x26 => 
  bV (ld1p x26 H) fun x27 => 
  bV (some x27) fun x4_3 => bV (some (.bool true)) fun x5_3 => some (.ret (.tuple [x4_3, x5_3]), H))))
def h207 : Hint := (.s .o (.s (.s .o (.cl (.s .o .o) .o)) (.s .o (.s (.s .o (.cl (.s .o .o) .o)) (.s .o .o)))))
theorem f207_eq (D : Dyn) (n : Nat) : f207 D n = funKp (s207 D n) D n 207 Tryz.f207 h207 := by kernel_rfl
theorem f207_ok {D : Dyn} (hD : DP D) (n : Nat) : FP 207 (f207 D n) := fun_okP X_ok hD (SP.cons (f280_ok hD n) (SP.nil)) Tryz.func207 (by kernel_rfl) (by kernel_rfl) (f207_eq D n)

def s208 (D : Dyn) (n : Nat) : Tb := ⟨X, []⟩
def f208j0 (D : Dyn) (n : Nat) (vs : List AV) (H : AH) : Rs :=
  hd vs fun x1_3 vs => hd vs fun x2_3 vs => hd vs fun x5_2 vs => hd vs fun x9_3 vs => hd vs fun x10_3 vs => hd vs fun x11_2 vs => 
  bV (bInt .add x11_2 (.int .i64 (.ofNat 1))) fun x30 => 
  some (.norm [x1_3, x2_3, x5_2, x9_3, x10_3, x30], H)
def f208l1 (D : Dyn) (n : Nat) (vs : List AV) (H : AH) : Rs :=
  hd vs fun x1_2 vs => hd vs fun x2_2 vs => hd vs fun x5 vs => hd vs fun x9_2 vs => hd vs fun x10_2 vs => hd vs fun x11 vs => 
  bV (bInt .lss x11 x10_2) fun x12 => 
  cnd x12 (bV (ixSl 1 x9_2 x11) fun x13 => 
  bV (ld1p x13 H) fun x14 => 
  bV (bStr .lss x14 x1_2) fun x17 => 
  jn (wnt x17 false (bV (fAd 0 x2_2) fun x19 => 
  bV (ld1p x19 H) fun x20 => 
  bV (aun .not x20) fun x21 => 
  some (.norm [x21], H)) (some (.norm [undefA], H))) fun vs H => hd vs fun x22 vs => 
  jn (wnt x22 true (bV (bStr .eql x14 x1_2) fun x25 => 
  some (.norm [x25], H)) (some (.norm [undefA], H))) fun vs H => hd vs fun x25_2 vs => 
  jn (wnt x17 false (bV (pk3 (some x22) (some x25_2) (some (.bool false))) fun x26 => 
  some (.norm [x26], H)) (some (.norm [undefA], H))) fun vs H => hd vs fun x26_2 vs => 
  bV (pk3 (some x17) (some (.bool true)) (some x26_2)) fun x27 => 
  jn (cnd x27 (bV (bInt .add x5 (.int .i64 (.ofNat 1))) fun x29 => 
  some (.norm [x1_2, x2_2, x29, x9_2, x10_2, x11], H))
  (some (.norm [x1_2, x2_2, x5, x9_2, x10_2, x11], H))) (f208j0 D n))
  (some (.exit 0 [x5], H))
def f208b2 (D : Dyn) (n : Nat) (vs : List AV) (H : AH) : Rs :=
  hd vs fun x5_3 vs => 
  bV (some x5_3) fun x4 => some (.ret x4, H)
/-- jetty/node.Where -/
def f208 (D : Dyn) (n : Nat) (vs : List AV) (H : AH) : Option (AV × AH) :=
  outR (hd vs fun x0 vs => hd vs fun x1 vs => nl vs <|
  bA (bxV 269 x0) H fun x2 H => 
  bV (fAd 1 x2) fun x8 => 
  bV (ld1p x8 H) fun x9 => 
  bV (lnSl x9) fun x10 => 
  jb 0 (loopK n (f208l1 D n) [x1, x2, (.int .i64 (.ofNat 0)), x9, x10, (.int .i64 (.ofNat 0))] H) (f208b2 D n))
def h208 : Hint := (.s .o (.s .o (.s (.s .o (.b [5] (.l [1, 2, 5, 9, 10, 11] (.s .o (.s (.cr .o .o) (.s (.b0 (.s .o (.s .o (.c [1, 2, 5, 9, 10, 11] .o .o)))) .o)))))) (.s .o .o))))
theorem f208_eq (D : Dyn) (n : Nat) : f208 D n = funKp (s208 D n) D n 208 Tryz.f208 h208 := by kernel_rfl
theorem f208_ok {D : Dyn} (hD : DP D) (n : Nat) : FP 208 (f208 D n) := fun_okP X_ok hD (SP.nil) Tryz.func208 (by kernel_rfl) (by kernel_rfl) (f208_eq D n)

def s135 (D : Dyn) (n : Nat) : Tb := ⟨X, [(186, f186 D n), (205, f205 D n), (206, f206 D n), (207, f207 D n), (208, f208 D n)]⟩
def f135l0 (D : Dyn) (n : Nat) (vs : List AV) (H : AH) : Rs :=
  hd vs fun x0_2 vs => hd vs fun x1_2 vs => hd vs fun x6_2 vs => hd vs fun x32_2 vs => hd vs fun x33 vs => 
  bV (bInt .lss x33 x32_2) fun x34 => 
  cnd x34 (bV (ldNp 3 x6_2 H) fun x37 => 
  bR (noPan (f206 D n [x0_2, x37] H)) fun x38 H => 
  bV (pExtract x38 0) fun x39 => 
  bV (pExtract x38 1) fun x40 => 
  bA (bxV 269 (.agg [(.bool false), .nilSlice, .nilSlice, .nilSlice])) H fun x7 H => 
  bR (stNp 4 x7 x39 H) fun x9999_2 H => 
  bV (bInt .neq x40 (.int .i64 (.ofNat 0))) fun x42 => 
  cnd x42 (bV (some (.str 0 0)) fun x4_4 => bV (some x40) fun x5_4 => some (.ret (.tuple [x4_4, x5_4]), H))
  (bV (fAd 0 x7) fun x44 => 
  bV (ld1p x44 H) fun x45 => 
  cnd x45 (bV (ldNp 4 x7 H) fun x47 => 
  bR (noPan (f207 D n [x47, x1_2] H)) fun x49 H => 
  bV (pExtract x49 0) fun x50 => 
  bV (pExtract x49 1) fun x51 => 
  bV (aun .not x51) fun x53 => 
  cnd x53 (bV (some (.str 0 0)) fun x4_5 => bV (some (.int .i64 (.ofNat 5))) fun x5_5 => some (.ret (.tuple [x4_5, x5_5]), H))
  (bV (some x50) fun x4_6 => bV (some (.int .i64 (.ofNat 0))) fun x5_6 => some (.ret (.tuple [x4_6, x5_6]), H)))
  (bV (fAd 3 x7) fun x55 => 
  bV (ld1p x55 H) fun x56 => 
  bV (ldNp 4 x7 H) fun x57 => 
  bR (noPan (f208 D n [x57, x1_2] H)) fun x59 H => chk (ld1p x55 H) x56 <| 
  bV (ixSl 3 x56 x59) fun x60 => 
  bV (ldNp 3 x60 H) fun x61 => 
  bR (stNp 3 x6_2 x61 H) fun x9999_3 H => 
  bV (bInt .add x33 (.int .i64 (.ofNat 1))) fun x62 => 
  some (.norm [x0_2, x1_2, x6_2, x32_2, x62], H))))
  (some (.exit 0 [], H))
def f135b1 (D : Dyn) (n : Nat) (vs : List AV) (H : AH) : Rs :=
  
  bV (some (.str 0 0)) fun x4_7 => bV (some (.int .i64 (.ofNat 4))) fun x5_7 => some (.ret (.tuple [x4_7, x5_7]), H)
/-- (*jetty/tree.Tree).Get -/
def f135 (D : Dyn) (n : Nat) (vs : List AV) (H : AH) : Option (AV × AH) :=
  outR (hd vs fun x0 vs => hd vs fun x1 vs => nl vs <|
  bR (noPan (f186 D n [x0] H)) fun x12 H => 
  cnd x12 (bV (some (.str 0 0)) fun x4 => bV (some (.int .i64 (.ofNat 2))) fun x5 => some (.ret (.tuple [x4, x5]), H))
  (bV (lnStr x1) fun x14 => 
  bV (bInt .lss x14 (.int .i64 (.ofNat 1))) fun x15 => 
  jn (wnt x15 false (bV (lnStr x1) fun x18 => 
  bV (bInt .gtr x18 (.int .i64 (.ofNat 40))) fun x19 => 
  some (.norm [x19], H)) (some (.norm [undefA], H))) fun vs H => hd vs fun x19_2 vs => 
  bV (pk3 (some x15) (some (.bool true)) (some x19_2)) fun x20 => 
  cnd x20 (bV (some (.str 0 0)) fun x4_2 => bV (some (.int .i64 (.ofNat 1))) fun x5_2 => some (.ret (.tuple [x4_2, x5_2]), H))
  (bV (pNil x0) fun x22 => 
  bV (fAd 2 x22) fun x23 => 
  bV (fAd 0 x23) fun x24 => 
  bV (ld1p x24 H) fun x25 => 
  bV (bInt .eql x25 (.int .i64 (.ofNat 0))) fun x26 => 
  cnd x26 (bV (some (.str 0 0)) fun x4_3 => bV (some (.int .i64 (.ofNat 5))) fun x5_3 => some (.ret (.tuple [x4_3, x5_3]), H))
  (bV (pNil x0) fun x28 => 
  bV (fAd 2 x28) fun x29 => 
  bV (ldNp 3 x29 H) fun x30 => 
  bA (bxV 119 (.agg [(.int .i64 (.ofNat 0)), (.int .i64 (.ofNat 0)), (.int .u64 (.ofNat 0))])) H fun x6 H => 
  bR (stNp 3 x6 x30 H) fun x9999 H => 
  bR (noPan (f205 D n [x0] H)) fun x32 H => 
  jb 0 (loopK n (f135l0 D n) [x0, x1, x6, x32, (.int .i64 (.ofNat 0))] H) (f135b1 D n)))))
def h135 : Hint := (.s .o (.s (.s .o (.cl (.s .o .o) .o)) (.s (.s .o (.cl (.s .o .o) .o)) (.s (.s .o (.cl (.s .o .o) .o)) (.s .o (.s (.s .o (.b [] (.l [0, 1, 6, 32, 33] (.s .o (.s (.cr .o .o) (.s (.b0 (.s .o (.s (.s .o (.cl (.s .o .o) .o)) (.s (.s .o (.cl (.s .o (.s (.s .o (.cl (.s .o .o) .o)) (.s .o .o))) .o)) .o)))) .o)))))) (.s .o .o)))))))
theorem f135_eq (D : Dyn) (n : Nat) : f135 D n = funKp (s135 D n) D n 135 Tryz.f135 h135 := by kernel_rfl
theorem f135_ok {D : Dyn} (hD : DP D) (n : Nat) : FP 135 (f135 D n) := fun_okP X_ok hD (SP.cons (f186_ok hD n) (SP.cons (f205_ok hD n) (SP.cons (f206_ok hD n) (SP.cons (f207_ok hD n) (SP.cons (f208_ok hD n) (SP.nil)))))) Tryz.func135 (by kernel_rfl) (by kernel_rfl) (f135_eq D n)

def s38 (D : Dyn) (n : Nat) : Tb := ⟨X, []⟩
/-- jetty/objs.throw -/
def f38 (D : Dyn) (n : Nat) (vs : List AV) (H : AH) : Option (AV × AH) :=
  outR (hd vs fun x0 vs => nl vs <|
  bV (bldSp [(0, 1)] [(.int .i64 (.ofNat 0))] [(0, x0)]) fun x3 => 
  pnK (some (.iface 169 x3)) H (fun x H => some (.ret (.pan x), H)))
def h38 : Hint := .pc
theorem f38_eq (D : Dyn) (n : Nat) : f38 D n = funKp (s38 D n) D n 38 Tryz.f38 h38 := by kernel_rfl
theorem f38_ok {D : Dyn} (hD : DP D) (n : Nat) : FP 38 (f38 D n) := fun_okP X_ok hD (SP.nil) Tryz.func38 (by kernel_rfl) (by kernel_rfl) (f38_eq D n)

def s54 (D : Dyn) (n : Nat) : Tb := ⟨X, [(38, f38 D n)]⟩
def f54j0 (D : Dyn) (n : Nat) (vs : List AV) (H : AH) : Rs :=
  
  some (.ret (.tuple []), H)
/-- jetty/objs.check -/
def f54 (D : Dyn) (n : Nat) (vs : List AV) (H : AH) : Option (AV × AH) :=
  outR (hd vs fun x0 vs => nl vs <|
  bV (bInt .neq x0 (.int .i64 (.ofNat 0))) fun x3 => 
  jn (cnd x3 (bC (f38 D n [x0] H) (fun x H => some (.ret (.pan x), H)) fun x5 H => 
  some (.norm [], H))
  (some (.norm [], H))) (f54j0 D n))
def h54 : Hint := (.s .o (.c [] .pc .o))
theorem f54_eq (D : Dyn) (n : Nat) : f54 D n = funKp (s54 D n) D n 54 Tryz.f54 h54 := by kernel_rfl
theorem f54_ok {D : Dyn} (hD : DP D) (n : Nat) : FP 54 (f54 D n) := fun_okP X_ok hD (SP.cons (f38_ok hD n) (SP.nil)) Tryz.func54 (by kernel_rfl) (by kernel_rfl) (f54_eq D n)

def s76 (D : Dyn) (n : Nat) : Tb := ⟨X, [(135, f135 D n), (54, f54 D n)]⟩
/-- (jetty/objs.work).value -/
def f76 (D : Dyn) (n : Nat) (vs : List AV) (H : AH) : Option (AV × AH) :=
  outR (hd vs fun x0 vs => hd vs fun x1 vs => nl vs <|
  bA (bxV 73 x0) H fun x2 H => 
  bV (fAd 0 x2) fun x9 => 
  bV (ld1p x9 H) fun x10 => 
  bR (noPan (f135 D n [x10, x1] H)) fun x12 H => 
  bV (pExtract x12 0) fun x13 => 
  bV (pExtract x12 1) fun x14 => 
  bV (bInt .eql x14 (.int .i64 (.ofNat 5))) fun x16 => 
  cnd x16 (bV (some (.str 0 0)) fun x4 => bV (some (.bool false)) fun x5 => some (.ret (.tuple [x4, x5]), H))
  (bC (f54 D n [x14] H) (fun x H => some (.ret (.pan x), H)) fun x18 H => 
  bV (some x13) fun x4_2 => bV (some (.bool true)) fun x5_2 => some (.ret (.tuple [x4_2, x5_2]), H)))
def h76 : Hint := (.s .o (.s .o (.s (.s .o (.cl (.s .o .o) .o)) (.s .pc (.s .o .o)))))
theorem f76_eq (D : Dyn) (n : Nat) : f76 D n = funKp (s76 D n) D n 76 Tryz.f76 h76 := by kernel_rfl
theorem f76_ok {D : Dyn} (hD : DP D) (n : Nat) : FP 76 (f76 D n) := fun_okP X_ok hD (SP.cons (f135_ok hD n) (SP.cons (f54_ok hD n) (SP.nil))) Tryz.func76 (by kernel_rfl) (by kernel_rfl) (f76_eq D n)

def s139 (D : Dyn) (n : Nat) : Tb := ⟨X, []⟩
/-- jetty/inode.numbers -/
def f139 (D : Dyn) (n : Nat) (vs : List AV) (H : AH) : Option (AV × AH) :=
  outR (hd vs fun x0 vs => nl vs <|
  bA (bxV 219 (.agg [.nilPtr, .nilPtr, .nilPtr, .nilPtr, .nilPtr, .nilPtr, .nilPtr])) H fun x2 H => 
  bV (pNil x0) fun x4 => 
  bV (fAd 1 x4) fun x5 => 
  bV (pNil x0) fun x7 => 
  bV (fAd 2 x7) fun x8 => 
  bV (pNil x0) fun x10 => 
  bV (fAd 3 x10) fun x11 => 
  bV (pNil x0) fun x13 => 
  bV (fAd 4 x13) fun x14 => 
  bV (pNil x0) fun x16 => 
  bV (fAd 5 x16) fun x17 => 
  bV (pNil x0) fun x19 => 
  bV (fAd 6 x19) fun x20 => 
  bV (pNil x0) fun x22 => 
  bV (fAd 7 x22) fun x23 => 
  bV (bldAp 1 [.nilPtr, .nilPtr, .nilPtr, .nilPtr, .nilPtr, .nilPtr, .nilPtr] [(0, x5), (1, x8), (2, x11), (3, x14), (4, x17), (5, x20), (6, x23)]) fun x24 => 
  bR (stNp 7 x2 x24 H) fun x9999 H => 
  bV (ldNp 7 x2 H) fun x9002 => some (.ret x9002, H))
def h139 : Hint := (.s .o (.s .o .o))
theorem f139_eq (D : Dyn) (n : Nat) : f139 D n = funKp (s139 D n) D n 139 Tryz.f139 h139 := by kernel_rfl
theorem f139_ok {D : Dyn} (hD : DP D) (n : Nat) : FP 139 (f139 D n) := fun_okP X_ok hD (SP.nil) Tryz.func139 (by kernel_rfl) (by kernel_rfl) (f139_eq D n)

def s176 (D : Dyn) (n : Nat) : Tb := ⟨X, []⟩
def f176l0 (D : Dyn) (n : Nat) (vs : List AV) (H : AH) : Rs :=
  hd vs fun x0_2 vs => hd vs fun x3 vs => hd vs fun x5 vs => 
  bV (bInt .lss x5 (.int .i64 (.ofNat 4))) fun x6 => 
  cnd x6 (bV (bInt .shl x3 (.int .u64 (.ofNat 8))) fun x9 => 
  bV (ixStr x0_2 x5) fun x12 => 
  bV (cvI .i64 x12) fun x13 => 
  bV (bInt .or x9 x13) fun x14 => 
  bV (bInt .add x5 (.int .i64 (.ofNat 1))) fun x15 => 
  some (.norm [x0_2, x14, x15], H))
  (some (.exit 0 [x3], H))
def f176b1 (D : Dyn) (n : Nat) (vs : List AV) (H : AH) : Rs :=
  hd vs fun x3_2 vs => 
  bV (some x3_2) fun x2 => some (.ret x2, H)
/-- jetty/inode.number -/
def f176 (D : Dyn) (n : Nat) (vs : List AV) (H : AH) : Option (AV × AH) :=
  outR (hd vs fun x0 vs => nl vs <|
  jb 0 (loopK n (f176l0 D n) [x0, (.int .i64 (.ofNat 0)), (.int .i64 (.ofNat 0))] H) (f176b1 D n))
def h176 : Hint := (.s .o (.s .o (.s (.s .o (.b [3] (.l [0, 3, 5] (.s .o (.s (.cr .o .o) (.s (.b0 (.s .o .o)) .o)))))) (.s .o .o))))
theorem f176_eq (D : Dyn) (n : Nat) : f176 D n = funKp (s176 D n) D n 176 Tryz.f176 h176 := by kernel_rfl
theorem f176_ok {D : Dyn} (hD : DP D) (n : Nat) : FP 176 (f176 D n) := fun_okP X_ok hD (SP.nil) Tryz.func176 (by kernel_rfl) (by kernel_rfl) (f176_eq D n)

def s138 (D : Dyn) (n : Nat) : Tb := ⟨X, []⟩
/-- jetty/inode.within[uint8] -/
def f138 (D : Dyn) (n : Nat) (vs : List AV) (H : AH) : Option (AV × AH) :=
  outR (hd vs fun x0 vs => hd vs fun x1 vs => hd vs fun x2 vs => nl vs <|
  bV (bInt .geq x0 x1) fun x9 => 
  jn (wnt x9 true (bV (bInt .leq x0 x2) fun x13 => 
  some (.norm [x13], H)) (some (.norm [undefA], H))) fun vs H => hd vs fun x13_2 vs => 
  bV (pk3 (some x9) (some x13_2) (some (.bool false))) fun x14 => 
  bV (some x14) fun x6 => some (.ret x6, H))
def h138 : Hint := (.s .o (.s .o .o))
theorem f138_eq (D : Dyn) (n : Nat) : f138 D n = funKp (s138 D n) D n 138 Tryz.f138 h138 := by kernel_rfl
theorem f138_ok {D : Dyn} (hD : DP D) (n : Nat) : FP 138 (f138 D n) := fun_okP X_ok hD (SP.nil) Tryz.func138 (by kernel_rfl) (by kernel_rfl) (f138_eq D n)

def s121 (D : Dyn) (n : Nat) : Tb := ⟨X, []⟩
/-- jetty/inode.within[int] -/
def f121 (D : Dyn) (n : Nat) (vs : List AV) (H : AH) : Option (AV × AH) :=
  outR (hd vs fun x0 vs => hd vs fun x1 vs => hd vs fun x2 vs => nl vs <|
  bV (bInt .geq x0 x1) fun x9 => 
  jn (wnt x9 true (bV (bInt .leq x0 x2) fun x13 => 
  some (.norm [x13], H)) (some (.norm [undefA], H))) fun vs H => hd vs fun x13_2 vs => 
  bV (pk3 (some x9) (some x13_2) (some (.bool false))) fun x14 => 
  bV (some x14) fun x6 => some (.ret x6, H))
def h121 : Hint := (.s .o (.s .o .o))
theorem f121_eq (D : Dyn) (n : Nat) : f121 D n = funKp (s121 D n) D n 121 Tryz.f121 h121 := by kernel_rfl
theorem f121_ok {D : Dyn} (hD : DP D) (n : Nat) : FP 121 (f121 D n) := fun_okP X_ok hD (SP.nil) Tryz.func121 (by kernel_rfl) (by kernel_rfl) (f121_eq D n)

def s84 (D : Dyn) (n : Nat) : Tb := ⟨X, [(138, f138 D n), (139, f139 D n), (121, f121 D n)]⟩
def f84l0 (D : Dyn) (n : Nat) (vs : List AV) (H : AH) : Rs :=
  hd vs fun x1_2 vs => hd vs fun x14_2 vs => hd vs fun x15 vs => 
  bV (bInt .lss x15 (.int .i64 (.ofNat 7))) fun x16 => 
  cnd x16 (bV (ixAg1p 7 1 x14_2 x15) fun x17 => 
  bV (pNil x17) fun x19 => 
  bV (ld1p x19 H) fun x20 => 
  bR (noPan (f121 D n [x20, (.int .i64 (.ofNat 0)), (.int .i64 (.ofNat 2147483647))] H)) fun x21 H => 
  bV (aun .not x21) fun x22 => 
  cnd x22 (bV (some (.bool false)) fun x2_2 => some (.ret x2_2, H))
  (bV (bInt .add x15 (.int .i64 (.ofNat 1))) fun x23 => 
  some (.norm [x1_2, x14_2, x23], H)))
  (some (.exit 0 [x1_2], H))
def f84b1 (D : Dyn) (n : Nat) (vs : List AV) (H : AH) : Rs :=
  hd vs fun x1_3 vs => 
  bV (fAd 6 x1_3) fun x24 => 
  bV (ld1p x24 H) fun x25 => 
  bV (bInt .lss x25 (.int .i64 (.ofNat 1))) fun x26 => 
  jn (wnt x26 false (bV (fAd 6 x1_3) fun x28 => 
  bV (ld1p x28 H) fun x29 => 
  bV (bInt .eql x29 (.int .i64 (.ofNat 2147483647))) fun x30 => 
  some (.norm [x30], H)) (some (.norm [undefA], H))) fun vs H => hd vs fun x30_2 vs => 
  bV (pk3 (some x26) (some (.bool true)) (some x30_2)) fun x31 => 
  cnd x31 (bV (some (.bool false)) fun x2_3 => some (.ret x2_3, H))
  (bV (fAd 0 x1_3) fun x32 => 
  bV (ld1p x32 H) fun x33 => 
  bV (bInt .eql x33 (.int .u8 (.ofNat 1))) fun x35 => 
  cnd x35 (bV (fAd 3 x1_3) fun x36 => 
  bV (ld1p x36 H) fun x37 => 
  bV (bInt .leq x37 (.int .i64 (.ofNat 32768))) fun x38 => 
  bV (some x38) fun x2_4 => some (.ret x2_4, H))
  (bV (bInt .eql x33 (.int .u8 (.ofNat 3))) fun x40 => 
  cnd x40 (bV (fAd 3 x1_3) fun x41 => 
  bV (ld1p x41 H) fun x42 => 
  bV (bInt .leq x42 (.int .i64 (.ofNat 160))) fun x43 => 
  bV (some x43) fun x2_5 => some (.ret x2_5, H))
  (bV (some (.bool true)) fun x2_6 => some (.ret x2_6, H))))
/-- jetty/inode.May -/
def f84 (D : Dyn) (n : Nat) (vs : List AV) (H : AH) : Option (AV × AH) :=
  outR (hd vs fun x0 vs => nl vs <|
  bA (bxV 23 x0) H fun x1 H => 
  bV (fAd 0 x1) fun x5 => 
  bV (ld1p x5 H) fun x6 => 
  bR (noPan (f138 D n [x6, (.int .u8 (.ofNat 1)), (.int .u8 (.ofNat 3))] H)) fun x7 H => 
  bV (aun .not x7) fun x8 => 
  jn (wnt x8 false (bV (fAd 1 x1) fun x10 => 
  bV (ld1p x10 H) fun x11 => 
  bV (bInt .gtr x11 (.int .i64 (.ofNat 4095))) fun x12 => 
  some (.norm [x12], H)) (some (.norm [undefA], H))) fun vs H => hd vs fun x12_2 vs => 
  bV (pk3 (some x8) (some (.bool true)) (some x12_2)) fun x13 => 
  cnd x13 (bV (some (.bool false)) fun x2 => some (.ret x2, H))
  (bR (noPan (f139 D n [x1] H)) fun x14 H => 
  jb 0 (loopK n (f84l0 D n) [x1, x14, (.int .i64 (.ofNat 0))] H) (f84b1 D n)))
def h84 : Hint := (.s .o (.s (.s .o (.cl (.s .o .o) .o)) (.s (.s .o (.b [1] (.l [1, 14, 15] (.s .o (.s (.cr .o .o) (.s (.b0 (.s .o (.s .o (.cl (.s .o .o) .o)))) .o)))))) (.s (.s .o (.cl (.s .o .o) .o)) (.s (.s .o (.b0 (.s .o (.cl (.s .o .o) (.s .o (.cl (.s .o .o) .o)))))) (.s .o .o))))))
theorem f84_eq (D : Dyn) (n : Nat) : f84 D n = funKp (s84 D n) D n 84 Tryz.f84 h84 := by kernel_rfl
theorem f84_ok {D : Dyn} (hD : DP D) (n : Nat) : FP 84 (f84 D n) := fun_okP X_ok hD (SP.cons (f138_ok hD n) (SP.cons (f139_ok hD n) (SP.cons (f121_ok hD n) (SP.nil)))) Tryz.func84 (by kernel_rfl) (by kernel_rfl) (f84_eq D n)

def s107 (D : Dyn) (n : Nat) : Tb := ⟨X, [(139, f139 D n), (176, f176 D n), (84, f84 D n)]⟩
def f107l0 (D : Dyn) (n : Nat) (vs : List AV) (H : AH) : Rs :=
  hd vs fun x0_2 vs => hd vs fun x2_2 vs => hd vs fun x4_2 vs => hd vs fun x14_2 vs => hd vs fun x15 vs => 
  bV (bInt .lss x15 (.int .i64 (.ofNat 7))) fun x16 => 
  cnd x16 (bV (ixAg1p 7 1 x14_2 x15) fun x18 => 
  bV (bInt .mul (.int .i64 (.ofNat 4)) x15) fun x22 => 
  bV (bInt .add (.int .i64 (.ofNat 1)) x22) fun x23 => 
  bV (slStr x0_2 (some x23) none) fun x24 => 
  bR (noPan (f176 D n [x24] H)) fun x25 H => 
  bV (pNil x18) fun x26 => 
  bR (stNp 1 x26 x25 H) fun x9999_3 H => 
  bV (bInt .add x15 (.int .i64 (.ofNat 1))) fun x27 => 
  some (.norm [x0_2, x2_2, x4_2, x14_2, x27], H))
  (some (.exit 0 [x2_2, x4_2], H))
def f107b1 (D : Dyn) (n : Nat) (vs : List AV) (H : AH) : Rs :=
  hd vs fun x2_3 vs => hd vs fun x4_3 vs => 
  bV (ldNp 8 x4_3 H) fun x28 => 
  bR (noPan (f84 D n [x28] H)) fun x29 H => 
  bV (aun .not x29) fun x30 => 
  cnd x30 (bV (bldSp [(0, 1), (1, 1), (2, 1), (3, 1), (4, 1), (5, 1), (6, 1), (7, 1)] [(.int .u8 (.ofNat 0)), (.int .i64 (.ofNat 0)), (.int .i64 (.ofNat 0)), (.int .i64 (.ofNat 0)), (.int .i64 (.ofNat 0)), (.int .i64 (.ofNat 0)), (.int .i64 (.ofNat 0)), (.int .i64 (.ofNat 0))] []) fun x31 => 
  bR (stNp 8 x2_3 x31 H) fun x9999_4 H => 
  bV (ldNp 8 x2_3 H) fun x9002_2 => bV (some (.int .i64 (.ofNat 4))) fun x3_2 => some (.ret (.tuple [x9002_2, x3_2]), H))
  (bV (ldNp 8 x4_3 H) fun x32 => 
  bR (stNp 8 x2_3 x32 H) fun x9999_5 H => 
  bV (ldNp 8 x2_3 H) fun x9002_3 => bV (some (.int .i64 (.ofNat 0))) fun x3_3 => some (.ret (.tuple [x9002_3, x3_3]), H))
/-- jetty/inode.Decode -/
def f107 (D : Dyn) (n : Nat) (vs : List AV) (H : AH) : Option (AV × AH) :=
  outR (hd vs fun x0 vs => nl vs <|
  bA (bxV 23 (.agg [(.int .u8 (.ofNat 0)), (.int .i64 (.ofNat 0)), (.int .i64 (.ofNat 0)), (.int .i64 (.ofNat 0)), (.int .i64 (.ofNat 0)), (.int .i64 (.ofNat 0)), (.int .i64 (.ofNat 0)), (.int .i64 (.ofNat 0))])) H fun x2 H => 
  bV (lnStr x0) fun x8 => 
  bV (bInt .neq x8 (.int .i64 (.ofNat 29))) fun x9 => 
  cnd x9 (bV (bldSp [(0, 1), (1, 1), (2, 1), (3, 1), (4, 1), (5, 1), (6, 1), (7, 1)] [(.int .u8 (.ofNat 0)), (.int .i64 (.ofNat 0)), (.int .i64 (.ofNat 0)), (.int .i64 (.ofNat 0)), (.int .i64 (.ofNat 0)), (.int .i64 (.ofNat 0)), (.int .i64 (.ofNat 0)), (.int .i64 (.ofNat 0))] []) fun x10 => 
  bR (stNp 8 x2 x10 H) fun x9999 H => 
  bV (ldNp 8 x2 H) fun x9002 => bV (some (.int .i64 (.ofNat 4))) fun x3 => some (.ret (.tuple [x9002, x3]), H))
  (bV (ixStr x0 (.int .i64 (.ofNat 0))) fun x12 => 
  bV (bldSp [(0, 1), (1, 1), (2, 1), (3, 1), (4, 1), (5, 1), (6, 1), (7, 1)] [(.int .u8 (.ofNat 0)), (.int .i64 (.ofNat 0)), (.int .i64 (.ofNat 0)), (.int .i64 (.ofNat 0)), (.int .i64 (.ofNat 0)), (.int .i64 (.ofNat 0)), (.int .i64 (.ofNat 0)), (.int .i64 (.ofNat 0))] [(0, x12)]) fun x13 => 
  bA (bxV 23 (.agg [(.int .u8 (.ofNat 0)), (.int .i64 (.ofNat 0)), (.int .i64 (.ofNat 0)), (.int .i64 (.ofNat 0)), (.int .i64 (.ofNat 0)), (.int .i64 (.ofNat 0)), (.int .i64 (.ofNat 0)), (.int .i64 (.ofNat 0))])) H fun x4 H => 
  bR (stNp 8 x4 x13 H) fun x9999_2 H => 
  bR (noPan (f139 D n [x4] H)) fun x14 H => 
  jb 0 (loopK n (f107l0 D n) [x0, x2, x4, x14, (.int .i64 (.ofNat 0))] H) (f107b1 D n)))
def h107 : Hint := (.s .o (.s (.s .o (.cl (.s .o .o) .o)) (.s .o (.s (.s .o (.b [2, 4] (.l [0, 2, 4, 14, 15] (.s .o (.s (.cr .o .o) (.s (.b0 (.s .o .o)) .o)))))) (.s (.s .o (.cl (.s .o .o) .o)) (.s .o .o))))))
theorem f107_eq (D : Dyn) (n : Nat) : f107 D n = funKp (s107 D n) D n 107 Tryz.f107 h107 := by kernel_rfl
theorem f107_ok {D : Dyn} (hD : DP D) (n : Nat) : FP 107 (f107 D n) := fun_okP X_ok hD (SP.cons (f139_ok hD n) (SP.cons (f176_ok hD n) (SP.cons (f84_ok hD n) (SP.nil)))) Tryz.func107 (by kernel_rfl) (by kernel_rfl) (f107_eq D n)

def s36 (D : Dyn) (n : Nat) : Tb := ⟨X, [(106, f106 D n), (76, f76 D n), (107, f107 D n), (54, f54 D n)]⟩
/-- (jetty/objs.work).find -/
def f36 (D : Dyn) (n : Nat) (vs : List AV) (H : AH) : Option (AV × AH) :=
  outR (hd vs fun x0 vs => hd vs fun x1 vs => nl vs <|
  bA (bxV 73 x0) H fun x2 H => 
  bA (bxV 23 (.agg [(.int .u8 (.ofNat 0)), (.int .i64 (.ofNat 0)), (.int .i64 (.ofNat 0)), (.int .i64 (.ofNat 0)), (.int .i64 (.ofNat 0)), (.int .i64 (.ofNat 0)), (.int .i64 (.ofNat 0)), (.int .i64 (.ofNat 0))])) H fun x4 H => 
  bV (bInt .lss x1 (.int .i64 (.ofNat 1))) fun x11 => 
  jn (wnt x11 false (bV (bInt .gtr x1 (.int .i64 (.ofNat 2147483647))) fun x14 => 
  some (.norm [x14], H)) (some (.norm [undefA], H))) fun vs H => hd vs fun x14_2 vs => 
  bV (pk3 (some x11) (some (.bool true)) (some x14_2)) fun x15 => 
  cnd x15 (bV (bldSp [(0, 1), (1, 1), (2, 1), (3, 1), (4, 1), (5, 1), (6, 1), (7, 1)] [(.int .u8 (.ofNat 0)), (.int .i64 (.ofNat 0)), (.int .i64 (.ofNat 0)), (.int .i64 (.ofNat 0)), (.int .i64 (.ofNat 0)), (.int .i64 (.ofNat 0)), (.int .i64 (.ofNat 0)), (.int .i64 (.ofNat 0))] []) fun x16 => 
  bR (stNp 8 x4 x16 H) fun x9999 H => 
  bV (ldNp 8 x4 H) fun x9004 => bV (some (.bool false)) fun x5 => some (.ret (.tuple [x9004, x5]), H))
  (bV (ldNp 2 x2 H) fun x18 => 
  bR (noPan (f106 D n [x1] H)) fun x20 H => chk (ldNp 2 x2 H) x18 <| 
  bR (noPan (f76 D n [x18, x20] H)) fun x21 H => 
  bV (pExtract x21 0) fun x22 => 
  bV (pExtract x21 1) fun x23 => 
  bV (aun .not x23) fun x25 => 
  cnd x25 (bV (bldSp [(0, 1), (1, 1), (2, 1), (3, 1), (4, 1), (5, 1), (6, 1), (7, 1)] [(.int .u8 (.ofNat 0)), (.int .i64 (.ofNat 0)), (.int .i64 (.ofNat 0)), (.int .i64 (.ofNat 0)), (.int .i64 (.ofNat 0)), (.int .i64 (.ofNat 0)), (.int .i64 (.ofNat 0)), (.int .i64 (.ofNat 0))] []) fun x26 => 
  bR (stNp 8 x4 x26 H) fun x9999_2 H => 
  bV (ldNp 8 x4 H) fun x9004_2 => bV (some (.bool false)) fun x5_2 => some (.ret (.tuple [x9004_2, x5_2]), H))
  (bR (noPan (f107 D n [x22] H)) fun x29 H => 
  bV (pExtract x29 0) fun x30 => 
  bV (pExtract x29 1) fun x31 => 
  bA (bxV 23 (.agg [(.int .u8 (.ofNat 0)), (.int .i64 (.ofNat 0)), (.int .i64 (.ofNat 0)), (.int .i64 (.ofNat 0)), (.int .i64 (.ofNat 0)), (.int .i64 (.ofNat 0)), (.int .i64 (.ofNat 0)), (.int .i64 (.ofNat 0))])) H fun x8 H => 
  bR (stNp 8 x8 x30 H) fun x9999_3 H => 
  bC (f54 D n [x31] H) (fun x H => some (.ret (.pan x), H)) fun x33 H => 
  bV (ldNp 8 x8 H) fun x34 => 
  bR (stNp 8 x4 x34 H) fun x9999_4 H => 
  bV (ldNp 8 x4 H) fun x9004_3 => bV (some (.bool true)) fun x5_3 => some (.ret (.tuple [x9004_3, x5_3]), H))))
def h36 : Hint := (.s .o (.s (.s .o (.cl (.s .o .o) .o)) (.s .o (.s (.s .o (.cl (.s .o .o) .o)) (.s .o (.s .pc (.s .o .o)))))))
theorem f36_eq (D : Dyn) (n : Nat) : f36 D n = funKp (s36 D n) D n 36 Tryz.f36 h36 := by kernel_rfl
theorem f36_ok {D : Dyn} (hD : DP D) (n : Nat) : FP 36 (f36 D n) := fun_okP X_ok hD (SP.cons (f106_ok hD n) (SP.cons (f76_ok hD n) (SP.cons (f107_ok hD n) (SP.cons (f54_ok hD n) (SP.nil))))) Tryz.func36 (by kernel_rfl) (by kernel_rfl) (f36_eq D n)

def s34 (D : Dyn) (n : Nat) : Tb := ⟨X, [(36, f36 D n), (38, f38 D n)]⟩
def f34j0 (D : Dyn) (n : Nat) (vs : List AV) (H : AH) : Rs :=
  hd vs fun x4_2 vs => hd vs fun x5_2 vs => 
  bV (ldNp 8 x5_2 H) fun x16 => 
  bR (stNp 8 x4_2 x16 H) fun x9999_2 H => 
  bV (ldNp 8 x4_2 H) fun x9004 => some (.ret x9004, H)
/-- (jetty/objs.work).object -/
def f34 (D : Dyn) (n : Nat) (vs : List AV) (H : AH) : Option (AV × AH) :=
  outR (hd vs fun x0 vs => hd vs fun x1 vs => nl vs <|
  bA (bxV 73 x0) H fun x2 H => 
  bA (bxV 23 (.agg [(.int .u8 (.ofNat 0)), (.int .i64 (.ofNat 0)), (.int .i64 (.ofNat 0)), (.int .i64 (.ofNat 0)), (.int .i64 (.ofNat 0)), (.int .i64 (.ofNat 0)), (.int .i64 (.ofNat 0)), (.int .i64 (.ofNat 0))])) H fun x4 H => 
  bV (ldNp 2 x2 H) fun x8 => 
  bC (f36 D n [x8, x1] H) (fun x H => some (.ret (.pan x), H)) fun x10 H => 
  bV (pExtract x10 0) fun x11 => 
  bV (pExtract x10 1) fun x12 => 
  bA (bxV 23 (.agg [(.int .u8 (.ofNat 0)), (.int .i64 (.ofNat 0)), (.int .i64 (.ofNat 0)), (.int .i64 (.ofNat 0)), (.int .i64 (.ofNat 0)), (.int .i64 (.ofNat 0)), (.int .i64 (.ofNat 0)), (.int .i64 (.ofNat 0))])) H fun x5 H => 
  bR (stNp 8 x5 x11 H) fun x9999 H => 
  bV (aun .not x12) fun x14 => 
  jn (cnd x14 (bC (f38 D n [(.int .i64 (.ofNat 5))] H) (fun x H => some (.ret (.pan x), H)) fun x15 H => 
  some (.norm [x4, x5], H))
  (some (.norm [x4, x5], H))) (f34j0 D n))
def h34 : Hint := (.s .o (.s .pc (.s (.s .o (.c [4, 5] .pc .o)) (.s .o .o))))
theorem f34_eq (D : Dyn) (n : Nat) : f34 D n = funKp (s34 D n) D n 34 Tryz.f34 h34 := by kernel_rfl
theorem f34_ok {D : Dyn} (hD : DP D) (n : Nat) : FP 34 (f34 D n) := fun_okP X_ok hD (SP.cons (f36_ok hD n) (SP.cons (f38_ok hD n) (SP.nil))) Tryz.func34 (by kernel_rfl) (by kernel_rfl) (f34_eq D n)

def s33 (D : Dyn) (n : Nat) : Tb := ⟨X, [(34, f34 D n)]⟩
/-- jetty/objs.Get$1 -/
def f33 (D : Dyn) (n : Nat) (vs : List AV) (H : AH) : Option (AV × AH) :=
  outR (hd vs fun x0 vs => hd vs fun x1 vs => nl vs <|
  bA (bxV 73 x0) H fun x2 H => 
  bA (bxV 23 (.agg [(.int .u8 (.ofNat 0)), (.int .i64 (.ofNat 0)), (.int .i64 (.ofNat 0)), (.int .i64 (.ofNat 0)), (.int .i64 (.ofNat 0)), (.int .i64 (.ofNat 0)), (.int .i64 (.ofNat 0)), (.int .i64 (.ofNat 0))])) H fun x3 H => 
  bV (ldNp 2 x2 H) fun x4 => 
  bV (ld1p x1 H) fun x5 => 
  bC (f34 D n [x4, x5] H) (fun x H => some (.ret (.pan x), H)) fun x6 H => 
  bR (stNp 8 x3 x6 H) fun x9999 H => 
  bV (ldNp 8 x3 H) fun x9003 => some (.ret x9003, H))
def h33 : Hint := (.s .o (.s .pc .o))
theorem f33_eq (D : Dyn) (n : Nat) : f33 D n = funKp (s33 D n) D n 33 Tryz.f33 h33 := by kernel_rfl
theorem f33_ok {D : Dyn} (hD : DP D) (n : Nat) : FP 33 (f33 D n) := fun_okP X_ok hD (SP.cons (f34_ok hD n) (SP.nil)) Tryz.func33 (by kernel_rfl) (by kernel_rfl) (f33_eq D n)

def s5 (D : Dyn) (n : Nat) : Tb := ⟨X, [(32, f32 D n)]⟩
/-- jetty/objs.Get -/
def f5 (D : Dyn) (n : Nat) (vs : List AV) (H : AH) : Option (AV × AH) :=
  outR (hd vs fun x0 vs => hd vs fun x1 vs => nl vs <|
  bA (bxV 3 x1) H fun x3 H => 
  bA (bxV 23 (.agg [(.int .u8 (.ofNat 0)), (.int .i64 (.ofNat 0)), (.int .i64 (.ofNat 0)), (.int .i64 (.ofNat 0)), (.int .i64 (.ofNat 0)), (.int .i64 (.ofNat 0)), (.int .i64 (.ofNat 0)), (.int .i64 (.ofNat 0))])) H fun x4 H => 
  bR (noPan (f32 D n [x0, (.func 33 [] [x3])] H)) fun x8 H => 
  bV (pExtract x8 0) fun x9 => 
  bV (pExtract x8 1) fun x10 => 
  bR (stNp 8 x4 x9 H) fun x9999 H => 
  bV (ldNp 8 x4 H) fun x9004 => bV (some x10) fun x5 => some (.ret (.tuple [x9004, x5]), H))
def h5 : Hint := (.s .o (.s .o .o))
theorem f5_eq (D : Dyn) (n : Nat) : f5 D n = funKp (s5 D n) D n 5 Tryz.f5 h5 := by kernel_rfl
theorem f5_ok {D : Dyn} (hD : DP D) (n : Nat) : FP 5 (f5 D n) := fun_okP X_ok hD (SP.cons (f32_ok hD n) (SP.nil)) Tryz.func5 (by kernel_rfl) (by kernel_rfl) (f5_eq D n)

def s108 (D : Dyn) (n : Nat) : Tb := ⟨X, []⟩
/-- jetty/inode.Handle -/
def f108 (D : Dyn) (n : Nat) (vs : List AV) (H : AH) : Option (AV × AH) :=
  outR (hd vs fun x0 vs => hd vs fun x1 vs => nl vs <|
  bA (bxV 23 x0) H fun x2 H => 
  bA (bxV 29 (.agg [(.int .i64 (.ofNat 0)), (.int .i64 (.ofNat 0)), (.int .i64 (.ofNat 0))])) H fun x4 H => 
  bV (fAd 6 x2) fun x6 => 
  bV (ld1p x6 H) fun x7 => 
  bV (fAd 7 x2) fun x8 => 
  bV (ld1p x8 H) fun x9 => 
  bV (bldSp [(0, 1), (1, 1), (2, 1)] [(.int .i64 (.ofNat 0)), (.int .i64 (.ofNat 0)), (.int .i64 (.ofNat 0))] [(0, x1), (1, x7), (2, x9)]) fun x10 => 
  bR (stNp 3 x4 x10 H) fun x9999 H => 
  bV (ldNp 3 x4 H) fun x9004 => some (.ret x9004, H))
def h108 : Hint := (.s .o (.s .o .o))
theorem f108_eq (D : Dyn) (n : Nat) : f108 D n = funKp (s108 D n) D n 108 Tryz.f108 h108 := by kernel_rfl
theorem f108_ok {D : Dyn} (hD : DP D) (n : Nat) : FP 108 (f108 D n) := fun_okP X_ok hD (SP.nil) Tryz.func108 (by kernel_rfl) (by kernel_rfl) (f108_eq D n)

def s37 (D : Dyn) (n : Nat) : Tb := ⟨X, [(108, f108 D n)]⟩
/-- jetty/inode.Is -/
def f37 (D : Dyn) (n : Nat) (vs : List AV) (H : AH) : Option (AV × AH) :=
  outR (hd vs fun x0 vs => hd vs fun x1 vs => nl vs <|
  bA (bxV 23 x0) H fun x2 H => 
  bA (bxV 29 x1) H fun x3 H => 
  bV (ldNp 8 x2 H) fun x5 => 
  bV (fAd 0 x3) fun x6 => 
  bV (ld1p x6 H) fun x7 => 
  bV (ldNp 3 x3 H) fun x9 => 
  bR (noPan (f108 D n [x5, x7] H)) fun x8 H => chk (ldNp 3 x3 H) x9 <| 
  bV (cmpO .eql (eqAp [(6, 3)] x8 x9)) fun x10 => 
  bV (some x10) fun x4 => some (.ret x4, H))
def h37 : Hint := (.s .o (.s .o .o))
theorem f37_eq (D : Dyn) (n : Nat) : f37 D n = funKp (s37 D n) D n 37 Tryz.f37 h37 := by kernel_rfl
theorem f37_ok {D : Dyn} (hD : DP D) (n : Nat) : FP 37 (f37 D n) := fun_okP X_ok hD (SP.cons (f108_ok hD n) (SP.nil)) Tryz.func37 (by kernel_rfl) (by kernel_rfl) (f37_eq D n)

def s35 (D : Dyn) (n : Nat) : Tb := ⟨X, [(36, f36 D n), (37, f37 D n), (38, f38 D n)]⟩
def f35j0 (D : Dyn) (n : Nat) (vs : List AV) (H : AH) : Rs :=
  hd vs fun x3_2 vs => hd vs fun x4_2 vs => 
  bV (ldNp 8 x4_2 H) fun x22 => 
  bR (stNp 8 x3_2 x22 H) fun x9999_2 H => 
  bV (ldNp 8 x3_2 H) fun x9003 => some (.ret x9003, H)
/-- jetty/objs.Of$1 -/
def f35 (D : Dyn) (n : Nat) (vs : List AV) (H : AH) : Option (AV × AH) :=
  outR (hd vs fun x0 vs => hd vs fun x1 vs => nl vs <|
  bA (bxV 73 x0) H fun x2 H => 
  bA (bxV 23 (.agg [(.int .u8 (.ofNat 0)), (.int .i64 (.ofNat 0)), (.int .i64 (.ofNat 0)), (.int .i64 (.ofNat 0)), (.int .i64 (.ofNat 0)), (.int .i64 (.ofNat 0)), (.int .i64 (.ofNat 0)), (.int .i64 (.ofNat 0))])) H fun x3 H => 
  bV (ldNp 2 x2 H) fun x7 => 
  bV (fAd 1 x1) fun x8 => 
  bV (ld1p x8 H) fun x9 => 
  bC (f36 D n [x7, x9] H) (fun x H => some (.ret (.pan x), H)) fun x10 H => 
  bV (pExtract x10 0) fun x11 => 
  bV (pExtract x10 1) fun x12 => 
  bA (bxV 23 (.agg [(.int .u8 (.ofNat 0)), (.int .i64 (.ofNat 0)), (.int .i64 (.ofNat 0)), (.int .i64 (.ofNat 0)), (.int .i64 (.ofNat 0)), (.int .i64 (.ofNat 0)), (.int .i64 (.ofNat 0)), (.int .i64 (.ofNat 0))])) H fun x4 H => 
  bR (stNp 8 x4 x11 H) fun x9999 H => 
  bV (aun .not x12) fun x14 => 
  jn (wnt x14 false (bV (ldNp 8 x4 H) fun x16 => 
  bV (ldNp 3 x1 H) fun x17 => 
  bR (noPan (f37 D n [x16, x17] H)) fun x18 H => 
  bV (aun .not x18) fun x19 => 
  some (.norm [x19], H)) (some (.norm [undefA], H))) fun vs H => hd vs fun x19_2 vs => 
  bV (pk3 (some x14) (some (.bool true)) (some x19_2)) fun x20 => 
  jn (cnd x20 (bC (f38 D n [(.int .i64 (.ofNat 54))] H) (fun x H => some (.ret (.pan x), H)) fun x21 H => 
  some (.norm [x3, x4], H))
  (some (.norm [x3, x4], H))) (f35j0 D n))
def h35 : Hint := (.s .o (.s .pc (.s (.s .o (.c [3, 4] .pc .o)) (.s .o .o))))
theorem f35_eq (D : Dyn) (n : Nat) : f35 D n = funKp (s35 D n) D n 35 Tryz.f35 h35 := by kernel_rfl
theorem f35_ok {D : Dyn} (hD : DP D) (n : Nat) : FP 35 (f35 D n) := fun_okP X_ok hD (SP.cons (f36_ok hD n) (SP.cons (f37_ok hD n) (SP.cons (f38_ok hD n) (SP.nil)))) Tryz.func35 (by kernel_rfl) (by kernel_rfl) (f35_eq D n)

def s6 (D : Dyn) (n : Nat) : Tb := ⟨X, [(32, f32 D n)]⟩
/-- jetty/objs.Of -/
def f6 (D : Dyn) (n : Nat) (vs : List AV) (H : AH) : Option (AV × AH) :=
  outR (hd vs fun x0 vs => hd vs fun x1 vs => nl vs <|
  bA (bxV 29 x1) H fun x3 H => 
  bA (bxV 23 (.agg [(.int .u8 (.ofNat 0)), (.int .i64 (.ofNat 0)), (.int .i64 (.ofNat 0)), (.int .i64 (.ofNat 0)), (.int .i64 (.ofNat 0)), (.int .i64 (.ofNat 0)), (.int .i64 (.ofNat 0)), (.int .i64 (.ofNat 0))])) H fun x4 H => 
  bR (noPan (f32 D n [x0, (.func 35 [] [x3])] H)) fun x8 H => 
  bV (pExtract x8 0) fun x9 => 
  bV (pExtract x8 1) fun x10 => 
  bR (stNp 8 x4 x9 H) fun x9999 H => 
  bV (ldNp 8 x4 H) fun x9004 => bV (some x10) fun x5 => some (.ret (.tuple [x9004, x5]), H))
def h6 : Hint := (.s .o (.s .o .o))
theorem f6_eq (D : Dyn) (n : Nat) : f6 D n = funKp (s6 D n) D n 6 Tryz.f6 h6 := by kernel_rfl
theorem f6_ok {D : Dyn} (hD : DP D) (n : Nat) : FP 6 (f6 D n) := fun_okP X_ok hD (SP.cons (f32_ok hD n) (SP.nil)) Tryz.func6 (by kernel_rfl) (by kernel_rfl) (f6_eq D n)
end Go.Eng.Sh
