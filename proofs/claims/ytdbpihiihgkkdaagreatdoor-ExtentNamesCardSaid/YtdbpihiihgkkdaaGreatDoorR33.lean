/- Shallow functions, by program (gen.py). -/
import Derived.Test.YtdbpihiihgkkdaaGreatDoorR32
import Derived.Test.YtdbpihiihgkkdaaGreatDoorProg
import Derived.KernelRfl
noncomputable section
namespace Go.Eng.Sh
open Go.Proofs
set_option maxRecDepth 100000
set_option linter.all false
def s58 (D : Dyn) (n : Nat) : Tb := ⟨X, [(53, f53 D n), (76, f76 D n), (78, f78 D n), (54, f54 D n)]⟩
def f58j0 (D : Dyn) (n : Nat) (vs : List AV) (H : AH) : Rs :=
  
  bV (some (.int .i64 (.ofNat 0))) fun x4 => some (.ret x4, H)
def f58j1 (D : Dyn) (n : Nat) (vs : List AV) (H : AH) : Rs :=
  
  bV (some (.int .i64 (.ofNat 0))) fun x4_3 => some (.ret x4_3, H)
/-- (*jetty/tree.change).crown -/
def f58 (D : Dyn) (n : Nat) (vs : List AV) (H : AH) : Option (AV × AH) :=
  outR (hd vs fun x0 vs => hd vs fun x1 vs => nl vs <|
  bA (bxV 80 x1) H fun x3 H => 
  bV (fAd 1 x3) fun x9 => 
  bV (ld1p x9 H) fun x10 => 
  bV (lnSl x10) fun x11 => 
  bV (bInt .eql x11 (.int .i64 (.ofNat 0))) fun x12 => 
  cnd x12 (bV (fAd 0 x3) fun x13 => 
  bV (ld1p x13 H) fun x14 => 
  jn (cnd x14 (bV (bldSp [(0, 1), (1, 1), (2, 1)] [(.int .i64 (.ofNat 0)), (.int .i64 (.ofNat 0)), (.int .u64 (.ofNat 0))] []) fun x16 => 
  bR (f53 D n [x0, x16] H) fun x17 H => 
  some (.norm [], H))
  (bV (fAd 3 x3) fun x19 => 
  bV (ld1p x19 H) fun x20 => 
  bV (ixSl 3 x20 (.int .i64 (.ofNat 0))) fun x21 => 
  bV (ldNp 3 x21 H) fun x22 => 
  bR (f53 D n [x0, x22] H) fun x23 H => 
  some (.norm [], H))) (f58j0 D n))
  (bV (ldNp 4 x3 H) fun x25 => 
  bR (f76 D n [x25] H) fun x26 H => 
  bV (pExtract x26 0) fun x27 => 
  bV (pExtract x26 1) fun x28 => 
  bV (pExtract x26 2) fun x29 => 
  bV (bInt .neq x29 (.int .i64 (.ofNat 0))) fun x31 => 
  cnd x31 (bV (some x29) fun x4_2 => some (.ret x4_2, H))
  (bR (f78 D n [x0, x27] H) fun x35 H => 
  bV (lnSl x35) fun x37 => 
  bV (bInt .eql x37 (.int .i64 (.ofNat 1))) fun x38 => 
  jn (cnd x38 (bV (ixSl 3 x35 (.int .i64 (.ofNat 0))) fun x41 => 
  bV (ldNp 3 x41 H) fun x42 => 
  bR (f53 D n [x0, x42] H) fun x43 H => 
  some (.norm [], H))
  (bV (bldSp [(0, 1), (1, 1), (2, 1), (3, 1)] [(.bool false), .nilSlice, .nilSlice, .nilSlice] [(1, x28), (3, x35)]) fun x48 => 
  bR (f54 D n [x0, x48] H) fun x49 H => 
  bR (f53 D n [x0, x49] H) fun x50 H => 
  some (.norm [], H))) (f58j1 D n))))
def h58 : Hint := (.s .o (.s (.s .o (.cl (.s (.s .o (.c [] .o .o)) (.s .o .o)) .o)) (.s .o (.s (.s .o (.cl (.s .o .o) .o)) (.s .o (.s (.s .o (.c [] .o .o)) (.s .o .o)))))))
theorem f58_eq (D : Dyn) (n : Nat) : f58 D n = funKp (s58 D n) D n 58 Tryz.f58 h58 := by kernel_rfl
theorem f58_ok {D : Dyn} (hD : DP D) (n : Nat) : FP 58 (f58 D n) := fun_okP X_ok hD (SP.cons (f53_ok hD n) (SP.cons (f76_ok hD n) (SP.cons (f78_ok hD n) (SP.cons (f54_ok hD n) (SP.nil))))) Tryz.func58 (by kernel_rfl) (by kernel_rfl) (f58_eq D n)

def s57 (D : Dyn) (n : Nat) : Tb := ⟨X, []⟩
/-- (*jetty/tree.change).goes -/
def f57 (D : Dyn) (n : Nat) (vs : List AV) (H : AH) : Option (AV × AH) :=
  outR (hd vs fun x0 vs => hd vs fun x1 vs => nl vs <|
  bA (bxV 52 x1) H fun x3 H => 
  bV (pNil x0) fun x6 => 
  bV (fAd 3 x6) fun x7 => 
  bV (ld1p x7 H) fun x8 => 
  bV (ldNp 3 x3 H) fun x9 => 
  bA (bldLp 52 3 1 [(.int .i64 (.ofNat 0)), (.int .i64 (.ofNat 0)), (.int .u64 (.ofNat 0))] [(0, x9)]) H fun x10 H => 
  bR (apPp 52 3 24 x8 x10 H) fun x11 H => 
  bV (pNil x0) fun x12 => 
  bV (fAd 3 x12) fun x13 => 
  bR (stNp 1 x13 x11 H) fun x9999 H => 
  some (.ret (.tuple []), H))
def h57 : Hint := (.s .o .o)
theorem f57_eq (D : Dyn) (n : Nat) : f57 D n = funKp (s57 D n) D n 57 Tryz.f57 h57 := by kernel_rfl
theorem f57_ok {D : Dyn} (hD : DP D) (n : Nat) : FP 57 (f57 D n) := fun_okP X_ok hD (SP.nil) Tryz.func57 (by kernel_rfl) (by kernel_rfl) (f57_eq D n)

def s97 (D : Dyn) (n : Nat) : Tb := ⟨X, [(71, f71 D n)]⟩
/-- jetty/node.parted -/
def f97 (D : Dyn) (n : Nat) (vs : List AV) (H : AH) : Option (AV × AH) :=
  outR (hd vs fun x0 vs => hd vs fun x1 vs => hd vs fun x2 vs => nl vs <|
  bA (bxV 80 x0) H fun x3 H => 
  bA (bxV 80 x2) H fun x5 H => 
  bR (f71 D n [x1] H) fun x9 H => 
  bV (aun .not x9) fun x10 => 
  jn (wnt x10 false (bV (fAd 0 x3) fun x12 => 
  bV (ld1p x12 H) fun x13 => 
  bV (fAd 0 x5) fun x14 => 
  bV (ld1p x14 H) fun x15 => 
  bV (bBool .neq x13 x15) fun x16 => 
  some (.norm [x16], H)) (some (.norm [undefA], H))) fun vs H => hd vs fun x16_2 vs => 
  bV (pk3 (some x10) (some (.bool true)) (some x16_2)) fun x17 => 
  cnd x17 (bV (some (.bool false)) fun x6 => some (.ret x6, H))
  (bV (fAd 1 x3) fun x18 => 
  bV (ld1p x18 H) fun x19 => 
  bV (lnSl x19) fun x20 => 
  bV (bInt .gtr x20 (.int .i64 (.ofNat 0))) fun x22 => 
  jn (wnt x22 true (bV (fAd 1 x3) fun x24 => 
  bV (ld1p x24 H) fun x25 => 
  bV (bInt .sub x20 (.int .i64 (.ofNat 1))) fun x27 => 
  bV (ixSl 1 x25 x27) fun x28 => 
  bV (ld1p x28 H) fun x29 => 
  bV (bStr .geq x29 x1) fun x31 => 
  some (.norm [x31], H)) (some (.norm [undefA], H))) fun vs H => hd vs fun x31_2 vs => 
  bV (pk3 (some x22) (some x31_2) (some (.bool false))) fun x32 => 
  cnd x32 (bV (some (.bool false)) fun x6_2 => some (.ret x6_2, H))
  (bV (fAd 1 x5) fun x33 => 
  bV (ld1p x33 H) fun x34 => 
  bV (lnSl x34) fun x35 => 
  bV (bInt .eql x35 (.int .i64 (.ofNat 0))) fun x36 => 
  cnd x36 (bV (some (.bool true)) fun x6_3 => some (.ret x6_3, H))
  (bV (fAd 1 x5) fun x38 => 
  bV (ld1p x38 H) fun x39 => 
  bV (ixSl 1 x39 (.int .i64 (.ofNat 0))) fun x40 => 
  bV (ld1p x40 H) fun x41 => 
  bV (bStr .lss x1 x41) fun x42 => 
  jn (wnt x42 false (bV (fAd 0 x3) fun x44 => 
  bV (ld1p x44 H) fun x45 => 
  some (.norm [x45], H)) (some (.norm [undefA], H))) fun vs H => hd vs fun x46 vs => 
  jn (wnt x46 true (bV (fAd 1 x5) fun x48 => 
  bV (ld1p x48 H) fun x49 => 
  bV (ixSl 1 x49 (.int .i64 (.ofNat 0))) fun x50 => 
  bV (ld1p x50 H) fun x51 => 
  bV (bStr .eql x1 x51) fun x52 => 
  some (.norm [x52], H)) (some (.norm [undefA], H))) fun vs H => hd vs fun x52_2 vs => 
  jn (wnt x42 false (bV (pk3 (some x46) (some x52_2) (some (.bool false))) fun x53 => 
  some (.norm [x53], H)) (some (.norm [undefA], H))) fun vs H => hd vs fun x53_2 vs => 
  bV (pk3 (some x42) (some (.bool true)) (some x53_2)) fun x54 => 
  bV (some x54) fun x6_4 => some (.ret x6_4, H)))))
def h97 : Hint := (.s .o (.s (.s .o (.cl (.s .o .o) .o)) (.s (.s .o (.s .o (.cl (.s .o .o) .o))) (.s (.s .o (.cl (.s .o .o) .o)) (.s .o .o)))))
theorem f97_eq (D : Dyn) (n : Nat) : f97 D n = funKp (s97 D n) D n 97 Tryz.f97 h97 := by kernel_rfl
theorem f97_ok {D : Dyn} (hD : DP D) (n : Nat) : FP 97 (f97 D n) := fun_okP X_ok hD (SP.cons (f71_ok hD n) (SP.nil)) Tryz.func97 (by kernel_rfl) (by kernel_rfl) (f97_eq D n)

def s79 (D : Dyn) (n : Nat) : Tb := ⟨X, []⟩
def f79j0 (D : Dyn) (n : Nat) (vs : List AV) (H : AH) : Rs :=
  hd vs fun x0_3 vs => 
  bV (some x0_3) fun x4 => some (.ret x4, H)
def f79j1 (D : Dyn) (n : Nat) (vs : List AV) (H : AH) : Rs :=
  hd vs fun x0_2 vs => hd vs fun x1_2 vs => 
  bV (acap X 78 x0_2) fun x10 => 
  bV (lnSl x0_2) fun x12 => 
  bV (bInt .sub x10 x12) fun x13 => 
  bV (bInt .sub x1_2 x13) fun x14 => 
  bV (bInt .gtr x14 (.int .i64 (.ofNat 0))) fun x16 => 
  jn (cnd x16 (bV (acap X 78 x0_2) fun x19 => 
  bV (slSlp 1 x0_2 none (some x19) none H) fun x20 => 
  bR (apZp 9 1 16 [(.str 0 0)] x20 x14 H) fun x22 H => 
  bV (lnSl x0_2) fun x24 => 
  bV (slSlp 1 x22 none (some x24) none H) fun x25 => 
  some (.norm [x25], H))
  (some (.norm [x0_2], H))) (f79j0 D n)
/-- slices.Grow[[]string,string] -/
def f79 (D : Dyn) (n : Nat) (vs : List AV) (H : AH) : Option (AV × AH) :=
  outR (hd vs fun x0 vs => hd vs fun x1 vs => nl vs <|
  bV (bInt .lss x1 (.int .i64 (.ofNat 0))) fun x6 => 
  jn (cnd x6 (none)
  (some (.norm [x0, x1], H))) (f79j1 D n))
def h79 : Hint := (.s .o (.s (.s .o (.c [0, 1] .o .o)) (.s (.s .o (.s .o (.c [0] .o .o))) (.s .o .o))))
theorem f79_eq (D : Dyn) (n : Nat) : f79 D n = funKp (s79 D n) D n 79 Tryz.f79 h79 := by kernel_rfl
theorem f79_ok {D : Dyn} (hD : DP D) (n : Nat) : FP 79 (f79 D n) := fun_okP X_ok hD (SP.nil) Tryz.func79 (by kernel_rfl) (by kernel_rfl) (f79_eq D n)

def s60 (D : Dyn) (n : Nat) : Tb := ⟨X, [(79, f79 D n)]⟩
def f60j0 (D : Dyn) (n : Nat) (vs : List AV) (H : AH) : Rs :=
  hd vs fun x0_3 vs => hd vs fun x3_2 vs => hd vs fun x9_2 vs => hd vs fun x10_3 vs => hd vs fun x11_2 vs => 
  bV (bInt .add x11_2 (.int .i64 (.ofNat 1))) fun x22 => 
  some (.norm [x0_3, x3_2, x9_2, x10_3, x22], H)
def f60l1 (D : Dyn) (n : Nat) (vs : List AV) (H : AH) : Rs :=
  hd vs fun x0_2 vs => hd vs fun x3 vs => hd vs fun x9 vs => hd vs fun x10_2 vs => hd vs fun x11 vs => 
  bV (bInt .lss x11 x10_2) fun x12 => 
  cnd x12 (bV (ixSl 1 x9 x11) fun x13 => 
  bV (ld1p x13 H) fun x14 => 
  bV (lnSl x14) fun x17 => 
  bV (bInt .add x3 x17) fun x18 => 
  bV (bInt .lss x18 (.int .i64 (.ofNat 0))) fun x20 => 
  jn (cnd x20 (none)
  (some (.norm [x0_2, x18, x9, x10_2, x11], H))) (f60j0 D n))
  (some (.exit 0 [x0_2, x3], H))
def f60l2 (D : Dyn) (n : Nat) (vs : List AV) (H : AH) : Rs :=
  hd vs fun x6 vs => hd vs fun x25 vs => hd vs fun x26_2 vs => hd vs fun x27 vs => 
  bV (bInt .lss x27 x26_2) fun x28 => 
  cnd x28 (bV (ixSl 1 x25 x27) fun x29 => 
  bV (ld1p x29 H) fun x30 => 
  bR (apPp 9 1 16 x6 x30 H) fun x33 H => 
  bV (bInt .add x27 (.int .i64 (.ofNat 1))) fun x34 => 
  some (.norm [x33, x25, x26_2, x34], H))
  (some (.exit 2 [x6], H))
def f60b3 (D : Dyn) (n : Nat) (vs : List AV) (H : AH) : Rs :=
  hd vs fun x6_2 vs => 
  bV (some x6_2) fun x2 => some (.ret x2, H)
def f60b4 (D : Dyn) (n : Nat) (vs : List AV) (H : AH) : Rs :=
  hd vs fun x0_4 vs => hd vs fun x3_3 vs => 
  bR (f79 D n [.nilSlice, x3_3] H) fun x24 H => 
  bV (lnSl x0_4) fun x26 => 
  jb 2 (loopK n (f60l2 D n) [x24, x0_4, x26, (.int .i64 (.ofNat 0))] H) (f60b3 D n)
/-- slices.Concat[[]string,string] -/
def f60 (D : Dyn) (n : Nat) (vs : List AV) (H : AH) : Option (AV × AH) :=
  outR (hd vs fun x0 vs => nl vs <|
  bV (lnSl x0) fun x10 => 
  jb 0 (loopK n (f60l1 D n) [x0, (.int .i64 (.ofNat 0)), x0, x10, (.int .i64 (.ofNat 0))] H) (f60b4 D n))
def h60 : Hint := (.s .o (.s .o (.s (.s .o (.b [0, 3] (.l [0, 3, 9, 10, 11] (.s .o (.s (.cr .o .o) (.s (.b0 (.s .o (.s .o (.s .o (.c [0, 3, 9, 10, 11] .o .o))))) .o)))))) (.s .o (.s (.s .o (.b [6] (.l [6, 25, 26, 27] (.s .o (.s (.cr .o .o) (.s (.b0 (.s .o .o)) .o)))))) (.s .o .o))))))
theorem f60_eq (D : Dyn) (n : Nat) : f60 D n = funKp (s60 D n) D n 60 Tryz.f60 h60 := by kernel_rfl
theorem f60_ok {D : Dyn} (hD : DP D) (n : Nat) : FP 60 (f60 D n) := fun_okP X_ok hD (SP.cons (f79_ok hD n) (SP.nil)) Tryz.func60 (by kernel_rfl) (by kernel_rfl) (f60_eq D n)

def s99 (D : Dyn) (n : Nat) : Tb := ⟨X, []⟩
def f99j0 (D : Dyn) (n : Nat) (vs : List AV) (H : AH) : Rs :=
  hd vs fun x0_3 vs => 
  bV (some x0_3) fun x4 => some (.ret x4, H)
def f99j1 (D : Dyn) (n : Nat) (vs : List AV) (H : AH) : Rs :=
  hd vs fun x0_2 vs => hd vs fun x1_2 vs => 
  bV (acap X 71 x0_2) fun x10 => 
  bV (lnSl x0_2) fun x12 => 
  bV (bInt .sub x10 x12) fun x13 => 
  bV (bInt .sub x1_2 x13) fun x14 => 
  bV (bInt .gtr x14 (.int .i64 (.ofNat 0))) fun x16 => 
  jn (cnd x16 (bV (acap X 71 x0_2) fun x19 => 
  bV (slSlp 3 x0_2 none (some x19) none H) fun x20 => 
  bR (apZp 52 3 24 [(.int .i64 (.ofNat 0)), (.int .i64 (.ofNat 0)), (.int .u64 (.ofNat 0))] x20 x14 H) fun x22 H => 
  bV (lnSl x0_2) fun x24 => 
  bV (slSlp 3 x22 none (some x24) none H) fun x25 => 
  some (.norm [x25], H))
  (some (.norm [x0_2], H))) (f99j0 D n)
/-- slices.Grow[[]jetty/api.Ptr,jetty/api.Ptr] -/
def f99 (D : Dyn) (n : Nat) (vs : List AV) (H : AH) : Option (AV × AH) :=
  outR (hd vs fun x0 vs => hd vs fun x1 vs => nl vs <|
  bV (bInt .lss x1 (.int .i64 (.ofNat 0))) fun x6 => 
  jn (cnd x6 (none)
  (some (.norm [x0, x1], H))) (f99j1 D n))
def h99 : Hint := (.s .o (.s (.s .o (.c [0, 1] .o .o)) (.s (.s .o (.s .o (.c [0] .o .o))) (.s .o .o))))
theorem f99_eq (D : Dyn) (n : Nat) : f99 D n = funKp (s99 D n) D n 99 Tryz.f99 h99 := by kernel_rfl
theorem f99_ok {D : Dyn} (hD : DP D) (n : Nat) : FP 99 (f99 D n) := fun_okP X_ok hD (SP.nil) Tryz.func99 (by kernel_rfl) (by kernel_rfl) (f99_eq D n)

def s77 (D : Dyn) (n : Nat) : Tb := ⟨X, [(99, f99 D n)]⟩
def f77j0 (D : Dyn) (n : Nat) (vs : List AV) (H : AH) : Rs :=
  hd vs fun x0_3 vs => hd vs fun x3_2 vs => hd vs fun x9_2 vs => hd vs fun x10_3 vs => hd vs fun x11_2 vs => 
  bV (bInt .add x11_2 (.int .i64 (.ofNat 1))) fun x22 => 
  some (.norm [x0_3, x3_2, x9_2, x10_3, x22], H)
def f77l1 (D : Dyn) (n : Nat) (vs : List AV) (H : AH) : Rs :=
  hd vs fun x0_2 vs => hd vs fun x3 vs => hd vs fun x9 vs => hd vs fun x10_2 vs => hd vs fun x11 vs => 
  bV (bInt .lss x11 x10_2) fun x12 => 
  cnd x12 (bV (ixSl 1 x9 x11) fun x13 => 
  bV (ld1p x13 H) fun x14 => 
  bV (lnSl x14) fun x17 => 
  bV (bInt .add x3 x17) fun x18 => 
  bV (bInt .lss x18 (.int .i64 (.ofNat 0))) fun x20 => 
  jn (cnd x20 (none)
  (some (.norm [x0_2, x18, x9, x10_2, x11], H))) (f77j0 D n))
  (some (.exit 0 [x0_2, x3], H))
def f77l2 (D : Dyn) (n : Nat) (vs : List AV) (H : AH) : Rs :=
  hd vs fun x6 vs => hd vs fun x25 vs => hd vs fun x26_2 vs => hd vs fun x27 vs => 
  bV (bInt .lss x27 x26_2) fun x28 => 
  cnd x28 (bV (ixSl 1 x25 x27) fun x29 => 
  bV (ld1p x29 H) fun x30 => 
  bR (apPp 52 3 24 x6 x30 H) fun x33 H => 
  bV (bInt .add x27 (.int .i64 (.ofNat 1))) fun x34 => 
  some (.norm [x33, x25, x26_2, x34], H))
  (some (.exit 2 [x6], H))
def f77b3 (D : Dyn) (n : Nat) (vs : List AV) (H : AH) : Rs :=
  hd vs fun x6_2 vs => 
  bV (some x6_2) fun x2 => some (.ret x2, H)
def f77b4 (D : Dyn) (n : Nat) (vs : List AV) (H : AH) : Rs :=
  hd vs fun x0_4 vs => hd vs fun x3_3 vs => 
  bR (f99 D n [.nilSlice, x3_3] H) fun x24 H => 
  bV (lnSl x0_4) fun x26 => 
  jb 2 (loopK n (f77l2 D n) [x24, x0_4, x26, (.int .i64 (.ofNat 0))] H) (f77b3 D n)
/-- slices.Concat[[]jetty/api.Ptr,jetty/api.Ptr] -/
def f77 (D : Dyn) (n : Nat) (vs : List AV) (H : AH) : Option (AV × AH) :=
  outR (hd vs fun x0 vs => nl vs <|
  bV (lnSl x0) fun x10 => 
  jb 0 (loopK n (f77l1 D n) [x0, (.int .i64 (.ofNat 0)), x0, x10, (.int .i64 (.ofNat 0))] H) (f77b4 D n))
def h77 : Hint := (.s .o (.s .o (.s (.s .o (.b [0, 3] (.l [0, 3, 9, 10, 11] (.s .o (.s (.cr .o .o) (.s (.b0 (.s .o (.s .o (.s .o (.c [0, 3, 9, 10, 11] .o .o))))) .o)))))) (.s .o (.s (.s .o (.b [6] (.l [6, 25, 26, 27] (.s .o (.s (.cr .o .o) (.s (.b0 (.s .o .o)) .o)))))) (.s .o .o))))))
theorem f77_eq (D : Dyn) (n : Nat) : f77 D n = funKp (s77 D n) D n 77 Tryz.f77 h77 := by kernel_rfl
theorem f77_ok {D : Dyn} (hD : DP D) (n : Nat) : FP 77 (f77 D n) := fun_okP X_ok hD (SP.cons (f99_ok hD n) (SP.nil)) Tryz.func77 (by kernel_rfl) (by kernel_rfl) (f77_eq D n)

def s75 (D : Dyn) (n : Nat) : Tb := ⟨X, [(59, f59 D n), (97, f97 D n), (60, f60 D n), (77, f77 D n)]⟩
/-- jetty/node.Join -/
def f75 (D : Dyn) (n : Nat) (vs : List AV) (H : AH) : Option (AV × AH) :=
  outR (hd vs fun x0 vs => hd vs fun x1 vs => hd vs fun x2 vs => nl vs <|
  bA (bxV 80 x0) H fun x3 H => 
  bA (bxV 80 x2) H fun x5 H => 
  bA (bxV 80 (.agg [(.bool false), .nilSlice, .nilSlice, .nilSlice])) H fun x6 H => 
  bV (ldNp 4 x3 H) fun x8 => 
  bR (f59 D n [x8] H) fun x9 H => 
  bV (aun .not x9) fun x10 => 
  jn (wnt x10 false (bV (ldNp 4 x5 H) fun x12 => 
  bR (f59 D n [x12] H) fun x13 H => 
  bV (aun .not x13) fun x14 => 
  some (.norm [x14], H)) (some (.norm [undefA], H))) fun vs H => hd vs fun x14_2 vs => 
  bV (pk3 (some x10) (some (.bool true)) (some x14_2)) fun x15 => 
  jn (wnt x15 false (bV (ldNp 4 x3 H) fun x17 => 
  bV (ldNp 4 x5 H) fun x19 => 
  bR (f97 D n [x17, x1, x19] H) fun x20 H => 
  bV (aun .not x20) fun x21 => 
  some (.norm [x21], H)) (some (.norm [undefA], H))) fun vs H => hd vs fun x21_2 vs => 
  bV (pk3 (some x15) (some (.bool true)) (some x21_2)) fun x22 => 
  cnd x22 (bV (bldSp [(0, 1), (1, 1), (2, 1), (3, 1)] [(.bool false), .nilSlice, .nilSlice, .nilSlice] []) fun x23 => 
  bR (stNp 4 x6 x23 H) fun x9999 H => 
  bV (ldNp 4 x6 H) fun x9006 => bV (some (.int .i64 (.ofNat 1))) fun x7 => some (.ret (.tuple [x9006, x7]), H))
  (bV (fAd 0 x3) fun x24 => 
  bV (ld1p x24 H) fun x25 => 
  cnd x25 (bV (fAd 1 x3) fun x26 => 
  bV (ld1p x26 H) fun x27 => 
  bV (fAd 1 x5) fun x28 => 
  bV (ld1p x28 H) fun x29 => 
  bA (bldLp 78 1 2 [.nilSlice] [(0, x27), (1, x29)]) H fun x30 H => 
  bV (fAd 2 x3) fun x32 => 
  bV (ld1p x32 H) fun x33 => 
  bV (fAd 2 x5) fun x34 => 
  bV (ld1p x34 H) fun x35 => 
  bA (bldLp 78 1 2 [.nilSlice] [(0, x33), (1, x35)]) H fun x36 H => 
  bR (f60 D n [x30] H) fun x31 H => chk (ld1p x32 H) x33 <| chk (ld1p x34 H) x35 <| 
  bR (f60 D n [x36] H) fun x37 H => 
  bV (bldSp [(0, 1), (1, 1), (2, 1), (3, 1)] [(.bool false), .nilSlice, .nilSlice, .nilSlice] [(0, (.bool true)), (1, x31), (2, x37)]) fun x38 => 
  bR (stNp 4 x6 x38 H) fun x9999_2 H => 
  bV (ldNp 4 x6 H) fun x9006_2 => bV (some (.int .i64 (.ofNat 0))) fun x7_2 => some (.ret (.tuple [x9006_2, x7_2]), H))
  (bV (fAd 1 x3) fun x39 => 
  bV (ld1p x39 H) fun x40 => 
  bA (bldLp 9 1 1 [(.str 0 0)] [(0, x1)]) H fun x42 H => 
  bV (fAd 1 x5) fun x43 => 
  bV (ld1p x43 H) fun x44 => 
  bA (bldLp 78 1 3 [.nilSlice] [(0, x40), (1, x42), (2, x44)]) H fun x45 H => 
  bV (fAd 3 x3) fun x47 => 
  bV (ld1p x47 H) fun x48 => 
  bV (fAd 3 x5) fun x49 => 
  bV (ld1p x49 H) fun x50 => 
  bA (bldLp 71 1 2 [.nilSlice] [(0, x48), (1, x50)]) H fun x51 H => 
  bR (f60 D n [x45] H) fun x46 H => chk (ld1p x47 H) x48 <| chk (ld1p x49 H) x50 <| 
  bR (f77 D n [x51] H) fun x52 H => 
  bV (bldSp [(0, 1), (1, 1), (2, 1), (3, 1)] [(.bool false), .nilSlice, .nilSlice, .nilSlice] [(1, x46), (3, x52)]) fun x53 => 
  bR (stNp 4 x6 x53 H) fun x9999_3 H => 
  bV (ldNp 4 x6 H) fun x9006_3 => bV (some (.int .i64 (.ofNat 0))) fun x7_3 => some (.ret (.tuple [x9006_3, x7_3]), H))))
def h75 : Hint := (.s .o (.s (.s .o (.cl (.s .o .o) .o)) (.s (.s .o (.cl (.s .o .o) .o)) (.s .o .o))))
theorem f75_eq (D : Dyn) (n : Nat) : f75 D n = funKp (s75 D n) D n 75 Tryz.f75 h75 := by kernel_rfl
theorem f75_ok {D : Dyn} (hD : DP D) (n : Nat) : FP 75 (f75 D n) := fun_okP X_ok hD (SP.cons (f59_ok hD n) (SP.cons (f97_ok hD n) (SP.cons (f60_ok hD n) (SP.cons (f77_ok hD n) (SP.nil))))) Tryz.func75 (by kernel_rfl) (by kernel_rfl) (f75_eq D n)

def s56 (D : Dyn) (n : Nat) : Tb := ⟨X, [(74, f74 D n), (37, f37 D n), (57, f57 D n), (75, f75 D n), (76, f76 D n), (60, f60 D n), (78, f78 D n), (77, f77 D n)]⟩
def f56j0 (D : Dyn) (n : Nat) (vs : List AV) (H : AH) : Rs :=
  hd vs fun x0_3 vs => hd vs fun x5_3 vs => hd vs fun x7_3 vs => hd vs fun x8_3 vs => hd vs fun x10 vs => hd vs fun x11 vs => hd vs fun x14 vs => 
  bV (bInt .neq x14 (.int .i64 (.ofNat 0))) fun x85 => 
  cnd x85 (bV (bldSp [(0, 1), (1, 1), (2, 1), (3, 1)] [(.bool false), .nilSlice, .nilSlice, .nilSlice] []) fun x86 => 
  bR (stNp 4 x8_3 x86 H) fun x9999_5 H => 
  bV (ldNp 4 x8_3 H) fun x9008_2 => bV (some (.int .i64 (.ofNat 4))) fun x9_2 => some (.ret (.tuple [x9008_2, x9_2]), H))
  (some (.norm [x0_3, x5_3, x7_3, x8_3, x10, x11], H))
def f56j1 (D : Dyn) (n : Nat) (vs : List AV) (H : AH) : Rs :=
  hd vs fun x0_2 vs => hd vs fun x2_2 vs => hd vs fun x5_2 vs => hd vs fun x7_2 vs => hd vs fun x8_2 vs => hd vs fun x12 vs => 
  bV (pNil x0_2) fun x30 => 
  bV (fAd 0 x30) fun x31 => 
  bV (ld1p x31 H) fun x32 => 
  bV (fAd 3 x5_2) fun x33 => 
  bV (ld1p x33 H) fun x34 => 
  bV (ixSl 3 x34 x12) fun x36 => 
  bV (ldNp 3 x36 H) fun x37 => 
  bA (bxV 80 (.agg [(.bool false), .nilSlice, .nilSlice, .nilSlice])) H fun x13 H => 
  bR (f37 D n [x32, x37] H) fun x38 H => 
  bV (pExtract x38 0) fun x39 => 
  bV (pExtract x38 1) fun x40 => 
  bR (stNp 4 x13 x39 H) fun x9999 H => 
  bV (bInt .neq x40 (.int .i64 (.ofNat 0))) fun x42 => 
  cnd x42 (bV (bldSp [(0, 1), (1, 1), (2, 1), (3, 1)] [(.bool false), .nilSlice, .nilSlice, .nilSlice] []) fun x43 => 
  bR (stNp 4 x8_2 x43 H) fun x9999_2 H => 
  bV (ldNp 4 x8_2 H) fun x9008 => bV (some x40) fun x9 => some (.ret (.tuple [x9008, x9]), H))
  (bV (fAd 3 x5_2) fun x46 => 
  bV (ld1p x46 H) fun x47 => 
  bV (ixSl 3 x47 x12) fun x49 => 
  bV (ldNp 3 x49 H) fun x50 => 
  bR (f57 D n [x0_2, x50] H) fun x51 H => 
  bV (mn2 x2_2 x12) fun x54 => 
  bV (mx2 x2_2 x12) fun x57 => 
  bV (bInt .add x57 (.int .i64 (.ofNat 1))) fun x58 => 
  bV (bInt .lss x12 x2_2) fun x61 => 
  jn (cnd x61 (bV (ldNp 4 x13 H) fun x63 => 
  bV (fAd 1 x5_2) fun x64 => 
  bV (ld1p x64 H) fun x65 => 
  bV (ixSl 1 x65 x54) fun x67 => 
  bV (ld1p x67 H) fun x68 => 
  bV (ldNp 4 x7_2 H) fun x69 => 
  bR (f75 D n [x63, x68, x69] H) fun x70 H => 
  bV (pExtract x70 0) fun x71 => 
  bV (pExtract x70 1) fun x72 => 
  bR (stNp 4 x7_2 x71 H) fun x9999_3 H => 
  some (.norm [x0_2, x5_2, x7_2, x8_2, x54, x58, x72], H))
  (bV (ldNp 4 x7_2 H) fun x74 => 
  bV (fAd 1 x5_2) fun x75 => 
  bV (ld1p x75 H) fun x76 => 
  bV (ixSl 1 x76 x54) fun x78 => 
  bV (ld1p x78 H) fun x79 => 
  bV (ldNp 4 x13 H) fun x80 => 
  bR (f75 D n [x74, x79, x80] H) fun x81 H => 
  bV (pExtract x81 0) fun x82 => 
  bV (pExtract x81 1) fun x83 => 
  bR (stNp 4 x7_2 x82 H) fun x9999_4 H => 
  some (.norm [x0_2, x5_2, x7_2, x8_2, x54, x58, x83], H))) (f56j0 D n))
def f56j2 (D : Dyn) (n : Nat) (vs : List AV) (H : AH) : Rs :=
  hd vs fun x0_4 vs => hd vs fun x5_4 vs => hd vs fun x7_4 vs => hd vs fun x8_4 vs => hd vs fun x10_2 vs => hd vs fun x11_2 vs => 
  bV (ldNp 4 x7_4 H) fun x88 => 
  bR (f76 D n [x88] H) fun x89 H => 
  bV (pExtract x89 0) fun x90 => 
  bV (pExtract x89 1) fun x91 => 
  bV (pExtract x89 2) fun x92 => 
  bV (bInt .neq x92 (.int .i64 (.ofNat 0))) fun x94 => 
  cnd x94 (bV (bldSp [(0, 1), (1, 1), (2, 1), (3, 1)] [(.bool false), .nilSlice, .nilSlice, .nilSlice] []) fun x95 => 
  bR (stNp 4 x8_4 x95 H) fun x9999_6 H => 
  bV (ldNp 4 x8_4 H) fun x9008_3 => bV (some x92) fun x9_3 => some (.ret (.tuple [x9008_3, x9_3]), H))
  (bV (fAd 1 x5_4) fun x97 => 
  bV (ld1p x97 H) fun x98 => 
  bV (slSlp 1 x98 none (some x10_2) (some x10_2) H) fun x101 => 
  bV (fAd 1 x5_4) fun x103 => 
  bV (ld1p x103 H) fun x104 => 
  bV (bInt .sub x11_2 (.int .i64 (.ofNat 1))) fun x106 => 
  bV (slSlp 1 x104 (some x106) none none H) fun x107 => 
  bA (bldLp 78 1 3 [.nilSlice] [(0, x101), (1, x91), (2, x107)]) H fun x108 H => 
  bV (fAd 3 x5_4) fun x110 => 
  bV (ld1p x110 H) fun x111 => 
  bV (slSlp 3 x111 none (some x10_2) (some x10_2) H) fun x114 => 
  bV (fAd 3 x5_4) fun x118 => 
  bV (ld1p x118 H) fun x119 => 
  bV (slSlp 3 x119 (some x11_2) none none H) fun x121 => 
  bR (f60 D n [x108] H) fun x109 H => chk (ld1p x110 H) x111 <| chk (slSlp 3 x111 none (some x10_2) (some x10_2) H) x114 <| chk (ld1p x118 H) x119 <| chk (slSlp 3 x119 (some x11_2) none none H) x121 <| 
  bR (f78 D n [x0_4, x90] H) fun x117 H => chk (ld1p x110 H) x111 <| chk (slSlp 3 x111 none (some x10_2) (some x10_2) H) x114 <| chk (ld1p x118 H) x119 <| chk (slSlp 3 x119 (some x11_2) none none H) x121 <| 
  bA (bldLp 71 1 3 [.nilSlice] [(0, x114), (1, x117), (2, x121)]) H fun x122 H => 
  bR (f77 D n [x122] H) fun x123 H => 
  bV (bldSp [(0, 1), (1, 1), (2, 1), (3, 1)] [(.bool false), .nilSlice, .nilSlice, .nilSlice] [(1, x109), (3, x123)]) fun x124 => 
  bR (stNp 4 x8_4 x124 H) fun x9999_7 H => 
  bV (ldNp 4 x8_4 H) fun x9008_4 => bV (some (.int .i64 (.ofNat 0))) fun x9_4 => some (.ret (.tuple [x9008_4, x9_4]), H))
/-- (*jetty/tree.change).place -/
def f56 (D : Dyn) (n : Nat) (vs : List AV) (H : AH) : Option (AV × AH) :=
  outR (hd vs fun x0 vs => hd vs fun x1 vs => hd vs fun x2 vs => hd vs fun x3 vs => nl vs <|
  bA (bxV 80 x1) H fun x5 H => 
  bA (bxV 80 x3) H fun x7 H => 
  bA (bxV 80 (.agg [(.bool false), .nilSlice, .nilSlice, .nilSlice])) H fun x8 H => 
  bV (bInt .add x2 (.int .i64 (.ofNat 1))) fun x20 => 
  bV (ldNp 4 x7 H) fun x21 => 
  bR (f74 D n [x21] H) fun x22 H => 
  bV (bInt .lss x22 (.int .i64 (.ofNat 160))) fun x23 => 
  jn (cnd x23 (bV (bInt .sub x2 (.int .i64 (.ofNat 1))) fun x25 => 
  bV (bInt .eql x2 (.int .i64 (.ofNat 0))) fun x27 => 
  jn (cnd x27 (some (.norm [x0, x2, x5, x7, x8, (.int .i64 (.ofNat 1))], H))
  (some (.norm [x0, x2, x5, x7, x8, x25], H))) (f56j1 D n))
  (some (.norm [x0, x5, x7, x8, x2, x20], H))) (f56j2 D n))
def h56 : Hint := (.s .o (.s .o (.s (.s .o (.c [0, 5, 7, 8, 10, 11] (.s .o (.s (.s .o (.c [0, 2, 5, 7, 8, 12] .o .o)) (.s .o (.s (.s .o (.cl (.s .o .o) .o)) (.s .o (.s .o (.s (.s .o (.c [0, 5, 7, 8, 10, 11, 14] .o .o)) (.s .o (.cl (.s .o .o) .o))))))))) .o)) (.s .o (.s (.s .o (.cl (.s .o .o) .o)) (.s .o .o))))))
theorem f56_eq (D : Dyn) (n : Nat) : f56 D n = funKp (s56 D n) D n 56 Tryz.f56 h56 := by kernel_rfl
theorem f56_ok {D : Dyn} (hD : DP D) (n : Nat) : FP 56 (f56 D n) := fun_okP X_ok hD (SP.cons (f74_ok hD n) (SP.cons (f37_ok hD n) (SP.cons (f57_ok hD n) (SP.cons (f75_ok hD n) (SP.cons (f76_ok hD n) (SP.cons (f60_ok hD n) (SP.cons (f78_ok hD n) (SP.cons (f77_ok hD n) (SP.nil))))))))) Tryz.func56 (by kernel_rfl) (by kernel_rfl) (f56_eq D n)

def s55 (D : Dyn) (n : Nat) : Tb := ⟨X, [(36, f36 D n), (37, f37 D n), (39, f39 D n), (56, f56 D n), (57, f57 D n)]⟩
def f55j0 (D : Dyn) (n : Nat) (vs : List AV) (H : AH) : Rs :=
  hd vs fun x6_2 vs => hd vs fun x7_2 vs => hd vs fun x8_2 vs => hd vs fun x10_2 vs => hd vs fun x11 vs => 
  some (.norm [x6_2, x7_2, x8_2, x10_2, x11], H)
def f55j1 (D : Dyn) (n : Nat) (vs : List AV) (H : AH) : Rs :=
  hd vs fun x6_3 vs => hd vs fun x7_3 vs => hd vs fun x8_3 vs => hd vs fun x10_3 vs => hd vs fun x11_2 vs => 
  bV (bInt .neq x11_2 (.int .i64 (.ofNat 0))) fun x63 => 
  cnd x63 (bV (bldSp [(0, 1), (1, 1), (2, 1), (3, 1)] [(.bool false), .nilSlice, .nilSlice, .nilSlice] []) fun x64 => 
  bR (stNp 4 x8_3 x64 H) fun x9999_8 H => 
  bV (ldNp 4 x8_3 H) fun x9008_3 => bV (some x11_2) fun x9_3 => some (.ret (.tuple [x9008_3, x9_3]), H))
  (bV (ld1p x6_3 H) fun x66 => 
  bV (ldNp 3 x7_3 H) fun x67 => 
  bR (f57 D n [x66, x67] H) fun x68 H => 
  bV (ldNp 4 x10_3 H) fun x69 => 
  bR (stNp 4 x8_3 x69 H) fun x9999_9 H => 
  bV (ldNp 4 x8_3 H) fun x9008_4 => bV (some (.int .i64 (.ofNat 0))) fun x9_4 => some (.ret (.tuple [x9008_4, x9_4]), H))
/-- (*jetty/tree.Tree).change$1 -/
def f55 (D : Dyn) (n : Nat) (vs : List AV) (H : AH) : Option (AV × AH) :=
  outR (hd vs fun x0 vs => hd vs fun x1 vs => hd vs fun x2 vs => hd vs fun x3 vs => hd vs fun x4 vs => hd vs fun x5 vs => hd vs fun x6 vs => nl vs <|
  bA (bxV 52 x0) H fun x7 H => 
  bA (bxV 80 (.agg [(.bool false), .nilSlice, .nilSlice, .nilSlice])) H fun x8 H => 
  bV (ld1p x1 H) fun x14 => 
  bV (bInt .add x14 (.int .i64 (.ofNat 1))) fun x15 => 
  bR (stNp 1 x1 x15 H) fun x9999 H => 
  bV (ld1p x1 H) fun x16 => 
  bV (ld1p x2 H) fun x17 => 
  bR (f36 D n [x17] H) fun x18 H => chk (ld1p x1 H) x16 <| 
  bV (bInt .gtr x16 x18) fun x19 => 
  cnd x19 (bV (bldSp [(0, 1), (1, 1), (2, 1), (3, 1)] [(.bool false), .nilSlice, .nilSlice, .nilSlice] []) fun x20 => 
  bR (stNp 4 x8 x20 H) fun x9999_2 H => 
  bV (ldNp 4 x8 H) fun x9008 => bV (some (.int .i64 (.ofNat 4))) fun x9 => some (.ret (.tuple [x9008, x9]), H))
  (bV (ld1p x2 H) fun x22 => 
  bV (ldNp 3 x7 H) fun x23 => 
  bR (f37 D n [x22, x23] H) fun x24 H => 
  bV (pExtract x24 0) fun x25 => 
  bV (pExtract x24 1) fun x26 => 
  bA (bxV 80 (.agg [(.bool false), .nilSlice, .nilSlice, .nilSlice])) H fun x10 H => 
  bR (stNp 4 x10 x25 H) fun x9999_3 H => 
  bV (bInt .neq x26 (.int .i64 (.ofNat 0))) fun x28 => 
  cnd x28 (bV (bldSp [(0, 1), (1, 1), (2, 1), (3, 1)] [(.bool false), .nilSlice, .nilSlice, .nilSlice] []) fun x29 => 
  bR (stNp 4 x8 x29 H) fun x9999_4 H => 
  bV (ldNp 4 x8 H) fun x9008_2 => bV (some x26) fun x9_2 => some (.ret (.tuple [x9008_2, x9_2]), H))
  (bV (fAd 0 x10) fun x31 => 
  bV (ld1p x31 H) fun x32 => 
  jn (cnd x32 (bV (ld1p x3 H) fun x34 => 
  bV (ldNp 4 x10 H) fun x35 => 
  bR (callV (s55 D n).S D x34 [x35] H) fun x36 H => 
  bV (pExtract x36 0) fun x37 => 
  bV (pExtract x36 1) fun x38 => 
  bR (stNp 4 x10 x37 H) fun x9999_5 H => 
  some (.norm [x6, x7, x8, x10, x38], H))
  (bV (ldNp 4 x10 H) fun x39 => 
  bV (ld1p x4 H) fun x40 => 
  bR (f39 D n [x39, x40] H) fun x41 H => 
  bA (bxV 80 (.agg [(.bool false), .nilSlice, .nilSlice, .nilSlice])) H fun x13 H => 
  bV (ld1p x5 H) fun x43 => 
  bV (fAd 3 x10) fun x44 => 
  bV (ld1p x44 H) fun x45 => 
  bV (ixSl 3 x45 x41) fun x47 => 
  bV (ldNp 3 x47 H) fun x48 => 
  bR (callV (s55 D n).S D x43 [x48] H) fun x49 H => 
  bV (pExtract x49 0) fun x50 => 
  bV (pExtract x49 1) fun x51 => 
  bR (stNp 4 x13 x50 H) fun x9999_6 H => 
  bV (bInt .eql x51 (.int .i64 (.ofNat 0))) fun x53 => 
  jn (cnd x53 (bV (ld1p x6 H) fun x55 => 
  bV (ldNp 4 x10 H) fun x56 => 
  bV (ldNp 4 x13 H) fun x58 => 
  bR (f56 D n [x55, x56, x41, x58] H) fun x59 H => 
  bV (pExtract x59 0) fun x60 => 
  bV (pExtract x59 1) fun x61 => 
  bR (stNp 4 x10 x60 H) fun x9999_7 H => 
  some (.norm [x6, x7, x8, x10, x61], H))
  (some (.norm [x6, x7, x8, x10, x51], H))) (f55j0 D n))) (f55j1 D n))))
def h55 : Hint := (.s .o (.s (.s .o (.s .o (.cl (.s .o .o) .o))) (.s .o (.s (.s .o (.cl (.s .o .o) .o)) (.s (.s .o (.c [6, 7, 8, 10, 11] .o (.s .o (.s .o (.s .o (.s .o (.c [6, 7, 8, 10, 11] .o .o))))))) (.s (.s .o (.cl (.s .o .o) .o)) (.s .o (.s .o .o))))))))
theorem f55_eq (D : Dyn) (n : Nat) : f55 D n = funKp (s55 D n) D n 55 Tryz.f55 h55 := by kernel_rfl
theorem f55_ok {D : Dyn} (hD : DP D) (n : Nat) : FP 55 (f55 D n) := fun_okP X_ok hD (SP.cons (f36_ok hD n) (SP.cons (f37_ok hD n) (SP.cons (f39_ok hD n) (SP.cons (f56_ok hD n) (SP.cons (f57_ok hD n) (SP.nil)))))) Tryz.func55 (by kernel_rfl) (by kernel_rfl) (f55_eq D n)

def s33 (D : Dyn) (n : Nat) : Tb := ⟨X, [(54, f54 D n), (53, f53 D n), (58, f58 D n)]⟩
/-- (*jetty/tree.Tree).change -/
def f33 (D : Dyn) (n : Nat) (vs : List AV) (H : AH) : Option (AV × AH) :=
  outR (hd vs fun x0 vs => hd vs fun x1 vs => hd vs fun x2 vs => nl vs <|
  bA (bxV 27 x0) H fun x3 H => 
  bA (bxV 9 x1) H fun x4 H => 
  bA (bxV 83 x2) H fun x5 H => 
  bV (ld1p x3 H) fun x14 => 
  bV (ld1p x3 H) fun x15 => 
  bV (pNil x15) fun x16 => 
  bV (fAd 6 x16) fun x17 => 
  bV (ld1p x17 H) fun x18 => 
  bA (mkM [10]) H fun x19 H => 
  bV (bldSp [(0, 1), (1, 1), (2, 1), (3, 1)] [.nilPtr, (.int .u64 (.ofNat 0)), .nilMap, .nilSlice] [(0, x14), (1, x18), (2, x19)]) fun x20 => 
  bA (bxV 117 x20) H fun x21 H => 
  bA (bxV 115 .nilPtr) H fun x7 H => 
  bR (stNp 1 x7 x21 H) fun x9999 H => 
  bV (ld1p x3 H) fun x22 => 
  bV (pNil x22) fun x23 => 
  bV (fAd 2 x23) fun x24 => 
  bV (fAd 0 x24) fun x25 => 
  bV (ld1p x25 H) fun x26 => 
  bV (bInt .eql x26 (.int .i64 (.ofNat 0))) fun x27 => 
  cnd x27 (bV (ld1p x5 H) fun x29 => 
  bV (bldSp [(0, 1), (1, 1), (2, 1), (3, 1)] [(.bool false), .nilSlice, .nilSlice, .nilSlice] [(0, (.bool true))]) fun x30 => 
  bR (callV (s33 D n).S D x29 [x30] H) fun x31 H => 
  bV (pExtract x31 0) fun x32 => 
  bV (pExtract x31 1) fun x33 => 
  bA (bxV 80 (.agg [(.bool false), .nilSlice, .nilSlice, .nilSlice])) H fun x8 H => 
  bR (stNp 4 x8 x32 H) fun x9999_2 H => 
  bV (bInt .neq x33 (.int .i64 (.ofNat 0))) fun x35 => 
  cnd x35 (bV (some x33) fun x6 => some (.ret x6, H))
  (bV (ld1p x7 H) fun x37 => 
  bV (ld1p x7 H) fun x38 => 
  bV (ldNp 4 x8 H) fun x39 => 
  bR (f54 D n [x38, x39] H) fun x40 H => chk (ld1p x7 H) x37 <| 
  bR (f53 D n [x37, x40] H) fun x41 H => 
  bV (some (.int .i64 (.ofNat 0))) fun x6_2 => some (.ret x6_2, H)))
  (bA (bxV 3 (.int .i64 (.ofNat 0))) H fun x10 H => 
  bR (stNp 1 x10 (.int .i64 (.ofNat 0)) H) fun x9999_3 H => 
  bA (bxV 85 .nilFunc) H fun x11 H => 
  bR (stNp 1 x11 (.func 55 [] [x10, x3, x5, x4, x11, x7]) H) fun x9999_4 H => 
  bV (ld1p x11 H) fun x44 => 
  bV (ld1p x3 H) fun x45 => 
  bV (pNil x45) fun x46 => 
  bV (fAd 2 x46) fun x47 => 
  bV (ldNp 3 x47 H) fun x48 => 
  bA (bxV 80 (.agg [(.bool false), .nilSlice, .nilSlice, .nilSlice])) H fun x12 H => 
  bR (callV (s33 D n).S D x44 [x48] H) fun x49 H => 
  bV (pExtract x49 0) fun x50 => 
  bV (pExtract x49 1) fun x51 => 
  bR (stNp 4 x12 x50 H) fun x9999_5 H => 
  bV (bInt .neq x51 (.int .i64 (.ofNat 0))) fun x53 => 
  cnd x53 (bV (some x51) fun x6_3 => some (.ret x6_3, H))
  (bV (ld1p x7 H) fun x55 => 
  bV (ldNp 4 x12 H) fun x56 => 
  bR (f58 D n [x55, x56] H) fun x57 H => 
  bV (some x57) fun x6_4 => some (.ret x6_4, H))))
def h33 : Hint := (.s .o (.s .o (.s (.s .o (.cl (.s .o (.s (.s .o (.cl (.s .o .o) .o)) (.s .o (.s .o .o)))) .o)) (.s .o (.s .o (.s .o (.s .o (.s (.s .o (.cl (.s .o .o) .o)) (.s .o .o)))))))))
theorem f33_eq (D : Dyn) (n : Nat) : f33 D n = funKp (s33 D n) D n 33 Tryz.f33 h33 := by kernel_rfl
theorem f33_ok {D : Dyn} (hD : DP D) (n : Nat) : FP 33 (f33 D n) := fun_okP X_ok hD (SP.cons (f54_ok hD n) (SP.cons (f53_ok hD n) (SP.cons (f58_ok hD n) (SP.nil)))) Tryz.func33 (by kernel_rfl) (by kernel_rfl) (f33_eq D n)

def s125 (D : Dyn) (n : Nat) : Tb := ⟨X, []⟩
def f125l0 (D : Dyn) (n : Nat) (vs : List AV) (H : AH) : Rs :=
  hd vs fun x0_2 vs => hd vs fun x2 vs => hd vs fun x3 vs => 
  bV (bInt .lss x2 x3) fun x9 => 
  cnd x9 (bV (ixSl 1 x0_2 x3) fun x20 => 
  bV (ld1p x20 H) fun x21 => 
  bV (ixSl 1 x0_2 x2) fun x24 => 
  bV (ld1p x24 H) fun x25 => 
  bV (ixSl 1 x0_2 x2) fun x26 => 
  bR (stNp 1 x26 x21 H) fun x9999 H => 
  bV (ixSl 1 x0_2 x3) fun x27 => 
  bR (stNp 1 x27 x25 H) fun x9999_2 H => 
  bV (bInt .add x2 (.int .i64 (.ofNat 1))) fun x11 => 
  bV (bInt .sub x3 (.int .i64 (.ofNat 1))) fun x13 => 
  some (.norm [x0_2, x11, x13], H))
  (some (.exit 0 [], H))
def f125b1 (D : Dyn) (n : Nat) (vs : List AV) (H : AH) : Rs :=
  
  some (.ret (.tuple []), H)
/-- slices.Reverse[[]string,string] -/
def f125 (D : Dyn) (n : Nat) (vs : List AV) (H : AH) : Option (AV × AH) :=
  outR (hd vs fun x0 vs => nl vs <|
  bV (lnSl x0) fun x5 => 
  bV (bInt .sub x5 (.int .i64 (.ofNat 1))) fun x6 => 
  jb 0 (loopK n (f125l0 D n) [x0, (.int .i64 (.ofNat 0)), x6] H) (f125b1 D n))
def h125 : Hint := (.s .o (.b [] (.l [0, 2, 3] (.s (.s .o (.cr .o .o)) (.s (.b0 .o) .o)))))
theorem f125_eq (D : Dyn) (n : Nat) : f125 D n = funKp (s125 D n) D n 125 Tryz.f125 h125 := by kernel_rfl
theorem f125_ok {D : Dyn} (hD : DP D) (n : Nat) : FP 125 (f125 D n) := fun_okP X_ok hD (SP.nil) Tryz.func125 (by kernel_rfl) (by kernel_rfl) (f125_eq D n)

def s113 (D : Dyn) (n : Nat) : Tb := ⟨X, [(125, f125 D n)]⟩
/-- slices.rotateLeft[string] -/
def f113 (D : Dyn) (n : Nat) (vs : List AV) (H : AH) : Option (AV × AH) :=
  outR (hd vs fun x0 vs => hd vs fun x1 vs => nl vs <|
  bV (slSlp 1 x0 none (some x1) none H) fun x6 => 
  bR (f125 D n [x6] H) fun x7 H => 
  bV (slSlp 1 x0 (some x1) none none H) fun x10 => 
  bR (f125 D n [x10] H) fun x11 H => 
  bR (f125 D n [x0] H) fun x13 H => 
  some (.ret (.tuple []), H))
def h113 : Hint := (.s .o (.s .o .o))
theorem f113_eq (D : Dyn) (n : Nat) : f113 D n = funKp (s113 D n) D n 113 Tryz.f113 h113 := by kernel_rfl
theorem f113_ok {D : Dyn} (hD : DP D) (n : Nat) : FP 113 (f113 D n) := fun_okP X_ok hD (SP.cons (f125_ok hD n) (SP.nil)) Tryz.func113 (by kernel_rfl) (by kernel_rfl) (f113_eq D n)

def s96 (D : Dyn) (n : Nat) : Tb := ⟨X, [(113, f113 D n)]⟩
/-- slices.rotateRight[string] -/
def f96 (D : Dyn) (n : Nat) (vs : List AV) (H : AH) : Option (AV × AH) :=
  outR (hd vs fun x0 vs => hd vs fun x1 vs => nl vs <|
  bV (lnSl x0) fun x6 => 
  bV (bInt .sub x6 x1) fun x8 => 
  bR (f113 D n [x0, x8] H) fun x9 H => 
  some (.ret (.tuple []), H))
def h96 : Hint := .o
theorem f96_eq (D : Dyn) (n : Nat) : f96 D n = funKp (s96 D n) D n 96 Tryz.f96 h96 := by kernel_rfl
theorem f96_ok {D : Dyn} (hD : DP D) (n : Nat) : FP 96 (f96 D n) := fun_okP X_ok hD (SP.cons (f113_ok hD n) (SP.nil)) Tryz.func96 (by kernel_rfl) (by kernel_rfl) (f96_eq D n)

def s73 (D : Dyn) (n : Nat) : Tb := ⟨X, [(96, f96 D n)]⟩
/-- slices.Insert[[]string,string] -/
def f73 (D : Dyn) (n : Nat) (vs : List AV) (H : AH) : Option (AV × AH) :=
  outR (hd vs fun x0 vs => hd vs fun x1 vs => hd vs fun x2 vs => nl vs <|
  bV (slSlp 1 x0 (some x1) none none H) fun x12 => 
  bV (lnSl x2) fun x14 => 
  bV (bInt .eql x14 (.int .i64 (.ofNat 0))) fun x16 => 
  cnd x16 (bV (some x0) fun x6 => some (.ret x6, H))
  (bV (lnSl x0) fun x19 => 
  bV (bInt .eql x1 x19) fun x22 => 
  cnd x22 (bR (apPp 9 1 16 x0 x2 H) fun x25 H => 
  bV (some x25) fun x6_2 => some (.ret x6_2, H))
  (bV (bInt .add x19 x14) fun x28 => 
  bV (acap X 78 x0) fun x30 => 
  bV (bInt .gtr x28 x30) fun x31 => 
  cnd x31 (bV (slSlp 1 x0 none (some x1) none H) fun x34 => 
  bV (bInt .add x19 x14) fun x37 => 
  bV (bInt .sub x37 x1) fun x39 => 
  bR (apZp 9 1 16 [(.str 0 0)] x34 x39 H) fun x40 H => 
  bV (slSlp 1 x40 (some x1) none none H) fun x43 => 
  bR (cpyp 1 x43 x2 H) fun x45 H => 
  bV (bInt .add x1 x14) fun x49 => 
  bV (slSlp 1 x40 (some x49) none none H) fun x50 => 
  bV (slSlp 1 x0 (some x1) none none H) fun x53 => 
  bR (cpyp 1 x50 x53 H) fun x54 H => 
  bV (some x40) fun x6_3 => some (.ret x6_3, H))
  (bV (bInt .add x19 x14) fun x59 => 
  bV (slSlp 1 x0 none (some x59) none H) fun x60 => 
  bV (bInt .add x1 x14) fun x65 => 
  bV (slSlp 1 x60 (some x65) none none H) fun x66 => 
  bR (D.fn 95 [x2, x66] H) fun x67 H => 
  bV (aun .not x67) fun x68 => 
  cnd x68 (bV (bInt .add x1 x14) fun x72 => 
  bV (slSlp 1 x60 (some x72) none none H) fun x73 => 
  bV (slSlp 1 x60 (some x1) none none H) fun x76 => 
  bR (cpyp 1 x73 x76 H) fun x77 H => 
  bV (slSlp 1 x60 (some x1) none none H) fun x80 => 
  bR (cpyp 1 x80 x2 H) fun x82 H => 
  bV (some x60) fun x6_4 => some (.ret x6_4, H))
  (bV (slSlp 1 x60 (some x19) none none H) fun x86 => 
  bR (cpyp 1 x86 x2 H) fun x88 H => 
  bV (slSlp 1 x60 (some x1) none none H) fun x91 => 
  bR (f96 D n [x91, x14] H) fun x93 H => 
  bV (some x60) fun x6_5 => some (.ret x6_5, H))))))
def h73 : Hint := (.s .o (.s .o (.s .o (.s (.s .o (.cl (.s .o .o) .o)) (.s .o (.s (.s .o (.cl (.s .o .o) .o)) (.s (.s .o (.cl (.s .o (.s .o (.s .o (.s .o .o)))) .o)) (.s .o (.s (.s .o (.cl (.s .o (.s .o (.s .o .o))) .o)) (.s .o (.s .o (.s .o .o))))))))))))
theorem f73_eq (D : Dyn) (n : Nat) : f73 D n = funKp (s73 D n) D n 73 Tryz.f73 h73 := by kernel_rfl
theorem f73_ok {D : Dyn} (hD : DP D) (n : Nat) : FP 73 (f73 D n) := fun_okP X_ok hD (SP.cons (f96_ok hD n) (SP.nil)) Tryz.func73 (by kernel_rfl) (by kernel_rfl) (f73_eq D n)
def m73 (D : Dyn) (n : Nat) (vs : List AV) (H : AH) : Option (AV × AH) := insKp (f73 D n) vs H
theorem m73_ok {D : Dyn} (hD : DP D) (n : Nat) : FP 73 (m73 D n) := insKp_ok (by kernel_rfl) (f73_ok hD n)

def s52 (D : Dyn) (n : Nat) : Tb := ⟨X, [(59, f59 D n), (71, f71 D n), (72, f72 D n), (39, f39 D n), (73, m73 D n)]⟩
/-- jetty/node.Put -/
def f52 (D : Dyn) (n : Nat) (vs : List AV) (H : AH) : Option (AV × AH) :=
  outR (hd vs fun x0 vs => hd vs fun x1 vs => hd vs fun x2 vs => nl vs <|
  bA (bxV 80 x0) H fun x3 H => 
  bA (bxV 80 (.agg [(.bool false), .nilSlice, .nilSlice, .nilSlice])) H fun x6 H => 
  bV (ldNp 4 x3 H) fun x10 => 
  bR (f59 D n [x10] H) fun x11 H => 
  bV (aun .not x11) fun x12 => 
  jn (wnt x12 false (bV (fAd 0 x3) fun x14 => 
  bV (ld1p x14 H) fun x15 => 
  bV (aun .not x15) fun x16 => 
  some (.norm [x16], H)) (some (.norm [undefA], H))) fun vs H => hd vs fun x16_2 vs => 
  bV (pk3 (some x12) (some (.bool true)) (some x16_2)) fun x17 => 
  jn (wnt x17 false (bR (f71 D n [x1] H) fun x20 H => 
  bV (aun .not x20) fun x21 => 
  some (.norm [x21], H)) (some (.norm [undefA], H))) fun vs H => hd vs fun x21_2 vs => 
  bV (pk3 (some x17) (some (.bool true)) (some x21_2)) fun x22 => 
  jn (wnt x22 false (bV (lnStr x2) fun x25 => 
  bV (bInt .gtr x25 (.int .i64 (.ofNat 200))) fun x26 => 
  some (.norm [x26], H)) (some (.norm [undefA], H))) fun vs H => hd vs fun x26_2 vs => 
  bV (pk3 (some x22) (some (.bool true)) (some x26_2)) fun x27 => 
  cnd x27 (bV (bldSp [(0, 1), (1, 1), (2, 1), (3, 1)] [(.bool false), .nilSlice, .nilSlice, .nilSlice] []) fun x28 => 
  bR (stNp 4 x6 x28 H) fun x9999 H => 
  bV (ldNp 4 x6 H) fun x9006 => bV (some (.int .i64 (.ofNat 1))) fun x7 => some (.ret (.tuple [x9006, x7]), H))
  (bV (fAd 1 x3) fun x29 => 
  bV (ld1p x29 H) fun x30 => 
  bV (fAd 2 x3) fun x32 => 
  bV (ld1p x32 H) fun x33 => 
  bA (bxV 80 (.agg [(.bool false), .nilSlice, .nilSlice, .nilSlice])) H fun x8 H => 
  bR (f72 D n [x30] H) fun x31 H => chk (ld1p x32 H) x33 <| 
  bR (f72 D n [x33] H) fun x34 H => 
  bV (bldSp [(0, 1), (1, 1), (2, 1), (3, 1)] [(.bool false), .nilSlice, .nilSlice, .nilSlice] [(0, (.bool true)), (1, x31), (2, x34)]) fun x35 => 
  bR (stNp 4 x8 x35 H) fun x9999_2 H => 
  bV (ldNp 4 x3 H) fun x36 => 
  bR (f39 D n [x36, x1] H) fun x38 H => 
  bV (fAd 1 x3) fun x40 => 
  bV (ld1p x40 H) fun x41 => 
  bV (lnSl x41) fun x42 => 
  bV (bInt .lss x38 x42) fun x43 => 
  jn (wnt x43 true (bV (fAd 1 x3) fun x45 => 
  bV (ld1p x45 H) fun x46 => 
  bV (ixSl 1 x46 x38) fun x48 => 
  bV (ld1p x48 H) fun x49 => 
  bV (bStr .eql x49 x1) fun x51 => 
  some (.norm [x51], H)) (some (.norm [undefA], H))) fun vs H => hd vs fun x51_2 vs => 
  bV (pk3 (some x43) (some x51_2) (some (.bool false))) fun x52 => 
  cnd x52 (bV (fAd 2 x8) fun x53 => 
  bV (ld1p x53 H) fun x54 => 
  bV (ixSl 1 x54 x38) fun x57 => 
  bR (stNp 1 x57 x2 H) fun x9999_3 H => 
  bV (ldNp 4 x8 H) fun x58 => 
  bR (stNp 4 x6 x58 H) fun x9999_4 H => 
  bV (ldNp 4 x6 H) fun x9006_2 => bV (some (.int .i64 (.ofNat 0))) fun x7_2 => some (.ret (.tuple [x9006_2, x7_2]), H))
  (bV (fAd 1 x8) fun x59 => 
  bV (ld1p x59 H) fun x60 => 
  bA (bldLp 9 1 1 [(.str 0 0)] [(0, x1)]) H fun x63 H => 
  bR (m73 D n [x60, x38, x63] H) fun x64 H => 
  bV (fAd 1 x8) fun x65 => 
  bR (stNp 1 x65 x64 H) fun x9999_5 H => 
  bV (fAd 2 x8) fun x66 => 
  bV (ld1p x66 H) fun x67 => 
  bA (bldLp 9 1 1 [(.str 0 0)] [(0, x2)]) H fun x70 H => 
  bR (m73 D n [x67, x38, x70] H) fun x71 H => 
  bV (fAd 2 x8) fun x72 => 
  bR (stNp 1 x72 x71 H) fun x9999_6 H => 
  bV (ldNp 4 x8 H) fun x73 => 
  bR (stNp 4 x6 x73 H) fun x9999_7 H => 
  bV (ldNp 4 x6 H) fun x9006_3 => bV (some (.int .i64 (.ofNat 0))) fun x7_3 => some (.ret (.tuple [x9006_3, x7_3]), H))))
def h52 : Hint := (.s .o (.s (.s .o (.cl (.s .o .o) .o)) (.s .o (.s .o (.s (.s .o (.cl (.s .o (.s .o .o)) .o)) (.s .o (.s .o (.s .o .o))))))))
theorem f52_eq (D : Dyn) (n : Nat) : f52 D n = funKp (s52 D n) D n 52 Tryz.f52 h52 := by kernel_rfl
theorem f52_ok {D : Dyn} (hD : DP D) (n : Nat) : FP 52 (f52 D n) := fun_okP X_ok hD (SP.cons (f59_ok hD n) (SP.cons (f71_ok hD n) (SP.cons (f72_ok hD n) (SP.cons (f39_ok hD n) (SP.cons (m73_ok hD n) (SP.nil)))))) Tryz.func52 (by kernel_rfl) (by kernel_rfl) (f52_eq D n)

def s51 (D : Dyn) (n : Nat) : Tb := ⟨X, [(52, f52 D n)]⟩
/-- (*jetty/tree.Tree).Put$1 -/
def f51 (D : Dyn) (n : Nat) (vs : List AV) (H : AH) : Option (AV × AH) :=
  outR (hd vs fun x0 vs => hd vs fun x1 vs => hd vs fun x2 vs => nl vs <|
  bA (bxV 80 x0) H fun x3 H => 
  bA (bxV 80 (.agg [(.bool false), .nilSlice, .nilSlice, .nilSlice])) H fun x4 H => 
  bV (ldNp 4 x3 H) fun x6 => 
  bV (ld1p x1 H) fun x7 => 
  bV (ld1p x2 H) fun x8 => 
  bR (f52 D n [x6, x7, x8] H) fun x9 H => 
  bV (pExtract x9 0) fun x10 => 
  bV (pExtract x9 1) fun x11 => 
  bR (stNp 4 x4 x10 H) fun x9999 H => 
  bV (ldNp 4 x4 H) fun x9004 => bV (some x11) fun x5 => some (.ret (.tuple [x9004, x5]), H))
def h51 : Hint := (.s .o (.s .o .o))
theorem f51_eq (D : Dyn) (n : Nat) : f51 D n = funKp (s51 D n) D n 51 Tryz.f51 h51 := by kernel_rfl
theorem f51_ok {D : Dyn} (hD : DP D) (n : Nat) : FP 51 (f51 D n) := fun_okP X_ok hD (SP.cons (f52_ok hD n) (SP.nil)) Tryz.func51 (by kernel_rfl) (by kernel_rfl) (f51_eq D n)

def s31 (D : Dyn) (n : Nat) : Tb := ⟨X, [(32, f32 D n), (33, f33 D n)]⟩
/-- (*jetty/tree.Tree).Put -/
def f31 (D : Dyn) (n : Nat) (vs : List AV) (H : AH) : Option (AV × AH) :=
  outR (hd vs fun x0 vs => hd vs fun x1 vs => hd vs fun x2 vs => nl vs <|
  bA (bxV 9 x1) H fun x4 H => 
  bA (bxV 9 x2) H fun x5 H => 
  bR (f32 D n [x0] H) fun x8 H => 
  cnd x8 (bV (some (.int .i64 (.ofNat 2))) fun x6 => some (.ret x6, H))
  (bV (ld1p x4 H) fun x9 => 
  bV (lnStr x9) fun x10 => 
  bV (bInt .lss x10 (.int .i64 (.ofNat 1))) fun x11 => 
  jn (wnt x11 false (bV (ld1p x4 H) fun x13 => 
  bV (lnStr x13) fun x14 => 
  bV (bInt .gtr x14 (.int .i64 (.ofNat 40))) fun x15 => 
  some (.norm [x15], H)) (some (.norm [undefA], H))) fun vs H => hd vs fun x15_2 vs => 
  bV (pk3 (some x11) (some (.bool true)) (some x15_2)) fun x16 => 
  jn (wnt x16 false (bV (ld1p x5 H) fun x18 => 
  bV (lnStr x18) fun x19 => 
  bV (bInt .gtr x19 (.int .i64 (.ofNat 200))) fun x20 => 
  some (.norm [x20], H)) (some (.norm [undefA], H))) fun vs H => hd vs fun x20_2 vs => 
  bV (pk3 (some x16) (some (.bool true)) (some x20_2)) fun x21 => 
  cnd x21 (bV (some (.int .i64 (.ofNat 1))) fun x6_2 => some (.ret x6_2, H))
  (bV (ld1p x4 H) fun x23 => 
  bR (f33 D n [x0, x23, (.func 51 [] [x4, x5])] H) fun x25 H => 
  bV (some x25) fun x6_3 => some (.ret x6_3, H))))
def h31 : Hint := (.s .o (.s (.s .o (.cl (.s .o .o) .o)) (.s (.s .o (.cl (.s .o .o) .o)) (.s .o .o))))
theorem f31_eq (D : Dyn) (n : Nat) : f31 D n = funKp (s31 D n) D n 31 Tryz.f31 h31 := by kernel_rfl
theorem f31_ok {D : Dyn} (hD : DP D) (n : Nat) : FP 31 (f31 D n) := fun_okP X_ok hD (SP.cons (f32_ok hD n) (SP.cons (f33_ok hD n) (SP.nil))) Tryz.func31 (by kernel_rfl) (by kernel_rfl) (f31_eq D n)

def s35 (D : Dyn) (n : Nat) : Tb := ⟨X, [(59, f59 D n), (39, f39 D n), (60, f60 D n)]⟩
/-- jetty/node.Del -/
def f35 (D : Dyn) (n : Nat) (vs : List AV) (H : AH) : Option (AV × AH) :=
  outR (hd vs fun x0 vs => hd vs fun x1 vs => nl vs <|
  bA (bxV 80 x0) H fun x2 H => 
  bA (bxV 80 (.agg [(.bool false), .nilSlice, .nilSlice, .nilSlice])) H fun x4 H => 
  bV (ldNp 4 x2 H) fun x7 => 
  bR (f59 D n [x7] H) fun x8 H => 
  bV (aun .not x8) fun x9 => 
  jn (wnt x9 false (bV (fAd 0 x2) fun x11 => 
  bV (ld1p x11 H) fun x12 => 
  bV (aun .not x12) fun x13 => 
  some (.norm [x13], H)) (some (.norm [undefA], H))) fun vs H => hd vs fun x13_2 vs => 
  bV (pk3 (some x9) (some (.bool true)) (some x13_2)) fun x14 => 
  cnd x14 (bV (bldSp [(0, 1), (1, 1), (2, 1), (3, 1)] [(.bool false), .nilSlice, .nilSlice, .nilSlice] []) fun x15 => 
  bR (stNp 4 x4 x15 H) fun x9999 H => 
  bV (ldNp 4 x4 H) fun x9004 => bV (some (.int .i64 (.ofNat 1))) fun x5 => some (.ret (.tuple [x9004, x5]), H))
  (bV (ldNp 4 x2 H) fun x16 => 
  bR (f39 D n [x16, x1] H) fun x18 H => 
  bV (fAd 1 x2) fun x20 => 
  bV (ld1p x20 H) fun x21 => 
  bV (lnSl x21) fun x22 => 
  bV (bInt .geq x18 x22) fun x23 => 
  jn (wnt x23 false (bV (fAd 1 x2) fun x25 => 
  bV (ld1p x25 H) fun x26 => 
  bV (ixSl 1 x26 x18) fun x28 => 
  bV (ld1p x28 H) fun x29 => 
  bV (bStr .neq x29 x1) fun x31 => 
  some (.norm [x31], H)) (some (.norm [undefA], H))) fun vs H => hd vs fun x31_2 vs => 
  bV (pk3 (some x23) (some (.bool true)) (some x31_2)) fun x32 => 
  cnd x32 (bV (bldSp [(0, 1), (1, 1), (2, 1), (3, 1)] [(.bool false), .nilSlice, .nilSlice, .nilSlice] []) fun x33 => 
  bR (stNp 4 x4 x33 H) fun x9999_2 H => 
  bV (ldNp 4 x4 H) fun x9004_2 => bV (some (.int .i64 (.ofNat 5))) fun x5_2 => some (.ret (.tuple [x9004_2, x5_2]), H))
  (bV (fAd 1 x2) fun x34 => 
  bV (ld1p x34 H) fun x35 => 
  bV (slSlp 1 x35 none (some x18) (some x18) H) fun x38 => 
  bV (fAd 1 x2) fun x39 => 
  bV (ld1p x39 H) fun x40 => 
  bV (bInt .add x18 (.int .i64 (.ofNat 1))) fun x42 => 
  bV (slSlp 1 x40 (some x42) none none H) fun x43 => 
  bA (bldLp 78 1 2 [.nilSlice] [(0, x38), (1, x43)]) H fun x44 H => 
  bV (fAd 2 x2) fun x46 => 
  bV (ld1p x46 H) fun x47 => 
  bV (slSlp 1 x47 none (some x18) (some x18) H) fun x50 => 
  bV (fAd 2 x2) fun x51 => 
  bV (ld1p x51 H) fun x52 => 
  bV (bInt .add x18 (.int .i64 (.ofNat 1))) fun x54 => 
  bV (slSlp 1 x52 (some x54) none none H) fun x55 => 
  bA (bldLp 78 1 2 [.nilSlice] [(0, x50), (1, x55)]) H fun x56 H => 
  bR (f60 D n [x44] H) fun x45 H => chk (ld1p x46 H) x47 <| chk (slSlp 1 x47 none (some x18) (some x18) H) x50 <| chk (ld1p x51 H) x52 <| chk (slSlp 1 x52 (some x54) none none H) x55 <| 
  bR (f60 D n [x56] H) fun x57 H => 
  bV (bldSp [(0, 1), (1, 1), (2, 1), (3, 1)] [(.bool false), .nilSlice, .nilSlice, .nilSlice] [(0, (.bool true)), (1, x45), (2, x57)]) fun x58 => 
  bR (stNp 4 x4 x58 H) fun x9999_3 H => 
  bV (ldNp 4 x4 H) fun x9004_3 => bV (some (.int .i64 (.ofNat 0))) fun x5_3 => some (.ret (.tuple [x9004_3, x5_3]), H))))
def h35 : Hint := (.s .o (.s (.s .o (.cl (.s .o .o) .o)) (.s .o (.s (.s .o (.cl (.s .o .o) .o)) (.s .o .o)))))
theorem f35_eq (D : Dyn) (n : Nat) : f35 D n = funKp (s35 D n) D n 35 Tryz.f35 h35 := by kernel_rfl
theorem f35_ok {D : Dyn} (hD : DP D) (n : Nat) : FP 35 (f35 D n) := fun_okP X_ok hD (SP.cons (f59_ok hD n) (SP.cons (f39_ok hD n) (SP.cons (f60_ok hD n) (SP.nil)))) Tryz.func35 (by kernel_rfl) (by kernel_rfl) (f35_eq D n)

def s34 (D : Dyn) (n : Nat) : Tb := ⟨X, [(35, f35 D n)]⟩
/-- (*jetty/tree.Tree).Del$1 -/
def f34 (D : Dyn) (n : Nat) (vs : List AV) (H : AH) : Option (AV × AH) :=
  outR (hd vs fun x0 vs => hd vs fun x1 vs => nl vs <|
  bA (bxV 80 x0) H fun x2 H => 
  bA (bxV 80 (.agg [(.bool false), .nilSlice, .nilSlice, .nilSlice])) H fun x3 H => 
  bV (ldNp 4 x2 H) fun x5 => 
  bV (ld1p x1 H) fun x6 => 
  bR (f35 D n [x5, x6] H) fun x7 H => 
  bV (pExtract x7 0) fun x8 => 
  bV (pExtract x7 1) fun x9 => 
  bR (stNp 4 x3 x8 H) fun x9999 H => 
  bV (ldNp 4 x3 H) fun x9003 => bV (some x9) fun x4 => some (.ret (.tuple [x9003, x4]), H))
def h34 : Hint := (.s .o (.s .o .o))
theorem f34_eq (D : Dyn) (n : Nat) : f34 D n = funKp (s34 D n) D n 34 Tryz.f34 h34 := by kernel_rfl
theorem f34_ok {D : Dyn} (hD : DP D) (n : Nat) : FP 34 (f34 D n) := fun_okP X_ok hD (SP.cons (f35_ok hD n) (SP.nil)) Tryz.func34 (by kernel_rfl) (by kernel_rfl) (f34_eq D n)

def s21 (D : Dyn) (n : Nat) : Tb := ⟨X, [(32, f32 D n), (33, f33 D n)]⟩
/-- (*jetty/tree.Tree).Del -/
def f21 (D : Dyn) (n : Nat) (vs : List AV) (H : AH) : Option (AV × AH) :=
  outR (hd vs fun x0 vs => hd vs fun x1 vs => nl vs <|
  bA (bxV 9 x1) H fun x3 H => 
  bR (f32 D n [x0] H) fun x6 H => 
  cnd x6 (bV (some (.int .i64 (.ofNat 2))) fun x4 => some (.ret x4, H))
  (bV (ld1p x3 H) fun x7 => 
  bV (lnStr x7) fun x8 => 
  bV (bInt .lss x8 (.int .i64 (.ofNat 1))) fun x9 => 
  jn (wnt x9 false (bV (ld1p x3 H) fun x11 => 
  bV (lnStr x11) fun x12 => 
  bV (bInt .gtr x12 (.int .i64 (.ofNat 40))) fun x13 => 
  some (.norm [x13], H)) (some (.norm [undefA], H))) fun vs H => hd vs fun x13_2 vs => 
  bV (pk3 (some x9) (some (.bool true)) (some x13_2)) fun x14 => 
  cnd x14 (bV (some (.int .i64 (.ofNat 1))) fun x4_2 => some (.ret x4_2, H))
  (bV (ld1p x3 H) fun x16 => 
  bR (f33 D n [x0, x16, (.func 34 [] [x3])] H) fun x18 H => 
  bV (some x18) fun x4_3 => some (.ret x4_3, H))))
def h21 : Hint := (.s .o (.s (.s .o (.cl (.s .o .o) .o)) (.s (.s .o (.cl (.s .o .o) .o)) (.s .o .o))))
theorem f21_eq (D : Dyn) (n : Nat) : f21 D n = funKp (s21 D n) D n 21 Tryz.f21 h21 := by kernel_rfl
theorem f21_ok {D : Dyn} (hD : DP D) (n : Nat) : FP 21 (f21 D n) := fun_okP X_ok hD (SP.cons (f32_ok hD n) (SP.cons (f33_ok hD n) (SP.nil))) Tryz.func21 (by kernel_rfl) (by kernel_rfl) (f21_eq D n)

def s18 (D : Dyn) (n : Nat) : Tb := ⟨X, [(30, f30 D n), (20, f20 D n), (31, f31 D n), (21, f21 D n)]⟩
/-- jetty/extent.store -/
def f18 (D : Dyn) (n : Nat) (vs : List AV) (H : AH) : Option (AV × AH) :=
  outR (hd vs fun x0 vs => hd vs fun x1 vs => hd vs fun x2 vs => hd vs fun x3 vs => hd vs fun x4 vs => nl vs <|
  bV (cvBSp x3 H) fun x13 => 
  bR (f30 D n [x13, (.str 1 0)] H) fun x14 H => 
  bV (bStr .neq x14 (.str 0 0)) fun x17 => 
  cnd x17 (bR (f20 D n [x1, x2] H) fun x21 H => 
  bR (f31 D n [x0, x21, x14] H) fun x23 H => 
  bV (some x23) fun x10 => some (.ret x10, H))
  (cnd x4 (bR (f20 D n [x1, x2] H) fun x29 H => 
  bR (f21 D n [x0, x29] H) fun x30 H => 
  bV (some x30) fun x10_2 => some (.ret x10_2, H))
  (bV (some (.int .i64 (.ofNat 0))) fun x10_3 => some (.ret x10_3, H))))
def h18 : Hint := (.s .o (.s .o (.s (.b0 (.s .o (.cl (.s .o .o) (.s .o (.cl (.s .o .o) .o))))) (.s .o .o))))
theorem f18_eq (D : Dyn) (n : Nat) : f18 D n = funKp (s18 D n) D n 18 Tryz.f18 h18 := by kernel_rfl
theorem f18_ok {D : Dyn} (hD : DP D) (n : Nat) : FP 18 (f18 D n) := fun_okP X_ok hD (SP.cons (f30_ok hD n) (SP.cons (f20_ok hD n) (SP.cons (f31_ok hD n) (SP.cons (f21_ok hD n) (SP.nil))))) Tryz.func18 (by kernel_rfl) (by kernel_rfl) (f18_eq D n)

def s17 (D : Dyn) (n : Nat) : Tb := ⟨X, [(11, f11 D n), (12, f12 D n), (18, f18 D n)]⟩
/-- jetty/extent.Write$1 -/
def f17 (D : Dyn) (n : Nat) (vs : List AV) (H : AH) : Option (AV × AH) :=
  outR (hd vs fun x0 vs => hd vs fun x1 vs => hd vs fun x2 vs => hd vs fun x3 vs => nl vs <|
  bA (bxV 22 (.int .i64 (.ofNat 0))) H fun x4 H => 
  bV (ld1p x0 H) fun x11 => 
  bA (bxV 9 (.str 0 0)) H fun x5 H => 
  bR (stNp 1 x5 x11 H) fun x9999 H => 
  bV (ld1p x1 H) fun x12 => 
  bV (ld1p x0 H) fun x13 => 
  bV (lnStr x13) fun x14 => 
  bR (f11 D n [x12, x14] H) fun x15 H => 
  newB H (.loop ⟨.ready, none, 17, 0, [2, 3, 4, 5], [x2, x3, x4, x5]⟩) fun A H => bR (rfC (s17 D n).S D x15 A H) fun _ H => endLp A H fun j H => jmpK j (
  bR (stNp 1 x4 (.int .i64 (.ofNat 0)) H) fun x9999_2 H => 
  bV (ld1p x4 H) fun x9004_2 => some (.ret x9004_2, H))
  (fun id => none) (bV (ld1p x4 H) fun x9004 => some (.ret x9004, H)))
def h17 : Hint := (.s .o (.s .o (.s (.s .o (.b0 (.rf 0 [2, 3, 4, 5]))) (.s .o .o))))
theorem f17_eq (D : Dyn) (n : Nat) : f17 D n = funKp (s17 D n) D n 17 Tryz.f17 h17 := by kernel_rfl
theorem f17_ok {D : Dyn} (hD : DP D) (n : Nat) : FP 17 (f17 D n) := fun_okP X_ok hD (SP.cons (f11_ok hD n) (SP.cons (f12_ok hD n) (SP.cons (f18_ok hD n) (SP.nil)))) Tryz.func17 (by kernel_rfl) (by kernel_rfl) (f17_eq D n)
def r17_0 (D : Dyn) (n : Nat) (A : Nat) (l : ALoop) (az : List AV) (H : AH) : Option (AV × AH) :=
  bif eqNL [2, 3, 4, 5] l.live then endQ A (hd l.vals fun x2 vs => hd vs fun x3 vs => hd vs fun x4 vs => hd vs fun x5 vs => hd az fun x16 az => nl az <|
  bA (bxV 38 (.agg [(.int .i64 (.ofNat 0)), (.int .i64 (.ofNat 0)), (.int .i64 (.ofNat 0))])) H fun x6 H => 
  bR (stNp 3 x6 x16 H) fun x9999 H => 
  beginK A H fun H => 
  bV (ld1p x2 H) fun x18 => 
  bV (ld1p x3 H) fun x19 => 
  bV (fAd 0 x6) fun x20 => 
  bV (ld1p x20 H) fun x21 => 
  bR (f12 D n [x18, x19, x21] H) fun x22 H => 
  bV (pExtract x22 0) fun x23 => 
  bV (pExtract x22 1) fun x24 => 
  bV (pExtract x22 2) fun x25 => 
  bA (bxV 39 (.agg [.pk 128 0])) H fun x7 H => 
  bR (stNp 128 x7 x23 H) fun x9999_2 H => 
  bV (bInt .neq x25 (.int .i64 (.ofNat 0))) fun x27 => 
  cnd x27 (bR (stNp 1 x4 x25 H) fun x9999_3 H => 
  some (.ret (.tuple []), H))
  (bV (ld1p x5 H) fun x29 => 
  bV (fAd 1 x6) fun x30 => 
  bV (ld1p x30 H) fun x31 => 
  bV (fAd 2 x6) fun x32 => 
  bV (ld1p x32 H) fun x33 => 
  bV (slArr 128 1 x7 (some x31) (some x33) none) fun x34 => 
  bV (ld1p x5 H) fun x35 => 
  bR (cpyp 1 x34 x35 H) fun x36 H => chk (ld1p x5 H) x29 <| 
  bV (slStr x29 (some x36) none) fun x37 => 
  bR (stNp 1 x5 x37 H) fun x9999_4 H => 
  bV (ld1p x2 H) fun x38 => 
  bV (ld1p x3 H) fun x39 => 
  bV (fAd 0 x6) fun x40 => 
  bV (ld1p x40 H) fun x41 => 
  bV (slArr 128 1 x7 none none none) fun x42 => 
  bR (f18 D n [x38, x39, x41, x42, x24] H) fun x44 H => 
  bV (bInt .neq x44 (.int .i64 (.ofNat 0))) fun x46 => 
  cnd x46 (bR (stNp 1 x4 x44 H) fun x9999_5 H => 
  some (.ret (.tuple []), H))
  (some (.norm [], H)))) else none
def r17_0a : Hint := .o
def r17_0b : Hint := (.b0 (.s .o (.s (.s .o (.cl (.s .o .o) .o)) (.s .o (.s .o (.s .o (.cl (.s .o .o) .o)))))))
theorem r17_0_eq (D : Dyn) (n : Nat) : r17_0 D n = rndKp (s17 D n) D n 17 0 [2, 3, 4, 5] [] r17_0a r17_0b := by kernel_rfl
theorem r17_0_ok {D : Dyn} (hD : DP D) (n : Nat) : RdP 17 0 (r17_0 D n) := round_okP X_ok hD (SP.cons (f11_ok hD n) (SP.cons (f12_ok hD n) (SP.cons (f18_ok hD n) (SP.nil)))) (by kernel_rfl) (r17_0_eq D n)

def s7 (D : Dyn) (n : Nat) : Tb := ⟨X, [(10, f10 D n), (16, f16 D n)]⟩
/-- jetty/extent.Write -/
def f7 (D : Dyn) (n : Nat) (vs : List AV) (H : AH) : Option (AV × AH) :=
  outR (hd vs fun x0 vs => hd vs fun x1 vs => hd vs fun x2 vs => hd vs fun x3 vs => nl vs <|
  bA (bxV 27 x0) H fun x4 H => 
  bA (bxV 3 x1) H fun x5 H => 
  bA (bxV 3 x2) H fun x6 H => 
  bA (bxV 9 x3) H fun x7 H => 
  bV (ld1p x4 H) fun x9 => 
  bV (cmpO .eql (eqP x9 .nilPtr)) fun x10 => 
  cnd x10 (bV (some (.int .i64 (.ofNat 2))) fun x8 => some (.ret x8, H))
  (bV (ld1p x5 H) fun x11 => 
  bR (f10 D n [x11] H) fun x12 H => 
  bV (aun .not x12) fun x13 => 
  jn (wnt x13 false (bV (ld1p x6 H) fun x15 => 
  bV (bInt .lss x15 (.int .i64 (.ofNat 0))) fun x16 => 
  some (.norm [x16], H)) (some (.norm [undefA], H))) fun vs H => hd vs fun x16_2 vs => 
  bV (pk3 (some x13) (some (.bool true)) (some x16_2)) fun x17 => 
  cnd x17 (bV (some (.int .i64 (.ofNat 1))) fun x8_2 => some (.ret x8_2, H))
  (bV (ld1p x6 H) fun x18 => 
  bV (bInt .gtr x18 (.int .i64 (.ofNat 32768))) fun x19 => 
  jn (wnt x19 false (bV (ld1p x7 H) fun x21 => 
  bV (lnStr x21) fun x22 => 
  bV (ld1p x6 H) fun x23 => 
  bV (bInt .sub (.int .i64 (.ofNat 32768)) x23) fun x24 => 
  bV (bInt .gtr x22 x24) fun x25 => 
  some (.norm [x25], H)) (some (.norm [undefA], H))) fun vs H => hd vs fun x25_2 vs => 
  bV (pk3 (some x19) (some (.bool true)) (some x25_2)) fun x26 => 
  cnd x26 (bV (some (.int .i64 (.ofNat 40))) fun x8_3 => some (.ret x8_3, H))
  (bV (ld1p x7 H) fun x27 => 
  bV (bStr .eql x27 (.str 0 0)) fun x28 => 
  cnd x28 (bV (some (.int .i64 (.ofNat 0))) fun x8_4 => some (.ret x8_4, H))
  (bV (ld1p x4 H) fun x29 => 
  bR (f16 D n [x29, (.func 17 [] [x7, x6, x4, x5])] H) fun x31 H => 
  bV (some x31) fun x8_5 => some (.ret x8_5, H))))))
def h7 : Hint := (.s .o (.s (.s .o (.cl (.s .o .o) .o)) (.s (.s .o (.cl (.s .o .o) .o)) (.s (.s .o (.cl (.s .o .o) .o)) (.s (.s .o (.cl (.s .o .o) .o)) (.s .o .o))))))
theorem f7_eq (D : Dyn) (n : Nat) : f7 D n = funKp (s7 D n) D n 7 Tryz.f7 h7 := by kernel_rfl
theorem f7_ok {D : Dyn} (hD : DP D) (n : Nat) : FP 7 (f7 D n) := fun_okP X_ok hD (SP.cons (f10_ok hD n) (SP.cons (f16_ok hD n) (SP.nil))) Tryz.func7 (by kernel_rfl) (by kernel_rfl) (f7_eq D n)

def s19 (D : Dyn) (n : Nat) : Tb := ⟨X, [(20, f20 D n), (18, f18 D n), (21, f21 D n)]⟩
def f19b0 (D : Dyn) (n : Nat) (vs : List AV) (H : AH) : Rs :=
  hd vs fun x1_3 vs => hd vs fun x2_3 vs => hd vs fun x3_3 vs => hd vs fun x4_3 vs => hd vs fun x10_3 vs => hd vs fun x11_3 vs => hd vs fun x12_2 vs => 
  bV (bInt .add x12_2 (.int .i64 (.ofNat 1))) fun x50 => 
  some (.norm [x1_3, x2_3, x3_3, x4_3, x10_3, x11_3, x50], H)
def f19l1 (D : Dyn) (n : Nat) (vs : List AV) (H : AH) : Rs :=
  hd vs fun x1_2 vs => hd vs fun x2_2 vs => hd vs fun x3_2 vs => hd vs fun x4_2 vs => hd vs fun x10_2 vs => hd vs fun x11_2 vs => hd vs fun x12 vs => 
  bV (bInt .lss x12 x11_2) fun x13 => 
  cnd x13 (jb 1 (bV (ixSl 2 x10_2 x12) fun x14 => 
  bV (ldNp 2 x14 H) fun x15 => 
  bA (bxV 57 (.agg [(.str 0 0), (.str 0 0)])) H fun x7 H => 
  bR (stNp 2 x7 x15 H) fun x9999 H => 
  bV (fAd 0 x7) fun x16 => 
  bV (ld1p x16 H) fun x17 => 
  bV (ld1p x1_2 H) fun x18 => 
  bV (ld1p x2_2 H) fun x19 => 
  bR (f20 D n [x18, x19] H) fun x20 H => chk (ld1p x16 H) x17 <| 
  bV (bStr .eql x17 x20) fun x21 => 
  jn (wnt x21 true (bV (ld1p x3_2 H) fun x23 => 
  bV (bInt .gtr x23 (.int .i64 (.ofNat 0))) fun x24 => 
  some (.norm [x24], H)) (some (.norm [undefA], H))) fun vs H => hd vs fun x24_2 vs => 
  bV (pk3 (some x21) (some x24_2) (some (.bool false))) fun x25 => 
  cnd x25 (bV (fAd 1 x7) fun x26 => 
  bV (ld1p x26 H) fun x27 => 
  bV (lnStr x27) fun x28 => 
  bV (ld1p x3_2 H) fun x29 => 
  bV (bInt .leq x28 x29) fun x30 => 
  cnd x30 (some (.exit 1 [x1_2, x2_2, x3_2, x4_2, x10_2, x11_2, x12], H))
  (bV (ld1p x4_2 H) fun x31 => 
  bV (ld1p x1_2 H) fun x32 => 
  bV (ld1p x2_2 H) fun x33 => 
  bV (fAd 1 x7) fun x34 => 
  bV (ld1p x34 H) fun x35 => 
  bV (ld1p x3_2 H) fun x36 => 
  bV (slStr x35 none (some x36)) fun x37 => 
  bA (cvSBp 5 x37) H fun x38 H => 
  bR (f18 D n [x31, x32, x33, x38, (.bool true)] H) fun x39 H => 
  bV (bInt .neq x39 (.int .i64 (.ofNat 0))) fun x41 => 
  cnd x41 (bV (some x39) fun x5 => some (.ret x5, H))
  (some (.exit 1 [x1_2, x2_2, x3_2, x4_2, x10_2, x11_2, x12], H))))
  (bV (ld1p x4_2 H) fun x43 => 
  bV (fAd 0 x7) fun x44 => 
  bV (ld1p x44 H) fun x45 => 
  bR (f21 D n [x43, x45] H) fun x46 H => 
  bV (bInt .neq x46 (.int .i64 (.ofNat 0))) fun x48 => 
  cnd x48 (bV (some x46) fun x5_2 => some (.ret x5_2, H))
  (some (.norm [x1_2, x2_2, x3_2, x4_2, x10_2, x11_2, x12], H)))) (f19b0 D n))
  (some (.exit 0 [], H))
def f19b2 (D : Dyn) (n : Nat) (vs : List AV) (H : AH) : Rs :=
  
  bV (some (.int .i64 (.ofNat 0))) fun x5_3 => some (.ret x5_3, H)
/-- jetty/extent.Cut$1 -/
def f19 (D : Dyn) (n : Nat) (vs : List AV) (H : AH) : Option (AV × AH) :=
  outR (hd vs fun x0 vs => hd vs fun x1 vs => hd vs fun x2 vs => hd vs fun x3 vs => hd vs fun x4 vs => nl vs <|
  bV (ld1p x0 H) fun x10 => 
  bV (lnSl x10) fun x11 => 
  jb 0 (loopK n (f19l1 D n) [x1, x2, x3, x4, x10, x11, (.int .i64 (.ofNat 0))] H) (f19b2 D n))
def h19 : Hint := (.s .o (.s (.s .o (.b [] (.l [1, 2, 3, 4, 10, 11, 12] (.s .o (.s (.cr .o .o) (.s (.b [1, 2, 3, 4, 10, 11, 12] (.s .o (.s (.s .o (.cl (.s (.s .o (.cl .o .o)) (.s (.s .o (.s .o (.cl (.s .o .o) .o))) .o)) .o)) (.s .o (.s .o (.cl (.s .o .o) .o)))))) .o)))))) (.s .o .o)))
theorem f19_eq (D : Dyn) (n : Nat) : f19 D n = funKp (s19 D n) D n 19 Tryz.f19 h19 := by kernel_rfl
theorem f19_ok {D : Dyn} (hD : DP D) (n : Nat) : FP 19 (f19 D n) := fun_okP X_ok hD (SP.cons (f20_ok hD n) (SP.cons (f18_ok hD n) (SP.cons (f21_ok hD n) (SP.nil)))) Tryz.func19 (by kernel_rfl) (by kernel_rfl) (f19_eq D n)

def s8 (D : Dyn) (n : Nat) : Tb := ⟨X, [(10, f10 D n), (13, f13 D n), (16, f16 D n)]⟩
/-- jetty/extent.Cut -/
def f8 (D : Dyn) (n : Nat) (vs : List AV) (H : AH) : Option (AV × AH) :=
  outR (hd vs fun x0 vs => hd vs fun x1 vs => hd vs fun x2 vs => nl vs <|
  bA (bxV 27 x0) H fun x3 H => 
  bA (bxV 3 x1) H fun x4 H => 
  bV (ld1p x3 H) fun x11 => 
  bV (cmpO .eql (eqP x11 .nilPtr)) fun x12 => 
  cnd x12 (bV (some (.int .i64 (.ofNat 2))) fun x6 => some (.ret x6, H))
  (bV (ld1p x4 H) fun x13 => 
  bR (f10 D n [x13] H) fun x14 H => 
  bV (aun .not x14) fun x15 => 
  jn (wnt x15 false (bV (bInt .lss x2 (.int .i64 (.ofNat 0))) fun x18 => 
  some (.norm [x18], H)) (some (.norm [undefA], H))) fun vs H => hd vs fun x18_2 vs => 
  bV (pk3 (some x15) (some (.bool true)) (some x18_2)) fun x19 => 
  cnd x19 (bV (some (.int .i64 (.ofNat 1))) fun x6_2 => some (.ret x6_2, H))
  (bV (bInt .quo x2 (.int .i64 (.ofNat 128))) fun x21 => 
  bV (bInt .rem x2 (.int .i64 (.ofNat 128))) fun x23 => 
  bA (bxV 3 (.int .i64 (.ofNat 0))) H fun x7 H => 
  bA (bxV 3 (.int .i64 (.ofNat 0))) H fun x8 H => 
  bR (stNp 1 x7 x21 H) fun x9999 H => 
  bR (stNp 1 x8 x23 H) fun x9999_2 H => 
  bV (ld1p x3 H) fun x25 => 
  bV (ld1p x4 H) fun x26 => 
  bV (ld1p x7 H) fun x27 => 
  bR (f13 D n [x25, x26, x27] H) fun x28 H => 
  bV (pExtract x28 0) fun x29 => 
  bV (pExtract x28 1) fun x30 => 
  bA (bxV 42 .nilSlice) H fun x9 H => 
  bR (stNp 1 x9 x29 H) fun x9999_3 H => 
  bV (bInt .neq x30 (.int .i64 (.ofNat 0))) fun x32 => 
  jn (wnt x32 false (bV (ld1p x9 H) fun x34 => 
  bV (lnSl x34) fun x35 => 
  bV (bInt .eql x35 (.int .i64 (.ofNat 0))) fun x36 => 
  some (.norm [x36], H)) (some (.norm [undefA], H))) fun vs H => hd vs fun x36_2 vs => 
  bV (pk3 (some x32) (some (.bool true)) (some x36_2)) fun x37 => 
  cnd x37 (bV (some x30) fun x6_3 => some (.ret x6_3, H))
  (bV (ld1p x3 H) fun x39 => 
  bR (f16 D n [x39, (.func 19 [] [x9, x4, x7, x8, x3])] H) fun x41 H => 
  bV (some x41) fun x6_4 => some (.ret x6_4, H)))))
def h8 : Hint := (.s .o (.s (.s .o (.cl (.s .o .o) .o)) (.s (.s .o (.cl (.s .o .o) .o)) (.s .o (.s .o (.s (.s .o (.cl (.s .o .o) .o)) (.s .o .o)))))))
theorem f8_eq (D : Dyn) (n : Nat) : f8 D n = funKp (s8 D n) D n 8 Tryz.f8 h8 := by kernel_rfl
theorem f8_ok {D : Dyn} (hD : DP D) (n : Nat) : FP 8 (f8 D n) := fun_okP X_ok hD (SP.cons (f10_ok hD n) (SP.cons (f13_ok hD n) (SP.cons (f16_ok hD n) (SP.nil)))) Tryz.func8 (by kernel_rfl) (by kernel_rfl) (f8_eq D n)

def s9 (D : Dyn) (n : Nat) : Tb := ⟨X, [(6, f6 D n), (7, f7 D n), (20, f20 D n), (22, f22 D n), (4, f4 D n), (8, f8 D n), (5, f5 D n)]⟩
/-- jetty/jettylaw21.awake -/
def f9 (D : Dyn) (n : Nat) (vs : List AV) (H : AH) : Option (AV × AH) :=
  outR (nl vs <|
  bR (f6 D n [] H) fun x16 H => 
  bV (cmpO .eql (eqP x16 .nilPtr)) fun x18 => 
  jn (wnt x18 false (bR (f7 D n [x16, (.int .i64 (.ofNat 5)), (.int .i64 (.ofNat 126)), (.str 4 1684234849)] H) fun x21 H => 
  bV (bInt .neq x21 (.int .i64 (.ofNat 0))) fun x22 => 
  some (.norm [x22], H)) (some (.norm [undefA], H))) fun vs H => hd vs fun x22_2 vs => 
  bV (pk3 (some x18) (some (.bool true)) (some x22_2)) fun x23 => 
  cnd x23 (bV (some (.bool false)) fun x0 => some (.ret x0, H))
  (bR (f20 D n [(.int .i64 (.ofNat 5)), (.int .i64 (.ofNat 0))] H) fun x26 H => 
  bR (f22 D n [x16, x26] H) fun x27 H => 
  bV (pExtract x27 0) fun x28 => 
  bV (pExtract x27 1) fun x29 => 
  bR (f20 D n [(.int .i64 (.ofNat 5)), (.int .i64 (.ofNat 1))] H) fun x32 H => 
  bR (f22 D n [x16, x32] H) fun x33 H => 
  bV (pExtract x33 0) fun x34 => 
  bV (pExtract x33 1) fun x35 => 
  bR (f4 D n [x16, (.int .i64 (.ofNat 5)), (.int .i64 (.ofNat 130)), (.int .i64 (.ofNat 125)), (.int .i64 (.ofNat 3))] H) fun x38 H => 
  bV (pExtract x38 0) fun x39 => 
  bV (pExtract x38 1) fun x40 => 
  bR (f8 D n [x16, (.int .i64 (.ofNat 5)), (.int .i64 (.ofNat 127))] H) fun x42 H => 
  bR (f20 D n [(.int .i64 (.ofNat 5)), (.int .i64 (.ofNat 0))] H) fun x45 H => 
  bR (f22 D n [x16, x45] H) fun x46 H => 
  bV (pExtract x46 0) fun x47 => 
  bV (pExtract x46 1) fun x48 => 
  bR (f20 D n [(.int .i64 (.ofNat 5)), (.int .i64 (.ofNat 1))] H) fun x51 H => 
  bR (f22 D n [x16, x51] H) fun x52 H => 
  bV (pExtract x52 0) fun x53 => 
  bV (pExtract x52 1) fun x54 => 
  bR (f7 D n [x16, (.int .i64 (.ofNat 5)), (.int .i64 (.ofNat 126)), (.str 1 0)] H) fun x56 H => 
  bR (f5 D n [x16, (.int .i64 (.ofNat 5))] H) fun x59 H => 
  bV (pExtract x59 0) fun x60 => 
  bV (pExtract x59 1) fun x61 => 
  bV (lnStr x28) fun x63 => 
  bV (bInt .eql x63 (.int .i64 (.ofNat 128))) fun x64 => 
  jn (wnt x64 true (bV (slStr x28 (some (.int .i64 (.ofNat 126))) none) fun x67 => 
  bV (bStr .eql x67 (.str 2 25185)) fun x68 => 
  some (.norm [x68], H)) (some (.norm [undefA], H))) fun vs H => hd vs fun x68_2 vs => 
  bV (pk3 (some x64) (some x68_2) (some (.bool false))) fun x69 => 
  jn (wnt x69 true (bV (bInt .eql x29 (.int .i64 (.ofNat 0))) fun x72 => 
  some (.norm [x72], H)) (some (.norm [undefA], H))) fun vs H => hd vs fun x72_2 vs => 
  bV (pk3 (some x69) (some x72_2) (some (.bool false))) fun x73 => 
  jn (wnt x73 true (bV (bStr .eql x34 (.str 2 25699)) fun x76 => 
  some (.norm [x76], H)) (some (.norm [undefA], H))) fun vs H => hd vs fun x76_2 vs => 
  bV (pk3 (some x73) (some x76_2) (some (.bool false))) fun x77 => 
  jn (wnt x77 true (bV (bInt .eql x35 (.int .i64 (.ofNat 0))) fun x80 => 
  some (.norm [x80], H)) (some (.norm [undefA], H))) fun vs H => hd vs fun x80_2 vs => 
  bV (pk3 (some x77) (some x80_2) (some (.bool false))) fun x81 => 
  jn (wnt x81 true (bV (bStr .eql x39 (.str 3 6447360)) fun x84 => 
  some (.norm [x84], H)) (some (.norm [undefA], H))) fun vs H => hd vs fun x84_2 vs => 
  bV (pk3 (some x81) (some x84_2) (some (.bool false))) fun x85 => 
  jn (wnt x85 true (bV (bInt .eql x40 (.int .i64 (.ofNat 0))) fun x88 => 
  some (.norm [x88], H)) (some (.norm [undefA], H))) fun vs H => hd vs fun x88_2 vs => 
  bV (pk3 (some x85) (some x88_2) (some (.bool false))) fun x89 => 
  jn (wnt x89 true (bV (bInt .eql x42 (.int .i64 (.ofNat 0))) fun x92 => 
  some (.norm [x92], H)) (some (.norm [undefA], H))) fun vs H => hd vs fun x92_2 vs => 
  bV (pk3 (some x89) (some x92_2) (some (.bool false))) fun x93 => 
  jn (wnt x93 true (bV (lnStr x47) fun x96 => 
  bV (bInt .eql x96 (.int .i64 (.ofNat 127))) fun x97 => 
  some (.norm [x97], H)) (some (.norm [undefA], H))) fun vs H => hd vs fun x97_2 vs => 
  bV (pk3 (some x93) (some x97_2) (some (.bool false))) fun x98 => 
  jn (wnt x98 true (bV (ixStr x47 (.int .i64 (.ofNat 126))) fun x101 => 
  bV (bInt .eql x101 (.int .u8 (.ofNat 97))) fun x102 => 
  some (.norm [x102], H)) (some (.norm [undefA], H))) fun vs H => hd vs fun x102_2 vs => 
  bV (pk3 (some x98) (some x102_2) (some (.bool false))) fun x103 => 
  jn (wnt x103 true (bV (bInt .eql x48 (.int .i64 (.ofNat 0))) fun x106 => 
  some (.norm [x106], H)) (some (.norm [undefA], H))) fun vs H => hd vs fun x106_2 vs => 
  bV (pk3 (some x103) (some x106_2) (some (.bool false))) fun x107 => 
  jn (wnt x107 true (bV (bInt .eql x54 (.int .i64 (.ofNat 5))) fun x110 => 
  some (.norm [x110], H)) (some (.norm [undefA], H))) fun vs H => hd vs fun x110_2 vs => 
  bV (pk3 (some x107) (some x110_2) (some (.bool false))) fun x111 => 
  jn (wnt x111 true (bV (bInt .eql x56 (.int .i64 (.ofNat 0))) fun x114 => 
  some (.norm [x114], H)) (some (.norm [undefA], H))) fun vs H => hd vs fun x114_2 vs => 
  bV (pk3 (some x111) (some x114_2) (some (.bool false))) fun x115 => 
  jn (wnt x115 true (bV (bInt .eql x60 (.int .i64 (.ofNat 0))) fun x118 => 
  some (.norm [x118], H)) (some (.norm [undefA], H))) fun vs H => hd vs fun x118_2 vs => 
  bV (pk3 (some x115) (some x118_2) (some (.bool false))) fun x119 => 
  jn (wnt x119 true (bV (bInt .eql x61 (.int .i64 (.ofNat 0))) fun x122 => 
  some (.norm [x122], H)) (some (.norm [undefA], H))) fun vs H => hd vs fun x122_2 vs => 
  bV (pk3 (some x119) (some x122_2) (some (.bool false))) fun x123 => 
  jn (wnt x123 true (bR (f20 D n [(.int .i64 (.ofNat 5)), (.int .i64 (.ofNat 1))] H) fun x125 H => 
  bV (bStr .eql x125 (.str 9 18446744095184388196)) fun x126 => 
  some (.norm [x126], H)) (some (.norm [undefA], H))) fun vs H => hd vs fun x126_2 vs => 
  bV (pk3 (some x123) (some x126_2) (some (.bool false))) fun x127 => 
  bV (some x127) fun x0_2 => some (.ret x0_2, H)))
def h9 : Hint := (.s .o (.s .o (.s (.s .o (.cl (.s .o .o) .o)) (.s .o (.s .o (.s .o (.s .o (.s .o (.s .o (.s .o (.s .o (.s .o .o))))))))))))
theorem f9_eq (D : Dyn) (n : Nat) : f9 D n = funKp (s9 D n) D n 9 Tryz.f9 h9 := by kernel_rfl
theorem f9_ok {D : Dyn} (hD : DP D) (n : Nat) : FP 9 (f9 D n) := fun_okP X_ok hD (SP.cons (f6_ok hD n) (SP.cons (f7_ok hD n) (SP.cons (f20_ok hD n) (SP.cons (f22_ok hD n) (SP.cons (f4_ok hD n) (SP.cons (f8_ok hD n) (SP.cons (f5_ok hD n) (SP.nil)))))))) Tryz.func9 (by kernel_rfl) (by kernel_rfl) (f9_eq D n)

def s3 (D : Dyn) (n : Nat) : Tb := ⟨X, [(4, f4 D n), (5, f5 D n), (6, f6 D n), (7, f7 D n), (8, f8 D n), (9, f9 D n)]⟩
/-- jetty/jettylaw21.ExtentNames -/
def f3 (D : Dyn) (n : Nat) (vs : List AV) (H : AH) : Option (AV × AH) :=
  outR (nl vs <|
  bR (f4 D n [.nilPtr, (.int .i64 (.ofNat 1)), (.int .i64 (.ofNat 0)), (.int .i64 (.ofNat 0)), (.int .i64 (.ofNat 0))] H) fun x28 H => 
  bV (pExtract x28 0) fun x29 => 
  bV (pExtract x28 1) fun x30 => 
  bR (f5 D n [.nilPtr, (.int .i64 (.ofNat 1))] H) fun x32 H => 
  bV (pExtract x32 0) fun x33 => 
  bV (pExtract x32 1) fun x34 => 
  bR (f6 D n [] H) fun x35 H => 
  bV (cmpO .eql (eqP x35 .nilPtr)) fun x37 => 
  cnd x37 (bV (some (.bool false)) fun x0 => some (.ret x0, H))
  (bR (f4 D n [x35, (.int .i64 (.ofNat 0)), (.int .i64 (.ofNat 0)), (.int .i64 (.ofNat 0)), (.int .i64 (.ofNat 0))] H) fun x40 H => 
  bV (pExtract x40 0) fun x41 => 
  bV (pExtract x40 1) fun x42 => 
  bR (f4 D n [x35, (.int .i64 (.ofNat 1)), (.int .i64 (.ofNat 32769)), (.int .i64 (.ofNat 0)), (.int .i64 (.ofNat 0))] H) fun x45 H => 
  bV (pExtract x45 0) fun x46 => 
  bV (pExtract x45 1) fun x47 => 
  bR (f4 D n [x35, (.int .i64 (.ofNat 1)), (.int .i64 (.ofNat 5)), (.int .i64 (.negSucc 0)), (.int .i64 (.ofNat 0))] H) fun x50 H => 
  bV (pExtract x50 0) fun x51 => 
  bV (pExtract x50 1) fun x52 => 
  bR (f7 D n [x35, (.int .i64 (.ofNat 1)), (.int .i64 (.ofNat 32768)), (.str 1 97)] H) fun x54 H => 
  bR (f7 D n [x35, (.int .i64 (.ofNat 1)), (.int .i64 (.ofNat 32767)), (.str 1 97)] H) fun x56 H => 
  bR (f7 D n [x35, (.int .i64 (.ofNat 1)), (.int .i64 (.negSucc 0)), (.str 1 97)] H) fun x58 H => 
  bR (f7 D n [x35, (.int .i64 (.ofNat 0)), (.int .i64 (.ofNat 0)), (.str 1 97)] H) fun x60 H => 
  bR (f7 D n [x35, (.int .i64 (.ofNat 1)), (.int .i64 (.ofNat 9223372036854775807)), (.str 1 97)] H) fun x62 H => 
  bR (f8 D n [x35, (.int .i64 (.ofNat 1)), (.int .i64 (.negSucc 0))] H) fun x64 H => 
  bR (f8 D n [x35, (.int .i64 (.ofNat 1)), (.int .i64 (.ofNat 9223372036854775807))] H) fun x66 H => 
  bR (f5 D n [x35, (.int .i64 (.ofNat 1))] H) fun x69 H => 
  bV (pExtract x69 0) fun x70 => 
  bV (pExtract x69 1) fun x71 => 
  bR (f4 D n [x35, (.int .i64 (.ofNat 1)), (.int .i64 (.ofNat 32768)), (.int .i64 (.ofNat 32766)), (.int .i64 (.ofNat 9))] H) fun x74 H => 
  bV (pExtract x74 0) fun x75 => 
  bV (pExtract x74 1) fun x76 => 
  bR (f8 D n [x35, (.int .i64 (.ofNat 1)), (.int .i64 (.ofNat 0))] H) fun x78 H => 
  bR (f5 D n [x35, (.int .i64 (.ofNat 1))] H) fun x81 H => 
  bV (pExtract x81 0) fun x82 => 
  bV (pExtract x81 1) fun x83 => 
  bR (f7 D n [x35, (.int .i64 (.ofNat 1)), (.int .i64 (.ofNat 32768)), (.str 0 0)] H) fun x85 H => 
  bR (f7 D n [.nilPtr, (.int .i64 (.ofNat 1)), (.int .i64 (.ofNat 0)), (.str 0 0)] H) fun x86 H => 
  bV (bInt .eql x86 (.int .i64 (.ofNat 2))) fun x87 => 
  jn (wnt x87 true (bR (f8 D n [.nilPtr, (.int .i64 (.ofNat 1)), (.int .i64 (.ofNat 0))] H) fun x89 H => 
  bV (bInt .eql x89 (.int .i64 (.ofNat 2))) fun x90 => 
  some (.norm [x90], H)) (some (.norm [undefA], H))) fun vs H => hd vs fun x90_2 vs => 
  bV (pk3 (some x87) (some x90_2) (some (.bool false))) fun x91 => 
  jn (wnt x91 true (bV (bInt .eql x30 (.int .i64 (.ofNat 2))) fun x94 => 
  some (.norm [x94], H)) (some (.norm [undefA], H))) fun vs H => hd vs fun x94_2 vs => 
  bV (pk3 (some x91) (some x94_2) (some (.bool false))) fun x95 => 
  jn (wnt x95 true (bV (bInt .eql x34 (.int .i64 (.ofNat 2))) fun x98 => 
  some (.norm [x98], H)) (some (.norm [undefA], H))) fun vs H => hd vs fun x98_2 vs => 
  bV (pk3 (some x95) (some x98_2) (some (.bool false))) fun x99 => 
  jn (wnt x99 true (bV (bInt .eql x42 (.int .i64 (.ofNat 1))) fun x102 => 
  some (.norm [x102], H)) (some (.norm [undefA], H))) fun vs H => hd vs fun x102_2 vs => 
  bV (pk3 (some x99) (some x102_2) (some (.bool false))) fun x103 => 
  jn (wnt x103 true (bV (bInt .eql x47 (.int .i64 (.ofNat 1))) fun x106 => 
  some (.norm [x106], H)) (some (.norm [undefA], H))) fun vs H => hd vs fun x106_2 vs => 
  bV (pk3 (some x103) (some x106_2) (some (.bool false))) fun x107 => 
  jn (wnt x107 true (bV (bInt .eql x52 (.int .i64 (.ofNat 1))) fun x110 => 
  some (.norm [x110], H)) (some (.norm [undefA], H))) fun vs H => hd vs fun x110_2 vs => 
  bV (pk3 (some x107) (some x110_2) (some (.bool false))) fun x111 => 
  jn (wnt x111 true (bV (bInt .eql x54 (.int .i64 (.ofNat 40))) fun x114 => 
  some (.norm [x114], H)) (some (.norm [undefA], H))) fun vs H => hd vs fun x114_2 vs => 
  bV (pk3 (some x111) (some x114_2) (some (.bool false))) fun x115 => 
  jn (wnt x115 true (bV (bInt .eql x56 (.int .i64 (.ofNat 0))) fun x118 => 
  some (.norm [x118], H)) (some (.norm [undefA], H))) fun vs H => hd vs fun x118_2 vs => 
  bV (pk3 (some x115) (some x118_2) (some (.bool false))) fun x119 => 
  jn (wnt x119 true (bV (bInt .eql x58 (.int .i64 (.ofNat 1))) fun x122 => 
  some (.norm [x122], H)) (some (.norm [undefA], H))) fun vs H => hd vs fun x122_2 vs => 
  bV (pk3 (some x119) (some x122_2) (some (.bool false))) fun x123 => 
  jn (wnt x123 true (bV (bInt .eql x60 (.int .i64 (.ofNat 1))) fun x126 => 
  some (.norm [x126], H)) (some (.norm [undefA], H))) fun vs H => hd vs fun x126_2 vs => 
  bV (pk3 (some x123) (some x126_2) (some (.bool false))) fun x127 => 
  jn (wnt x127 true (bV (bInt .eql x62 (.int .i64 (.ofNat 40))) fun x130 => 
  some (.norm [x130], H)) (some (.norm [undefA], H))) fun vs H => hd vs fun x130_2 vs => 
  bV (pk3 (some x127) (some x130_2) (some (.bool false))) fun x131 => 
  jn (wnt x131 true (bV (bInt .eql x64 (.int .i64 (.ofNat 1))) fun x134 => 
  some (.norm [x134], H)) (some (.norm [undefA], H))) fun vs H => hd vs fun x134_2 vs => 
  bV (pk3 (some x131) (some x134_2) (some (.bool false))) fun x135 => 
  jn (wnt x135 true (bV (bInt .eql x66 (.int .i64 (.ofNat 0))) fun x138 => 
  some (.norm [x138], H)) (some (.norm [undefA], H))) fun vs H => hd vs fun x138_2 vs => 
  bV (pk3 (some x135) (some x138_2) (some (.bool false))) fun x139 => 
  jn (wnt x139 true (bV (bInt .eql x70 (.int .i64 (.ofNat 1))) fun x142 => 
  some (.norm [x142], H)) (some (.norm [undefA], H))) fun vs H => hd vs fun x142_2 vs => 
  bV (pk3 (some x139) (some x142_2) (some (.bool false))) fun x143 => 
  jn (wnt x143 true (bV (bInt .eql x71 (.int .i64 (.ofNat 0))) fun x146 => 
  some (.norm [x146], H)) (some (.norm [undefA], H))) fun vs H => hd vs fun x146_2 vs => 
  bV (pk3 (some x143) (some x146_2) (some (.bool false))) fun x147 => 
  jn (wnt x147 true (bV (bStr .eql x75 (.str 2 24832)) fun x150 => 
  some (.norm [x150], H)) (some (.norm [undefA], H))) fun vs H => hd vs fun x150_2 vs => 
  bV (pk3 (some x147) (some x150_2) (some (.bool false))) fun x151 => 
  jn (wnt x151 true (bV (bInt .eql x76 (.int .i64 (.ofNat 0))) fun x154 => 
  some (.norm [x154], H)) (some (.norm [undefA], H))) fun vs H => hd vs fun x154_2 vs => 
  bV (pk3 (some x151) (some x154_2) (some (.bool false))) fun x155 => 
  jn (wnt x155 true (bV (bInt .eql x78 (.int .i64 (.ofNat 0))) fun x158 => 
  some (.norm [x158], H)) (some (.norm [undefA], H))) fun vs H => hd vs fun x158_2 vs => 
  bV (pk3 (some x155) (some x158_2) (some (.bool false))) fun x159 => 
  jn (wnt x159 true (bV (bInt .eql x82 (.int .i64 (.ofNat 0))) fun x162 => 
  some (.norm [x162], H)) (some (.norm [undefA], H))) fun vs H => hd vs fun x162_2 vs => 
  bV (pk3 (some x159) (some x162_2) (some (.bool false))) fun x163 => 
  jn (wnt x163 true (bV (bInt .eql x83 (.int .i64 (.ofNat 0))) fun x166 => 
  some (.norm [x166], H)) (some (.norm [undefA], H))) fun vs H => hd vs fun x166_2 vs => 
  bV (pk3 (some x163) (some x166_2) (some (.bool false))) fun x167 => 
  jn (wnt x167 true (bV (bInt .eql x85 (.int .i64 (.ofNat 0))) fun x170 => 
  some (.norm [x170], H)) (some (.norm [undefA], H))) fun vs H => hd vs fun x170_2 vs => 
  bV (pk3 (some x167) (some x170_2) (some (.bool false))) fun x171 => 
  bV (pk3 (some x171) (some (.bool true)) (some (.bool false))) fun x173 => 
  jn (wnt x173 true (bR (f9 D n [] H) fun x175 H => 
  some (.norm [x175], H)) (some (.norm [undefA], H))) fun vs H => hd vs fun x175_2 vs => 
  bV (pk3 (some x173) (some x175_2) (some (.bool false))) fun x176 => 
  bV (some x176) fun x0_2 => some (.ret x0_2, H)))
def h3 : Hint := (.s .o (.s .o (.s .o (.s .o (.s (.s .o (.cl (.s .o .o) .o)) (.s .o (.s .o (.s .o (.s .o (.s .o (.s .o (.s .o (.s .o (.s .o (.s .o (.s .o (.s .o .o)))))))))))))))))
theorem f3_eq (D : Dyn) (n : Nat) : f3 D n = funKp (s3 D n) D n 3 Tryz.f3 h3 := by kernel_rfl
theorem f3_ok {D : Dyn} (hD : DP D) (n : Nat) : FP 3 (f3 D n) := fun_okP X_ok hD (SP.cons (f4_ok hD n) (SP.cons (f5_ok hD n) (SP.cons (f6_ok hD n) (SP.cons (f7_ok hD n) (SP.cons (f8_ok hD n) (SP.cons (f9_ok hD n) (SP.nil))))))) Tryz.func3 (by kernel_rfl) (by kernel_rfl) (f3_eq D n)
end Go.Eng.Sh
