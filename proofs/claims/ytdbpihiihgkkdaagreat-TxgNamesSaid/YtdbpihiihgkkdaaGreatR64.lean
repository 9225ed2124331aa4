/- Shallow functions, by program (gen.py). -/
import Derived.Test.YtdbpihiihgkkdaaGreatR63
import Derived.Test.YtdbpihiihgkkdaaGreatProg
import Derived.KernelRfl
noncomputable section
namespace Go.Eng.Sh
open Go.Proofs
set_option maxRecDepth 100000
set_option linter.all false
def s201 (D : Dyn) (n : Nat) : Tb := ⟨X, [(268, f268 D n)]⟩
def f201j0 (D : Dyn) (n : Nat) (vs : List AV) (H : AH) : Rs :=
  hd vs fun x0_3 vs => hd vs fun x3_2 vs => hd vs fun x9_2 vs => hd vs fun x10_3 vs => hd vs fun x11_2 vs => 
  bV (bInt .add x11_2 (.int .i64 (.ofNat 1))) fun x22 => 
  some (.norm [x0_3, x3_2, x9_2, x10_3, x22], H)
def f201l1 (D : Dyn) (n : Nat) (vs : List AV) (H : AH) : Rs :=
  hd vs fun x0_2 vs => hd vs fun x3 vs => hd vs fun x9 vs => hd vs fun x10_2 vs => hd vs fun x11 vs => 
  bV (bInt .lss x11 x10_2) fun x12 => 
  cnd x12 (bV (ixSl 1 x9 x11) fun x13 => 
  bV (ld1p x13 H) fun x14 => 
  bV (lnSl x14) fun x17 => 
  bV (bInt .add x3 x17) fun x18 => 
  bV (bInt .lss x18 (.int .i64 (.ofNat 0))) fun x20 => 
  jn (cnd x20 (none)
  (some (.norm [x0_2, x18, x9, x10_2, x11], H))) (f201j0 D n))
  (some (.exit 0 [x0_2, x3], H))
def f201l2 (D : Dyn) (n : Nat) (vs : List AV) (H : AH) : Rs :=
  hd vs fun x6 vs => hd vs fun x25 vs => hd vs fun x26_2 vs => hd vs fun x27 vs => 
  bV (bInt .lss x27 x26_2) fun x28 => 
  cnd x28 (bV (ixSl 1 x25 x27) fun x29 => 
  bV (ld1p x29 H) fun x30 => 
  bR (apPp 9 1 16 x6 x30 H) fun x33 H => 
  bV (bInt .add x27 (.int .i64 (.ofNat 1))) fun x34 => 
  some (.norm [x33, x25, x26_2, x34], H))
  (some (.exit 2 [x6], H))
def f201b3 (D : Dyn) (n : Nat) (vs : List AV) (H : AH) : Rs :=
  hd vs fun x6_2 vs => 
  bV (some x6_2) fun x2 => some (.ret x2, H)
def f201b4 (D : Dyn) (n : Nat) (vs : List AV) (H : AH) : Rs :=
  hd vs fun x0_4 vs => hd vs fun x3_3 vs => 
  bR (f268 D n [.nilSlice, x3_3] H) fun x24 H => 
  bV (lnSl x0_4) fun x26 => 
  jb 2 (loopK n (f201l2 D n) [x24, x0_4, x26, (.int .i64 (.ofNat 0))] H) (f201b3 D n)
/-- slices.Concat[[]string,string] -/
def f201 (D : Dyn) (n : Nat) (vs : List AV) (H : AH) : Option (AV × AH) :=
  outR (hd vs fun x0 vs => nl vs <|
  bV (lnSl x0) fun x10 => 
  jb 0 (loopK n (f201l1 D n) [x0, (.int .i64 (.ofNat 0)), x0, x10, (.int .i64 (.ofNat 0))] H) (f201b4 D n))
def h201 : Hint := (.s .o (.s .o (.s (.s .o (.b [0, 3] (.l [0, 3, 9, 10, 11] (.s .o (.s (.cr .o .o) (.s (.b0 (.s .o (.s .o (.s .o (.c [0, 3, 9, 10, 11] .o .o))))) .o)))))) (.s .o (.s (.s .o (.b [6] (.l [6, 25, 26, 27] (.s .o (.s (.cr .o .o) (.s (.b0 (.s .o .o)) .o)))))) (.s .o .o))))))
theorem f201_eq (D : Dyn) (n : Nat) : f201 D n = funKp (s201 D n) D n 201 Tryz.f201 h201 := by kernel_rfl
theorem f201_ok {D : Dyn} (hD : DP D) (n : Nat) : FP 201 (f201 D n) := fun_okP X_ok hD (SP.cons (f268_ok hD n) (SP.nil)) Tryz.func201 (by kernel_rfl) (by kernel_rfl) (f201_eq D n)

def s286 (D : Dyn) (n : Nat) : Tb := ⟨X, []⟩
def f286j0 (D : Dyn) (n : Nat) (vs : List AV) (H : AH) : Rs :=
  hd vs fun x0_3 vs => 
  bV (some x0_3) fun x4 => some (.ret x4, H)
def f286j1 (D : Dyn) (n : Nat) (vs : List AV) (H : AH) : Rs :=
  hd vs fun x0_2 vs => hd vs fun x1_2 vs => 
  bV (acap X 55 x0_2) fun x10 => 
  bV (lnSl x0_2) fun x12 => 
  bV (bInt .sub x10 x12) fun x13 => 
  bV (bInt .sub x1_2 x13) fun x14 => 
  bV (bInt .gtr x14 (.int .i64 (.ofNat 0))) fun x16 => 
  jn (cnd x16 (bV (acap X 55 x0_2) fun x19 => 
  bV (slSlp 3 x0_2 none (some x19) none H) fun x20 => 
  bR (apZp 52 3 24 [(.int .i64 (.ofNat 0)), (.int .i64 (.ofNat 0)), (.int .u64 (.ofNat 0))] x20 x14 H) fun x22 H => 
  bV (lnSl x0_2) fun x24 => 
  bV (slSlp 3 x22 none (some x24) none H) fun x25 => 
  some (.norm [x25], H))
  (some (.norm [x0_2], H))) (f286j0 D n)
/-- slices.Grow[[]jetty/api.Ptr,jetty/api.Ptr] -/
def f286 (D : Dyn) (n : Nat) (vs : List AV) (H : AH) : Option (AV × AH) :=
  outR (hd vs fun x0 vs => hd vs fun x1 vs => nl vs <|
  bV (bInt .lss x1 (.int .i64 (.ofNat 0))) fun x6 => 
  jn (cnd x6 (none)
  (some (.norm [x0, x1], H))) (f286j1 D n))
def h286 : Hint := (.s .o (.s (.s .o (.c [0, 1] .o .o)) (.s (.s .o (.s .o (.c [0] .o .o))) (.s .o .o))))
theorem f286_eq (D : Dyn) (n : Nat) : f286 D n = funKp (s286 D n) D n 286 Tryz.f286 h286 := by kernel_rfl
theorem f286_ok {D : Dyn} (hD : DP D) (n : Nat) : FP 286 (f286 D n) := fun_okP X_ok hD (SP.nil) Tryz.func286 (by kernel_rfl) (by kernel_rfl) (f286_eq D n)

def s257 (D : Dyn) (n : Nat) : Tb := ⟨X, [(286, f286 D n)]⟩
def f257j0 (D : Dyn) (n : Nat) (vs : List AV) (H : AH) : Rs :=
  hd vs fun x0_3 vs => hd vs fun x3_2 vs => hd vs fun x9_2 vs => hd vs fun x10_3 vs => hd vs fun x11_2 vs => 
  bV (bInt .add x11_2 (.int .i64 (.ofNat 1))) fun x22 => 
  some (.norm [x0_3, x3_2, x9_2, x10_3, x22], H)
def f257l1 (D : Dyn) (n : Nat) (vs : List AV) (H : AH) : Rs :=
  hd vs fun x0_2 vs => hd vs fun x3 vs => hd vs fun x9 vs => hd vs fun x10_2 vs => hd vs fun x11 vs => 
  bV (bInt .lss x11 x10_2) fun x12 => 
  cnd x12 (bV (ixSl 1 x9 x11) fun x13 => 
  bV (ld1p x13 H) fun x14 => 
  bV (lnSl x14) fun x17 => 
  bV (bInt .add x3 x17) fun x18 => 
  bV (bInt .lss x18 (.int .i64 (.ofNat 0))) fun x20 => 
  jn (cnd x20 (none)
  (some (.norm [x0_2, x18, x9, x10_2, x11], H))) (f257j0 D n))
  (some (.exit 0 [x0_2, x3], H))
def f257l2 (D : Dyn) (n : Nat) (vs : List AV) (H : AH) : Rs :=
  hd vs fun x6 vs => hd vs fun x25 vs => hd vs fun x26_2 vs => hd vs fun x27 vs => 
  bV (bInt .lss x27 x26_2) fun x28 => 
  cnd x28 (bV (ixSl 1 x25 x27) fun x29 => 
  bV (ld1p x29 H) fun x30 => 
  bR (apPp 52 3 24 x6 x30 H) fun x33 H => 
  bV (bInt .add x27 (.int .i64 (.ofNat 1))) fun x34 => 
  some (.norm [x33, x25, x26_2, x34], H))
  (some (.exit 2 [x6], H))
def f257b3 (D : Dyn) (n : Nat) (vs : List AV) (H : AH) : Rs :=
  hd vs fun x6_2 vs => 
  bV (some x6_2) fun x2 => some (.ret x2, H)
def f257b4 (D : Dyn) (n : Nat) (vs : List AV) (H : AH) : Rs :=
  hd vs fun x0_4 vs => hd vs fun x3_3 vs => 
  bR (f286 D n [.nilSlice, x3_3] H) fun x24 H => 
  bV (lnSl x0_4) fun x26 => 
  jb 2 (loopK n (f257l2 D n) [x24, x0_4, x26, (.int .i64 (.ofNat 0))] H) (f257b3 D n)
/-- slices.Concat[[]jetty/api.Ptr,jetty/api.Ptr] -/
def f257 (D : Dyn) (n : Nat) (vs : List AV) (H : AH) : Option (AV × AH) :=
  outR (hd vs fun x0 vs => nl vs <|
  bV (lnSl x0) fun x10 => 
  jb 0 (loopK n (f257l1 D n) [x0, (.int .i64 (.ofNat 0)), x0, x10, (.int .i64 (.ofNat 0))] H) (f257b4 D n))
def h257 : Hint := (.s .o (.s .o (.s (.s .o (.b [0, 3] (.l [0, 3, 9, 10, 11] (.s .o (.s (.cr .o .o) (.s (.b0 (.s .o (.s .o (.s .o (.c [0, 3, 9, 10, 11] .o .o))))) .o)))))) (.s .o (.s (.s .o (.b [6] (.l [6, 25, 26, 27] (.s .o (.s (.cr .o .o) (.s (.b0 (.s .o .o)) .o)))))) (.s .o .o))))))
theorem f257_eq (D : Dyn) (n : Nat) : f257 D n = funKp (s257 D n) D n 257 Tryz.f257 h257 := by kernel_rfl
theorem f257_ok {D : Dyn} (hD : DP D) (n : Nat) : FP 257 (f257 D n) := fun_okP X_ok hD (SP.cons (f286_ok hD n) (SP.nil)) Tryz.func257 (by kernel_rfl) (by kernel_rfl) (f257_eq D n)

def s255 (D : Dyn) (n : Nat) : Tb := ⟨X, [(190, f190 D n), (284, f284 D n), (201, f201 D n), (257, f257 D n)]⟩
/-- jetty/node.Join -/
def f255 (D : Dyn) (n : Nat) (vs : List AV) (H : AH) : Option (AV × AH) :=
  outR (hd vs fun x0 vs => hd vs fun x1 vs => hd vs fun x2 vs => nl vs <|
  bA (bxV 57 x0) H fun x3 H => 
  bA (bxV 57 x2) H fun x5 H => 
  bA (bxV 57 (.agg [(.bool false), .nilSlice, .nilSlice, .nilSlice])) H fun x6 H => 
  bV (ldNp 4 x3 H) fun x8 => 
  bR (f190 D n [x8] H) fun x9 H => 
  bV (aun .not x9) fun x10 => 
  jn (wnt x10 false (bV (ldNp 4 x5 H) fun x12 => 
  bR (f190 D n [x12] H) fun x13 H => 
  bV (aun .not x13) fun x14 => 
  some (.norm [x14], H)) (some (.norm [undefA], H))) fun vs H => hd vs fun x14_2 vs => 
  bV (pk3 (some x10) (some (.bool true)) (some x14_2)) fun x15 => 
  jn (wnt x15 false (bV (ldNp 4 x3 H) fun x17 => 
  bV (ldNp 4 x5 H) fun x19 => 
  bR (f284 D n [x17, x1, x19] H) fun x20 H => 
  bV (aun .not x20) fun x21 => 
  some (.norm [x21], H)) (some (.norm [undefA], H))) fun vs H => hd vs fun x21_2 vs => 
  bV (pk3 (some x15) (some (.bool true)) (some x21_2)) fun x22 => 
  cnd x22 (bV (bldSp [(0, 1), (1, 1), (2, 1), (3, 1)] [(.bool false), .nilSlice, .nilSlice, .nilSlice] []) fun x23 => 
  bR (stNp 4 x6 x23 H) fun x9999 H => 
  bV (ldNp 4 x6 H) fun x9006 => bV (some (.int .i64 (.ofNat 1))) fun x7 => some (.ret (.tuple [x9006, x7]), H))
  (bV (fAd 0 x3) fun x24 => 
  bV (ld1p x24 H) fun x25 => 
  cnd x25 (bV (fAd 1 x3) fun x26 => 
  bV (ld1p x26 H) fun x27 => 
  bV (fAd 1 x5) fun x28 => 
  bV (ld1p x28 H) fun x29 => 
  bA (bldLp 54 1 2 [.nilSlice] [(0, x27), (1, x29)]) H fun x30 H => 
  bV (fAd 2 x3) fun x32 => 
  bV (ld1p x32 H) fun x33 => 
  bV (fAd 2 x5) fun x34 => 
  bV (ld1p x34 H) fun x35 => 
  bA (bldLp 54 1 2 [.nilSlice] [(0, x33), (1, x35)]) H fun x36 H => 
  bR (f201 D n [x30] H) fun x31 H => chk (ld1p x32 H) x33 <| chk (ld1p x34 H) x35 <| 
  bR (f201 D n [x36] H) fun x37 H => 
  bV (bldSp [(0, 1), (1, 1), (2, 1), (3, 1)] [(.bool false), .nilSlice, .nilSlice, .nilSlice] [(0, (.bool true)), (1, x31), (2, x37)]) fun x38 => 
  bR (stNp 4 x6 x38 H) fun x9999_2 H => 
  bV (ldNp 4 x6 H) fun x9006_2 => bV (some (.int .i64 (.ofNat 0))) fun x7_2 => some (.ret (.tuple [x9006_2, x7_2]), H))
  (bV (fAd 1 x3) fun x39 => 
  bV (ld1p x39 H) fun x40 => 
  bA (bldLp 9 1 1 [(.str 0 0)] [(0, x1)]) H fun x42 H => 
  bV (fAd 1 x5) fun x43 => 
  bV (ld1p x43 H) fun x44 => 
  bA (bldLp 54 1 3 [.nilSlice] [(0, x40), (1, x42), (2, x44)]) H fun x45 H => 
  bV (fAd 3 x3) fun x47 => 
  bV (ld1p x47 H) fun x48 => 
  bV (fAd 3 x5) fun x49 => 
  bV (ld1p x49 H) fun x50 => 
  bA (bldLp 55 1 2 [.nilSlice] [(0, x48), (1, x50)]) H fun x51 H => 
  bR (f201 D n [x45] H) fun x46 H => chk (ld1p x47 H) x48 <| chk (ld1p x49 H) x50 <| 
  bR (f257 D n [x51] H) fun x52 H => 
  bV (bldSp [(0, 1), (1, 1), (2, 1), (3, 1)] [(.bool false), .nilSlice, .nilSlice, .nilSlice] [(1, x46), (3, x52)]) fun x53 => 
  bR (stNp 4 x6 x53 H) fun x9999_3 H => 
  bV (ldNp 4 x6 H) fun x9006_3 => bV (some (.int .i64 (.ofNat 0))) fun x7_3 => some (.ret (.tuple [x9006_3, x7_3]), H))))
def h255 : Hint := (.s .o (.s (.s .o (.cl (.s .o .o) .o)) (.s (.s .o (.cl (.s .o .o) .o)) (.s .o .o))))
theorem f255_eq (D : Dyn) (n : Nat) : f255 D n = funKp (s255 D n) D n 255 Tryz.f255 h255 := by kernel_rfl
theorem f255_ok {D : Dyn} (hD : DP D) (n : Nat) : FP 255 (f255 D n) := fun_okP X_ok hD (SP.cons (f190_ok hD n) (SP.cons (f284_ok hD n) (SP.cons (f201_ok hD n) (SP.cons (f257_ok hD n) (SP.nil))))) Tryz.func255 (by kernel_rfl) (by kernel_rfl) (f255_eq D n)

def s187 (D : Dyn) (n : Nat) : Tb := ⟨X, [(254, f254 D n), (90, f90 D n), (188, f188 D n), (255, f255 D n), (256, f256 D n), (201, f201 D n), (258, f258 D n), (257, f257 D n)]⟩
def f187j0 (D : Dyn) (n : Nat) (vs : List AV) (H : AH) : Rs :=
  hd vs fun x0_3 vs => hd vs fun x5_3 vs => hd vs fun x7_3 vs => hd vs fun x8_3 vs => hd vs fun x10 vs => hd vs fun x11 vs => hd vs fun x14 vs => 
  bV (bInt .neq x14 (.int .i64 (.ofNat 0))) fun x85 => 
  cnd x85 (bV (bldSp [(0, 1), (1, 1), (2, 1), (3, 1)] [(.bool false), .nilSlice, .nilSlice, .nilSlice] []) fun x86 => 
  bR (stNp 4 x8_3 x86 H) fun x9999_5 H => 
  bV (ldNp 4 x8_3 H) fun x9008_2 => bV (some (.int .i64 (.ofNat 4))) fun x9_2 => some (.ret (.tuple [x9008_2, x9_2]), H))
  (some (.norm [x0_3, x5_3, x7_3, x8_3, x10, x11], H))
def f187j1 (D : Dyn) (n : Nat) (vs : List AV) (H : AH) : Rs :=
  hd vs fun x0_2 vs => hd vs fun x2_2 vs => hd vs fun x5_2 vs => hd vs fun x7_2 vs => hd vs fun x8_2 vs => hd vs fun x12 vs => 
  bV (pNil x0_2) fun x30 => 
  bV (fAd 0 x30) fun x31 => 
  bV (ld1p x31 H) fun x32 => 
  bV (fAd 3 x5_2) fun x33 => 
  bV (ld1p x33 H) fun x34 => 
  bV (ixSl 3 x34 x12) fun x36 => 
  bV (ldNp 3 x36 H) fun x37 => 
  bA (bxV 57 (.agg [(.bool false), .nilSlice, .nilSlice, .nilSlice])) H fun x13 H => 
  bR (f90 D n [x32, x37] H) fun x38 H => 
  bV (pExtract x38 0) fun x39 => 
  bV (pExtract x38 1) fun x40 => 
  bR (stNp 4 x13 x39 H) fun x9999 H => 
  bV (bInt .neq x40 (.int .i64 (.ofNat 0))) fun x42 => 
  cnd x42 (bV (bldSp [(0, 1), (1, 1), (2, 1), (3, 1)] [(.bool false), .nilSlice, .nilSlice, .nilSlice] []) fun x43 => 
  bR (stNp 4 x8_2 x43 H) fun x9999_2 H => 
  bV (ldNp 4 x8_2 H) fun x9008 => bV (some x40) fun x9 => some (.ret (.tuple [x9008, x9]), H))
  (bV (fAd 3 x5_2) fun x46 => 
  bV (ld1p x46 H) fun x47 => 
  bV (ixSl 3 x47 x12) fun x49 => 
  bV (ldNp 3 x49 H) fun x50 => 
  bR (f188 D n [x0_2, x50] H) fun x51 H => 
  bV (mn2 x2_2 x12) fun x54 => 
  bV (mx2 x2_2 x12) fun x57 => 
  bV (bInt .add x57 (.int .i64 (.ofNat 1))) fun x58 => 
  bV (bInt .lss x12 x2_2) fun x61 => 
  jn (cnd x61 (bV (ldNp 4 x13 H) fun x63 => 
  bV (fAd 1 x5_2) fun x64 => 
  bV (ld1p x64 H) fun x65 => 
  bV (ixSl 1 x65 x54) fun x67 => 
  bV (ld1p x67 H) fun x68 => 
  bV (ldNp 4 x7_2 H) fun x69 => 
  bR (f255 D n [x63, x68, x69] H) fun x70 H => 
  bV (pExtract x70 0) fun x71 => 
  bV (pExtract x70 1) fun x72 => 
  bR (stNp 4 x7_2 x71 H) fun x9999_3 H => 
  some (.norm [x0_2, x5_2, x7_2, x8_2, x54, x58, x72], H))
  (bV (ldNp 4 x7_2 H) fun x74 => 
  bV (fAd 1 x5_2) fun x75 => 
  bV (ld1p x75 H) fun x76 => 
  bV (ixSl 1 x76 x54) fun x78 => 
  bV (ld1p x78 H) fun x79 => 
  bV (ldNp 4 x13 H) fun x80 => 
  bR (f255 D n [x74, x79, x80] H) fun x81 H => 
  bV (pExtract x81 0) fun x82 => 
  bV (pExtract x81 1) fun x83 => 
  bR (stNp 4 x7_2 x82 H) fun x9999_4 H => 
  some (.norm [x0_2, x5_2, x7_2, x8_2, x54, x58, x83], H))) (f187j0 D n))
def f187j2 (D : Dyn) (n : Nat) (vs : List AV) (H : AH) : Rs :=
  hd vs fun x0_4 vs => hd vs fun x5_4 vs => hd vs fun x7_4 vs => hd vs fun x8_4 vs => hd vs fun x10_2 vs => hd vs fun x11_2 vs => 
  bV (ldNp 4 x7_4 H) fun x88 => 
  bR (f256 D n [x88] H) fun x89 H => 
  bV (pExtract x89 0) fun x90 => 
  bV (pExtract x89 1) fun x91 => 
  bV (pExtract x89 2) fun x92 => 
  bV (bInt .neq x92 (.int .i64 (.ofNat 0))) fun x94 => 
  cnd x94 (bV (bldSp [(0, 1), (1, 1), (2, 1), (3, 1)] [(.bool false), .nilSlice, .nilSlice, .nilSlice] []) fun x95 => 
  bR (stNp 4 x8_4 x95 H) fun x9999_6 H => 
  bV (ldNp 4 x8_4 H) fun x9008_3 => bV (some x92) fun x9_3 => some (.ret (.tuple [x9008_3, x9_3]), H))
  (bV (fAd 1 x5_4) fun x97 => 
  bV (ld1p x97 H) fun x98 => 
  bV (slSlp 1 x98 none (some x10_2) (some x10_2) H) fun x101 => 
  bV (fAd 1 x5_4) fun x103 => 
  bV (ld1p x103 H) fun x104 => 
  bV (bInt .sub x11_2 (.int .i64 (.ofNat 1))) fun x106 => 
  bV (slSlp 1 x104 (some x106) none none H) fun x107 => 
  bA (bldLp 54 1 3 [.nilSlice] [(0, x101), (1, x91), (2, x107)]) H fun x108 H => 
  bV (fAd 3 x5_4) fun x110 => 
  bV (ld1p x110 H) fun x111 => 
  bV (slSlp 3 x111 none (some x10_2) (some x10_2) H) fun x114 => 
  bV (fAd 3 x5_4) fun x118 => 
  bV (ld1p x118 H) fun x119 => 
  bV (slSlp 3 x119 (some x11_2) none none H) fun x121 => 
  bR (f201 D n [x108] H) fun x109 H => chk (ld1p x110 H) x111 <| chk (slSlp 3 x111 none (some x10_2) (some x10_2) H) x114 <| chk (ld1p x118 H) x119 <| chk (slSlp 3 x119 (some x11_2) none none H) x121 <| 
  bR (f258 D n [x0_4, x90] H) fun x117 H => chk (ld1p x110 H) x111 <| chk (slSlp 3 x111 none (some x10_2) (some x10_2) H) x114 <| chk (ld1p x118 H) x119 <| chk (slSlp 3 x119 (some x11_2) none none H) x121 <| 
  bA (bldLp 55 1 3 [.nilSlice] [(0, x114), (1, x117), (2, x121)]) H fun x122 H => 
  bR (f257 D n [x122] H) fun x123 H => 
  bV (bldSp [(0, 1), (1, 1), (2, 1), (3, 1)] [(.bool false), .nilSlice, .nilSlice, .nilSlice] [(1, x109), (3, x123)]) fun x124 => 
  bR (stNp 4 x8_4 x124 H) fun x9999_7 H => 
  bV (ldNp 4 x8_4 H) fun x9008_4 => bV (some (.int .i64 (.ofNat 0))) fun x9_4 => some (.ret (.tuple [x9008_4, x9_4]), H))
/-- (*jetty/tree.change).place -/
def f187 (D : Dyn) (n : Nat) (vs : List AV) (H : AH) : Option (AV × AH) :=
  outR (hd vs fun x0 vs => hd vs fun x1 vs => hd vs fun x2 vs => hd vs fun x3 vs => nl vs <|
  bA (bxV 57 x1) H fun x5 H => 
  bA (bxV 57 x3) H fun x7 H => 
  bA (bxV 57 (.agg [(.bool false), .nilSlice, .nilSlice, .nilSlice])) H fun x8 H => 
  bV (bInt .add x2 (.int .i64 (.ofNat 1))) fun x20 => 
  bV (ldNp 4 x7 H) fun x21 => 
  bR (f254 D n [x21] H) fun x22 H => 
  bV (bInt .lss x22 (.int .i64 (.ofNat 160))) fun x23 => 
  jn (cnd x23 (bV (bInt .sub x2 (.int .i64 (.ofNat 1))) fun x25 => 
  bV (bInt .eql x2 (.int .i64 (.ofNat 0))) fun x27 => 
  jn (cnd x27 (some (.norm [x0, x2, x5, x7, x8, (.int .i64 (.ofNat 1))], H))
  (some (.norm [x0, x2, x5, x7, x8, x25], H))) (f187j1 D n))
  (some (.norm [x0, x5, x7, x8, x2, x20], H))) (f187j2 D n))
def h187 : Hint := (.s .o (.s .o (.s (.s .o (.c [0, 5, 7, 8, 10, 11] (.s .o (.s (.s .o (.c [0, 2, 5, 7, 8, 12] .o .o)) (.s .o (.s (.s .o (.cl (.s .o .o) .o)) (.s .o (.s .o (.s (.s .o (.c [0, 5, 7, 8, 10, 11, 14] .o .o)) (.s .o (.cl (.s .o .o) .o))))))))) .o)) (.s .o (.s (.s .o (.cl (.s .o .o) .o)) (.s .o .o))))))
theorem f187_eq (D : Dyn) (n : Nat) : f187 D n = funKp (s187 D n) D n 187 Tryz.f187 h187 := by kernel_rfl
theorem f187_ok {D : Dyn} (hD : DP D) (n : Nat) : FP 187 (f187 D n) := fun_okP X_ok hD (SP.cons (f254_ok hD n) (SP.cons (f90_ok hD n) (SP.cons (f188_ok hD n) (SP.cons (f255_ok hD n) (SP.cons (f256_ok hD n) (SP.cons (f201_ok hD n) (SP.cons (f258_ok hD n) (SP.cons (f257_ok hD n) (SP.nil))))))))) Tryz.func187 (by kernel_rfl) (by kernel_rfl) (f187_eq D n)

def s186 (D : Dyn) (n : Nat) : Tb := ⟨X, [(89, f89 D n), (90, f90 D n), (91, f91 D n), (187, f187 D n), (188, f188 D n)]⟩
def f186j0 (D : Dyn) (n : Nat) (vs : List AV) (H : AH) : Rs :=
  hd vs fun x6_2 vs => hd vs fun x7_2 vs => hd vs fun x8_2 vs => hd vs fun x10_2 vs => hd vs fun x11 vs => 
  some (.norm [x6_2, x7_2, x8_2, x10_2, x11], H)
def f186j1 (D : Dyn) (n : Nat) (vs : List AV) (H : AH) : Rs :=
  hd vs fun x6_3 vs => hd vs fun x7_3 vs => hd vs fun x8_3 vs => hd vs fun x10_3 vs => hd vs fun x11_2 vs => 
  bV (bInt .neq x11_2 (.int .i64 (.ofNat 0))) fun x63 => 
  cnd x63 (bV (bldSp [(0, 1), (1, 1), (2, 1), (3, 1)] [(.bool false), .nilSlice, .nilSlice, .nilSlice] []) fun x64 => 
  bR (stNp 4 x8_3 x64 H) fun x9999_8 H => 
  bV (ldNp 4 x8_3 H) fun x9008_3 => bV (some x11_2) fun x9_3 => some (.ret (.tuple [x9008_3, x9_3]), H))
  (bV (ld1p x6_3 H) fun x66 => 
  bV (ldNp 3 x7_3 H) fun x67 => 
  bR (f188 D n [x66, x67] H) fun x68 H => 
  bV (ldNp 4 x10_3 H) fun x69 => 
  bR (stNp 4 x8_3 x69 H) fun x9999_9 H => 
  bV (ldNp 4 x8_3 H) fun x9008_4 => bV (some (.int .i64 (.ofNat 0))) fun x9_4 => some (.ret (.tuple [x9008_4, x9_4]), H))
/-- (*jetty/tree.Tree).change$1 -/
def f186 (D : Dyn) (n : Nat) (vs : List AV) (H : AH) : Option (AV × AH) :=
  outR (hd vs fun x0 vs => hd vs fun x1 vs => hd vs fun x2 vs => hd vs fun x3 vs => hd vs fun x4 vs => hd vs fun x5 vs => hd vs fun x6 vs => nl vs <|
  bA (bxV 52 x0) H fun x7 H => 
  bA (bxV 57 (.agg [(.bool false), .nilSlice, .nilSlice, .nilSlice])) H fun x8 H => 
  bV (ld1p x1 H) fun x14 => 
  bV (bInt .add x14 (.int .i64 (.ofNat 1))) fun x15 => 
  bR (stNp 1 x1 x15 H) fun x9999 H => 
  bV (ld1p x1 H) fun x16 => 
  bV (ld1p x2 H) fun x17 => 
  bR (f89 D n [x17] H) fun x18 H => chk (ld1p x1 H) x16 <| 
  bV (bInt .gtr x16 x18) fun x19 => 
  cnd x19 (bV (bldSp [(0, 1), (1, 1), (2, 1), (3, 1)] [(.bool false), .nilSlice, .nilSlice, .nilSlice] []) fun x20 => 
  bR (stNp 4 x8 x20 H) fun x9999_2 H => 
  bV (ldNp 4 x8 H) fun x9008 => bV (some (.int .i64 (.ofNat 4))) fun x9 => some (.ret (.tuple [x9008, x9]), H))
  (bV (ld1p x2 H) fun x22 => 
  bV (ldNp 3 x7 H) fun x23 => 
  bR (f90 D n [x22, x23] H) fun x24 H => 
  bV (pExtract x24 0) fun x25 => 
  bV (pExtract x24 1) fun x26 => 
  bA (bxV 57 (.agg [(.bool false), .nilSlice, .nilSlice, .nilSlice])) H fun x10 H => 
  bR (stNp 4 x10 x25 H) fun x9999_3 H => 
  bV (bInt .neq x26 (.int .i64 (.ofNat 0))) fun x28 => 
  cnd x28 (bV (bldSp [(0, 1), (1, 1), (2, 1), (3, 1)] [(.bool false), .nilSlice, .nilSlice, .nilSlice] []) fun x29 => 
  bR (stNp 4 x8 x29 H) fun x9999_4 H => 
  bV (ldNp 4 x8 H) fun x9008_2 => bV (some x26) fun x9_2 => some (.ret (.tuple [x9008_2, x9_2]), H))
  (bV (fAd 0 x10) fun x31 => 
  bV (ld1p x31 H) fun x32 => 
  jn (cnd x32 (bV (ld1p x3 H) fun x34 => 
  bV (ldNp 4 x10 H) fun x35 => 
  bR (callV (s186 D n).S D x34 [x35] H) fun x36 H => 
  bV (pExtract x36 0) fun x37 => 
  bV (pExtract x36 1) fun x38 => 
  bR (stNp 4 x10 x37 H) fun x9999_5 H => 
  some (.norm [x6, x7, x8, x10, x38], H))
  (bV (ldNp 4 x10 H) fun x39 => 
  bV (ld1p x4 H) fun x40 => 
  bR (f91 D n [x39, x40] H) fun x41 H => 
  bA (bxV 57 (.agg [(.bool false), .nilSlice, .nilSlice, .nilSlice])) H fun x13 H => 
  bV (ld1p x5 H) fun x43 => 
  bV (fAd 3 x10) fun x44 => 
  bV (ld1p x44 H) fun x45 => 
  bV (ixSl 3 x45 x41) fun x47 => 
  bV (ldNp 3 x47 H) fun x48 => 
  bR (callV (s186 D n).S D x43 [x48] H) fun x49 H => 
  bV (pExtract x49 0) fun x50 => 
  bV (pExtract x49 1) fun x51 => 
  bR (stNp 4 x13 x50 H) fun x9999_6 H => 
  bV (bInt .eql x51 (.int .i64 (.ofNat 0))) fun x53 => 
  jn (cnd x53 (bV (ld1p x6 H) fun x55 => 
  bV (ldNp 4 x10 H) fun x56 => 
  bV (ldNp 4 x13 H) fun x58 => 
  bR (f187 D n [x55, x56, x41, x58] H) fun x59 H => 
  bV (pExtract x59 0) fun x60 => 
  bV (pExtract x59 1) fun x61 => 
  bR (stNp 4 x10 x60 H) fun x9999_7 H => 
  some (.norm [x6, x7, x8, x10, x61], H))
  (some (.norm [x6, x7, x8, x10, x51], H))) (f186j0 D n))) (f186j1 D n))))
def h186 : Hint := (.s .o (.s (.s .o (.s .o (.cl (.s .o .o) .o))) (.s .o (.s (.s .o (.cl (.s .o .o) .o)) (.s (.s .o (.c [6, 7, 8, 10, 11] .o (.s .o (.s .o (.s .o (.s .o (.c [6, 7, 8, 10, 11] .o .o))))))) (.s (.s .o (.cl (.s .o .o) .o)) (.s .o (.s .o .o))))))))
theorem f186_eq (D : Dyn) (n : Nat) : f186 D n = funKp (s186 D n) D n 186 Tryz.f186 h186 := by kernel_rfl
theorem f186_ok {D : Dyn} (hD : DP D) (n : Nat) : FP 186 (f186 D n) := fun_okP X_ok hD (SP.cons (f89_ok hD n) (SP.cons (f90_ok hD n) (SP.cons (f91_ok hD n) (SP.cons (f187_ok hD n) (SP.cons (f188_ok hD n) (SP.nil)))))) Tryz.func186 (by kernel_rfl) (by kernel_rfl) (f186_eq D n)

def s93 (D : Dyn) (n : Nat) : Tb := ⟨X, [(185, f185 D n), (184, f184 D n), (189, f189 D n)]⟩
/-- (*jetty/tree.Tree).change -/
def f93 (D : Dyn) (n : Nat) (vs : List AV) (H : AH) : Option (AV × AH) :=
  outR (hd vs fun x0 vs => hd vs fun x1 vs => hd vs fun x2 vs => nl vs <|
  bA (bxV 23 x0) H fun x3 H => 
  bA (bxV 9 x1) H fun x4 H => 
  bA (bxV 142 x2) H fun x5 H => 
  bV (ld1p x3 H) fun x14 => 
  bV (ld1p x3 H) fun x15 => 
  bV (pNil x15) fun x16 => 
  bV (fAd 6 x16) fun x17 => 
  bV (ld1p x17 H) fun x18 => 
  bA (mkM [10]) H fun x19 H => 
  bV (bldSp [(0, 1), (1, 1), (2, 1), (3, 1)] [.nilPtr, (.int .u64 (.ofNat 0)), .nilMap, .nilSlice] [(0, x14), (1, x18), (2, x19)]) fun x20 => 
  bA (bxV 257 x20) H fun x21 H => 
  bA (bxV 255 .nilPtr) H fun x7 H => 
  bR (stNp 1 x7 x21 H) fun x9999 H => 
  bV (ld1p x3 H) fun x22 => 
  bV (pNil x22) fun x23 => 
  bV (fAd 2 x23) fun x24 => 
  bV (fAd 0 x24) fun x25 => 
  bV (ld1p x25 H) fun x26 => 
  bV (bInt .eql x26 (.int .i64 (.ofNat 0))) fun x27 => 
  cnd x27 (bV (ld1p x5 H) fun x29 => 
  bV (bldSp [(0, 1), (1, 1), (2, 1), (3, 1)] [(.bool false), .nilSlice, .nilSlice, .nilSlice] [(0, (.bool true))]) fun x30 => 
  bR (callV (s93 D n).S D x29 [x30] H) fun x31 H => 
  bV (pExtract x31 0) fun x32 => 
  bV (pExtract x31 1) fun x33 => 
  bA (bxV 57 (.agg [(.bool false), .nilSlice, .nilSlice, .nilSlice])) H fun x8 H => 
  bR (stNp 4 x8 x32 H) fun x9999_2 H => 
  bV (bInt .neq x33 (.int .i64 (.ofNat 0))) fun x35 => 
  cnd x35 (bV (some x33) fun x6 => some (.ret x6, H))
  (bV (ld1p x7 H) fun x37 => 
  bV (ld1p x7 H) fun x38 => 
  bV (ldNp 4 x8 H) fun x39 => 
  bR (f185 D n [x38, x39] H) fun x40 H => chk (ld1p x7 H) x37 <| 
  bR (f184 D n [x37, x40] H) fun x41 H => 
  bV (some (.int .i64 (.ofNat 0))) fun x6_2 => some (.ret x6_2, H)))
  (bA (bxV 3 (.int .i64 (.ofNat 0))) H fun x10 H => 
  bR (stNp 1 x10 (.int .i64 (.ofNat 0)) H) fun x9999_3 H => 
  bA (bxV 59 .nilFunc) H fun x11 H => 
  bR (stNp 1 x11 (.func 186 [] [x10, x3, x5, x4, x11, x7]) H) fun x9999_4 H => 
  bV (ld1p x11 H) fun x44 => 
  bV (ld1p x3 H) fun x45 => 
  bV (pNil x45) fun x46 => 
  bV (fAd 2 x46) fun x47 => 
  bV (ldNp 3 x47 H) fun x48 => 
  bA (bxV 57 (.agg [(.bool false), .nilSlice, .nilSlice, .nilSlice])) H fun x12 H => 
  bR (callV (s93 D n).S D x44 [x48] H) fun x49 H => 
  bV (pExtract x49 0) fun x50 => 
  bV (pExtract x49 1) fun x51 => 
  bR (stNp 4 x12 x50 H) fun x9999_5 H => 
  bV (bInt .neq x51 (.int .i64 (.ofNat 0))) fun x53 => 
  cnd x53 (bV (some x51) fun x6_3 => some (.ret x6_3, H))
  (bV (ld1p x7 H) fun x55 => 
  bV (ldNp 4 x12 H) fun x56 => 
  bR (f189 D n [x55, x56] H) fun x57 H => 
  bV (some x57) fun x6_4 => some (.ret x6_4, H))))
def h93 : Hint := (.s .o (.s .o (.s (.s .o (.cl (.s .o (.s (.s .o (.cl (.s .o .o) .o)) (.s .o (.s .o .o)))) .o)) (.s .o (.s .o (.s .o (.s .o (.s (.s .o (.cl (.s .o .o) .o)) (.s .o .o)))))))))
theorem f93_eq (D : Dyn) (n : Nat) : f93 D n = funKp (s93 D n) D n 93 Tryz.f93 h93 := by kernel_rfl
theorem f93_ok {D : Dyn} (hD : DP D) (n : Nat) : FP 93 (f93 D n) := fun_okP X_ok hD (SP.cons (f185_ok hD n) (SP.cons (f184_ok hD n) (SP.cons (f189_ok hD n) (SP.nil)))) Tryz.func93 (by kernel_rfl) (by kernel_rfl) (f93_eq D n)

def s295 (D : Dyn) (n : Nat) : Tb := ⟨X, []⟩
def f295l0 (D : Dyn) (n : Nat) (vs : List AV) (H : AH) : Rs :=
  hd vs fun x0_2 vs => hd vs fun x2 vs => hd vs fun x3 vs => 
  bV (bInt .lss x2 x3) fun x9 => 
  cnd x9 (bV (ixSl 1 x0_2 x3) fun x20 => 
  bV (ld1p x20 H) fun x21 => 
  bV (ixSl 1 x0_2 x2) fun x24 => 
  bV (ld1p x24 H) fun x25 => 
  bV (ixSl 1 x0_2 x2) fun x26 => 
  bR (stNp 1 x26 x21 H) fun x9999 H => 
  bV (ixSl 1 x0_2 x3) fun x27 => 
  bR (stNp 1 x27 x25 H) fun x9999_2 H => 
  bV (bInt .add x2 (.int .i64 (.ofNat 1))) fun x11 => 
  bV (bInt .sub x3 (.int .i64 (.ofNat 1))) fun x13 => 
  some (.norm [x0_2, x11, x13], H))
  (some (.exit 0 [], H))
def f295b1 (D : Dyn) (n : Nat) (vs : List AV) (H : AH) : Rs :=
  
  some (.ret (.tuple []), H)
/-- slices.Reverse[[]string,string] -/
def f295 (D : Dyn) (n : Nat) (vs : List AV) (H : AH) : Option (AV × AH) :=
  outR (hd vs fun x0 vs => nl vs <|
  bV (lnSl x0) fun x5 => 
  bV (bInt .sub x5 (.int .i64 (.ofNat 1))) fun x6 => 
  jb 0 (loopK n (f295l0 D n) [x0, (.int .i64 (.ofNat 0)), x6] H) (f295b1 D n))
def h295 : Hint := (.s .o (.b [] (.l [0, 2, 3] (.s (.s .o (.cr .o .o)) (.s (.b0 .o) .o)))))
theorem f295_eq (D : Dyn) (n : Nat) : f295 D n = funKp (s295 D n) D n 295 Tryz.f295 h295 := by kernel_rfl
theorem f295_ok {D : Dyn} (hD : DP D) (n : Nat) : FP 295 (f295 D n) := fun_okP X_ok hD (SP.nil) Tryz.func295 (by kernel_rfl) (by kernel_rfl) (f295_eq D n)

def s287 (D : Dyn) (n : Nat) : Tb := ⟨X, [(295, f295 D n)]⟩
/-- slices.rotateLeft[string] -/
def f287 (D : Dyn) (n : Nat) (vs : List AV) (H : AH) : Option (AV × AH) :=
  outR (hd vs fun x0 vs => hd vs fun x1 vs => nl vs <|
  bV (slSlp 1 x0 none (some x1) none H) fun x6 => 
  bR (f295 D n [x6] H) fun x7 H => 
  bV (slSlp 1 x0 (some x1) none none H) fun x10 => 
  bR (f295 D n [x10] H) fun x11 H => 
  bR (f295 D n [x0] H) fun x13 H => 
  some (.ret (.tuple []), H))
def h287 : Hint := (.s .o (.s .o .o))
theorem f287_eq (D : Dyn) (n : Nat) : f287 D n = funKp (s287 D n) D n 287 Tryz.f287 h287 := by kernel_rfl
theorem f287_ok {D : Dyn} (hD : DP D) (n : Nat) : FP 287 (f287 D n) := fun_okP X_ok hD (SP.cons (f295_ok hD n) (SP.nil)) Tryz.func287 (by kernel_rfl) (by kernel_rfl) (f287_eq D n)

def s260 (D : Dyn) (n : Nat) : Tb := ⟨X, [(287, f287 D n)]⟩
/-- slices.rotateRight[string] -/
def f260 (D : Dyn) (n : Nat) (vs : List AV) (H : AH) : Option (AV × AH) :=
  outR (hd vs fun x0 vs => hd vs fun x1 vs => nl vs <|
  bV (lnSl x0) fun x6 => 
  bV (bInt .sub x6 x1) fun x8 => 
  bR (f287 D n [x0, x8] H) fun x9 H => 
  some (.ret (.tuple []), H))
def h260 : Hint := .o
theorem f260_eq (D : Dyn) (n : Nat) : f260 D n = funKp (s260 D n) D n 260 Tryz.f260 h260 := by kernel_rfl
theorem f260_ok {D : Dyn} (hD : DP D) (n : Nat) : FP 260 (f260 D n) := fun_okP X_ok hD (SP.cons (f287_ok hD n) (SP.nil)) Tryz.func260 (by kernel_rfl) (by kernel_rfl) (f260_eq D n)

def s192 (D : Dyn) (n : Nat) : Tb := ⟨X, [(260, f260 D n)]⟩
/-- slices.Insert[[]string,string] -/
def f192 (D : Dyn) (n : Nat) (vs : List AV) (H : AH) : Option (AV × AH) :=
  outR (hd vs fun x0 vs => hd vs fun x1 vs => hd vs fun x2 vs => nl vs <|
  bV (slSlp 1 x0 (some x1) none none H) fun x12 => 
  bV (lnSl x2) fun x14 => 
  bV (bInt .eql x14 (.int .i64 (.ofNat 0))) fun x16 => 
  cnd x16 (bV (some x0) fun x6 => some (.ret x6, H))
  (bV (lnSl x0) fun x19 => 
  bV (bInt .eql x1 x19) fun x22 => 
  cnd x22 (bR (apPp 9 1 16 x0 x2 H) fun x25 H => 
  bV (some x25) fun x6_2 => some (.ret x6_2, H))
  (bV (bInt .add x19 x14) fun x28 => 
  bV (acap X 54 x0) fun x30 => 
  bV (bInt .gtr x28 x30) fun x31 => 
  cnd x31 (bV (slSlp 1 x0 none (some x1) none H) fun x34 => 
  bV (bInt .add x19 x14) fun x37 => 
  bV (bInt .sub x37 x1) fun x39 => 
  bR (apZp 9 1 16 [(.str 0 0)] x34 x39 H) fun x40 H => 
  bV (slSlp 1 x40 (some x1) none none H) fun x43 => 
  bR (cpyp 1 x43 x2 H) fun x45 H => 
  bV (bInt .add x1 x14) fun x49 => 
  bV (slSlp 1 x40 (some x49) none none H) fun x50 => 
  bV (slSlp 1 x0 (some x1) none none H) fun x53 => 
  bR (cpyp 1 x50 x53 H) fun x54 H => 
  bV (some x40) fun x6_3 => some (.ret x6_3, H))
  (bV (bInt .add x19 x14) fun x59 => 
  bV (slSlp 1 x0 none (some x59) none H) fun x60 => 
  bV (bInt .add x1 x14) fun x65 => 
  bV (slSlp 1 x60 (some x65) none none H) fun x66 => 
  bR (D.fn 259 [x2, x66] H) fun x67 H => 
  bV (aun .not x67) fun x68 => 
  cnd x68 (bV (bInt .add x1 x14) fun x72 => 
  bV (slSlp 1 x60 (some x72) none none H) fun x73 => 
  bV (slSlp 1 x60 (some x1) none none H) fun x76 => 
  bR (cpyp 1 x73 x76 H) fun x77 H => 
  bV (slSlp 1 x60 (some x1) none none H) fun x80 => 
  bR (cpyp 1 x80 x2 H) fun x82 H => 
  bV (some x60) fun x6_4 => some (.ret x6_4, H))
  (bV (slSlp 1 x60 (some x19) none none H) fun x86 => 
  bR (cpyp 1 x86 x2 H) fun x88 H => 
  bV (slSlp 1 x60 (some x1) none none H) fun x91 => 
  bR (f260 D n [x91, x14] H) fun x93 H => 
  bV (some x60) fun x6_5 => some (.ret x6_5, H))))))
def h192 : Hint := (.s .o (.s .o (.s .o (.s (.s .o (.cl (.s .o .o) .o)) (.s .o (.s (.s .o (.cl (.s .o .o) .o)) (.s (.s .o (.cl (.s .o (.s .o (.s .o (.s .o .o)))) .o)) (.s .o (.s (.s .o (.cl (.s .o (.s .o (.s .o .o))) .o)) (.s .o (.s .o (.s .o .o))))))))))))
theorem f192_eq (D : Dyn) (n : Nat) : f192 D n = funKp (s192 D n) D n 192 Tryz.f192 h192 := by kernel_rfl
theorem f192_ok {D : Dyn} (hD : DP D) (n : Nat) : FP 192 (f192 D n) := fun_okP X_ok hD (SP.cons (f260_ok hD n) (SP.nil)) Tryz.func192 (by kernel_rfl) (by kernel_rfl) (f192_eq D n)
def m192 (D : Dyn) (n : Nat) (vs : List AV) (H : AH) : Option (AV × AH) := insKp (f192 D n) vs H
theorem m192_ok {D : Dyn} (hD : DP D) (n : Nat) : FP 192 (m192 D n) := insKp_ok (by kernel_rfl) (f192_ok hD n)

def s95 (D : Dyn) (n : Nat) : Tb := ⟨X, [(190, f190 D n), (191, f191 D n), (103, f103 D n), (91, f91 D n), (192, m192 D n)]⟩
/-- jetty/node.Put -/
def f95 (D : Dyn) (n : Nat) (vs : List AV) (H : AH) : Option (AV × AH) :=
  outR (hd vs fun x0 vs => hd vs fun x1 vs => hd vs fun x2 vs => nl vs <|
  bA (bxV 57 x0) H fun x3 H => 
  bA (bxV 57 (.agg [(.bool false), .nilSlice, .nilSlice, .nilSlice])) H fun x6 H => 
  bV (ldNp 4 x3 H) fun x10 => 
  bR (f190 D n [x10] H) fun x11 H => 
  bV (aun .not x11) fun x12 => 
  jn (wnt x12 false (bV (fAd 0 x3) fun x14 => 
  bV (ld1p x14 H) fun x15 => 
  bV (aun .not x15) fun x16 => 
  some (.norm [x16], H)) (some (.norm [undefA], H))) fun vs H => hd vs fun x16_2 vs => 
  bV (pk3 (some x12) (some (.bool true)) (some x16_2)) fun x17 => 
  jn (wnt x17 false (bR (f191 D n [x1] H) fun x20 H => 
  bV (aun .not x20) fun x21 => 
  some (.norm [x21], H)) (some (.norm [undefA], H))) fun vs H => hd vs fun x21_2 vs => 
  bV (pk3 (some x17) (some (.bool true)) (some x21_2)) fun x22 => 
  jn (wnt x22 false (bV (lnStr x2) fun x25 => 
  bV (bInt .gtr x25 (.int .i64 (.ofNat 200))) fun x26 => 
  some (.norm [x26], H)) (some (.norm [undefA], H))) fun vs H => hd vs fun x26_2 vs => 
  bV (pk3 (some x22) (some (.bool true)) (some x26_2)) fun x27 => 
  cnd x27 (bV (bldSp [(0, 1), (1, 1), (2, 1), (3, 1)] [(.bool false), .nilSlice, .nilSlice, .nilSlice] []) fun x28 => 
  bR (stNp 4 x6 x28 H) fun x9999 H => 
  bV (ldNp 4 x6 H) fun x9006 => bV (some (.int .i64 (.ofNat 1))) fun x7 => some (.ret (.tuple [x9006, x7]), H))
  (bV (fAd 1 x3) fun x29 => 
  bV (ld1p x29 H) fun x30 => 
  bV (fAd 2 x3) fun x32 => 
  bV (ld1p x32 H) fun x33 => 
  bA (bxV 57 (.agg [(.bool false), .nilSlice, .nilSlice, .nilSlice])) H fun x8 H => 
  bR (f103 D n [x30] H) fun x31 H => chk (ld1p x32 H) x33 <| 
  bR (f103 D n [x33] H) fun x34 H => 
  bV (bldSp [(0, 1), (1, 1), (2, 1), (3, 1)] [(.bool false), .nilSlice, .nilSlice, .nilSlice] [(0, (.bool true)), (1, x31), (2, x34)]) fun x35 => 
  bR (stNp 4 x8 x35 H) fun x9999_2 H => 
  bV (ldNp 4 x3 H) fun x36 => 
  bR (f91 D n [x36, x1] H) fun x38 H => 
  bV (fAd 1 x3) fun x40 => 
  bV (ld1p x40 H) fun x41 => 
  bV (lnSl x41) fun x42 => 
  bV (bInt .lss x38 x42) fun x43 => 
  jn (wnt x43 true (bV (fAd 1 x3) fun x45 => 
  bV (ld1p x45 H) fun x46 => 
  bV (ixSl 1 x46 x38) fun x48 => 
  bV (ld1p x48 H) fun x49 => 
  bV (bStr .eql x49 x1) fun x51 => 
  some (.norm [x51], H)) (some (.norm [undefA], H))) fun vs H => hd vs fun x51_2 vs => 
  bV (pk3 (some x43) (some x51_2) (some (.bool false))) fun x52 => 
  cnd x52 (bV (fAd 2 x8) fun x53 => 
  bV (ld1p x53 H) fun x54 => 
  bV (ixSl 1 x54 x38) fun x57 => 
  bR (stNp 1 x57 x2 H) fun x9999_3 H => 
  bV (ldNp 4 x8 H) fun x58 => 
  bR (stNp 4 x6 x58 H) fun x9999_4 H => 
  bV (ldNp 4 x6 H) fun x9006_2 => bV (some (.int .i64 (.ofNat 0))) fun x7_2 => some (.ret (.tuple [x9006_2, x7_2]), H))
  (bV (fAd 1 x8) fun x59 => 
  bV (ld1p x59 H) fun x60 => 
  bA (bldLp 9 1 1 [(.str 0 0)] [(0, x1)]) H fun x63 H => 
  bR (m192 D n [x60, x38, x63] H) fun x64 H => 
  bV (fAd 1 x8) fun x65 => 
  bR (stNp 1 x65 x64 H) fun x9999_5 H => 
  bV (fAd 2 x8) fun x66 => 
  bV (ld1p x66 H) fun x67 => 
  bA (bldLp 9 1 1 [(.str 0 0)] [(0, x2)]) H fun x70 H => 
  bR (m192 D n [x67, x38, x70] H) fun x71 H => 
  bV (fAd 2 x8) fun x72 => 
  bR (stNp 1 x72 x71 H) fun x9999_6 H => 
  bV (ldNp 4 x8 H) fun x73 => 
  bR (stNp 4 x6 x73 H) fun x9999_7 H => 
  bV (ldNp 4 x6 H) fun x9006_3 => bV (some (.int .i64 (.ofNat 0))) fun x7_3 => some (.ret (.tuple [x9006_3, x7_3]), H))))
def h95 : Hint := (.s .o (.s (.s .o (.cl (.s .o .o) .o)) (.s .o (.s .o (.s (.s .o (.cl (.s .o (.s .o .o)) .o)) (.s .o (.s .o (.s .o .o))))))))
theorem f95_eq (D : Dyn) (n : Nat) : f95 D n = funKp (s95 D n) D n 95 Tryz.f95 h95 := by kernel_rfl
theorem f95_ok {D : Dyn} (hD : DP D) (n : Nat) : FP 95 (f95 D n) := fun_okP X_ok hD (SP.cons (f190_ok hD n) (SP.cons (f191_ok hD n) (SP.cons (f103_ok hD n) (SP.cons (f91_ok hD n) (SP.cons (m192_ok hD n) (SP.nil)))))) Tryz.func95 (by kernel_rfl) (by kernel_rfl) (f95_eq D n)

def s94 (D : Dyn) (n : Nat) : Tb := ⟨X, [(95, f95 D n)]⟩
/-- (*jetty/tree.Tree).Put$1 -/
def f94 (D : Dyn) (n : Nat) (vs : List AV) (H : AH) : Option (AV × AH) :=
  outR (hd vs fun x0 vs => hd vs fun x1 vs => hd vs fun x2 vs => nl vs <|
  bA (bxV 57 x0) H fun x3 H => 
  bA (bxV 57 (.agg [(.bool false), .nilSlice, .nilSlice, .nilSlice])) H fun x4 H => 
  bV (ldNp 4 x3 H) fun x6 => 
  bV (ld1p x1 H) fun x7 => 
  bV (ld1p x2 H) fun x8 => 
  bR (f95 D n [x6, x7, x8] H) fun x9 H => 
  bV (pExtract x9 0) fun x10 => 
  bV (pExtract x9 1) fun x11 => 
  bR (stNp 4 x4 x10 H) fun x9999 H => 
  bV (ldNp 4 x4 H) fun x9004 => bV (some x11) fun x5 => some (.ret (.tuple [x9004, x5]), H))
def h94 : Hint := (.s .o (.s .o .o))
theorem f94_eq (D : Dyn) (n : Nat) : f94 D n = funKp (s94 D n) D n 94 Tryz.f94 h94 := by kernel_rfl
theorem f94_ok {D : Dyn} (hD : DP D) (n : Nat) : FP 94 (f94 D n) := fun_okP X_ok hD (SP.cons (f95_ok hD n) (SP.nil)) Tryz.func94 (by kernel_rfl) (by kernel_rfl) (f94_eq D n)

def s17 (D : Dyn) (n : Nat) : Tb := ⟨X, [(88, f88 D n), (93, f93 D n)]⟩
/-- (*jetty/tree.Tree).Put -/
def f17 (D : Dyn) (n : Nat) (vs : List AV) (H : AH) : Option (AV × AH) :=
  outR (hd vs fun x0 vs => hd vs fun x1 vs => hd vs fun x2 vs => nl vs <|
  bA (bxV 9 x1) H fun x4 H => 
  bA (bxV 9 x2) H fun x5 H => 
  bR (f88 D n [x0] H) fun x8 H => 
  cnd x8 (bV (some (.int .i64 (.ofNat 2))) fun x6 => some (.ret x6, H))
  (bV (ld1p x4 H) fun x9 => 
  bV (lnStr x9) fun x10 => 
  bV (bInt .lss x10 (.int .i64 (.ofNat 1))) fun x11 => 
  jn (wnt x11 false (bV (ld1p x4 H) fun x13 => 
  bV (lnStr x13) fun x14 => 
  bV (bInt .gtr x14 (.int .i64 (.ofNat 40))) fun x15 => 
  some (.norm [x15], H)) (some (.norm [undefA], H))) fun vs H => hd vs fun x15_2 vs => 
  bV (pk3 (some x11) (some (.bool true)) (some x15_2)) fun x16 => 
  jn (wnt x16 false (bV (ld1p x5 H) fun x18 => 
  bV (lnStr x18) fun x19 => 
  bV (bInt .gtr x19 (.int .i64 (.ofNat 200))) fun x20 => 
  some (.norm [x20], H)) (some (.norm [undefA], H))) fun vs H => hd vs fun x20_2 vs => 
  bV (pk3 (some x16) (some (.bool true)) (some x20_2)) fun x21 => 
  cnd x21 (bV (some (.int .i64 (.ofNat 1))) fun x6_2 => some (.ret x6_2, H))
  (bV (ld1p x4 H) fun x23 => 
  bR (f93 D n [x0, x23, (.func 94 [] [x4, x5])] H) fun x25 H => 
  bV (some x25) fun x6_3 => some (.ret x6_3, H))))
def h17 : Hint := (.s .o (.s (.s .o (.cl (.s .o .o) .o)) (.s (.s .o (.cl (.s .o .o) .o)) (.s .o .o))))
theorem f17_eq (D : Dyn) (n : Nat) : f17 D n = funKp (s17 D n) D n 17 Tryz.f17 h17 := by kernel_rfl
theorem f17_ok {D : Dyn} (hD : DP D) (n : Nat) : FP 17 (f17 D n) := fun_okP X_ok hD (SP.cons (f88_ok hD n) (SP.cons (f93_ok hD n) (SP.nil))) Tryz.func17 (by kernel_rfl) (by kernel_rfl) (f17_eq D n)

def s202 (D : Dyn) (n : Nat) : Tb := ⟨X, []⟩
/-- maps.Clone[map[uint64]jetty/node.Node,uint64,jetty/node.Node] -/
def f202 (D : Dyn) (n : Nat) (vs : List AV) (H : AH) : Option (AV × AH) :=
  outR (hd vs fun x0 vs => nl vs <|
  bV (cmpO .eql (eqM x0 .nilMap)) fun x4 => 
  cnd x4 (bV (some .nilMap) fun x2 => some (.ret x2, H))
  (none))
def h202 : Hint := (.s .o (.s (.s .o (.cl (.s .o .o) .o)) (.s .o .o)))
theorem f202_eq (D : Dyn) (n : Nat) : f202 D n = funKp (s202 D n) D n 202 Tryz.f202 h202 := by kernel_rfl
theorem f202_ok {D : Dyn} (hD : DP D) (n : Nat) : FP 202 (f202 D n) := fun_okP X_ok hD (SP.nil) Tryz.func202 (by kernel_rfl) (by kernel_rfl) (f202_eq D n)
def m202 (D : Dyn) (n : Nat) (vs : List AV) (H : AH) : Option (AV × AH) := clnK (f202 D n) vs H
theorem m202_ok {D : Dyn} (hD : DP D) (n : Nat) : FP 202 (m202 D n) := clnK_okP ⟨_, Tryz.func202, rfl⟩ (AnyW.maps_Clone Tryz.clone202) (f202_ok hD n)

def s113 (D : Dyn) (n : Nat) : Tb := ⟨X, [(202, m202 D n), (104, f104 D n)]⟩
/-- (*jetty/tree.Tree).Copy -/
def f113 (D : Dyn) (n : Nat) (vs : List AV) (H : AH) : Option (AV × AH) :=
  outR (hd vs fun x0 vs => nl vs <|
  bV (cmpO .eql (eqP x0 .nilPtr)) fun x5 => 
  cnd x5 (bV (some .nilPtr) fun x2 => some (.ret x2, H))
  (bV (pNil x0) fun x7 => 
  bV (ldNp 8 x7 H) fun x8 => 
  bA (bxV 135 (.agg [.nilPtr, .nilPtr, (.int .i64 (.ofNat 0)), (.int .i64 (.ofNat 0)), (.int .u64 (.ofNat 0)), .nilMap, (.int .u64 (.ofNat 0)), .nilSlice])) H fun x3 H => 
  bR (stNp 8 x3 x8 H) fun x9999 H => 
  bV (pNil x0) fun x10 => 
  bV (fAd 5 x10) fun x11 => 
  bV (ld1p x11 H) fun x12 => 
  bR (m202 D n [x12] H) fun x13 H => 
  bV (fAd 5 x3) fun x14 => 
  bR (stNp 1 x14 x13 H) fun x9999_2 H => 
  bV (pNil x0) fun x16 => 
  bV (fAd 7 x16) fun x17 => 
  bV (ld1p x17 H) fun x18 => 
  bR (f104 D n [x18] H) fun x19 H => 
  bV (fAd 7 x3) fun x20 => 
  bR (stNp 1 x20 x19 H) fun x9999_3 H => 
  bV (some x3) fun x2_2 => some (.ret x2_2, H)))
def h113 : Hint := (.s .o (.s (.s .o (.cl (.s .o .o) .o)) (.s .o (.s .o (.s .o (.s .o .o))))))
theorem f113_eq (D : Dyn) (n : Nat) : f113 D n = funKp (s113 D n) D n 113 Tryz.f113 h113 := by kernel_rfl
theorem f113_ok {D : Dyn} (hD : DP D) (n : Nat) : FP 113 (f113 D n) := fun_okP X_ok hD (SP.cons (m202_ok hD n) (SP.cons (f104_ok hD n) (SP.nil))) Tryz.func113 (by kernel_rfl) (by kernel_rfl) (f113_eq D n)

def s114 (D : Dyn) (n : Nat) : Tb := ⟨X, []⟩
/-- (*jetty/space.Space).Copy -/
def f114 (D : Dyn) (n : Nat) (vs : List AV) (H : AH) : Option (AV × AH) :=
  outR (hd vs fun x0 vs => nl vs <|
  bV (cmpO .eql (eqP x0 .nilPtr)) fun x5 => 
  cnd x5 (bV (some .nilPtr) fun x2 => some (.ret x2, H))
  (bV (pNil x0) fun x7 => 
  bV (ldNp 8198 x7 H) fun x8 => 
  bA (bxV 151 (.agg [(.int .i64 (.ofNat 0)), (.int .i64 (.ofNat 0)), .pk 8192 0, (.int .i64 (.ofNat 0)), (.int .i64 (.ofNat 0)), (.int .i64 (.ofNat 0)), (.int .i64 (.ofNat 0))])) H fun x3 H => 
  bR (stNp 8198 x3 x8 H) fun x9999 H => 
  bV (some x3) fun x2_2 => some (.ret x2_2, H)))
def h114 : Hint := (.s .o (.s (.s .o (.cl (.s .o .o) .o)) (.s .o (.s .o .o))))
theorem f114_eq (D : Dyn) (n : Nat) : f114 D n = funKp (s114 D n) D n 114 Tryz.f114 h114 := by kernel_rfl
theorem f114_ok {D : Dyn} (hD : DP D) (n : Nat) : FP 114 (f114 D n) := fun_okP X_ok hD (SP.nil) Tryz.func114 (by kernel_rfl) (by kernel_rfl) (f114_eq D n)

def s261 (D : Dyn) (n : Nat) : Tb := ⟨X, []⟩
/-- jetty/node.Encode$1 -/
def f261 (D : Dyn) (n : Nat) (vs : List AV) (H : AH) : Option (AV × AH) :=
  outR (hd vs fun x0 vs => hd vs fun x1 vs => nl vs <|
  bV (ld1p x1 H) fun x3 => 
  bV (lnStr x0) fun x5 => 
  bV (cvI .u8 x5) fun x6 => 
  bA (bldLp 5 1 1 [(.int .u8 (.ofNat 0))] [(0, x6)]) H fun x7 H => 
  bR (apPp 5 1 1 x3 x7 H) fun x8 H => 
  bR (stNp 1 x1 x8 H) fun x9999 H => 
  bV (ld1p x1 H) fun x9 => 
  bR (apPp 5 1 1 x9 x0 H) fun x11 H => 
  bR (stNp 1 x1 x11 H) fun x9999_2 H => 
  some (.ret (.tuple []), H))
def h261 : Hint := (.s .o .o)
theorem f261_eq (D : Dyn) (n : Nat) : f261 D n = funKp (s261 D n) D n 261 Tryz.f261 h261 := by kernel_rfl
theorem f261_ok {D : Dyn} (hD : DP D) (n : Nat) : FP 261 (f261 D n) := fun_okP X_ok hD (SP.nil) Tryz.func261 (by kernel_rfl) (by kernel_rfl) (f261_eq D n)

def s262 (D : Dyn) (n : Nat) : Tb := ⟨X, [(61, f61 D n)]⟩
def f262j0 (D : Dyn) (n : Nat) (vs : List AV) (H : AH) : Rs :=
  hd vs fun x2_2 vs => hd vs fun x4 vs => 
  bV (ld1p x2_2 H) fun x13 => 
  bR (apPp 5 1 1 x13 x4 H) fun x15 H => 
  bR (stNp 1 x2_2 x15 H) fun x9999_2 H => 
  some (.ret (.tuple []), H)
/-- jetty/node.Encode$2 -/
def f262 (D : Dyn) (n : Nat) (vs : List AV) (H : AH) : Option (AV × AH) :=
  outR (hd vs fun x0 vs => hd vs fun x1 vs => hd vs fun x2 vs => nl vs <|
  bA (bxV 52 x0) H fun x3 H => 
  bV (ldNp 3 x3 H) fun x7 => 
  bR (f61 D n [x7] H) fun x8 H => 
  bV (pExtract x8 0) fun x9 => 
  bV (pExtract x8 1) fun x10 => 
  bV (bInt .neq x10 (.int .i64 (.ofNat 0))) fun x12 => 
  jn (cnd x12 (bR (stNp 1 x1 (.int .i64 (.ofNat 4)) H) fun x9999 H => 
  some (.norm [x2, x9], H))
  (some (.norm [x2, x9], H))) (f262j0 D n))
def h262 : Hint := (.s .o (.s .o (.s (.s .o (.c [2, 4] .o .o)) .o)))
theorem f262_eq (D : Dyn) (n : Nat) : f262 D n = funKp (s262 D n) D n 262 Tryz.f262 h262 := by kernel_rfl
theorem f262_ok {D : Dyn} (hD : DP D) (n : Nat) : FP 262 (f262 D n) := fun_okP X_ok hD (SP.cons (f61_ok hD n) (SP.nil)) Tryz.func262 (by kernel_rfl) (by kernel_rfl) (f262_eq D n)

def s196 (D : Dyn) (n : Nat) : Tb := ⟨X, [(190, f190 D n), (254, f254 D n)]⟩
def f196j0 (D : Dyn) (n : Nat) (vs : List AV) (H : AH) : Rs :=
  hd vs fun x1_4 vs => hd vs fun x4_4 vs => hd vs fun x5_4 vs => hd vs fun x6_3 vs => hd vs fun x7_3 vs => hd vs fun x38_3 vs => hd vs fun x39_3 vs => hd vs fun x40_2 vs => 
  bV (bInt .add x40_2 (.int .i64 (.ofNat 1))) fun x65 => 
  some (.norm [x1_4, x4_4, x5_4, x6_3, x7_3, x38_3, x39_3, x65], H)
def f196l1 (D : Dyn) (n : Nat) (vs : List AV) (H : AH) : Rs :=
  hd vs fun x1_3 vs => hd vs fun x4_3 vs => hd vs fun x5_3 vs => hd vs fun x6_2 vs => hd vs fun x7_2 vs => hd vs fun x38_2 vs => hd vs fun x39_2 vs => hd vs fun x40 vs => 
  bV (bInt .lss x40 x39_2) fun x41 => 
  cnd x41 (bV (ixSl 1 x38_2 x40) fun x43 => 
  bV (ld1p x43 H) fun x44 => 
  bR (callV (s196 D n).S D x6_2 [x44] H) fun x47 H => 
  bV (fAd 0 x1_3) fun x48 => 
  bV (ld1p x48 H) fun x49 => 
  jn (cnd x49 (bV (fAd 2 x1_3) fun x51 => 
  bV (ld1p x51 H) fun x52 => 
  bV (ixSl 1 x52 x40) fun x54 => 
  bV (ld1p x54 H) fun x55 => 
  bR (callV (s196 D n).S D x6_2 [x55] H) fun x56 H => 
  some (.norm [x1_3, x4_3, x5_3, x6_2, x7_2, x38_2, x39_2, x40], H))
  (bV (fAd 3 x1_3) fun x58 => 
  bV (ld1p x58 H) fun x59 => 
  bV (bInt .add x40 (.int .i64 (.ofNat 1))) fun x61 => 
  bV (ixSl 3 x59 x61) fun x62 => 
  bV (ldNp 3 x62 H) fun x63 => 
  bR (callV (s196 D n).S D x7_2 [x63] H) fun x64 H => 
  some (.norm [x1_3, x4_3, x5_3, x6_2, x7_2, x38_2, x39_2, x40], H))) (f196j0 D n))
  (some (.exit 0 [x4_3, x5_3], H))
def f196b2 (D : Dyn) (n : Nat) (vs : List AV) (H : AH) : Rs :=
  hd vs fun x4_5 vs => hd vs fun x5_5 vs => 
  bV (ld1p x5_5 H) fun x66 => 
  bV (bInt .neq x66 (.int .i64 (.ofNat 0))) fun x67 => 
  cnd x67 (bV (ld1p x5_5 H) fun x68 => 
  bV (some (.str 0 0)) fun x2_3 => bV (some x68) fun x3_3 => some (.ret (.tuple [x2_3, x3_3]), H))
  (bV (ld1p x4_5 H) fun x69 => 
  bV (cvBSp x69 H) fun x70 => 
  bV (some x70) fun x2_4 => bV (some (.int .i64 (.ofNat 0))) fun x3_4 => some (.ret (.tuple [x2_4, x3_4]), H))
def f196j3 (D : Dyn) (n : Nat) (vs : List AV) (H : AH) : Rs :=
  hd vs fun x1_2 vs => hd vs fun x4_2 vs => hd vs fun x5_2 vs => hd vs fun x6 vs => hd vs fun x7 vs => 
  bV (fAd 1 x1_2) fun x37 => 
  bV (ld1p x37 H) fun x38 => 
  bV (lnSl x38) fun x39 => 
  jb 0 (loopK n (f196l1 D n) [x1_2, x4_2, x5_2, x6, x7, x38, x39, (.int .i64 (.ofNat 0))] H) (f196b2 D n)
/-- jetty/node.Encode -/
def f196 (D : Dyn) (n : Nat) (vs : List AV) (H : AH) : Option (AV × AH) :=
  outR (hd vs fun x0 vs => nl vs <|
  bA (bxV 57 x0) H fun x1 H => 
  bV (ldNp 4 x1 H) fun x10 => 
  bR (f190 D n [x10] H) fun x11 H => 
  bV (aun .not x11) fun x12 => 
  cnd x12 (bV (some (.str 0 0)) fun x2 => bV (some (.int .i64 (.ofNat 4))) fun x3 => some (.ret (.tuple [x2, x3]), H))
  (bV (ldNp 4 x1 H) fun x13 => 
  bR (f254 D n [x13] H) fun x14 H => 
  bV (bInt .gtr x14 (.int .i64 (.ofNat 500))) fun x15 => 
  cnd x15 (bV (some (.str 0 0)) fun x2_2 => bV (some (.int .i64 (.ofNat 40))) fun x3_2 => some (.ret (.tuple [x2_2, x3_2]), H))
  (bV (fAd 1 x1) fun x16 => 
  bV (ld1p x16 H) fun x17 => 
  bV (lnSl x17) fun x18 => 
  bV (bInt .shr x18 (.int .u64 (.ofNat 8))) fun x19 => 
  bV (cvI .u8 x19) fun x20 => 
  bV (fAd 1 x1) fun x21 => 
  bV (ld1p x21 H) fun x22 => 
  bV (lnSl x22) fun x23 => 
  bV (cvI .u8 x23) fun x24 => 
  bA (bldLp 5 1 2 [(.int .u8 (.ofNat 0))] [(0, x20), (1, x24)]) H fun x25 H => 
  bA (bxV 131 .nilSlice) H fun x4 H => 
  bR (stNp 1 x4 x25 H) fun x9999 H => 
  bA (bxV 26 (.int .i64 (.ofNat 0))) H fun x5 H => 
  bR (stNp 1 x5 (.int .i64 (.ofNat 0)) H) fun x9999_2 H => 
  bV (fAd 0 x1) fun x28 => 
  bV (ld1p x28 H) fun x29 => 
  bV (aun .not x29) fun x30 => 
  jn (cnd x30 (bV (fAd 3 x1) fun x32 => 
  bV (ld1p x32 H) fun x33 => 
  bV (ixSl 3 x33 (.int .i64 (.ofNat 0))) fun x34 => 
  bV (ldNp 3 x34 H) fun x35 => 
  bR (callV (s196 D n).S D (.func 262 [] [x5, x4]) [x35] H) fun x36 H => 
  some (.norm [x1, x4, x5, (.func 261 [] [x4]), (.func 262 [] [x5, x4])], H))
  (some (.norm [x1, x4, x5, (.func 261 [] [x4]), (.func 262 [] [x5, x4])], H))) (f196j3 D n))))
def h196 : Hint := (.s .o (.s (.s .o (.cl (.s .o .o) .o)) (.s (.s .o (.cl (.s .o .o) .o)) (.s .o (.s .o (.s .o (.s .o (.s (.s .o (.c [1, 4, 5, 6, 7] .o .o)) (.s (.s .o (.b [4, 5] (.l [1, 4, 5, 6, 7, 38, 39, 40] (.s .o (.s (.cr .o .o) (.s (.b0 (.s .o (.s .o (.s .o (.c [1, 4, 5, 6, 7, 38, 39, 40] .o .o))))) .o)))))) (.s (.s .o (.cl (.s .o .o) .o)) (.s .o .o)))))))))))
theorem f196_eq (D : Dyn) (n : Nat) : f196 D n = funKp (s196 D n) D n 196 Tryz.f196 h196 := by kernel_rfl
theorem f196_ok {D : Dyn} (hD : DP D) (n : Nat) : FP 196 (f196 D n) := fun_okP X_ok hD (SP.cons (f190_ok hD n) (SP.cons (f254_ok hD n) (SP.nil))) Tryz.func196 (by kernel_rfl) (by kernel_rfl) (f196_eq D n)

def s270 (D : Dyn) (n : Nat) : Tb := ⟨X, []⟩
def f270l0 (D : Dyn) (n : Nat) (vs : List AV) (H : AH) : Rs :=
  hd vs fun x0_2 vs => hd vs fun x1_2 vs => hd vs fun x2_2 vs => hd vs fun x5 vs => 
  bV (ld1p x1_2 H) fun x17 => 
  bV (pNil x17) fun x18 => 
  bV (fAd 0 x18) fun x19 => 
  bV (ld1p x19 H) fun x20 => 
  bV (bInt .lss x5 x20) fun x21 => 
  cnd x21 (bV (ld1p x1_2 H) fun x24 => 
  bV (pNil x24) fun x26 => 
  bV (fAd 2 x26) fun x27 => 
  bV (ixArr 8192 1 x27 x5) fun x28 => 
  bV (ld1p x28 H) fun x29 => 
  bV (ld1p x2_2 H) fun x30 => 
  bV (bInt .eql x29 x30) fun x31 => 
  jn (wnt x31 true (bR (callV (s270 D n).S D x0_2 [x5] H) fun x35 H => 
  bV (aun .not x35) fun x36 => 
  some (.norm [x36], H)) (some (.norm [undefA], H))) fun vs H => hd vs fun x36_2 vs => 
  bV (pk3 (some x31) (some x36_2) (some (.bool false))) fun x37 => 
  cnd x37 (some (.ret (.tuple []), H))
  (bV (bInt .add x5 (.int .i64 (.ofNat 1))) fun x23 => 
  some (.norm [x0_2, x1_2, x2_2, x23], H)))
  (some (.exit 0 [], H))
def f270b1 (D : Dyn) (n : Nat) (vs : List AV) (H : AH) : Rs :=
  
  some (.ret (.tuple []), H)
/-- (*jetty/space.Space).of$1 -/
def f270 (D : Dyn) (n : Nat) (vs : List AV) (H : AH) : Option (AV × AH) :=
  outR (hd vs fun x0 vs => hd vs fun x1 vs => hd vs fun x2 vs => hd vs fun x3 vs => nl vs <|
  bV (ld1p x1 H) fun x6 => 
  bV (ld1p x2 H) fun x7 => 
  bV (pNil x6) fun x8 => 
  bV (fAd 8194 x8) fun x9 => 
  bV (ixArr 4 1 x9 x7) fun x10 => 
  bV (ld1p x10 H) fun x11 => 
  bV (bInt .eql x11 (.int .i64 (.ofNat 0))) fun x12 => 
  cnd x12 (some (.ret (.tuple []), H))
  (bV (ld1p x3 H) fun x13 => 
  bV (bInt .add x13 (.int .i64 (.ofNat 1))) fun x14 => 
  bV (mx2 x14 (.int .i64 (.ofNat 2))) fun x15 => 
  jb 0 (loopK n (f270l0 D n) [x0, x1, x2, x15] H) (f270b1 D n)))
def h270 : Hint := (.s (.s .o (.cl .o .o)) (.s .o (.b [] (.l [0, 1, 2, 5] (.s (.s .o (.cr .o .o)) (.s (.b0 (.s .o (.cl .o .o))) .o))))))
theorem f270_eq (D : Dyn) (n : Nat) : f270 D n = funKp (s270 D n) D n 270 Tryz.f270 h270 := by kernel_rfl
theorem f270_ok {D : Dyn} (hD : DP D) (n : Nat) : FP 270 (f270 D n) := fun_okP X_ok hD (SP.nil) Tryz.func270 (by kernel_rfl) (by kernel_rfl) (f270_eq D n)

def s203 (D : Dyn) (n : Nat) : Tb := ⟨X, []⟩
/-- (*jetty/space.Space).of -/
def f203 (D : Dyn) (n : Nat) (vs : List AV) (H : AH) : Option (AV × AH) :=
  outR (hd vs fun x0 vs => hd vs fun x1 vs => hd vs fun x2 vs => nl vs <|
  bA (bxV 46 x0) H fun x3 H => 
  bA (bxV 147 x1) H fun x4 H => 
  bA (bxV 3 x2) H fun x5 H => 
  bV (some (.func 270 [] [x3, x4, x5])) fun x6 => some (.ret x6, H))
def h203 : Hint := (.s .o (.s .o .o))
theorem f203_eq (D : Dyn) (n : Nat) : f203 D n = funKp (s203 D n) D n 203 Tryz.f203 h203 := by kernel_rfl
theorem f203_ok {D : Dyn} (hD : DP D) (n : Nat) : FP 203 (f203 D n) := fun_okP X_ok hD (SP.nil) Tryz.func203 (by kernel_rfl) (by kernel_rfl) (f203_eq D n)

def s115 (D : Dyn) (n : Nat) : Tb := ⟨X, [(203, f203 D n), (101, f101 D n)]⟩
def f115l0 (D : Dyn) (n : Nat) (vs : List AV) (H : AH) : Rs :=
  hd vs fun x1_2 vs => hd vs fun x2_2 vs => hd vs fun x3_2 vs => hd vs fun x13_2 vs => hd vs fun x14 vs => 
  bV (bInt .lss x14 (.int .i64 (.ofNat 2))) fun x15 => 
  cnd x15 (bV (ixAg1p 2 1 x13_2 x14) fun x16 => 
  bV (ld1p x1_2 H) fun x17 => 
  bR (f203 D n [x17, (.int .u8 (.ofNat 0)), x16] H) fun x19 H => 
  newB H (.loop ⟨.ready, none, 115, 0, [1, 2, 3], [x1_2, x2_2, x3_2]⟩) fun A H => bR (rfC (s115 D n).S D x19 A H) fun _ H => endLp A H fun j H => jmpK j (
  bV (bInt .add x14 (.int .i64 (.ofNat 1))) fun x29 => 
  some (.norm [x1_2, x2_2, x3_2, x13_2, x29], H))
  (fun id => cond (Nat.beq 0 id) (some (.exit id [x2_2, x3_2], H)) (none)) (bV (ld1p x2_2 H) fun x9002_2 => bV (ld1p x3_2 H) fun x9003_2 => some (.ret (.tuple [x9002_2, x9003_2]), H)))
  (some (.exit 0 [x2_2, x3_2], H))
def f115b1 (D : Dyn) (n : Nat) (vs : List AV) (H : AH) : Rs :=
  hd vs fun x2_3 vs => hd vs fun x3_3 vs => 
  bR (stNp 1 x2_3 (.int .i64 (.ofNat 0)) H) fun x9999_3 H => 
  bR (stNp 1 x3_3 (.int .i64 (.ofNat 3)) H) fun x9999_4 H => 
  bV (ld1p x2_3 H) fun x9002_3 => bV (ld1p x3_3 H) fun x9003_3 => some (.ret (.tuple [x9002_3, x9003_3]), H)
/-- (*jetty/space.Space).Take -/
def f115 (D : Dyn) (n : Nat) (vs : List AV) (H : AH) : Option (AV × AH) :=
  outR (hd vs fun x0 vs => nl vs <|
  bA (bxV 46 x0) H fun x1 H => 
  bA (bxV 3 (.int .i64 (.ofNat 0))) H fun x2 H => 
  bA (bxV 26 (.int .i64 (.ofNat 0))) H fun x3 H => 
  bV (ld1p x1 H) fun x7 => 
  bV (cmpO .eql (eqP x7 .nilPtr)) fun x8 => 
  cnd x8 (bR (stNp 1 x2 (.int .i64 (.ofNat 0)) H) fun x9999 H => 
  bR (stNp 1 x3 (.int .i64 (.ofNat 2)) H) fun x9999_2 H => 
  bV (ld1p x2 H) fun x9002 => bV (ld1p x3 H) fun x9003 => some (.ret (.tuple [x9002, x9003]), H))
  (bV (ld1p x1 H) fun x9 => 
  bV (pNil x9) fun x10 => 
  bV (fAd 1 x10) fun x11 => 
  bV (ld1p x11 H) fun x12 => 
  bV (bldAp 1 [(.int .i64 (.ofNat 0)), (.int .i64 (.ofNat 0))] [(0, x12), (1, (.int .i64 (.ofNat 0)))]) fun x13 => 
  jb 0 (loopK n (f115l0 D n) [x1, x2, x3, x13, (.int .i64 (.ofNat 0))] H) (f115b1 D n)))
def h115 : Hint := (.s .o (.s (.s .o (.cl (.s .o .o) .o)) (.s (.s .o (.b [2, 3] (.l [1, 2, 3, 13, 14] (.s .o (.s (.cr .o .o) (.s (.b0 (.s .o (.s .o (.b0 (.rf 0 [1, 2, 3]))))) .o)))))) (.s .o .o))))
theorem f115_eq (D : Dyn) (n : Nat) : f115 D n = funKp (s115 D n) D n 115 Tryz.f115 h115 := by kernel_rfl
theorem f115_ok {D : Dyn} (hD : DP D) (n : Nat) : FP 115 (f115 D n) := fun_okP X_ok hD (SP.cons (f203_ok hD n) (SP.cons (f101_ok hD n) (SP.nil))) Tryz.func115 (by kernel_rfl) (by kernel_rfl) (f115_eq D n)
def r115_0 (D : Dyn) (n : Nat) (A : Nat) (l : ALoop) (az : List AV) (H : AH) : Option (AV × AH) :=
  bif eqNL [1, 2, 3] l.live then endQ A (hd l.vals fun x1 vs => hd vs fun x2 vs => hd vs fun x3 vs => hd az fun x20 az => nl az <|
  beginK A H fun H => 
  bV (ld1p x1 H) fun x21 => 
  bR (f101 D n [x21, x20, (.int .u8 (.ofNat 2))] H) fun x23 H => 
  bV (ld1p x1 H) fun x24 => 
  bV (pNil x24) fun x26 => 
  bV (fAd 1 x26) fun x27 => 
  bR (stNp 1 x27 x20 H) fun x9999 H => 
  bR (stNp 1 x2 x20 H) fun x9999_2 H => 
  bR (stNp 1 x3 (.int .i64 (.ofNat 0)) H) fun x9999_3 H => 
  some (.ret (.tuple []), H)) else none
def r115_0a : Hint := .o
def r115_0b : Hint := (.b0 (.s .o (.s .o (.s .o .o))))
theorem r115_0_eq (D : Dyn) (n : Nat) : r115_0 D n = rndKp (s115 D n) D n 115 0 [1, 2, 3] [0] r115_0a r115_0b := by kernel_rfl
theorem r115_0_ok {D : Dyn} (hD : DP D) (n : Nat) : RdP 115 0 (r115_0 D n) := round_okP X_ok hD (SP.cons (f203_ok hD n) (SP.cons (f101_ok hD n) (SP.nil))) (by kernel_rfl) (r115_0_eq D n)

def s121 (D : Dyn) (n : Nat) : Tb := ⟨X, [(210, f210 D n), (211, f211 D n)]⟩
/-- jetty/block.To -/
def f121 (D : Dyn) (n : Nat) (vs : List AV) (H : AH) : Option (AV × AH) :=
  outR (hd vs fun x0 vs => hd vs fun x1 vs => nl vs <|
  bA (bxV 164 x1) H fun x3 H => 
  bA (bxV 52 (.agg [(.int .i64 (.ofNat 0)), (.int .i64 (.ofNat 0)), (.int .u64 (.ofNat 0))])) H fun x4 H => 
  bV (ldNp 512 x3 H) fun x11 => 
  bR (f210 D n [x11] H) fun x12 H => 
  bV (pExtract x12 0) fun x13 => 
  bV (pExtract x12 1) fun x14 => 
  bV (pExtract x12 2) fun x15 => 
  bV (pExtract x12 3) fun x16 => 
  bV (bInt .neq x16 (.int .i64 (.ofNat 0))) fun x18 => 
  cnd x18 (bV (bldSp [(0, 1), (1, 1), (2, 1)] [(.int .i64 (.ofNat 0)), (.int .i64 (.ofNat 0)), (.int .u64 (.ofNat 0))] []) fun x19 => 
  bR (stNp 3 x4 x19 H) fun x9999 H => 
  bV (ldNp 3 x4 H) fun x9004 => bV (some x16) fun x5 => some (.ret (.tuple [x9004, x5]), H))
  (bV (bInt .lss x0 (.int .i64 (.ofNat 1))) fun x22 => 
  jn (wnt x22 false (bV (bInt .geq x0 (.int .i64 (.ofNat 8192))) fun x25 => 
  some (.norm [x25], H)) (some (.norm [undefA], H))) fun vs H => hd vs fun x25_2 vs => 
  bV (pk3 (some x22) (some (.bool true)) (some x25_2)) fun x26 => 
  cnd x26 (bV (bldSp [(0, 1), (1, 1), (2, 1)] [(.int .i64 (.ofNat 0)), (.int .i64 (.ofNat 0)), (.int .u64 (.ofNat 0))] []) fun x27 => 
  bR (stNp 3 x4 x27 H) fun x9999_2 H => 
  bV (ldNp 3 x4 H) fun x9004_2 => bV (some (.int .i64 (.ofNat 1))) fun x5_2 => some (.ret (.tuple [x9004_2, x5_2]), H))
  (bV (ldNp 512 x3 H) fun x30 => 
  bR (f211 D n [x30] H) fun x31 H => 
  bV (bldSp [(0, 1), (1, 1), (2, 1)] [(.int .i64 (.ofNat 0)), (.int .i64 (.ofNat 0)), (.int .u64 (.ofNat 0))] [(0, x0), (1, x14), (2, x31)]) fun x32 => 
  bR (stNp 3 x4 x32 H) fun x9999_3 H => 
  bV (ldNp 3 x4 H) fun x9004_3 => bV (some (.int .i64 (.ofNat 0))) fun x5_3 => some (.ret (.tuple [x9004_3, x5_3]), H))))
def h121 : Hint := (.s .o (.s .o (.s (.s .o (.cl (.s .o .o) .o)) (.s (.s .o (.cl (.s .o .o) .o)) (.s .o .o)))))
theorem f121_eq (D : Dyn) (n : Nat) : f121 D n = funKp (s121 D n) D n 121 Tryz.f121 h121 := by kernel_rfl
theorem f121_ok {D : Dyn} (hD : DP D) (n : Nat) : FP 121 (f121 D n) := fun_okP X_ok hD (SP.cons (f210_ok hD n) (SP.cons (f211_ok hD n) (SP.nil))) Tryz.func121 (by kernel_rfl) (by kernel_rfl) (f121_eq D n)

def s197 (D : Dyn) (n : Nat) : Tb := ⟨X, [(115, f115 D n), (118, f118 D n), (121, f121 D n)]⟩
/-- (*jetty/tree.writer).put -/
def f197 (D : Dyn) (n : Nat) (vs : List AV) (H : AH) : Option (AV × AH) :=
  outR (hd vs fun x0 vs => hd vs fun x1 vs => nl vs <|
  bA (bxV 164 x1) H fun x3 H => 
  bA (bxV 52 (.agg [(.int .i64 (.ofNat 0)), (.int .i64 (.ofNat 0)), (.int .u64 (.ofNat 0))])) H fun x4 H => 
  bV (pNil x0) fun x11 => 
  bV (fAd 1 x11) fun x12 => 
  bV (ld1p x12 H) fun x13 => 
  bR (f115 D n [x13] H) fun x14 H => 
  bV (pExtract x14 0) fun x15 => 
  bV (pExtract x14 1) fun x16 => 
  bV (bInt .neq x16 (.int .i64 (.ofNat 0))) fun x18 => 
  cnd x18 (bV (bldSp [(0, 1), (1, 1), (2, 1)] [(.int .i64 (.ofNat 0)), (.int .i64 (.ofNat 0)), (.int .u64 (.ofNat 0))] []) fun x19 => 
  bR (stNp 3 x4 x19 H) fun x9999 H => 
  bV (ldNp 3 x4 H) fun x9004 => bV (some x16) fun x5 => some (.ret (.tuple [x9004, x5]), H))
  (bV (pNil x0) fun x23 => 
  bV (fAd 4 x23) fun x24 => 
  bV (ld1p x24 H) fun x25 => 
  bA (bldLp 3 1 1 [(.int .i64 (.ofNat 0))] [(0, x15)]) H fun x27 H => 
  bR (apPp 3 1 8 x25 x27 H) fun x28 H => 
  bV (pNil x0) fun x29 => 
  bV (fAd 4 x29) fun x30 => 
  bR (stNp 1 x30 x28 H) fun x9999_2 H => 
  bV (pNil x0) fun x32 => 
  bV (fAd 0 x32) fun x33 => 
  bV (ld1p x33 H) fun x34 => 
  bV (pNil x34) fun x35 => 
  bV (fAd 0 x35) fun x36 => 
  bV (ld1p x36 H) fun x37 => 
  bV (ldNp 512 x3 H) fun x39 => 
  bR (f118 D n [x37, x15, x39] H) fun x40 H => 
  bV (bInt .neq x40 (.int .i64 (.ofNat 0))) fun x42 => 
  cnd x42 (bV (bldSp [(0, 1), (1, 1), (2, 1)] [(.int .i64 (.ofNat 0)), (.int .i64 (.ofNat 0)), (.int .u64 (.ofNat 0))] []) fun x43 => 
  bR (stNp 3 x4 x43 H) fun x9999_3 H => 
  bV (ldNp 3 x4 H) fun x9004_2 => bV (some x40) fun x5_2 => some (.ret (.tuple [x9004_2, x5_2]), H))
  (bV (pNil x0) fun x47 => 
  bV (fAd 5 x47) fun x48 => 
  bV (ld1p x48 H) fun x49 => 
  bV (ldNp 512 x3 H) fun x51 => 
  bV (bldSp [(0, 1), (1, 512)] [(.int .i64 (.ofNat 0)), .pk 512 0] [(0, x15), (1, x51)]) fun x52 => 
  bA (bldLp 166 513 1 [(.int .i64 (.ofNat 0)), .pk 512 0] [(0, x52)]) H fun x53 H => 
  bR (apPp 166 513 520 x49 x53 H) fun x54 H => 
  bV (pNil x0) fun x55 => 
  bV (fAd 5 x55) fun x56 => 
  bR (stNp 1 x56 x54 H) fun x9999_4 H => 
  bV (ldNp 512 x3 H) fun x58 => 
  bR (f121 D n [x15, x58] H) fun x59 H => 
  bV (pExtract x59 0) fun x60 => 
  bV (pExtract x59 1) fun x61 => 
  bR (stNp 3 x4 x60 H) fun x9999_5 H => 
  bV (ldNp 3 x4 H) fun x9004_3 => bV (some x61) fun x5_3 => some (.ret (.tuple [x9004_3, x5_3]), H))))
def h197 : Hint := (.s .o (.s .o (.s (.s .o (.cl (.s .o .o) .o)) (.s .o (.s (.s .o (.s .o (.cl (.s .o .o) .o))) (.s .o (.s .o .o)))))))
theorem f197_eq (D : Dyn) (n : Nat) : f197 D n = funKp (s197 D n) D n 197 Tryz.f197 h197 := by kernel_rfl
theorem f197_ok {D : Dyn} (hD : DP D) (n : Nat) : FP 197 (f197 D n) := fun_okP X_ok hD (SP.cons (f115_ok hD n) (SP.cons (f118_ok hD n) (SP.cons (f121_ok hD n) (SP.nil)))) Tryz.func197 (by kernel_rfl) (by kernel_rfl) (f197_eq D n)
end Go.Eng.Sh
