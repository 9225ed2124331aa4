/- Shallow functions, by program (gen.py). -/
import Derived.Test.YtnbpjfmfopgomaaGreatRS5
import Derived.Test.YtnbpjfmfopgomaaGreatProg
import Derived.KernelRfl
noncomputable section
namespace Go.Eng.Sh
open Go.Proofs
set_option maxRecDepth 100000
set_option linter.all false
def s51 (D : Dyn) (n : Nat) : Tb := ⟨X, [(44, f44 D n), (113, f113 D n), (69, f69 D n), (114, f114 D n)]⟩
def f51l0 (D : Dyn) (n : Nat) (vs : List AV) (H : AH) : Rs :=
  hd vs fun x0_2 vs => hd vs fun x4_2 vs => hd vs fun x6_2 vs => hd vs fun x8 vs => hd vs fun x49_2 vs => hd vs fun x50_2 vs => hd vs fun x51 vs => 
  bV (bInt .lss x51 x50_2) fun x52 => 
  cnd x52 (bV (ixSl 3 x49_2 x51) fun x54 => 
  bV (ldNp 3 x54 H) fun x55 => 
  bA (bxV 35 (.agg [(.int .i64 (.ofNat 0)), (.int .i64 (.ofNat 0)), (.int .u64 (.ofNat 0))])) H fun x10 H => 
  bR (stNp 3 x10 x55 H) fun x9999_6 H => 
  bV (ldNp 3 x10 H) fun x60 => 
  bR (noPan (D.fn 51 [x0_2, x60] H)) fun x61 H => 
  bV (pExtract x61 0) fun x62 => 
  bV (pExtract x61 1) fun x63 => 
  bV (ixSl 3 x8 x51) fun x64 => 
  bR (stNp 3 x64 x62 H) fun x9999_7 H => 
  bV (bInt .neq x63 (.int .i64 (.ofNat 0))) fun x66 => 
  cnd x66 (bV (bldSp [(0, 1), (1, 1), (2, 1)] [(.int .i64 (.ofNat 0)), (.int .i64 (.ofNat 0)), (.int .u64 (.ofNat 0))] []) fun x67 => 
  bR (stNp 3 x4_2 x67 H) fun x9999_8 H => 
  bV (ldNp 3 x4_2 H) fun x9004_4 => bV (some x63) fun x5_4 => some (.ret (.tuple [x9004_4, x5_4]), H))
  (bV (bInt .add x51 (.int .i64 (.ofNat 1))) fun x69 => 
  some (.norm [x0_2, x4_2, x6_2, x8, x49_2, x50_2, x69], H)))
  (some (.exit 0 [x0_2, x4_2, x6_2, x8], H))
def f51j1 (D : Dyn) (n : Nat) (vs : List AV) (H : AH) : Rs :=
  hd vs fun x0_4 vs => hd vs fun x4_4 vs => hd vs fun x6_4 vs => hd vs fun x11 vs => 
  bV (ldNp 4 x6_4 H) fun x75 => 
  bR (noPan (f113 D n [x75] H)) fun x76 H => 
  bV (pExtract x76 0) fun x77 => 
  bV (pExtract x76 1) fun x78 => 
  bV (bInt .neq x78 (.int .i64 (.ofNat 0))) fun x80 => 
  cnd x80 (bV (bldSp [(0, 1), (1, 1), (2, 1)] [(.int .i64 (.ofNat 0)), (.int .i64 (.ofNat 0)), (.int .u64 (.ofNat 0))] []) fun x81 => 
  bR (stNp 3 x4_4 x81 H) fun x9999_10 H => 
  bV (ldNp 3 x4_4 H) fun x9004_5 => bV (some x78) fun x5_5 => some (.ret (.tuple [x9004_5, x5_5]), H))
  (bV (pNil x0_4) fun x86 => 
  bV (fAd 2 x86) fun x87 => 
  bV (ld1p x87 H) fun x88 => 
  bR (noPan (f69 D n [x11, x88, x77] H)) fun x90 H => 
  bV (pExtract x90 0) fun x91 => 
  bV (pExtract x90 1) fun x92 => 
  bA (bxV 100 (.agg [.pk 512 0])) H fun x13 H => 
  bR (stNp 512 x13 x91 H) fun x9999_11 H => 
  bV (bInt .neq x92 (.int .i64 (.ofNat 0))) fun x94 => 
  cnd x94 (bV (bldSp [(0, 1), (1, 1), (2, 1)] [(.int .i64 (.ofNat 0)), (.int .i64 (.ofNat 0)), (.int .u64 (.ofNat 0))] []) fun x95 => 
  bR (stNp 3 x4_4 x95 H) fun x9999_12 H => 
  bV (ldNp 3 x4_4 H) fun x9004_6 => bV (some x92) fun x5_6 => some (.ret (.tuple [x9004_6, x5_6]), H))
  (bV (ldNp 512 x13 H) fun x98 => 
  bR (noPan (f114 D n [x0_4, x98] H)) fun x99 H => 
  bV (pExtract x99 0) fun x100 => 
  bV (pExtract x99 1) fun x101 => 
  bR (stNp 3 x4_4 x100 H) fun x9999_13 H => 
  bV (ldNp 3 x4_4 H) fun x9004_7 => bV (some x101) fun x5_7 => some (.ret (.tuple [x9004_7, x5_7]), H)))
def f51b2 (D : Dyn) (n : Nat) (vs : List AV) (H : AH) : Rs :=
  hd vs fun x0_3 vs => hd vs fun x4_3 vs => hd vs fun x6_3 vs => hd vs fun x8_2 vs => 
  bV (fAd 3 x6_3) fun x71 => 
  bR (stNp 1 x71 x8_2 H) fun x9999_9 H => 
  bV (fAd 0 x6_3) fun x72 => 
  bV (ld1p x72 H) fun x73 => 
  jn (cnd x73 (some (.norm [x0_3, x4_3, x6_3, (.int .u8 (.ofNat 1))], H))
  (some (.norm [x0_3, x4_3, x6_3, (.int .u8 (.ofNat 2))], H))) (f51j1 D n)
/-- (*jetty/tree.writer).node -/
def f51 (D : Dyn) (n : Nat) (vs : List AV) (H : AH) : Option (AV × AH) :=
  outR (hd vs fun x0 vs => hd vs fun x1 vs => nl vs <|
  bA (bxV 35 x1) H fun x3 H => 
  bA (bxV 35 (.agg [(.int .i64 (.ofNat 0)), (.int .i64 (.ofNat 0)), (.int .u64 (.ofNat 0))])) H fun x4 H => 
  bV (fAd 0 x3) fun x14 => 
  bV (ld1p x14 H) fun x15 => 
  bV (bInt .neq x15 (.int .i64 (.ofNat 1))) fun x16 => 
  cnd x16 (bV (ldNp 3 x3 H) fun x17 => 
  bR (stNp 3 x4 x17 H) fun x9999 H => 
  bV (ldNp 3 x4 H) fun x9004 => bV (some (.int .i64 (.ofNat 0))) fun x5 => some (.ret (.tuple [x9004, x5]), H))
  (bV (pNil x0) fun x19 => 
  bV (fAd 3 x19) fun x20 => 
  bV (ld1p x20 H) fun x21 => 
  bV (bInt .sub x21 (.int .i64 (.ofNat 1))) fun x22 => 
  bV (pNil x0) fun x23 => 
  bV (fAd 3 x23) fun x24 => 
  bR (stNp 1 x24 x22 H) fun x9999_2 H => 
  bV (pNil x0) fun x26 => 
  bV (fAd 3 x26) fun x27 => 
  bV (ld1p x27 H) fun x28 => 
  bV (bInt .lss x28 (.int .i64 (.ofNat 0))) fun x29 => 
  cnd x29 (bV (bldSp [(0, 1), (1, 1), (2, 1)] [(.int .i64 (.ofNat 0)), (.int .i64 (.ofNat 0)), (.int .u64 (.ofNat 0))] []) fun x30 => 
  bR (stNp 3 x4 x30 H) fun x9999_3 H => 
  bV (ldNp 3 x4 H) fun x9004_2 => bV (some (.int .i64 (.ofNat 4))) fun x5_2 => some (.ret (.tuple [x9004_2, x5_2]), H))
  (bV (pNil x0) fun x33 => 
  bV (fAd 0 x33) fun x34 => 
  bV (ld1p x34 H) fun x35 => 
  bV (ldNp 3 x3 H) fun x36 => 
  bA (bxV 46 (.agg [(.bool false), .nilSlice, .nilSlice, .nilSlice])) H fun x6 H => 
  bR (noPan (f44 D n [x35, x36] H)) fun x37 H => 
  bV (pExtract x37 0) fun x38 => 
  bV (pExtract x37 1) fun x39 => 
  bR (stNp 4 x6 x38 H) fun x9999_4 H => 
  bV (bInt .neq x39 (.int .i64 (.ofNat 0))) fun x41 => 
  cnd x41 (bV (bldSp [(0, 1), (1, 1), (2, 1)] [(.int .i64 (.ofNat 0)), (.int .i64 (.ofNat 0)), (.int .u64 (.ofNat 0))] []) fun x42 => 
  bR (stNp 3 x4 x42 H) fun x9999_5 H => 
  bV (ldNp 3 x4 H) fun x9004_3 => bV (some x39) fun x5_3 => some (.ret (.tuple [x9004_3, x5_3]), H))
  (bV (fAd 3 x6) fun x44 => 
  bV (ld1p x44 H) fun x45 => 
  bV (lnSl x45) fun x46 => 
  bA (mkSlp 35 3 24 [(.int .i64 (.ofNat 0)), (.int .i64 (.ofNat 0)), (.int .u64 (.ofNat 0))] x46 x46) H fun x47 H => 
  bV (fAd 3 x6) fun x48 => 
  bV (ld1p x48 H) fun x49 => 
  bV (lnSl x49) fun x50 => 
  jb 0 (loopK n (f51l0 D n) [x0, x4, x6, x47, x49, x50, (.int .i64 (.ofNat 0))] H) (f51b2 D n)))))
def h51 : Hint := (.s .o (.s (.s .o (.cl (.s .o .o) .o)) (.s (.s .o (.s .o (.cl (.s .o .o) .o))) (.s .o (.s (.s .o (.cl (.s .o .o) .o)) (.s .o (.s (.s .o (.b [0, 4, 6, 8] (.l [0, 4, 6, 8, 49, 50, 51] (.s .o (.s (.cr .o .o) (.s (.b0 (.s .o (.s .o (.s .o (.cl (.s .o .o) .o))))) .o)))))) (.s .o (.s .o (.s (.s .o (.c [0, 4, 6, 11] .o .o)) (.s .o (.s (.s .o (.cl (.s .o .o) .o)) (.s .o (.s (.s .o (.cl (.s .o .o) .o)) (.s .o .o)))))))))))))))
theorem f51_eq (D : Dyn) (n : Nat) : f51 D n = funKp (s51 D n) D n 51 Tryz.f51 h51 := by kernel_rfl
theorem f51_ok {D : Dyn} (hD : DP D) (n : Nat) : FP 51 (f51 D n) := fun_okP X_ok hD (SP.cons (f44_ok hD n) (SP.cons (f113_ok hD n) (SP.cons (f69_ok hD n) (SP.cons (f114_ok hD n) (SP.nil))))) Tryz.func51 (by kernel_rfl) (by kernel_rfl) (f51_eq D n)

def s52 (D : Dyn) (n : Nat) : Tb := ⟨X, [(115, f115 D n), (40, f40 D n)]⟩
def f52j0 (D : Dyn) (n : Nat) (vs : List AV) (H : AH) : Rs :=
  
  bV (some (.int .i64 (.ofNat 0))) fun x4_3 => some (.ret x4_3, H)
/-- (*jetty/space.Space).Give -/
def f52 (D : Dyn) (n : Nat) (vs : List AV) (H : AH) : Option (AV × AH) :=
  outR (hd vs fun x0 vs => hd vs fun x1 vs => nl vs <|
  bR (noPan (f115 D n [x0, x1] H)) fun x8 H => 
  bV (bInt .neq x8 (.int .i64 (.ofNat 0))) fun x10 => 
  cnd x10 (bV (some x8) fun x4 => some (.ret x4, H))
  (bV (pNil x0) fun x14 => 
  bV (fAd 2 x14) fun x15 => 
  bV (ixArr 8192 1 x15 x1) fun x16 => 
  bV (ld1p x16 H) fun x17 => 
  bV (bInt .eql x17 (.int .u8 (.ofNat 2))) fun x19 => 
  jn (cnd x19 (bR (noPan (f40 D n [x0, x1, (.int .u8 (.ofNat 0))] H)) fun x22 H => 
  some (.norm [], H))
  (bV (bInt .eql x17 (.int .u8 (.ofNat 1))) fun x24 => 
  cnd x24 (bR (noPan (f40 D n [x0, x1, (.int .u8 (.ofNat 3))] H)) fun x27 H => 
  some (.norm [], H))
  (bV (some (.int .i64 (.ofNat 5))) fun x4_2 => some (.ret x4_2, H)))) (f52j0 D n)))
def h52 : Hint := (.s .o (.s (.s .o (.s .o (.cl (.s .o .o) .o))) (.s (.s .o (.b0 (.s .o (.c [] .o (.s .o (.cr .o (.s .o .o))))))) (.s .o .o))))
theorem f52_eq (D : Dyn) (n : Nat) : f52 D n = funKp (s52 D n) D n 52 Tryz.f52 h52 := by kernel_rfl
theorem f52_ok {D : Dyn} (hD : DP D) (n : Nat) : FP 52 (f52 D n) := fun_okP X_ok hD (SP.cons (f115_ok hD n) (SP.cons (f40_ok hD n) (SP.nil))) Tryz.func52 (by kernel_rfl) (by kernel_rfl) (f52_eq D n)

def s13 (D : Dyn) (n : Nat) : Tb := ⟨X, [(42, f42 D n), (50, f50 D n), (51, f51 D n), (52, f52 D n), (53, f53 D n)]⟩
def f13l0 (D : Dyn) (n : Nat) (vs : List AV) (H : AH) : Rs :=
  hd vs fun x1_2 vs => hd vs fun x6_2 vs => hd vs fun x11 vs => hd vs fun x64_2 vs => hd vs fun x65_2 vs => hd vs fun x66 vs => 
  bV (bInt .lss x66 x65_2) fun x67 => 
  cnd x67 (bV (ixSl 1 x64_2 x66) fun x68 => 
  bV (ld1p x68 H) fun x69 => 
  bR (noPan (f52 D n [x1_2, x69] H)) fun x72 H => 
  bV (bInt .add x66 (.int .i64 (.ofNat 1))) fun x73 => 
  some (.norm [x1_2, x6_2, x11, x64_2, x65_2, x73], H))
  (some (.exit 0 [x6_2, x11], H))
def f13b1 (D : Dyn) (n : Nat) (vs : List AV) (H : AH) : Rs :=
  hd vs fun x6_3 vs => hd vs fun x11_2 vs => 
  bV (bldSp [(0, 1), (1, 1), (2, 1)] [(.int .i64 (.ofNat 0)), (.int .i64 (.ofNat 0)), (.int .u64 (.ofNat 0))] []) fun x74 => 
  bR (stNp 3 x6_3 x74 H) fun x9999_5 H => 
  bV (ldNp 3 x6_3 H) fun x9006_4 => bV (some .nilSlice) fun x7_4 => bV (some x11_2) fun x8_4 => some (.ret (.tuple [x9006_4, x7_4, x8_4]), H)
def f13l2 (D : Dyn) (n : Nat) (vs : List AV) (H : AH) : Rs :=
  hd vs fun x0_2 vs => hd vs fun x6_4 vs => hd vs fun x10_2 vs => hd vs fun x84_2 vs => hd vs fun x85_2 vs => hd vs fun x86 vs => 
  bV (bInt .lss x86 x85_2) fun x87 => 
  cnd x87 (bV (ixSl 513 x84_2 x86) fun x88 => 
  bV (ldNp 513 x88 H) fun x89 => 
  bA (bxV 102 (.agg [(.int .i64 (.ofNat 0)), .pk 512 0])) H fun x15 H => 
  bR (stNp 513 x15 x89 H) fun x9999_6 H => 
  bV (pNil x0_2) fun x91 => 
  bV (fAd 1 x91) fun x92 => 
  bV (ld1p x92 H) fun x93 => 
  bV (fAd 0 x15) fun x94 => 
  bV (ld1p x94 H) fun x95 => 
  bV (fAd 1 x15) fun x96 => 
  bV (ldNp 512 x96 H) fun x97 => 
  bR (noPan (f53 D n [x93, x95, x97] H)) fun x98 H => 
  bV (bInt .add x86 (.int .i64 (.ofNat 1))) fun x99 => 
  some (.norm [x0_2, x6_4, x10_2, x84_2, x85_2, x99], H))
  (some (.exit 2 [x0_2, x6_4, x10_2], H))
def f13b3 (D : Dyn) (n : Nat) (vs : List AV) (H : AH) : Rs :=
  hd vs fun x0_3 vs => hd vs fun x6_5 vs => hd vs fun x10_3 vs => 
  some (.norm [x0_3, x6_5, x10_3], H)
def f13j4 (D : Dyn) (n : Nat) (vs : List AV) (H : AH) : Rs :=
  hd vs fun x0_4 vs => hd vs fun x6_6 vs => hd vs fun x10_4 vs => 
  bV (pNil x0_4) fun x101 => 
  bV (fAd 7 x101) fun x102 => 
  bV (ld1p x102 H) fun x103 => 
  bV (ldNp 3 x10_4 H) fun x106 => 
  bV (pNil x0_4) fun x107 => 
  bV (fAd 2 x107) fun x108 => 
  bR (stNp 3 x108 x106 H) fun x9999_7 H => 
  bV (pNil x0_4) fun x109 => 
  bV (fAd 7 x109) fun x110 => 
  bR (stNp 1 x110 .nilSlice H) fun x9999_8 H => 
  bA (mkM [10]) H fun x112 H => 
  bV (pNil x0_4) fun x113 => 
  bV (fAd 5 x113) fun x114 => 
  bR (stNp 1 x114 x112 H) fun x9999_9 H => 
  bV (ldNp 3 x10_4 H) fun x115 => 
  bR (stNp 3 x6_6 x115 H) fun x9999_10 H => 
  bV (ldNp 3 x6_6 H) fun x9006_5 => bV (some x103) fun x7_5 => bV (some (.int .i64 (.ofNat 0))) fun x8_5 => some (.ret (.tuple [x9006_5, x7_5, x8_5]), H)
/-- (*jetty/tree.Tree).Write -/
def f13 (D : Dyn) (n : Nat) (vs : List AV) (H : AH) : Option (AV × AH) :=
  outR (hd vs fun x0 vs => hd vs fun x1 vs => hd vs fun x2 vs => nl vs <|
  bA (bxV 35 (.agg [(.int .i64 (.ofNat 0)), (.int .i64 (.ofNat 0)), (.int .u64 (.ofNat 0))])) H fun x6 H => 
  bR (noPan (f42 D n [x0] H)) fun x18 H => 
  jn (wnt x18 false (bV (cmpO .eql (eqP x1 .nilPtr)) fun x21 => 
  some (.norm [x21], H)) (some (.norm [undefA], H))) fun vs H => hd vs fun x21_2 vs => 
  bV (pk3 (some x18) (some (.bool true)) (some x21_2)) fun x22 => 
  cnd x22 (bV (bldSp [(0, 1), (1, 1), (2, 1)] [(.int .i64 (.ofNat 0)), (.int .i64 (.ofNat 0)), (.int .u64 (.ofNat 0))] []) fun x23 => 
  bR (stNp 3 x6 x23 H) fun x9999 H => 
  bV (ldNp 3 x6 H) fun x9006 => bV (some .nilSlice) fun x7 => bV (some (.int .i64 (.ofNat 2))) fun x8 => some (.ret (.tuple [x9006, x7, x8]), H))
  (bV (bInt .lss x2 (.int .i64 (.ofNat 1))) fun x25 => 
  jn (wnt x25 false (bV (bInt .gtr x2 (.int .i64 (.ofNat 2147483647))) fun x28 => 
  some (.norm [x28], H)) (some (.norm [undefA], H))) fun vs H => hd vs fun x28_2 vs => 
  bV (pk3 (some x25) (some (.bool true)) (some x28_2)) fun x29 => 
  cnd x29 (bV (bldSp [(0, 1), (1, 1), (2, 1)] [(.int .i64 (.ofNat 0)), (.int .i64 (.ofNat 0)), (.int .u64 (.ofNat 0))] []) fun x30 => 
  bR (stNp 3 x6 x30 H) fun x9999_2 H => 
  bV (ldNp 3 x6 H) fun x9006_2 => bV (some .nilSlice) fun x7_2 => bV (some (.int .i64 (.ofNat 1))) fun x8_2 => some (.ret (.tuple [x9006_2, x7_2, x8_2]), H))
  (bV (pNil x0) fun x34 => 
  bV (fAd 5 x34) fun x35 => 
  bV (ld1p x35 H) fun x36 => 
  bR (noPan (f50 D n [x1] H)) fun x32 H => chk (ld1p x35 H) x36 <| 
  bV (lnMap x36 H) fun x37 => 
  bV (bInt .lss x32 x37) fun x38 => 
  cnd x38 (bV (bldSp [(0, 1), (1, 1), (2, 1)] [(.int .i64 (.ofNat 0)), (.int .i64 (.ofNat 0)), (.int .u64 (.ofNat 0))] []) fun x39 => 
  bR (stNp 3 x6 x39 H) fun x9999_3 H => 
  bV (ldNp 3 x6 H) fun x9006_3 => bV (some .nilSlice) fun x7_3 => bV (some (.int .i64 (.ofNat 3))) fun x8_3 => some (.ret (.tuple [x9006_3, x7_3, x8_3]), H))
  (bV (pNil x0) fun x44 => 
  bV (fAd 5 x44) fun x45 => 
  bV (ld1p x45 H) fun x46 => 
  bV (lnMap x46 H) fun x47 => 
  bV (bldSp [(0, 1), (1, 1), (2, 1), (3, 1), (4, 1), (5, 1)] [.nilPtr, .nilPtr, (.int .i64 (.ofNat 0)), (.int .i64 (.ofNat 0)), .nilSlice, .nilSlice] [(0, x0), (1, x1), (2, x2), (3, x47)]) fun x48 => 
  bA (bxV 95 x48) H fun x49 H => 
  bV (pNil x0) fun x53 => 
  bV (fAd 2 x53) fun x54 => 
  bV (ldNp 3 x54 H) fun x55 => 
  bR (noPan (f51 D n [x49, x55] H)) fun x56 H => 
  bV (pExtract x56 0) fun x57 => 
  bV (pExtract x56 1) fun x58 => 
  bA (bxV 35 (.agg [(.int .i64 (.ofNat 0)), (.int .i64 (.ofNat 0)), (.int .u64 (.ofNat 0))])) H fun x10 H => 
  bR (stNp 3 x10 x57 H) fun x9999_4 H => 
  bV (bInt .neq x58 (.int .i64 (.ofNat 0))) fun x60 => 
  cnd x60 (bV (pNil x49) fun x62 => 
  bV (fAd 4 x62) fun x63 => 
  bV (ld1p x63 H) fun x64 => 
  bV (lnSl x64) fun x65 => 
  jb 0 (loopK n (f13l0 D n) [x1, x6, x58, x64, x65, (.int .i64 (.ofNat 0))] H) (f13b1 D n))
  (bV (pNil x0) fun x77 => 
  bV (fAd 1 x77) fun x78 => 
  bV (ld1p x78 H) fun x79 => 
  bV (cmpO .neq (eqP x79 .nilPtr)) fun x80 => 
  jn (cnd x80 (bV (pNil x49) fun x82 => 
  bV (fAd 5 x82) fun x83 => 
  bV (ld1p x83 H) fun x84 => 
  bV (lnSl x84) fun x85 => 
  jb 2 (loopK n (f13l2 D n) [x0, x6, x10, x84, x85, (.int .i64 (.ofNat 0))] H) (f13b3 D n))
  (some (.norm [x0, x6, x10], H))) (f13j4 D n))))))
def h13 : Hint := (.s .o (.s (.s .o (.cl (.s .o .o) .o)) (.s (.s .o (.cl (.s .o .o) .o)) (.s (.s .o (.cl (.s .o .o) .o)) (.s .o (.s .o (.s (.s .o (.cl (.s (.s .o (.b [6, 11] (.l [1, 6, 11, 64, 65, 66] (.s .o (.s (.cr .o .o) (.s (.b0 (.s .o .o)) .o)))))) (.s .o .o)) .o)) (.s (.s .o (.c [0, 6, 10] (.s .o (.b [0, 6, 10] (.l [0, 6, 10, 84, 85, 86] (.s .o (.s (.cr .o .o) (.s (.b0 (.s .o .o)) .o)))))) .o)) (.s .o (.s .o (.s .o (.s .o .o))))))))))))
theorem f13_eq (D : Dyn) (n : Nat) : f13 D n = funKp (s13 D n) D n 13 Tryz.f13 h13 := by kernel_rfl
theorem f13_ok {D : Dyn} (hD : DP D) (n : Nat) : FP 13 (f13 D n) := fun_okP X_ok hD (SP.cons (f42_ok hD n) (SP.cons (f50_ok hD n) (SP.cons (f51_ok hD n) (SP.cons (f52_ok hD n) (SP.cons (f53_ok hD n) (SP.nil)))))) Tryz.func13 (by kernel_rfl) (by kernel_rfl) (f13_eq D n)

def s166 (D : Dyn) (n : Nat) : Tb := ⟨X, [(142, f142 D n), (141, f141 D n)]⟩
/-- (*jetty/txg.Store).turn -/
def f166 (D : Dyn) (n : Nat) (vs : List AV) (H : AH) : Option (AV × AH) :=
  outR (hd vs fun x0 vs => hd vs fun x1 vs => nl vs <|
  bA (bxV 35 x1) H fun x3 H => 
  bV (pNil x0) fun x8 => 
  bV (fAd 0 x8) fun x9 => 
  bV (ld1p x9 H) fun x10 => 
  bR (noPan (f142 D n [x10] H)) fun x11 H => 
  bV (bInt .neq x11 (.int .i64 (.ofNat 0))) fun x13 => 
  cnd x13 (bV (some x11) fun x4 => some (.ret x4, H))
  (bV (pNil x0) fun x16 => 
  bV (fAd 0 x16) fun x17 => 
  bV (ld1p x17 H) fun x18 => 
  bV (pNil x0) fun x20 => 
  bV (fAd 5 x20) fun x21 => 
  bV (ld1p x21 H) fun x22 => 
  bV (bInt .add x22 (.int .i64 (.ofNat 1))) fun x23 => 
  bV (ldNp 3 x3 H) fun x24 => 
  bV (pNil x0) fun x26 => 
  bV (fAd 3 x26) fun x27 => 
  bV (ld1p x27 H) fun x28 => 
  bR (noPan (f141 D n [x18, x23, x24, x28] H)) fun x29 H => 
  bV (bInt .neq x29 (.int .i64 (.ofNat 0))) fun x31 => 
  cnd x31 (bV (some x29) fun x4_2 => some (.ret x4_2, H))
  (bV (pNil x0) fun x34 => 
  bV (fAd 0 x34) fun x35 => 
  bV (ld1p x35 H) fun x36 => 
  bR (noPan (f142 D n [x36] H)) fun x37 H => 
  bV (some x37) fun x4_3 => some (.ret x4_3, H))))
def h166 : Hint := (.s .o (.s (.s .o (.s .o (.cl (.s .o .o) .o))) (.s (.s .o (.s .o (.cl (.s .o .o) .o))) (.s .o .o))))
theorem f166_eq (D : Dyn) (n : Nat) : f166 D n = funKp (s166 D n) D n 166 Tryz.f166 h166 := by kernel_rfl
theorem f166_ok {D : Dyn} (hD : DP D) (n : Nat) : FP 166 (f166 D n) := fun_okP X_ok hD (SP.cons (f142_ok hD n) (SP.cons (f141_ok hD n) (SP.nil))) Tryz.func166 (by kernel_rfl) (by kernel_rfl) (f166_eq D n)

def s213 (D : Dyn) (n : Nat) : Tb := ⟨X, [(129, f129 D n), (40, f40 D n)]⟩
/-- (*jetty/space.Space).all -/
def f213 (D : Dyn) (n : Nat) (vs : List AV) (H : AH) : Option (AV × AH) :=
  outR (hd vs fun x0 vs => hd vs fun x1 vs => hd vs fun x2 vs => nl vs <|
  bA (bxV 27 x0) H fun x3 H => 
  bA (bxV 71 x2) H fun x5 H => 
  bV (ld1p x3 H) fun x7 => 
  bR (noPan (f129 D n [x7, x1, (.int .i64 (.ofNat 0))] H)) fun x9 H => 
  newB H (.loop ⟨.ready, none, 213, 0, [3, 5], [x3, x5]⟩) fun A H => bR (rfC (s213 D n).S D x9 A H) fun _ H => endLp A H fun j H => jmpK j (
  some (.ret (.tuple []), H))
  (fun id => none) (some (.ret (.tuple []), H)))
def h213 : Hint := (.s .o (.s .o (.b0 (.rf 0 [3, 5]))))
theorem f213_eq (D : Dyn) (n : Nat) : f213 D n = funKp (s213 D n) D n 213 Tryz.f213 h213 := by kernel_rfl
theorem f213_ok {D : Dyn} (hD : DP D) (n : Nat) : FP 213 (f213 D n) := fun_okP X_ok hD (SP.cons (f129_ok hD n) (SP.cons (f40_ok hD n) (SP.nil))) Tryz.func213 (by kernel_rfl) (by kernel_rfl) (f213_eq D n)
def r213_0 (D : Dyn) (n : Nat) (A : Nat) (l : ALoop) (az : List AV) (H : AH) : Option (AV × AH) :=
  bif eqNL [3, 5] l.live then endQ A (hd l.vals fun x3 vs => hd vs fun x5 vs => hd az fun x10 az => nl az <|
  beginK A H fun H => 
  bV (ld1p x3 H) fun x11 => 
  bV (ld1p x5 H) fun x13 => 
  bR (noPan (f40 D n [x11, x10, x13] H)) fun x14 H => 
  some (.norm [], H)) else none
def r213_0a : Hint := .o
def r213_0b : Hint := (.b0 .o)
theorem r213_0_eq (D : Dyn) (n : Nat) : r213_0 D n = rndKp (s213 D n) D n 213 0 [3, 5] [] r213_0a r213_0b := by kernel_rfl
theorem r213_0_ok {D : Dyn} (hD : DP D) (n : Nat) : RdP 213 0 (r213_0 D n) := round_okP X_ok hD (SP.cons (f129_ok hD n) (SP.cons (f40_ok hD n) (SP.nil))) (by kernel_rfl) (r213_0_eq D n)

def s167 (D : Dyn) (n : Nat) : Tb := ⟨X, [(213, f213 D n)]⟩
def f167j0 (D : Dyn) (n : Nat) (vs : List AV) (H : AH) : Rs :=
  
  some (.ret (.tuple []), H)
/-- (*jetty/space.Space).Back -/
def f167 (D : Dyn) (n : Nat) (vs : List AV) (H : AH) : Option (AV × AH) :=
  outR (hd vs fun x0 vs => nl vs <|
  bV (cmpO .neq (eqP x0 .nilPtr)) fun x3 => 
  jn (cnd x3 (bR (noPan (f213 D n [x0, (.int .u8 (.ofNat 3)), (.int .u8 (.ofNat 1))] H)) fun x5 H => 
  bR (noPan (f213 D n [x0, (.int .u8 (.ofNat 2)), (.int .u8 (.ofNat 0))] H)) fun x7 H => 
  some (.norm [], H))
  (some (.norm [], H))) (f167j0 D n))
def h167 : Hint := (.s .o (.c [] (.s .o .o) .o))
theorem f167_eq (D : Dyn) (n : Nat) : f167 D n = funKp (s167 D n) D n 167 Tryz.f167 h167 := by kernel_rfl
theorem f167_ok {D : Dyn} (hD : DP D) (n : Nat) : FP 167 (f167 D n) := fun_okP X_ok hD (SP.cons (f213_ok hD n) (SP.nil)) Tryz.func167 (by kernel_rfl) (by kernel_rfl) (f167_eq D n)

def s168 (D : Dyn) (n : Nat) : Tb := ⟨X, [(213, f213 D n)]⟩
def f168j0 (D : Dyn) (n : Nat) (vs : List AV) (H : AH) : Rs :=
  
  some (.ret (.tuple []), H)
/-- (*jetty/space.Space).Settle -/
def f168 (D : Dyn) (n : Nat) (vs : List AV) (H : AH) : Option (AV × AH) :=
  outR (hd vs fun x0 vs => nl vs <|
  bV (cmpO .neq (eqP x0 .nilPtr)) fun x3 => 
  jn (cnd x3 (bR (noPan (f213 D n [x0, (.int .u8 (.ofNat 3)), (.int .u8 (.ofNat 0))] H)) fun x5 H => 
  bR (noPan (f213 D n [x0, (.int .u8 (.ofNat 2)), (.int .u8 (.ofNat 1))] H)) fun x7 H => 
  some (.norm [], H))
  (some (.norm [], H))) (f168j0 D n))
def h168 : Hint := (.s .o (.c [] (.s .o .o) .o))
theorem f168_eq (D : Dyn) (n : Nat) : f168 D n = funKp (s168 D n) D n 168 Tryz.f168 h168 := by kernel_rfl
theorem f168_ok {D : Dyn} (hD : DP D) (n : Nat) : FP 168 (f168 D n) := fun_okP X_ok hD (SP.cons (f213_ok hD n) (SP.nil)) Tryz.func168 (by kernel_rfl) (by kernel_rfl) (f168_eq D n)

def s99 (D : Dyn) (n : Nat) : Tb := ⟨X, [(140, f140 D n), (61, f61 D n), (62, f62 D n), (13, f13 D n), (166, f166 D n), (167, f167 D n), (168, f168 D n), (145, f145 D n), (165, f165 D n)]⟩
def f99j0 (D : Dyn) (n : Nat) (vs : List AV) (H : AH) : Rs :=
  hd vs fun x0_3 vs => hd vs fun x5_2 vs => hd vs fun x6_3 vs => hd vs fun x7_2 vs => hd vs fun x78_3 vs => hd vs fun x79_2 vs => 
  bV (bInt .add x79_2 (.int .i64 (.ofNat 1))) fun x100 => 
  some (.norm [x0_3, x5_2, x6_3, x7_2, x78_3, x100], H)
def f99l1 (D : Dyn) (n : Nat) (vs : List AV) (H : AH) : Rs :=
  hd vs fun x0_2 vs => hd vs fun x5 vs => hd vs fun x6_2 vs => hd vs fun x7 vs => hd vs fun x78_2 vs => hd vs fun x79 vs => 
  bV (bInt .lss x79 x78_2) fun x80 => 
  cnd x80 (bV (pNil x0_2) fun x83 => 
  bV (fAd 4 x83) fun x84 => 
  bV (ld1p x84 H) fun x85 => 
  bR (noPan (f165 D n [x85, x79] H)) fun x87 H => 
  jn (wnt x87 true (bR (noPan (f165 D n [x5, x79] H)) fun x91 H => 
  bV (aun .not x91) fun x92 => 
  some (.norm [x92], H)) (some (.norm [undefA], H))) fun vs H => hd vs fun x92_2 vs => 
  bV (pk3 (some x87) (some x92_2) (some (.bool false))) fun x93 => 
  jn (cnd x93 (bV (pNil x0_2) fun x95 => 
  bV (fAd 9 x95) fun x96 => 
  bV (ld1p x96 H) fun x97 => 
  bV (bldSp [] [] []) fun x99 => 
  bR (upM [6] x97 x79 x99 H) fun x9999_3 H => 
  some (.norm [x0_2, x5, x6_2, x7, x78_2, x79], H))
  (some (.norm [x0_2, x5, x6_2, x7, x78_2, x79], H))) (f99j0 D n))
  (some (.exit 0 [x0_2, x6_2, x7], H))
def f99l2 (D : Dyn) (n : Nat) (vs : List AV) (H : AH) : Rs :=
  hd vs fun x0_5 vs => hd vs fun x6_5 vs => hd vs fun x7_4 vs => hd vs fun x101 vs => hd vs fun x102_2 vs => hd vs fun x103 vs => 
  bV (bInt .lss x103 x102_2) fun x104 => 
  cnd x104 (bV (ixSl 3 x101 x103) fun x105 => 
  bV (ldNp 3 x105 H) fun x106 => 
  bA (bxV 35 (.agg [(.int .i64 (.ofNat 0)), (.int .i64 (.ofNat 0)), (.int .u64 (.ofNat 0))])) H fun x11 H => 
  bR (stNp 3 x11 x106 H) fun x9999_4 H => 
  bV (pNil x0_5) fun x108 => 
  bV (fAd 9 x108) fun x109 => 
  bV (ld1p x109 H) fun x110 => 
  bV (fAd 0 x11) fun x111 => 
  bV (ld1p x111 H) fun x112 => 
  bR (dlM [6] x110 x112 H) fun x9999_5 H => 
  bV (bInt .add x103 (.int .i64 (.ofNat 1))) fun x113 => 
  some (.norm [x0_5, x6_5, x7_4, x101, x102_2, x113], H))
  (some (.exit 2 [x0_5, x6_5, x7_4], H))
def f99b3 (D : Dyn) (n : Nat) (vs : List AV) (H : AH) : Rs :=
  hd vs fun x0_6 vs => hd vs fun x6_6 vs => hd vs fun x7_5 vs => 
  bV (ldNp 3 x6_6 H) fun x115 => 
  bV (pNil x0_6) fun x116 => 
  bV (fAd 6 x116) fun x117 => 
  bR (stNp 3 x117 x115 H) fun x9999_6 H => 
  bV (pNil x0_6) fun x119 => 
  bV (fAd 5 x119) fun x120 => 
  bV (ld1p x120 H) fun x121 => 
  bV (bInt .add x121 (.int .i64 (.ofNat 1))) fun x122 => 
  bV (pNil x0_6) fun x123 => 
  bV (fAd 5 x123) fun x124 => 
  bR (stNp 1 x124 x122 H) fun x9999_7 H => 
  bV (some x7_5) fun x2_5 => bV (some (.int .i64 (.ofNat 0))) fun x3_5 => some (.ret (.tuple [x2_5, x3_5]), H)
def f99b4 (D : Dyn) (n : Nat) (vs : List AV) (H : AH) : Rs :=
  hd vs fun x0_4 vs => hd vs fun x6_4 vs => hd vs fun x7_3 vs => 
  bV (lnSl x7_3) fun x102 => 
  jb 2 (loopK n (f99l2 D n) [x0_4, x6_4, x7_3, x7_3, x102, (.int .i64 (.ofNat 0))] H) (f99b3 D n)
/-- (*jetty/txg.Store).Sync -/
def f99 (D : Dyn) (n : Nat) (vs : List AV) (H : AH) : Option (AV × AH) :=
  outR (hd vs fun x0 vs => nl vs <|
  bR (noPan (f140 D n [x0] H)) fun x13 H => 
  cnd x13 (bV (some .nilSlice) fun x2 => bV (some (.int .i64 (.ofNat 2))) fun x3 => some (.ret (.tuple [x2, x3]), H))
  (bV (pNil x0) fun x15 => 
  bV (fAd 5 x15) fun x16 => 
  bV (ld1p x16 H) fun x17 => 
  bV (bInt .geq x17 (.int .i64 (.ofNat 2147483647))) fun x18 => 
  cnd x18 (bV (some .nilSlice) fun x2_2 => bV (some (.int .i64 (.ofNat 3))) fun x3_2 => some (.ret (.tuple [x2_2, x3_2]), H))
  (bV (pNil x0) fun x20 => 
  bV (fAd 2 x20) fun x21 => 
  bV (ld1p x21 H) fun x22 => 
  bV (pNil x0) fun x25 => 
  bV (fAd 4 x25) fun x26 => 
  bV (ld1p x26 H) fun x27 => 
  bR (noPan (f61 D n [x22] H)) fun x23 H => chk (ld1p x26 H) x27 <| 
  bR (noPan (f62 D n [x27] H)) fun x28 H => 
  bV (pNil x0) fun x31 => 
  bV (fAd 2 x31) fun x32 => 
  bV (ld1p x32 H) fun x33 => 
  bV (pNil x0) fun x35 => 
  bV (fAd 4 x35) fun x36 => 
  bV (ld1p x36 H) fun x37 => 
  bV (pNil x0) fun x39 => 
  bV (fAd 5 x39) fun x40 => 
  bV (ld1p x40 H) fun x41 => 
  bV (bInt .add x41 (.int .i64 (.ofNat 1))) fun x42 => 
  bA (bxV 35 (.agg [(.int .i64 (.ofNat 0)), (.int .i64 (.ofNat 0)), (.int .u64 (.ofNat 0))])) H fun x6 H => 
  bR (noPan (f13 D n [x33, x37, x42] H)) fun x43 H => 
  bV (pExtract x43 0) fun x44 => 
  bV (pExtract x43 1) fun x45 => 
  bV (pExtract x43 2) fun x46 => 
  bR (stNp 3 x6 x44 H) fun x9999 H => 
  bV (bInt .neq x46 (.int .i64 (.ofNat 0))) fun x48 => 
  cnd x48 (bV (some .nilSlice) fun x2_3 => bV (some x46) fun x3_3 => some (.ret (.tuple [x2_3, x3_3]), H))
  (bV (ldNp 3 x6 H) fun x51 => 
  bR (noPan (f166 D n [x0, x51] H)) fun x52 H => 
  bV (bInt .neq x52 (.int .i64 (.ofNat 0))) fun x54 => 
  cnd x54 (bV (pNil x0) fun x56 => 
  bV (fAd 2 x56) fun x57 => 
  bV (ld1p x57 H) fun x58 => 
  bV (pNil x23) fun x60 => 
  bV (ldNp 8 x60 H) fun x61 => 
  bV (pNil x58) fun x62 => 
  bR (stNp 8 x62 x61 H) fun x9999_2 H => 
  bV (pNil x0) fun x64 => 
  bV (fAd 4 x64) fun x65 => 
  bV (ld1p x65 H) fun x66 => 
  bR (noPan (f167 D n [x66] H)) fun x67 H => 
  bV (some .nilSlice) fun x2_4 => bV (some x52) fun x3_4 => some (.ret (.tuple [x2_4, x3_4]), H))
  (bV (pNil x0) fun x70 => 
  bV (fAd 4 x70) fun x71 => 
  bV (ld1p x71 H) fun x72 => 
  bR (noPan (f168 D n [x72] H)) fun x73 H => 
  bV (pNil x0) fun x75 => 
  bV (fAd 0 x75) fun x76 => 
  bV (ld1p x76 H) fun x77 => 
  bR (noPan (f145 D n [x77] H)) fun x78 H => 
  jb 0 (loopK n (f99l1 D n) [x0, x28, x6, x45, x78, (.int .i64 (.ofNat 0))] H) (f99b4 D n))))))
def h99 : Hint := (.s .o (.s (.s .o (.cl (.s .o .o) .o)) (.s (.s .o (.cl (.s .o .o) .o)) (.s .o (.s .o (.s (.s .o (.cl (.s .o .o) .o)) (.s (.s .o (.s .o (.cl (.s .o (.s .o (.s .o .o))) .o))) (.s .o (.s (.s .o (.b [0, 6, 7] (.l [0, 5, 6, 7, 78, 79] (.s .o (.s (.cr .o .o) (.s (.b0 (.s .o (.s .o (.c [0, 5, 6, 7, 78, 79] .o .o)))) .o)))))) (.s (.s .o (.b [0, 6, 7] (.l [0, 6, 7, 101, 102, 103] (.s .o (.s (.cr .o .o) (.s (.b0 (.s .o .o)) .o)))))) (.s .o (.s .o (.s .o .o)))))))))))))
theorem f99_eq (D : Dyn) (n : Nat) : f99 D n = funKp (s99 D n) D n 99 Tryz.f99 h99 := by kernel_rfl
theorem f99_ok {D : Dyn} (hD : DP D) (n : Nat) : FP 99 (f99 D n) := fun_okP X_ok hD (SP.cons (f140_ok hD n) (SP.cons (f61_ok hD n) (SP.cons (f62_ok hD n) (SP.cons (f13_ok hD n) (SP.cons (f166_ok hD n) (SP.cons (f167_ok hD n) (SP.cons (f168_ok hD n) (SP.cons (f145_ok hD n) (SP.cons (f165_ok hD n) (SP.nil)))))))))) Tryz.func99 (by kernel_rfl) (by kernel_rfl) (f99_eq D n)

def s164 (D : Dyn) (n : Nat) : Tb := ⟨X, []⟩
/-- (jetty/dead.needs).without -/
def f164 (D : Dyn) (n : Nat) (vs : List AV) (H : AH) : Option (AV × AH) :=
  outR (hd vs fun x0 vs => hd vs fun x1 vs => nl vs <|
  bV (bInt .shl (.int .u8 (.ofNat 1)) x1) fun x7 => 
  bV (bInt .andNot x0 x7) fun x8 => 
  bV (some x8) fun x4 => some (.ret x4, H))
def h164 : Hint := (.s .o (.s .o .o))
theorem f164_eq (D : Dyn) (n : Nat) : f164 D n = funKp (s164 D n) D n 164 Tryz.f164 h164 := by kernel_rfl
theorem f164_ok {D : Dyn} (hD : DP D) (n : Nat) : FP 164 (f164 D n) := fun_okP X_ok hD (SP.nil) Tryz.func164 (by kernel_rfl) (by kernel_rfl) (f164_eq D n)

def s101 (D : Dyn) (n : Nat) : Tb := ⟨X, [(155, f155 D n), (156, f156 D n), (169, f169 D n), (170, f170 D n), (158, f158 D n), (164, f164 D n)]⟩
/-- (*jetty/dead.Table).Give -/
def f101 (D : Dyn) (n : Nat) (vs : List AV) (H : AH) : Option (AV × AH) :=
  outR (hd vs fun x0 vs => hd vs fun x1 vs => hd vs fun x2 vs => nl vs <|
  bR (noPan (f155 D n [x0] H)) fun x10 H => 
  cnd x10 (bV (some (.bool false)) fun x6 => bV (some (.int .i64 (.ofNat 2))) fun x7 => some (.ret (.tuple [x6, x7]), H))
  (bR (noPan (f156 D n [x1] H)) fun x12 H => 
  bV (aun .not x12) fun x13 => 
  jn (wnt x13 false (bR (noPan (f169 D n [x2] H)) fun x16 H => 
  bV (aun .not x16) fun x17 => 
  some (.norm [x17], H)) (some (.norm [undefA], H))) fun vs H => hd vs fun x17_2 vs => 
  bV (pk3 (some x13) (some (.bool true)) (some x17_2)) fun x18 => 
  cnd x18 (bV (some (.bool false)) fun x6_2 => bV (some (.int .i64 (.ofNat 1))) fun x7_2 => some (.ret (.tuple [x6_2, x7_2]), H))
  (bV (pNil x0) fun x20 => 
  bV (fAd 0 x20) fun x21 => 
  bV (ld1p x21 H) fun x22 => 
  bV (lkM [6] (.int .u8 (.ofNat 0)) false x22 x2 H) fun x24 => 
  bR (noPan (f170 D n [x24, x1] H)) fun x27 H => 
  bV (aun .not x27) fun x28 => 
  cnd x28 (bV (some (.bool false)) fun x6_3 => bV (some (.int .i64 (.ofNat 5))) fun x7_3 => some (.ret (.tuple [x6_3, x7_3]), H))
  (bR (noPan (f158 D n [x0, x2, (.func 164 [x24] []), x1] H)) fun x34 H => 
  bR (noPan (f164 D n [x24, x1] H)) fun x37 H => 
  bV (bInt .eql x37 (.int .u8 (.ofNat 0))) fun x38 => 
  bV (some x38) fun x6_4 => bV (some (.int .i64 (.ofNat 0))) fun x7_4 => some (.ret (.tuple [x6_4, x7_4]), H)))))
def h101 : Hint := (.s .o (.s (.s .o (.cl (.s .o .o) .o)) (.s (.s .o (.cl (.s .o .o) .o)) (.s .o (.s (.s .o (.cl (.s .o .o) .o)) (.s .o (.s .o .o)))))))
theorem f101_eq (D : Dyn) (n : Nat) : f101 D n = funKp (s101 D n) D n 101 Tryz.f101 h101 := by kernel_rfl
theorem f101_ok {D : Dyn} (hD : DP D) (n : Nat) : FP 101 (f101 D n) := fun_okP X_ok hD (SP.cons (f155_ok hD n) (SP.cons (f156_ok hD n) (SP.cons (f169_ok hD n) (SP.cons (f170_ok hD n) (SP.cons (f158_ok hD n) (SP.cons (f164_ok hD n) (SP.nil))))))) Tryz.func101 (by kernel_rfl) (by kernel_rfl) (f101_eq D n)

def s171 (D : Dyn) (n : Nat) : Tb := ⟨X, []⟩
def f171l0 (D : Dyn) (n : Nat) (vs : List AV) (H : AH) : Rs :=
  hd vs fun x1_2 vs => hd vs fun x8 vs => hd vs fun x9_2 vs => hd vs fun x10 vs => 
  bV (bInt .lss x10 x9_2) fun x11 => 
  cnd x11 (bV (ixSl 1 x8 x10) fun x12 => 
  bV (ld1p x12 H) fun x13 => 
  bR (noPan (callV (s171 D n).S D x1_2 [x13] H)) fun x16 H => 
  bV (bInt .neq x16 (.int .i64 (.ofNat 0))) fun x18 => 
  cnd x18 (bV (some x16) fun x4 => some (.ret x4, H))
  (bV (bInt .add x10 (.int .i64 (.ofNat 1))) fun x20 => 
  some (.norm [x1_2, x8, x9_2, x20], H)))
  (some (.exit 0 [], H))
def f171b1 (D : Dyn) (n : Nat) (vs : List AV) (H : AH) : Rs :=
  
  bV (some (.int .i64 (.ofNat 0))) fun x4_2 => some (.ret x4_2, H)
/-- jetty/txg.each -/
def f171 (D : Dyn) (n : Nat) (vs : List AV) (H : AH) : Option (AV × AH) :=
  outR (hd vs fun x0 vs => hd vs fun x1 vs => nl vs <|
  bV (lnSl x0) fun x9 => 
  jb 0 (loopK n (f171l0 D n) [x1, x0, x9, (.int .i64 (.ofNat 0))] H) (f171b1 D n))
def h171 : Hint := (.s .o (.s (.s .o (.b [] (.l [1, 8, 9, 10] (.s .o (.s (.cr .o .o) (.s (.b0 (.s .o (.s .o (.s .o (.cl (.s .o .o) .o))))) .o)))))) (.s .o .o)))
theorem f171_eq (D : Dyn) (n : Nat) : f171 D n = funKp (s171 D n) D n 171 Tryz.f171 h171 := by kernel_rfl
theorem f171_ok {D : Dyn} (hD : DP D) (n : Nat) : FP 171 (f171 D n) := fun_okP X_ok hD (SP.nil) Tryz.func171 (by kernel_rfl) (by kernel_rfl) (f171_eq D n)

def s172 (D : Dyn) (n : Nat) : Tb := ⟨X, [(52, f52 D n)]⟩
/-- (jetty/txg.asked).give -/
def f172 (D : Dyn) (n : Nat) (vs : List AV) (H : AH) : Option (AV × AH) :=
  outR (hd vs fun x0 vs => hd vs fun x1 vs => nl vs <|
  bA (bxV 243 x0) H fun x2 H => 
  bV (fAd 0 x2) fun x8 => 
  bV (ld1p x8 H) fun x9 => 
  bR (noPan (f52 D n [x9, x1] H)) fun x11 H => 
  bV (bInt .neq x11 (.int .i64 (.ofNat 0))) fun x13 => 
  cnd x13 (bV (some x11) fun x4 => some (.ret x4, H))
  (bV (fAd 1 x2) fun x16 => 
  bV (ld1p x16 H) fun x17 => 
  bV (lkM [6] (.agg []) true x17 x1 H) fun x19 => 
  bV (pExtract x19 0) fun x20 => 
  bV (pExtract x19 1) fun x21 => 
  bA (bxV 240 (.agg [])) H fun x6 H => 
  bR (stNp 0 x6 x20 H) fun x9999 H => 
  cnd x21 (bV (some (.int .i64 (.ofNat 50))) fun x4_2 => some (.ret x4_2, H))
  (bV (some (.int .i64 (.ofNat 0))) fun x4_3 => some (.ret x4_3, H))))
def h172 : Hint := (.s .o (.s (.s .o (.s .o (.cl (.s .o .o) .o))) (.s (.s .o (.s .o (.cl (.s .o .o) .o))) (.s .o .o))))
theorem f172_eq (D : Dyn) (n : Nat) : f172 D n = funKp (s172 D n) D n 172 Tryz.f172 h172 := by kernel_rfl
theorem f172_ok {D : Dyn} (hD : DP D) (n : Nat) : FP 172 (f172 D n) := fun_okP X_ok hD (SP.cons (f52_ok hD n) (SP.nil)) Tryz.func172 (by kernel_rfl) (by kernel_rfl) (f172_eq D n)

def s102 (D : Dyn) (n : Nat) : Tb := ⟨X, [(140, f140 D n), (62, f62 D n), (171, f171 D n), (168, f168 D n)]⟩
/-- (*jetty/txg.Store).Free -/
def f102 (D : Dyn) (n : Nat) (vs : List AV) (H : AH) : Option (AV × AH) :=
  outR (hd vs fun x0 vs => hd vs fun x1 vs => nl vs <|
  bR (noPan (f140 D n [x0] H)) fun x8 H => 
  cnd x8 (bV (some (.int .i64 (.ofNat 2))) fun x4 => some (.ret x4, H))
  (bV (pNil x0) fun x11 => 
  bV (fAd 4 x11) fun x12 => 
  bV (ld1p x12 H) fun x13 => 
  bV (pNil x0) fun x16 => 
  bV (fAd 9 x16) fun x17 => 
  bV (ld1p x17 H) fun x18 => 
  bR (noPan (f62 D n [x13] H)) fun x14 H => chk (ld1p x17 H) x18 <| 
  bV (bldSp [(0, 1), (1, 1)] [.nilPtr, .nilMap] [(0, x14), (1, x18)]) fun x19 => 
  bR (noPan (f171 D n [x1, (.func 172 [x19] [])] H)) fun x21 H => 
  bV (bInt .neq x21 (.int .i64 (.ofNat 0))) fun x23 => 
  cnd x23 (bV (some x21) fun x4_2 => some (.ret x4_2, H))
  (bV (pNil x0) fun x27 => 
  bV (fAd 4 x27) fun x28 => 
  bV (ld1p x28 H) fun x29 => 
  bR (noPan (f171 D n [x1, (.func 52 [x29] [])] H)) fun x31 H => 
  bV (bInt .neq x31 (.int .i64 (.ofNat 0))) fun x33 => 
  cnd x33 (bV (some x31) fun x4_3 => some (.ret x4_3, H))
  (bV (pNil x0) fun x36 => 
  bV (fAd 4 x36) fun x37 => 
  bV (ld1p x37 H) fun x38 => 
  bR (noPan (f168 D n [x38] H)) fun x39 H => 
  bV (some (.int .i64 (.ofNat 0))) fun x4_4 => some (.ret x4_4, H)))))
def h102 : Hint := (.s .o (.s (.s .o (.cl (.s .o .o) .o)) (.s (.s .o (.s .o (.cl (.s .o .o) .o))) (.s (.s .o (.s .o (.cl (.s .o .o) .o))) (.s .o (.s .o .o))))))
theorem f102_eq (D : Dyn) (n : Nat) : f102 D n = funKp (s102 D n) D n 102 Tryz.f102 h102 := by kernel_rfl
theorem f102_ok {D : Dyn} (hD : DP D) (n : Nat) : FP 102 (f102 D n) := fun_okP X_ok hD (SP.cons (f140_ok hD n) (SP.cons (f62_ok hD n) (SP.cons (f171_ok hD n) (SP.cons (f168_ok hD n) (SP.nil))))) Tryz.func102 (by kernel_rfl) (by kernel_rfl) (f102_eq D n)

def s100 (D : Dyn) (n : Nat) : Tb := ⟨X, []⟩
/-- (*jetty/snap.Volume).Sync$1 -/
def f100 (D : Dyn) (n : Nat) (vs : List AV) (H : AH) : Option (AV × AH) :=
  outR (hd vs fun x0 vs => hd vs fun x1 vs => nl vs <|
  bV (ld1p x1 H) fun x4 => 
  bV (ixSl 1 x4 x0) fun x6 => 
  bV (ld1p x6 H) fun x7 => 
  bV (some x7) fun x3 => some (.ret x3, H))
def h100 : Hint := (.s .o (.s .o .o))
theorem f100_eq (D : Dyn) (n : Nat) : f100 D n = funKp (s100 D n) D n 100 Tryz.f100 h100 := by kernel_rfl
theorem f100_ok {D : Dyn} (hD : DP D) (n : Nat) : FP 100 (f100 D n) := fun_okP X_ok hD (SP.nil) Tryz.func100 (by kernel_rfl) (by kernel_rfl) (f100_eq D n)

def s31 (D : Dyn) (n : Nat) : Tb := ⟨X, [(86, f86 D n), (91, f91 D n), (97, f97 D n), (98, f98 D n), (99, f99 D n), (83, f83 D n), (101, f101 D n), (102, f102 D n)]⟩
def f31l0 (D : Dyn) (n : Nat) (vs : List AV) (H : AH) : Rs :=
  hd vs fun x0_3 vs => hd vs fun x4_2 vs => hd vs fun x32_2 vs => hd vs fun x33 vs => 
  bV (bInt .lss x33 x32_2) fun x34 => 
  cnd x34 (bV (ld1p x4_2 H) fun x36 => 
  bV (pNil x0_3) fun x39 => 
  bV (fAd 0 x39) fun x40 => 
  bV (ld1p x40 H) fun x41 => 
  bR (noPan (f98 D n [x41, x33] H)) fun x43 H => chk (ld1p x4_2 H) x36 <| 
  bV (ixSl 1 x36 x33) fun x44 => 
  bR (stNp 1 x44 x43 H) fun x9999_2 H => 
  bV (bInt .add x33 (.int .i64 (.ofNat 1))) fun x45 => 
  some (.norm [x0_3, x4_2, x32_2, x45], H))
  (some (.exit 0 [x0_3, x4_2], H))
def f31j1 (D : Dyn) (n : Nat) (vs : List AV) (H : AH) : Rs :=
  hd vs fun x0_6 vs => hd vs fun x8_2 vs => hd vs fun x64_2 vs => hd vs fun x65_3 vs => hd vs fun x66_2 vs => 
  bV (bInt .add x66_2 (.int .i64 (.ofNat 1))) fun x90 => 
  some (.norm [x0_6, x8_2, x64_2, x65_3, x90], H)
def f31l2 (D : Dyn) (n : Nat) (vs : List AV) (H : AH) : Rs :=
  hd vs fun x0_5 vs => hd vs fun x8 vs => hd vs fun x64 vs => hd vs fun x65_2 vs => hd vs fun x66 vs => 
  bV (bInt .lss x66 x65_2) fun x67 => 
  cnd x67 (bV (ixSl 3 x64 x66) fun x68 => 
  bV (ldNp 3 x68 H) fun x69 => 
  bA (bxV 35 (.agg [(.int .i64 (.ofNat 0)), (.int .i64 (.ofNat 0)), (.int .u64 (.ofNat 0))])) H fun x10 H => 
  bR (stNp 3 x10 x69 H) fun x9999_3 H => 
  bV (pNil x0_5) fun x72 => 
  bV (fAd 3 x72) fun x73 => 
  bV (ld1p x73 H) fun x74 => 
  bV (fAd 0 x10) fun x75 => 
  bV (ld1p x75 H) fun x76 => 
  bR (noPan (f101 D n [x74, (.int .i64 (.ofNat 0)), x76] H)) fun x77 H => 
  bV (pExtract x77 0) fun x78 => 
  bV (pExtract x77 1) fun x79 => 
  bV (bInt .eql x79 (.int .i64 (.ofNat 0))) fun x81 => 
  jn (wnt x81 true (some (.norm [x78], H)) (some (.norm [undefA], H))) fun vs H => hd vs fun x83 vs => 
  bV (pk3 (some x81) (some x83) (some (.bool false))) fun x84 => 
  jn (cnd x84 (bV (fAd 0 x10) fun x86 => 
  bV (ld1p x86 H) fun x87 => 
  bA (bldLp 3 1 1 [(.int .i64 (.ofNat 0))] [(0, x87)]) H fun x88 H => 
  bR (apPp 3 1 8 x8 x88 H) fun x89 H => 
  some (.norm [x0_5, x89, x64, x65_2, x66], H))
  (some (.norm [x0_5, x8, x64, x65_2, x66], H))) (f31j1 D n))
  (some (.exit 2 [x0_5, x8], H))
def f31b3 (D : Dyn) (n : Nat) (vs : List AV) (H : AH) : Rs :=
  hd vs fun x0_7 vs => hd vs fun x8_3 vs => 
  bV (pNil x0_7) fun x92 => 
  bV (fAd 4 x92) fun x93 => 
  bR (stNp 1 x93 .nilSlice H) fun x9999_4 H => 
  bV (pNil x0_7) fun x95 => 
  bV (fAd 0 x95) fun x96 => 
  bV (ld1p x96 H) fun x97 => 
  bR (noPan (f102 D n [x97, x8_3] H)) fun x99 H => 
  bV (some x99) fun x2_4 => some (.ret x2_4, H)
def f31b4 (D : Dyn) (n : Nat) (vs : List AV) (H : AH) : Rs :=
  hd vs fun x0_4 vs => hd vs fun x4_3 vs => 
  bV (pNil x0_4) fun x48 => 
  bV (fAd 0 x48) fun x49 => 
  bV (ld1p x49 H) fun x50 => 
  bR (noPan (f99 D n [x50] H)) fun x51 H => 
  bV (pExtract x51 0) fun x52 => 
  bV (pExtract x51 1) fun x53 => 
  bV (bInt .neq x53 (.int .i64 (.ofNat 0))) fun x55 => 
  cnd x55 (bV (some x53) fun x2_3 => some (.ret x2_3, H))
  (bR (noPan (f83 D n [x0_4, (.func 100 [] [x4_3])] H)) fun x59 H => 
  bV (pNil x0_4) fun x61 => 
  bV (fAd 4 x61) fun x62 => 
  bV (ld1p x62 H) fun x63 => 
  bV (lnSl x52) fun x65 => 
  jb 2 (loopK n (f31l2 D n) [x0_4, x63, x52, x65, (.int .i64 (.ofNat 0))] H) (f31b3 D n))
def f31j5 (D : Dyn) (n : Nat) (vs : List AV) (H : AH) : Rs :=
  hd vs fun x0_2 vs => 
  bV (pNil x0_2) fun x26 => 
  bV (fAd 0 x26) fun x27 => 
  bV (ld1p x27 H) fun x28 => 
  bR (noPan (f97 D n [x28] H)) fun x29 H => 
  bA (mkSlp 4 1 1 [(.bool false)] x29 x29) H fun x30 H => 
  bA (bxV 149 .nilSlice) H fun x4 H => 
  bR (stNp 1 x4 x30 H) fun x9999 H => 
  bV (ld1p x4 H) fun x31 => 
  bV (lnSl x31) fun x32 => 
  jb 0 (loopK n (f31l0 D n) [x0_2, x4, x32, (.int .i64 (.ofNat 0))] H) (f31b4 D n)
/-- (*jetty/snap.Volume).Sync -/
def f31 (D : Dyn) (n : Nat) (vs : List AV) (H : AH) : Option (AV × AH) :=
  outR (hd vs fun x0 vs => nl vs <|
  bR (noPan (f86 D n [x0] H)) fun x14 H => 
  cnd x14 (bV (some (.int .i64 (.ofNat 2))) fun x2 => some (.ret x2, H))
  (bV (pNil x0) fun x16 => 
  bV (fAd 1 x16) fun x17 => 
  bV (ld1p x17 H) fun x18 => 
  bV (bInt .gtr x18 (.int .i64 (.ofNat 0))) fun x19 => 
  jn (cnd x19 (bR (noPan (f91 D n [x0] H)) fun x21 H => 
  bV (bInt .neq x21 (.int .i64 (.ofNat 0))) fun x23 => 
  cnd x23 (bV (some x21) fun x2_2 => some (.ret x2_2, H))
  (some (.norm [x0], H)))
  (some (.norm [x0], H))) (f31j5 D n)))
def h31 : Hint := (.s .o (.s (.s .o (.cl (.s .o .o) .o)) (.s (.s .o (.c [0] (.s .o (.s .o (.cl (.s .o .o) .o))) .o)) (.s .o (.s (.s .o (.b [0, 4] (.l [0, 4, 32, 33] (.s .o (.s (.cr .o .o) (.s (.b0 (.s .o .o)) .o)))))) (.s .o (.s (.s .o (.cl (.s .o .o) .o)) (.s .o (.s .o (.s (.s .o (.b [0, 8] (.l [0, 8, 64, 65, 66] (.s .o (.s (.cr .o .o) (.s (.b0 (.s .o (.s .o (.s .o (.c [0, 8, 64, 65, 66] .o .o))))) .o)))))) (.s .o (.s .o .o))))))))))))
theorem f31_eq (D : Dyn) (n : Nat) : f31 D n = funKp (s31 D n) D n 31 Tryz.f31 h31 := by kernel_rfl
theorem f31_ok {D : Dyn} (hD : DP D) (n : Nat) : FP 31 (f31 D n) := fun_okP X_ok hD (SP.cons (f86_ok hD n) (SP.cons (f91_ok hD n) (SP.cons (f97_ok hD n) (SP.cons (f98_ok hD n) (SP.cons (f99_ok hD n) (SP.cons (f83_ok hD n) (SP.cons (f101_ok hD n) (SP.cons (f102_ok hD n) (SP.nil))))))))) Tryz.func31 (by kernel_rfl) (by kernel_rfl) (f31_eq D n)

def s153 (D : Dyn) (n : Nat) : Tb := ⟨X, [(162, f162 D n)]⟩
/-- slices.ContainsFunc[[]jetty/snap.held,jetty/snap.held] -/
def f153 (D : Dyn) (n : Nat) (vs : List AV) (H : AH) : Option (AV × AH) :=
  outR (hd vs fun x0 vs => hd vs fun x1 vs => nl vs <|
  bR (noPan (f162 D n [x0, x1] H)) fun x7 H => 
  bV (bInt .geq x7 (.int .i64 (.ofNat 0))) fun x8 => 
  bV (some x8) fun x4 => some (.ret x4, H))
def h153 : Hint := (.s .o (.s .o .o))
theorem f153_eq (D : Dyn) (n : Nat) : f153 D n = funKp (s153 D n) D n 153 Tryz.f153 h153 := by kernel_rfl
theorem f153_ok {D : Dyn} (hD : DP D) (n : Nat) : FP 153 (f153 D n) := fun_okP X_ok hD (SP.cons (f162_ok hD n) (SP.nil)) Tryz.func153 (by kernel_rfl) (by kernel_rfl) (f153_eq D n)

def s154 (D : Dyn) (n : Nat) : Tb := ⟨X, []⟩
/-- (*jetty/snap.Volume).slot$1 -/
def f154 (D : Dyn) (n : Nat) (vs : List AV) (H : AH) : Option (AV × AH) :=
  outR (hd vs fun x0 vs => hd vs fun x1 vs => nl vs <|
  bA (bxV 138 x0) H fun x2 H => 
  bV (fAd 6 x2) fun x4 => 
  bV (ld1p x4 H) fun x5 => 
  bV (ld1p x1 H) fun x6 => 
  bV (bInt .eql x5 x6) fun x7 => 
  bV (some x7) fun x3 => some (.ret x3, H))
def h154 : Hint := (.s .o (.s .o .o))
theorem f154_eq (D : Dyn) (n : Nat) : f154 D n = funKp (s154 D n) D n 154 Tryz.f154 h154 := by kernel_rfl
theorem f154_ok {D : Dyn} (hD : DP D) (n : Nat) : FP 154 (f154 D n) := fun_okP X_ok hD (SP.nil) Tryz.func154 (by kernel_rfl) (by kernel_rfl) (f154_eq D n)

def s89 (D : Dyn) (n : Nat) : Tb := ⟨X, [(153, f153 D n)]⟩
def f89l0 (D : Dyn) (n : Nat) (vs : List AV) (H : AH) : Rs :=
  hd vs fun x0_2 vs => hd vs fun x3_2 vs => 
  bV (pNil x0_2) fun x5 => 
  bV (fAd 2 x5) fun x6 => 
  bV (ld1p x6 H) fun x7 => 
  bR (noPan (f153 D n [x7, (.func 154 [] [x3_2])] H)) fun x9 H => 
  cnd x9 (bV (ld1p x3_2 H) fun x10 => 
  bV (bInt .add x10 (.int .i64 (.ofNat 1))) fun x11 => 
  bR (stNp 1 x3_2 x11 H) fun x9999_2 H => 
  some (.norm [x0_2, x3_2], H))
  (some (.exit 0 [x3_2], H))
def f89b1 (D : Dyn) (n : Nat) (vs : List AV) (H : AH) : Rs :=
  hd vs fun x3_3 vs => 
  bV (ld1p x3_3 H) fun x12 => 
  bV (some x12) fun x2 => some (.ret x2, H)
/-- (*jetty/snap.Volume).slot -/
def f89 (D : Dyn) (n : Nat) (vs : List AV) (H : AH) : Option (AV × AH) :=
  outR (hd vs fun x0 vs => nl vs <|
  bA (bxV 3 (.int .i64 (.ofNat 0))) H fun x3 H => 
  bR (stNp 1 x3 (.int .i64 (.ofNat 1)) H) fun x9999 H => 
  jb 0 (loopK n (f89l0 D n) [x0, x3] H) (f89b1 D n))
def h89 : Hint := (.s .o (.s .o (.s (.b [3] (.l [0, 3] (.s (.s .o (.cr .o .o)) (.b0 .o)))) (.s .o .o))))
theorem f89_eq (D : Dyn) (n : Nat) : f89 D n = funKp (s89 D n) D n 89 Tryz.f89 h89 := by kernel_rfl
theorem f89_ok {D : Dyn} (hD : DP D) (n : Nat) : FP 89 (f89 D n) := fun_okP X_ok hD (SP.cons (f153_ok hD n) (SP.nil)) Tryz.func89 (by kernel_rfl) (by kernel_rfl) (f89_eq D n)

def s244 (D : Dyn) (n : Nat) : Tb := ⟨X, []⟩
def f244j0 (D : Dyn) (n : Nat) (vs : List AV) (H : AH) : Rs :=
  hd vs fun x0_3 vs => hd vs fun x2_2 vs => 
  bV (cvI .u8 x0_3) fun x15 => 
  bV (ixStr (.str 256 1013866857139168856493015739252390649739422828853819106890363778118420553376247557433637691341895324351018602695588957474325319502760499485336098898398377509666851054660423406800006203933793007272033180812049178612605246075062580585469430410618860250057463399279570354286669047577758927328864388992123306212451509403152394148136105363817402562688186708175358218852349079190158732807302672745370040257219644697201681238697346923541678507645485296520536209706771857694240900605172937619415410180424934769249448772944216470541052485265558808433676546390051204254346932932316488017972311616136051587427851453983453479168) x15) fun x16 => 
  bV (cvI .i64 x16) fun x17 => 
  bV (bInt .add x2_2 x17) fun x18 => 
  bV (some x18) fun x2_3 => some (.ret x2_3, H)
def f244j1 (D : Dyn) (n : Nat) (vs : List AV) (H : AH) : Rs :=
  hd vs fun x0_2 vs => hd vs fun x2 vs => 
  bV (bInt .geq x0_2 (.int .u32 (.ofNat 256))) fun x8 => 
  jn (cnd x8 (bV (bInt .shr x0_2 (.int .u64 (.ofNat 8))) fun x10 => 
  bV (bInt .add x2 (.int .i64 (.ofNat 8))) fun x12 => 
  some (.norm [x10, x12], H))
  (some (.norm [x0_2, x2], H))) (f244j0 D n)
/-- math/bits.Len32 -/
def f244 (D : Dyn) (n : Nat) (vs : List AV) (H : AH) : Option (AV × AH) :=
  outR (hd vs fun x0 vs => nl vs <|
  bV (bInt .geq x0 (.int .u32 (.ofNat 65536))) fun x4 => 
  jn (cnd x4 (bV (bInt .shr x0 (.int .u64 (.ofNat 16))) fun x6 => 
  some (.norm [x6, (.int .i64 (.ofNat 16))], H))
  (some (.norm [x0, (.int .i64 (.ofNat 0))], H))) (f244j1 D n))
def h244 : Hint := (.s .o (.s (.s .o (.c [0, 2] (.s .o .o) .o)) (.s (.s .o (.c [0, 2] (.s .o .o) .o)) (.s .o .o))))
theorem f244_eq (D : Dyn) (n : Nat) : f244 D n = funKp (s244 D n) D n 244 Tryz.f244 h244 := by kernel_rfl
theorem f244_ok {D : Dyn} (hD : DP D) (n : Nat) : FP 244 (f244 D n) := fun_okP X_ok hD (SP.nil) Tryz.func244 (by kernel_rfl) (by kernel_rfl) (f244_eq D n)

def s245 (D : Dyn) (n : Nat) : Tb := ⟨X, []⟩
def f245j0 (D : Dyn) (n : Nat) (vs : List AV) (H : AH) : Rs :=
  hd vs fun x0_4 vs => hd vs fun x2_3 vs => 
  bV (cvI .u8 x0_4) fun x21 => 
  bV (ixStr (.str 256 1013866857139168856493015739252390649739422828853819106890363778118420553376247557433637691341895324351018602695588957474325319502760499485336098898398377509666851054660423406800006203933793007272033180812049178612605246075062580585469430410618860250057463399279570354286669047577758927328864388992123306212451509403152394148136105363817402562688186708175358218852349079190158732807302672745370040257219644697201681238697346923541678507645485296520536209706771857694240900605172937619415410180424934769249448772944216470541052485265558808433676546390051204254346932932316488017972311616136051587427851453983453479168) x21) fun x22 => 
  bV (cvI .i64 x22) fun x23 => 
  bV (bInt .add x2_3 x23) fun x24 => 
  bV (some x24) fun x2_4 => some (.ret x2_4, H)
def f245j1 (D : Dyn) (n : Nat) (vs : List AV) (H : AH) : Rs :=
  hd vs fun x0_3 vs => hd vs fun x2_2 vs => 
  bV (bInt .geq x0_3 (.int .u64 (.ofNat 256))) fun x14 => 
  jn (cnd x14 (bV (bInt .shr x0_3 (.int .u64 (.ofNat 8))) fun x16 => 
  bV (bInt .add x2_2 (.int .i64 (.ofNat 8))) fun x18 => 
  some (.norm [x16, x18], H))
  (some (.norm [x0_3, x2_2], H))) (f245j0 D n)
def f245j2 (D : Dyn) (n : Nat) (vs : List AV) (H : AH) : Rs :=
  hd vs fun x0_2 vs => hd vs fun x2 vs => 
  bV (bInt .geq x0_2 (.int .u64 (.ofNat 65536))) fun x8 => 
  jn (cnd x8 (bV (bInt .shr x0_2 (.int .u64 (.ofNat 16))) fun x10 => 
  bV (bInt .add x2 (.int .i64 (.ofNat 16))) fun x12 => 
  some (.norm [x10, x12], H))
  (some (.norm [x0_2, x2], H))) (f245j1 D n)
/-- math/bits.Len64 -/
def f245 (D : Dyn) (n : Nat) (vs : List AV) (H : AH) : Option (AV × AH) :=
  outR (hd vs fun x0 vs => nl vs <|
  bV (bInt .geq x0 (.int .u64 (.ofNat 4294967296))) fun x4 => 
  jn (cnd x4 (bV (bInt .shr x0 (.int .u64 (.ofNat 32))) fun x6 => 
  some (.norm [x6, (.int .i64 (.ofNat 32))], H))
  (some (.norm [x0, (.int .i64 (.ofNat 0))], H))) (f245j2 D n))
def h245 : Hint := (.s .o (.s (.s .o (.c [0, 2] (.s .o .o) .o)) (.s (.s .o (.c [0, 2] (.s .o .o) .o)) (.s (.s .o (.c [0, 2] (.s .o .o) .o)) (.s .o .o)))))
theorem f245_eq (D : Dyn) (n : Nat) : f245 D n = funKp (s245 D n) D n 245 Tryz.f245 h245 := by kernel_rfl
theorem f245_ok {D : Dyn} (hD : DP D) (n : Nat) : FP 245 (f245 D n) := fun_okP X_ok hD (SP.nil) Tryz.func245 (by kernel_rfl) (by kernel_rfl) (f245_eq D n)

def s233 (D : Dyn) (n : Nat) : Tb := ⟨X, [(244, f244 D n), (245, f245 D n)]⟩
/-- math/bits.Len -/
def f233 (D : Dyn) (n : Nat) (vs : List AV) (H : AH) : Option (AV × AH) :=
  outR (hd vs fun x0 vs => nl vs <|
  cnd (.bool false) (bV (cvI .u32 x0) fun x4 => 
  bR (noPan (f244 D n [x4] H)) fun x5 H => 
  bV (some x5) fun x2 => some (.ret x2, H))
  (bR (noPan (f245 D n [x0] H)) fun x7 H => 
  bV (some x7) fun x2_2 => some (.ret x2_2, H)))
def h233 : Hint := (.s .o (.s (.cl (.s .o .o) .o) (.s .o .o)))
theorem f233_eq (D : Dyn) (n : Nat) : f233 D n = funKp (s233 D n) D n 233 Tryz.f233 h233 := by kernel_rfl
theorem f233_ok {D : Dyn} (hD : DP D) (n : Nat) : FP 233 (f233 D n) := fun_okP X_ok hD (SP.cons (f244_ok hD n) (SP.cons (f245_ok hD n) (SP.nil))) Tryz.func233 (by kernel_rfl) (by kernel_rfl) (f233_eq D n)

def s252 (D : Dyn) (n : Nat) : Tb := ⟨X, []⟩
/-- cmp.isNaN[int] -/
def f252 (D : Dyn) (n : Nat) (vs : List AV) (H : AH) : Option (AV × AH) :=
  outR (hd vs fun x0 vs => nl vs <|
  bV (bInt .neq x0 x0) fun x5 => 
  bV (some x5) fun x2 => some (.ret x2, H))
def h252 : Hint := (.s .o (.s .o .o))
theorem f252_eq (D : Dyn) (n : Nat) : f252 D n = funKp (s252 D n) D n 252 Tryz.f252 h252 := by kernel_rfl
theorem f252_ok {D : Dyn} (hD : DP D) (n : Nat) : FP 252 (f252 D n) := fun_okP X_ok hD (SP.nil) Tryz.func252 (by kernel_rfl) (by kernel_rfl) (f252_eq D n)

def s241 (D : Dyn) (n : Nat) : Tb := ⟨X, [(252, f252 D n)]⟩
/-- cmp.Less[int] -/
def f241 (D : Dyn) (n : Nat) (vs : List AV) (H : AH) : Option (AV × AH) :=
  outR (hd vs fun x0 vs => hd vs fun x1 vs => nl vs <|
  bR (noPan (f252 D n [x0] H)) fun x6 H => 
  jn (wnt x6 true (bR (noPan (f252 D n [x1] H)) fun x9 H => 
  bV (aun .not x9) fun x10 => 
  some (.norm [x10], H)) (some (.norm [undefA], H))) fun vs H => hd vs fun x10_2 vs => 
  bV (pk3 (some x6) (some x10_2) (some (.bool false))) fun x11 => 
  jn (wnt x11 false (bV (bInt .lss x0 x1) fun x15 => 
  some (.norm [x15], H)) (some (.norm [undefA], H))) fun vs H => hd vs fun x15_2 vs => 
  bV (pk3 (some x11) (some (.bool true)) (some x15_2)) fun x16 => 
  bV (some x16) fun x4 => some (.ret x4, H))
def h241 : Hint := (.s .o (.s .o .o))
theorem f241_eq (D : Dyn) (n : Nat) : f241 D n = funKp (s241 D n) D n 241 Tryz.f241 h241 := by kernel_rfl
theorem f241_ok {D : Dyn} (hD : DP D) (n : Nat) : FP 241 (f241 D n) := fun_okP X_ok hD (SP.cons (f252_ok hD n) (SP.nil)) Tryz.func241 (by kernel_rfl) (by kernel_rfl) (f241_eq D n)

def s235 (D : Dyn) (n : Nat) : Tb := ⟨X, [(241, f241 D n)]⟩
def f235l0 (D : Dyn) (n : Nat) (vs : List AV) (H : AH) : Rs :=
  hd vs fun x0_3 vs => hd vs fun x1_3 vs => hd vs fun x2_3 vs => hd vs fun x6_2 vs => hd vs fun x7 vs => 
  bV (bInt .gtr x7 x1_3) fun x18 => 
  jn (wnt x18 true (bV (ixSl 1 x0_3 x7) fun x22 => 
  bV (ld1p x22 H) fun x23 => 
  bV (bInt .sub x7 (.int .i64 (.ofNat 1))) fun x26 => 
  bV (ixSl 1 x0_3 x26) fun x27 => 
  bV (ld1p x27 H) fun x28 => 
  bR (noPan (f241 D n [x23, x28] H)) fun x29 H => 
  some (.norm [x29], H)) (some (.norm [undefA], H))) fun vs H => hd vs fun x29_2 vs => 
  bV (pk3 (some x18) (some x29_2) (some (.bool false))) fun x30 => 
  cnd x30 (bV (bInt .sub x7 (.int .i64 (.ofNat 1))) fun x37 => 
  bV (bInt .sub x7 (.int .i64 (.ofNat 1))) fun x40 => 
  bV (ixSl 1 x0_3 x40) fun x41 => 
  bV (ld1p x41 H) fun x42 => 
  bV (ixSl 1 x0_3 x7) fun x45 => 
  bV (ld1p x45 H) fun x46 => 
  bV (ixSl 1 x0_3 x7) fun x47 => 
  bR (stNp 1 x47 x42 H) fun x9999 H => 
  bV (ixSl 1 x0_3 x37) fun x48 => 
  bR (stNp 1 x48 x46 H) fun x9999_2 H => 
  bV (bInt .sub x7 (.int .i64 (.ofNat 1))) fun x32 => 
  some (.norm [x0_3, x1_3, x2_3, x6_2, x32], H))
  (some (.exit 2 [x0_3, x1_3, x2_3, x6_2], H))
def f235b1 (D : Dyn) (n : Nat) (vs : List AV) (H : AH) : Rs :=
  hd vs fun x0_4 vs => hd vs fun x1_4 vs => hd vs fun x2_4 vs => hd vs fun x6_3 vs => 
  bV (bInt .add x6_3 (.int .i64 (.ofNat 1))) fun x14 => 
  some (.norm [x0_4, x1_4, x2_4, x14], H)
def f235l2 (D : Dyn) (n : Nat) (vs : List AV) (H : AH) : Rs :=
  hd vs fun x0_2 vs => hd vs fun x1_2 vs => hd vs fun x2_2 vs => hd vs fun x6 vs => 
  bV (bInt .lss x6 x2_2) fun x12 => 
  cnd x12 (jb 2 (loopK n (f235l0 D n) [x0_2, x1_2, x2_2, x6, x6] H) (f235b1 D n))
  (some (.exit 0 [], H))
def f235b3 (D : Dyn) (n : Nat) (vs : List AV) (H : AH) : Rs :=
  
  some (.ret (.tuple []), H)
/-- slices.insertionSortOrdered[int] -/
def f235 (D : Dyn) (n : Nat) (vs : List AV) (H : AH) : Option (AV × AH) :=
  outR (hd vs fun x0 vs => hd vs fun x1 vs => hd vs fun x2 vs => nl vs <|
  bV (bInt .add x1 (.int .i64 (.ofNat 1))) fun x9 => 
  jb 0 (loopK n (f235l2 D n) [x0, x1, x2, x9] H) (f235b3 D n))
def h235 : Hint := (.s .o (.b [] (.l [0, 1, 2, 6] (.s (.s .o (.cr .o .o)) (.s (.b0 (.s .o (.b [0, 1, 2, 6] (.l [0, 1, 2, 6, 7] (.s (.s .o (.cr .o .o)) (.s (.b0 .o) .o)))))) .o)))))
theorem f235_eq (D : Dyn) (n : Nat) : f235 D n = funKp (s235 D n) D n 235 Tryz.f235 h235 := by kernel_rfl
theorem f235_ok {D : Dyn} (hD : DP D) (n : Nat) : FP 235 (f235 D n) := fun_okP X_ok hD (SP.cons (f241_ok hD n) (SP.nil)) Tryz.func235 (by kernel_rfl) (by kernel_rfl) (f235_eq D n)

def s247 (D : Dyn) (n : Nat) : Tb := ⟨X, [(241, f241 D n)]⟩
def f247j0 (D : Dyn) (n : Nat) (vs : List AV) (H : AH) : Rs :=
  hd vs fun x0_3 vs => hd vs fun x2_3 vs => hd vs fun x3_3 vs => hd vs fun x8_2 vs => hd vs fun x9 vs => 
  bV (bInt .add x3_3 x8_2) fun x42 => 
  bV (ixSl 1 x0_3 x42) fun x43 => 
  bV (ld1p x43 H) fun x44 => 
  bV (bInt .add x3_3 x9) fun x48 => 
  bV (ixSl 1 x0_3 x48) fun x49 => 
  bV (ld1p x49 H) fun x50 => 
  bR (noPan (f241 D n [x44, x50] H)) fun x51 H => 
  bV (aun .not x51) fun x52 => 
  cnd x52 (some (.ret (.tuple []), H))
  (bV (bInt .add x3_3 x8_2) fun x56 => 
  bV (bInt .add x3_3 x9) fun x60 => 
  bV (bInt .add x3_3 x9) fun x64 => 
  bV (ixSl 1 x0_3 x64) fun x65 => 
  bV (ld1p x65 H) fun x66 => 
  bV (bInt .add x3_3 x8_2) fun x70 => 
  bV (ixSl 1 x0_3 x70) fun x71 => 
  bV (ld1p x71 H) fun x72 => 
  bV (ixSl 1 x0_3 x56) fun x73 => 
  bR (stNp 1 x73 x66 H) fun x9999 H => 
  bV (ixSl 1 x0_3 x60) fun x74 => 
  bR (stNp 1 x74 x72 H) fun x9999_2 H => 
  some (.norm [x0_3, x2_3, x3_3, x9], H))
def f247l1 (D : Dyn) (n : Nat) (vs : List AV) (H : AH) : Rs :=
  hd vs fun x0_2 vs => hd vs fun x2_2 vs => hd vs fun x3_2 vs => hd vs fun x8 vs => 
  bV (bInt .mul (.int .i64 (.ofNat 2)) x8) fun x12 => 
  bV (bInt .add x12 (.int .i64 (.ofNat 1))) fun x13 => 
  bV (bInt .geq x13 x2_2) fun x16 => 
  cnd x16 (some (.exit 0 [], H))
  (bV (bInt .add x13 (.int .i64 (.ofNat 1))) fun x18 => 
  bV (bInt .lss x18 x2_2) fun x20 => 
  jn (wnt x20 true (bV (bInt .add x3_2 x13) fun x25 => 
  bV (ixSl 1 x0_2 x25) fun x26 => 
  bV (ld1p x26 H) fun x27 => 
  bV (bInt .add x3_2 x13) fun x31 => 
  bV (bInt .add x31 (.int .i64 (.ofNat 1))) fun x32 => 
  bV (ixSl 1 x0_2 x32) fun x33 => 
  bV (ld1p x33 H) fun x34 => 
  bR (noPan (f241 D n [x27, x34] H)) fun x35 H => 
  some (.norm [x35], H)) (some (.norm [undefA], H))) fun vs H => hd vs fun x35_2 vs => 
  bV (pk3 (some x20) (some x35_2) (some (.bool false))) fun x36 => 
  jn (cnd x36 (bV (bInt .add x13 (.int .i64 (.ofNat 1))) fun x38 => 
  some (.norm [x0_2, x2_2, x3_2, x8, x38], H))
  (some (.norm [x0_2, x2_2, x3_2, x8, x13], H))) (f247j0 D n))
def f247b2 (D : Dyn) (n : Nat) (vs : List AV) (H : AH) : Rs :=
  
  some (.ret (.tuple []), H)
/-- slices.siftDownOrdered[int] -/
def f247 (D : Dyn) (n : Nat) (vs : List AV) (H : AH) : Option (AV × AH) :=
  outR (hd vs fun x0 vs => hd vs fun x1 vs => hd vs fun x2 vs => hd vs fun x3 vs => nl vs <|
  jb 0 (loopK n (f247l1 D n) [x0, x2, x3, x1] H) (f247b2 D n))
def h247 : Hint := (.s .o (.b [] (.l [0, 2, 3, 8] (.b0 (.s .o (.s (.s .o (.cl .o .o)) (.s (.s .o (.c [0, 2, 3, 8, 9] .o .o)) (.s (.s .o (.cl .o .o)) (.s .o .o)))))))))
theorem f247_eq (D : Dyn) (n : Nat) : f247 D n = funKp (s247 D n) D n 247 Tryz.f247 h247 := by kernel_rfl
theorem f247_ok {D : Dyn} (hD : DP D) (n : Nat) : FP 247 (f247 D n) := fun_okP X_ok hD (SP.cons (f241_ok hD n) (SP.nil)) Tryz.func247 (by kernel_rfl) (by kernel_rfl) (f247_eq D n)

def s236 (D : Dyn) (n : Nat) : Tb := ⟨X, [(247, f247 D n)]⟩
def f236l0 (D : Dyn) (n : Nat) (vs : List AV) (H : AH) : Rs :=
  hd vs fun x0_2 vs => hd vs fun x6 vs => hd vs fun x7 vs => hd vs fun x8 vs => hd vs fun x9 vs => 
  bV (bInt .geq x9 (.int .i64 (.ofNat 0))) fun x19 => 
  cnd x19 (bR (noPan (f247 D n [x0_2, x9, x8, x6] H)) fun x26 H => 
  bV (bInt .sub x9 (.int .i64 (.ofNat 1))) fun x21 => 
  some (.norm [x0_2, x6, x7, x8, x21], H))
  (some (.exit 0 [x0_2, x6, x7, x8], H))
def f236l1 (D : Dyn) (n : Nat) (vs : List AV) (H : AH) : Rs :=
  hd vs fun x0_4 vs => hd vs fun x6_3 vs => hd vs fun x7_3 vs => hd vs fun x10 vs => 
  bV (bInt .geq x10 (.int .i64 (.ofNat 0))) fun x30 => 
  cnd x30 (bV (bInt .add x6_3 x10) fun x38 => 
  bV (bInt .add x6_3 x10) fun x42 => 
  bV (ixSl 1 x0_4 x42) fun x43 => 
  bV (ld1p x43 H) fun x44 => 
  bV (ixSl 1 x0_4 x6_3) fun x47 => 
  bV (ld1p x47 H) fun x48 => 
  bV (ixSl 1 x0_4 x6_3) fun x49 => 
  bR (stNp 1 x49 x44 H) fun x9999 H => 
  bV (ixSl 1 x0_4 x38) fun x50 => 
  bR (stNp 1 x50 x48 H) fun x9999_2 H => 
  bR (noPan (f247 D n [x0_4, x7_3, x10, x6_3] H)) fun x55 H => 
  bV (bInt .sub x10 (.int .i64 (.ofNat 1))) fun x32 => 
  some (.norm [x0_4, x6_3, x7_3, x32], H))
  (some (.exit 2 [], H))
def f236b2 (D : Dyn) (n : Nat) (vs : List AV) (H : AH) : Rs :=
  
  some (.ret (.tuple []), H)
def f236b3 (D : Dyn) (n : Nat) (vs : List AV) (H : AH) : Rs :=
  hd vs fun x0_3 vs => hd vs fun x6_2 vs => hd vs fun x7_2 vs => hd vs fun x8_2 vs => 
  bV (bInt .sub x8_2 (.int .i64 (.ofNat 1))) fun x28 => 
  jb 2 (loopK n (f236l1 D n) [x0_3, x6_2, x7_2, x28] H) (f236b2 D n)
/-- slices.heapSortOrdered[int] -/
def f236 (D : Dyn) (n : Nat) (vs : List AV) (H : AH) : Option (AV × AH) :=
  outR (hd vs fun x0 vs => hd vs fun x1 vs => hd vs fun x2 vs => nl vs <|
  bV (bInt .sub x2 x1) fun x14 => 
  bV (bInt .sub x14 (.int .i64 (.ofNat 1))) fun x16 => 
  bV (bInt .quo x16 (.int .i64 (.ofNat 2))) fun x17 => 
  jb 0 (loopK n (f236l0 D n) [x0, x1, (.int .i64 (.ofNat 0)), x14, x17] H) (f236b3 D n))
def h236 : Hint := (.s .o (.s .o (.s .o (.s (.s .o (.b [0, 6, 7, 8] (.l [0, 6, 7, 8, 9] (.s (.s .o (.cr .o .o)) (.s (.b0 .o) .o))))) (.s .o (.b [] (.l [0, 6, 7, 10] (.s (.s .o (.cr .o .o)) (.s (.b0 (.s .o .o)) .o)))))))))
theorem f236_eq (D : Dyn) (n : Nat) : f236 D n = funKp (s236 D n) D n 236 Tryz.f236 h236 := by kernel_rfl
theorem f236_ok {D : Dyn} (hD : DP D) (n : Nat) : FP 236 (f236 D n) := fun_okP X_ok hD (SP.cons (f247_ok hD n) (SP.nil)) Tryz.func236 (by kernel_rfl) (by kernel_rfl) (f236_eq D n)

def s248 (D : Dyn) (n : Nat) : Tb := ⟨X, [(233, f233 D n)]⟩
/-- slices.nextPowerOfTwo -/
def f248 (D : Dyn) (n : Nat) (vs : List AV) (H : AH) : Option (AV × AH) :=
  outR (hd vs fun x0 vs => nl vs <|
  bV (cvI .u64 x0) fun x4 => 
  bR (noPan (f233 D n [x4] H)) fun x5 H => 
  bV (bInt .shl (.int .u64 (.ofNat 1)) x5) fun x6 => 
  bV (some x6) fun x2 => some (.ret x2, H))
def h248 : Hint := (.s .o (.s .o .o))
theorem f248_eq (D : Dyn) (n : Nat) : f248 D n = funKp (s248 D n) D n 248 Tryz.f248 h248 := by kernel_rfl
theorem f248_ok {D : Dyn} (hD : DP D) (n : Nat) : FP 248 (f248 D n) := fun_okP X_ok hD (SP.cons (f233_ok hD n) (SP.nil)) Tryz.func248 (by kernel_rfl) (by kernel_rfl) (f248_eq D n)
end Go.Eng.Sh
