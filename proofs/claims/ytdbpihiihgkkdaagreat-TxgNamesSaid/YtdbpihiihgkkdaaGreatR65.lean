/- Shallow functions, by program (gen.py). -/
import Derived.Test.YtdbpihiihgkkdaaGreatR64
import Derived.Test.YtdbpihiihgkkdaaGreatProg
import Derived.KernelRfl
noncomputable section
namespace Go.Eng.Sh
open Go.Proofs
set_option maxRecDepth 100000
set_option linter.all false
def s106 (D : Dyn) (n : Nat) : Tb := ⟨X, [(90, f90 D n), (196, f196 D n), (120, f120 D n), (197, f197 D n)]⟩
def f106l0 (D : Dyn) (n : Nat) (vs : List AV) (H : AH) : Rs :=
  hd vs fun x0_2 vs => hd vs fun x4_2 vs => hd vs fun x6_2 vs => hd vs fun x8 vs => hd vs fun x49_2 vs => hd vs fun x50_2 vs => hd vs fun x51 vs => 
  bV (bInt .lss x51 x50_2) fun x52 => 
  cnd x52 (bV (ixSl 3 x49_2 x51) fun x54 => 
  bV (ldNp 3 x54 H) fun x55 => 
  bA (bxV 52 (.agg [(.int .i64 (.ofNat 0)), (.int .i64 (.ofNat 0)), (.int .u64 (.ofNat 0))])) H fun x10 H => 
  bR (stNp 3 x10 x55 H) fun x9999_6 H => 
  bV (ldNp 3 x10 H) fun x60 => 
  bR (D.fn 106 [x0_2, x60] H) fun x61 H => 
  bV (pExtract x61 0) fun x62 => 
  bV (pExtract x61 1) fun x63 => 
  bV (ixSl 3 x8 x51) fun x64 => 
  bR (stNp 3 x64 x62 H) fun x9999_7 H => 
  bV (bInt .neq x63 (.int .i64 (.ofNat 0))) fun x66 => 
  cnd x66 (bV (bldSp [(0, 1), (1, 1), (2, 1)] [(.int .i64 (.ofNat 0)), (.int .i64 (.ofNat 0)), (.int .u64 (.ofNat 0))] []) fun x67 => 
  bR (stNp 3 x4_2 x67 H) fun x9999_8 H => 
  bV (ldNp 3 x4_2 H) fun x9004_4 => bV (some x63) fun x5_4 => some (.ret (.tuple [x9004_4, x5_4]), H))
  (bV (bInt .add x51 (.int .i64 (.ofNat 1))) fun x69 => 
  some (.norm [x0_2, x4_2, x6_2, x8, x49_2, x50_2, x69], H)))
  (some (.exit 0 [x0_2, x4_2, x6_2, x8], H))
def f106j1 (D : Dyn) (n : Nat) (vs : List AV) (H : AH) : Rs :=
  hd vs fun x0_4 vs => hd vs fun x4_4 vs => hd vs fun x6_4 vs => hd vs fun x11 vs => 
  bV (ldNp 4 x6_4 H) fun x75 => 
  bR (f196 D n [x75] H) fun x76 H => 
  bV (pExtract x76 0) fun x77 => 
  bV (pExtract x76 1) fun x78 => 
  bV (bInt .neq x78 (.int .i64 (.ofNat 0))) fun x80 => 
  cnd x80 (bV (bldSp [(0, 1), (1, 1), (2, 1)] [(.int .i64 (.ofNat 0)), (.int .i64 (.ofNat 0)), (.int .u64 (.ofNat 0))] []) fun x81 => 
  bR (stNp 3 x4_4 x81 H) fun x9999_10 H => 
  bV (ldNp 3 x4_4 H) fun x9004_5 => bV (some x78) fun x5_5 => some (.ret (.tuple [x9004_5, x5_5]), H))
  (bV (pNil x0_4) fun x86 => 
  bV (fAd 2 x86) fun x87 => 
  bV (ld1p x87 H) fun x88 => 
  bR (f120 D n [x11, x88, x77] H) fun x90 H => 
  bV (pExtract x90 0) fun x91 => 
  bV (pExtract x90 1) fun x92 => 
  bA (bxV 164 (.agg [.pk 512 0])) H fun x13 H => 
  bR (stNp 512 x13 x91 H) fun x9999_11 H => 
  bV (bInt .neq x92 (.int .i64 (.ofNat 0))) fun x94 => 
  cnd x94 (bV (bldSp [(0, 1), (1, 1), (2, 1)] [(.int .i64 (.ofNat 0)), (.int .i64 (.ofNat 0)), (.int .u64 (.ofNat 0))] []) fun x95 => 
  bR (stNp 3 x4_4 x95 H) fun x9999_12 H => 
  bV (ldNp 3 x4_4 H) fun x9004_6 => bV (some x92) fun x5_6 => some (.ret (.tuple [x9004_6, x5_6]), H))
  (bV (ldNp 512 x13 H) fun x98 => 
  bR (f197 D n [x0_4, x98] H) fun x99 H => 
  bV (pExtract x99 0) fun x100 => 
  bV (pExtract x99 1) fun x101 => 
  bR (stNp 3 x4_4 x100 H) fun x9999_13 H => 
  bV (ldNp 3 x4_4 H) fun x9004_7 => bV (some x101) fun x5_7 => some (.ret (.tuple [x9004_7, x5_7]), H)))
def f106b2 (D : Dyn) (n : Nat) (vs : List AV) (H : AH) : Rs :=
  hd vs fun x0_3 vs => hd vs fun x4_3 vs => hd vs fun x6_3 vs => hd vs fun x8_2 vs => 
  bV (fAd 3 x6_3) fun x71 => 
  bR (stNp 1 x71 x8_2 H) fun x9999_9 H => 
  bV (fAd 0 x6_3) fun x72 => 
  bV (ld1p x72 H) fun x73 => 
  jn (cnd x73 (some (.norm [x0_3, x4_3, x6_3, (.int .u8 (.ofNat 1))], H))
  (some (.norm [x0_3, x4_3, x6_3, (.int .u8 (.ofNat 2))], H))) (f106j1 D n)
/-- (*jetty/tree.writer).node -/
def f106 (D : Dyn) (n : Nat) (vs : List AV) (H : AH) : Option (AV × AH) :=
  outR (hd vs fun x0 vs => hd vs fun x1 vs => nl vs <|
  bA (bxV 52 x1) H fun x3 H => 
  bA (bxV 52 (.agg [(.int .i64 (.ofNat 0)), (.int .i64 (.ofNat 0)), (.int .u64 (.ofNat 0))])) H fun x4 H => 
  bV (fAd 0 x3) fun x14 => 
  bV (ld1p x14 H) fun x15 => 
  bV (bInt .neq x15 (.int .i64 (.ofNat 1))) fun x16 => 
  cnd x16 (bV (ldNp 3 x3 H) fun x17 => 
  bR (stNp 3 x4 x17 H) fun x9999 H => 
  bV (ldNp 3 x4 H) fun x9004 => bV (some (.int .i64 (.ofNat 0))) fun x5 => some (.ret (.tuple [x9004, x5]), H))
  (bV (pNil x0) fun x19 => 
  bV (fAd 3 x19) fun x20 => 
  bV (ld1p x20 H) fun x21 => 
  bV (bInt .sub x21 (.int .i64 (.ofNat 1))) fun x22 => 
  bV (pNil x0) fun x23 => 
  bV (fAd 3 x23) fun x24 => 
  bR (stNp 1 x24 x22 H) fun x9999_2 H => 
  bV (pNil x0) fun x26 => 
  bV (fAd 3 x26) fun x27 => 
  bV (ld1p x27 H) fun x28 => 
  bV (bInt .lss x28 (.int .i64 (.ofNat 0))) fun x29 => 
  cnd x29 (bV (bldSp [(0, 1), (1, 1), (2, 1)] [(.int .i64 (.ofNat 0)), (.int .i64 (.ofNat 0)), (.int .u64 (.ofNat 0))] []) fun x30 => 
  bR (stNp 3 x4 x30 H) fun x9999_3 H => 
  bV (ldNp 3 x4 H) fun x9004_2 => bV (some (.int .i64 (.ofNat 4))) fun x5_2 => some (.ret (.tuple [x9004_2, x5_2]), H))
  (bV (pNil x0) fun x33 => 
  bV (fAd 0 x33) fun x34 => 
  bV (ld1p x34 H) fun x35 => 
  bV (ldNp 3 x3 H) fun x36 => 
  bA (bxV 57 (.agg [(.bool false), .nilSlice, .nilSlice, .nilSlice])) H fun x6 H => 
  bR (f90 D n [x35, x36] H) fun x37 H => 
  bV (pExtract x37 0) fun x38 => 
  bV (pExtract x37 1) fun x39 => 
  bR (stNp 4 x6 x38 H) fun x9999_4 H => 
  bV (bInt .neq x39 (.int .i64 (.ofNat 0))) fun x41 => 
  cnd x41 (bV (bldSp [(0, 1), (1, 1), (2, 1)] [(.int .i64 (.ofNat 0)), (.int .i64 (.ofNat 0)), (.int .u64 (.ofNat 0))] []) fun x42 => 
  bR (stNp 3 x4 x42 H) fun x9999_5 H => 
  bV (ldNp 3 x4 H) fun x9004_3 => bV (some x39) fun x5_3 => some (.ret (.tuple [x9004_3, x5_3]), H))
  (bV (fAd 3 x6) fun x44 => 
  bV (ld1p x44 H) fun x45 => 
  bV (lnSl x45) fun x46 => 
  bA (mkSlp 52 3 24 [(.int .i64 (.ofNat 0)), (.int .i64 (.ofNat 0)), (.int .u64 (.ofNat 0))] x46 x46) H fun x47 H => 
  bV (fAd 3 x6) fun x48 => 
  bV (ld1p x48 H) fun x49 => 
  bV (lnSl x49) fun x50 => 
  jb 0 (loopK n (f106l0 D n) [x0, x4, x6, x47, x49, x50, (.int .i64 (.ofNat 0))] H) (f106b2 D n)))))
def h106 : Hint := (.s .o (.s (.s .o (.cl (.s .o .o) .o)) (.s (.s .o (.s .o (.cl (.s .o .o) .o))) (.s .o (.s (.s .o (.cl (.s .o .o) .o)) (.s .o (.s (.s .o (.b [0, 4, 6, 8] (.l [0, 4, 6, 8, 49, 50, 51] (.s .o (.s (.cr .o .o) (.s (.b0 (.s .o (.s .o (.s .o (.cl (.s .o .o) .o))))) .o)))))) (.s .o (.s .o (.s (.s .o (.c [0, 4, 6, 11] .o .o)) (.s .o (.s (.s .o (.cl (.s .o .o) .o)) (.s .o (.s (.s .o (.cl (.s .o .o) .o)) (.s .o .o)))))))))))))))
theorem f106_eq (D : Dyn) (n : Nat) : f106 D n = funKp (s106 D n) D n 106 Tryz.f106 h106 := by kernel_rfl
theorem f106_ok {D : Dyn} (hD : DP D) (n : Nat) : FP 106 (f106 D n) := fun_okP X_ok hD (SP.cons (f90_ok hD n) (SP.cons (f196_ok hD n) (SP.cons (f120_ok hD n) (SP.cons (f197_ok hD n) (SP.nil))))) Tryz.func106 (by kernel_rfl) (by kernel_rfl) (f106_eq D n)

def s107 (D : Dyn) (n : Nat) : Tb := ⟨X, [(198, f198 D n), (101, f101 D n)]⟩
def f107j0 (D : Dyn) (n : Nat) (vs : List AV) (H : AH) : Rs :=
  
  bV (some (.int .i64 (.ofNat 0))) fun x4_3 => some (.ret x4_3, H)
/-- (*jetty/space.Space).Give -/
def f107 (D : Dyn) (n : Nat) (vs : List AV) (H : AH) : Option (AV × AH) :=
  outR (hd vs fun x0 vs => hd vs fun x1 vs => nl vs <|
  bR (f198 D n [x0, x1] H) fun x8 H => 
  bV (bInt .neq x8 (.int .i64 (.ofNat 0))) fun x10 => 
  cnd x10 (bV (some x8) fun x4 => some (.ret x4, H))
  (bV (pNil x0) fun x14 => 
  bV (fAd 2 x14) fun x15 => 
  bV (ixArr 8192 1 x15 x1) fun x16 => 
  bV (ld1p x16 H) fun x17 => 
  bV (bInt .eql x17 (.int .u8 (.ofNat 2))) fun x19 => 
  jn (cnd x19 (bR (f101 D n [x0, x1, (.int .u8 (.ofNat 0))] H) fun x22 H => 
  some (.norm [], H))
  (bV (bInt .eql x17 (.int .u8 (.ofNat 1))) fun x24 => 
  cnd x24 (bR (f101 D n [x0, x1, (.int .u8 (.ofNat 3))] H) fun x27 H => 
  some (.norm [], H))
  (bV (some (.int .i64 (.ofNat 5))) fun x4_2 => some (.ret x4_2, H)))) (f107j0 D n)))
def h107 : Hint := (.s .o (.s (.s .o (.s .o (.cl (.s .o .o) .o))) (.s (.s .o (.b0 (.s .o (.c [] .o (.s .o (.cr .o (.s .o .o))))))) (.s .o .o))))
theorem f107_eq (D : Dyn) (n : Nat) : f107 D n = funKp (s107 D n) D n 107 Tryz.f107 h107 := by kernel_rfl
theorem f107_ok {D : Dyn} (hD : DP D) (n : Nat) : FP 107 (f107 D n) := fun_okP X_ok hD (SP.cons (f198_ok hD n) (SP.cons (f101_ok hD n) (SP.nil))) Tryz.func107 (by kernel_rfl) (by kernel_rfl) (f107_eq D n)

def s26 (D : Dyn) (n : Nat) : Tb := ⟨X, [(88, f88 D n), (105, f105 D n), (106, f106 D n), (107, f107 D n), (108, f108 D n)]⟩
def f26l0 (D : Dyn) (n : Nat) (vs : List AV) (H : AH) : Rs :=
  hd vs fun x1_2 vs => hd vs fun x6_2 vs => hd vs fun x11 vs => hd vs fun x64_2 vs => hd vs fun x65_2 vs => hd vs fun x66 vs => 
  bV (bInt .lss x66 x65_2) fun x67 => 
  cnd x67 (bV (ixSl 1 x64_2 x66) fun x68 => 
  bV (ld1p x68 H) fun x69 => 
  bR (f107 D n [x1_2, x69] H) fun x72 H => 
  bV (bInt .add x66 (.int .i64 (.ofNat 1))) fun x73 => 
  some (.norm [x1_2, x6_2, x11, x64_2, x65_2, x73], H))
  (some (.exit 0 [x6_2, x11], H))
def f26b1 (D : Dyn) (n : Nat) (vs : List AV) (H : AH) : Rs :=
  hd vs fun x6_3 vs => hd vs fun x11_2 vs => 
  bV (bldSp [(0, 1), (1, 1), (2, 1)] [(.int .i64 (.ofNat 0)), (.int .i64 (.ofNat 0)), (.int .u64 (.ofNat 0))] []) fun x74 => 
  bR (stNp 3 x6_3 x74 H) fun x9999_5 H => 
  bV (ldNp 3 x6_3 H) fun x9006_4 => bV (some .nilSlice) fun x7_4 => bV (some x11_2) fun x8_4 => some (.ret (.tuple [x9006_4, x7_4, x8_4]), H)
def f26l2 (D : Dyn) (n : Nat) (vs : List AV) (H : AH) : Rs :=
  hd vs fun x0_2 vs => hd vs fun x6_4 vs => hd vs fun x10_2 vs => hd vs fun x84_2 vs => hd vs fun x85_2 vs => hd vs fun x86 vs => 
  bV (bInt .lss x86 x85_2) fun x87 => 
  cnd x87 (bV (ixSl 513 x84_2 x86) fun x88 => 
  bV (ldNp 513 x88 H) fun x89 => 
  bA (bxV 166 (.agg [(.int .i64 (.ofNat 0)), .pk 512 0])) H fun x15 H => 
  bR (stNp 513 x15 x89 H) fun x9999_6 H => 
  bV (pNil x0_2) fun x91 => 
  bV (fAd 1 x91) fun x92 => 
  bV (ld1p x92 H) fun x93 => 
  bV (fAd 0 x15) fun x94 => 
  bV (ld1p x94 H) fun x95 => 
  bV (fAd 1 x15) fun x96 => 
  bV (ldNp 512 x96 H) fun x97 => 
  bR (f108 D n [x93, x95, x97] H) fun x98 H => 
  bV (bInt .add x86 (.int .i64 (.ofNat 1))) fun x99 => 
  some (.norm [x0_2, x6_4, x10_2, x84_2, x85_2, x99], H))
  (some (.exit 2 [x0_2, x6_4, x10_2], H))
def f26b3 (D : Dyn) (n : Nat) (vs : List AV) (H : AH) : Rs :=
  hd vs fun x0_3 vs => hd vs fun x6_5 vs => hd vs fun x10_3 vs => 
  some (.norm [x0_3, x6_5, x10_3], H)
def f26j4 (D : Dyn) (n : Nat) (vs : List AV) (H : AH) : Rs :=
  hd vs fun x0_4 vs => hd vs fun x6_6 vs => hd vs fun x10_4 vs => 
  bV (pNil x0_4) fun x101 => 
  bV (fAd 7 x101) fun x102 => 
  bV (ld1p x102 H) fun x103 => 
  bV (ldNp 3 x10_4 H) fun x106 => 
  bV (pNil x0_4) fun x107 => 
  bV (fAd 2 x107) fun x108 => 
  bR (stNp 3 x108 x106 H) fun x9999_7 H => 
  bV (pNil x0_4) fun x109 => 
  bV (fAd 7 x109) fun x110 => 
  bR (stNp 1 x110 .nilSlice H) fun x9999_8 H => 
  bA (mkM [10]) H fun x112 H => 
  bV (pNil x0_4) fun x113 => 
  bV (fAd 5 x113) fun x114 => 
  bR (stNp 1 x114 x112 H) fun x9999_9 H => 
  bV (ldNp 3 x10_4 H) fun x115 => 
  bR (stNp 3 x6_6 x115 H) fun x9999_10 H => 
  bV (ldNp 3 x6_6 H) fun x9006_5 => bV (some x103) fun x7_5 => bV (some (.int .i64 (.ofNat 0))) fun x8_5 => some (.ret (.tuple [x9006_5, x7_5, x8_5]), H)
/-- (*jetty/tree.Tree).Write -/
def f26 (D : Dyn) (n : Nat) (vs : List AV) (H : AH) : Option (AV × AH) :=
  outR (hd vs fun x0 vs => hd vs fun x1 vs => hd vs fun x2 vs => nl vs <|
  bA (bxV 52 (.agg [(.int .i64 (.ofNat 0)), (.int .i64 (.ofNat 0)), (.int .u64 (.ofNat 0))])) H fun x6 H => 
  bR (f88 D n [x0] H) fun x18 H => 
  jn (wnt x18 false (bV (cmpO .eql (eqP x1 .nilPtr)) fun x21 => 
  some (.norm [x21], H)) (some (.norm [undefA], H))) fun vs H => hd vs fun x21_2 vs => 
  bV (pk3 (some x18) (some (.bool true)) (some x21_2)) fun x22 => 
  cnd x22 (bV (bldSp [(0, 1), (1, 1), (2, 1)] [(.int .i64 (.ofNat 0)), (.int .i64 (.ofNat 0)), (.int .u64 (.ofNat 0))] []) fun x23 => 
  bR (stNp 3 x6 x23 H) fun x9999 H => 
  bV (ldNp 3 x6 H) fun x9006 => bV (some .nilSlice) fun x7 => bV (some (.int .i64 (.ofNat 2))) fun x8 => some (.ret (.tuple [x9006, x7, x8]), H))
  (bV (bInt .lss x2 (.int .i64 (.ofNat 1))) fun x25 => 
  jn (wnt x25 false (bV (bInt .gtr x2 (.int .i64 (.ofNat 2147483647))) fun x28 => 
  some (.norm [x28], H)) (some (.norm [undefA], H))) fun vs H => hd vs fun x28_2 vs => 
  bV (pk3 (some x25) (some (.bool true)) (some x28_2)) fun x29 => 
  cnd x29 (bV (bldSp [(0, 1), (1, 1), (2, 1)] [(.int .i64 (.ofNat 0)), (.int .i64 (.ofNat 0)), (.int .u64 (.ofNat 0))] []) fun x30 => 
  bR (stNp 3 x6 x30 H) fun x9999_2 H => 
  bV (ldNp 3 x6 H) fun x9006_2 => bV (some .nilSlice) fun x7_2 => bV (some (.int .i64 (.ofNat 1))) fun x8_2 => some (.ret (.tuple [x9006_2, x7_2, x8_2]), H))
  (bV (pNil x0) fun x34 => 
  bV (fAd 5 x34) fun x35 => 
  bV (ld1p x35 H) fun x36 => 
  bR (f105 D n [x1] H) fun x32 H => chk (ld1p x35 H) x36 <| 
  bV (lnMap x36 H) fun x37 => 
  bV (bInt .lss x32 x37) fun x38 => 
  cnd x38 (bV (bldSp [(0, 1), (1, 1), (2, 1)] [(.int .i64 (.ofNat 0)), (.int .i64 (.ofNat 0)), (.int .u64 (.ofNat 0))] []) fun x39 => 
  bR (stNp 3 x6 x39 H) fun x9999_3 H => 
  bV (ldNp 3 x6 H) fun x9006_3 => bV (some .nilSlice) fun x7_3 => bV (some (.int .i64 (.ofNat 3))) fun x8_3 => some (.ret (.tuple [x9006_3, x7_3, x8_3]), H))
  (bV (pNil x0) fun x44 => 
  bV (fAd 5 x44) fun x45 => 
  bV (ld1p x45 H) fun x46 => 
  bV (lnMap x46 H) fun x47 => 
  bV (bldSp [(0, 1), (1, 1), (2, 1), (3, 1), (4, 1), (5, 1)] [.nilPtr, .nilPtr, (.int .i64 (.ofNat 0)), (.int .i64 (.ofNat 0)), .nilSlice, .nilSlice] [(0, x0), (1, x1), (2, x2), (3, x47)]) fun x48 => 
  bA (bxV 160 x48) H fun x49 H => 
  bV (pNil x0) fun x53 => 
  bV (fAd 2 x53) fun x54 => 
  bV (ldNp 3 x54 H) fun x55 => 
  bR (f106 D n [x49, x55] H) fun x56 H => 
  bV (pExtract x56 0) fun x57 => 
  bV (pExtract x56 1) fun x58 => 
  bA (bxV 52 (.agg [(.int .i64 (.ofNat 0)), (.int .i64 (.ofNat 0)), (.int .u64 (.ofNat 0))])) H fun x10 H => 
  bR (stNp 3 x10 x57 H) fun x9999_4 H => 
  bV (bInt .neq x58 (.int .i64 (.ofNat 0))) fun x60 => 
  cnd x60 (bV (pNil x49) fun x62 => 
  bV (fAd 4 x62) fun x63 => 
  bV (ld1p x63 H) fun x64 => 
  bV (lnSl x64) fun x65 => 
  jb 0 (loopK n (f26l0 D n) [x1, x6, x58, x64, x65, (.int .i64 (.ofNat 0))] H) (f26b1 D n))
  (bV (pNil x0) fun x77 => 
  bV (fAd 1 x77) fun x78 => 
  bV (ld1p x78 H) fun x79 => 
  bV (cmpO .neq (eqP x79 .nilPtr)) fun x80 => 
  jn (cnd x80 (bV (pNil x49) fun x82 => 
  bV (fAd 5 x82) fun x83 => 
  bV (ld1p x83 H) fun x84 => 
  bV (lnSl x84) fun x85 => 
  jb 2 (loopK n (f26l2 D n) [x0, x6, x10, x84, x85, (.int .i64 (.ofNat 0))] H) (f26b3 D n))
  (some (.norm [x0, x6, x10], H))) (f26j4 D n))))))
def h26 : Hint := (.s .o (.s (.s .o (.cl (.s .o .o) .o)) (.s (.s .o (.cl (.s .o .o) .o)) (.s (.s .o (.cl (.s .o .o) .o)) (.s .o (.s .o (.s (.s .o (.cl (.s (.s .o (.b [6, 11] (.l [1, 6, 11, 64, 65, 66] (.s .o (.s (.cr .o .o) (.s (.b0 (.s .o .o)) .o)))))) (.s .o .o)) .o)) (.s (.s .o (.c [0, 6, 10] (.s .o (.b [0, 6, 10] (.l [0, 6, 10, 84, 85, 86] (.s .o (.s (.cr .o .o) (.s (.b0 (.s .o .o)) .o)))))) .o)) (.s .o (.s .o (.s .o (.s .o .o))))))))))))
theorem f26_eq (D : Dyn) (n : Nat) : f26 D n = funKp (s26 D n) D n 26 Tryz.f26 h26 := by kernel_rfl
theorem f26_ok {D : Dyn} (hD : DP D) (n : Nat) : FP 26 (f26 D n) := fun_okP X_ok hD (SP.cons (f88_ok hD n) (SP.cons (f105_ok hD n) (SP.cons (f106_ok hD n) (SP.cons (f107_ok hD n) (SP.cons (f108_ok hD n) (SP.nil)))))) Tryz.func26 (by kernel_rfl) (by kernel_rfl) (f26_eq D n)

def s141 (D : Dyn) (n : Nat) : Tb := ⟨X, [(139, f139 D n), (138, f138 D n)]⟩
/-- (*jetty/txg.Store).turn -/
def f141 (D : Dyn) (n : Nat) (vs : List AV) (H : AH) : Option (AV × AH) :=
  outR (hd vs fun x0 vs => hd vs fun x1 vs => nl vs <|
  bA (bxV 52 x1) H fun x3 H => 
  bV (pNil x0) fun x8 => 
  bV (fAd 0 x8) fun x9 => 
  bV (ld1p x9 H) fun x10 => 
  bR (f139 D n [x10] H) fun x11 H => 
  bV (bInt .neq x11 (.int .i64 (.ofNat 0))) fun x13 => 
  cnd x13 (bV (some x11) fun x4 => some (.ret x4, H))
  (bV (pNil x0) fun x16 => 
  bV (fAd 0 x16) fun x17 => 
  bV (ld1p x17 H) fun x18 => 
  bV (pNil x0) fun x20 => 
  bV (fAd 5 x20) fun x21 => 
  bV (ld1p x21 H) fun x22 => 
  bV (bInt .add x22 (.int .i64 (.ofNat 1))) fun x23 => 
  bV (ldNp 3 x3 H) fun x24 => 
  bV (pNil x0) fun x26 => 
  bV (fAd 3 x26) fun x27 => 
  bV (ld1p x27 H) fun x28 => 
  bR (f138 D n [x18, x23, x24, x28] H) fun x29 H => 
  bV (bInt .neq x29 (.int .i64 (.ofNat 0))) fun x31 => 
  cnd x31 (bV (some x29) fun x4_2 => some (.ret x4_2, H))
  (bV (pNil x0) fun x34 => 
  bV (fAd 0 x34) fun x35 => 
  bV (ld1p x35 H) fun x36 => 
  bR (f139 D n [x36] H) fun x37 H => 
  bV (some x37) fun x4_3 => some (.ret x4_3, H))))
def h141 : Hint := (.s .o (.s (.s .o (.s .o (.cl (.s .o .o) .o))) (.s (.s .o (.s .o (.cl (.s .o .o) .o))) (.s .o .o))))
theorem f141_eq (D : Dyn) (n : Nat) : f141 D n = funKp (s141 D n) D n 141 Tryz.f141 h141 := by kernel_rfl
theorem f141_ok {D : Dyn} (hD : DP D) (n : Nat) : FP 141 (f141 D n) := fun_okP X_ok hD (SP.cons (f139_ok hD n) (SP.cons (f138_ok hD n) (SP.nil))) Tryz.func141 (by kernel_rfl) (by kernel_rfl) (f141_eq D n)

def s222 (D : Dyn) (n : Nat) : Tb := ⟨X, [(203, f203 D n), (101, f101 D n)]⟩
/-- (*jetty/space.Space).all -/
def f222 (D : Dyn) (n : Nat) (vs : List AV) (H : AH) : Option (AV × AH) :=
  outR (hd vs fun x0 vs => hd vs fun x1 vs => hd vs fun x2 vs => nl vs <|
  bA (bxV 46 x0) H fun x3 H => 
  bA (bxV 147 x2) H fun x5 H => 
  bV (ld1p x3 H) fun x7 => 
  bR (f203 D n [x7, x1, (.int .i64 (.ofNat 0))] H) fun x9 H => 
  newB H (.loop ⟨.ready, none, 222, 0, [3, 5], [x3, x5]⟩) fun A H => bR (rfC (s222 D n).S D x9 A H) fun _ H => endLp A H fun j H => jmpK j (
  some (.ret (.tuple []), H))
  (fun id => none) (some (.ret (.tuple []), H)))
def h222 : Hint := (.s .o (.s .o (.b0 (.rf 0 [3, 5]))))
theorem f222_eq (D : Dyn) (n : Nat) : f222 D n = funKp (s222 D n) D n 222 Tryz.f222 h222 := by kernel_rfl
theorem f222_ok {D : Dyn} (hD : DP D) (n : Nat) : FP 222 (f222 D n) := fun_okP X_ok hD (SP.cons (f203_ok hD n) (SP.cons (f101_ok hD n) (SP.nil))) Tryz.func222 (by kernel_rfl) (by kernel_rfl) (f222_eq D n)
def r222_0 (D : Dyn) (n : Nat) (A : Nat) (l : ALoop) (az : List AV) (H : AH) : Option (AV × AH) :=
  bif eqNL [3, 5] l.live then endQ A (hd l.vals fun x3 vs => hd vs fun x5 vs => hd az fun x10 az => nl az <|
  beginK A H fun H => 
  bV (ld1p x3 H) fun x11 => 
  bV (ld1p x5 H) fun x13 => 
  bR (f101 D n [x11, x10, x13] H) fun x14 H => 
  some (.norm [], H)) else none
def r222_0a : Hint := .o
def r222_0b : Hint := (.b0 .o)
theorem r222_0_eq (D : Dyn) (n : Nat) : r222_0 D n = rndKp (s222 D n) D n 222 0 [3, 5] [] r222_0a r222_0b := by kernel_rfl
theorem r222_0_ok {D : Dyn} (hD : DP D) (n : Nat) : RdP 222 0 (r222_0 D n) := round_okP X_ok hD (SP.cons (f203_ok hD n) (SP.cons (f101_ok hD n) (SP.nil))) (by kernel_rfl) (r222_0_eq D n)

def s142 (D : Dyn) (n : Nat) : Tb := ⟨X, [(222, f222 D n)]⟩
def f142j0 (D : Dyn) (n : Nat) (vs : List AV) (H : AH) : Rs :=
  
  some (.ret (.tuple []), H)
/-- (*jetty/space.Space).Back -/
def f142 (D : Dyn) (n : Nat) (vs : List AV) (H : AH) : Option (AV × AH) :=
  outR (hd vs fun x0 vs => nl vs <|
  bV (cmpO .neq (eqP x0 .nilPtr)) fun x3 => 
  jn (cnd x3 (bR (f222 D n [x0, (.int .u8 (.ofNat 3)), (.int .u8 (.ofNat 1))] H) fun x5 H => 
  bR (f222 D n [x0, (.int .u8 (.ofNat 2)), (.int .u8 (.ofNat 0))] H) fun x7 H => 
  some (.norm [], H))
  (some (.norm [], H))) (f142j0 D n))
def h142 : Hint := (.s .o (.c [] (.s .o .o) .o))
theorem f142_eq (D : Dyn) (n : Nat) : f142 D n = funKp (s142 D n) D n 142 Tryz.f142 h142 := by kernel_rfl
theorem f142_ok {D : Dyn} (hD : DP D) (n : Nat) : FP 142 (f142 D n) := fun_okP X_ok hD (SP.cons (f222_ok hD n) (SP.nil)) Tryz.func142 (by kernel_rfl) (by kernel_rfl) (f142_eq D n)

def s143 (D : Dyn) (n : Nat) : Tb := ⟨X, [(222, f222 D n)]⟩
def f143j0 (D : Dyn) (n : Nat) (vs : List AV) (H : AH) : Rs :=
  
  some (.ret (.tuple []), H)
/-- (*jetty/space.Space).Settle -/
def f143 (D : Dyn) (n : Nat) (vs : List AV) (H : AH) : Option (AV × AH) :=
  outR (hd vs fun x0 vs => nl vs <|
  bV (cmpO .neq (eqP x0 .nilPtr)) fun x3 => 
  jn (cnd x3 (bR (f222 D n [x0, (.int .u8 (.ofNat 3)), (.int .u8 (.ofNat 0))] H) fun x5 H => 
  bR (f222 D n [x0, (.int .u8 (.ofNat 2)), (.int .u8 (.ofNat 1))] H) fun x7 H => 
  some (.norm [], H))
  (some (.norm [], H))) (f143j0 D n))
def h143 : Hint := (.s .o (.c [] (.s .o .o) .o))
theorem f143_eq (D : Dyn) (n : Nat) : f143 D n = funKp (s143 D n) D n 143 Tryz.f143 h143 := by kernel_rfl
theorem f143_ok {D : Dyn} (hD : DP D) (n : Nat) : FP 143 (f143 D n) := fun_okP X_ok hD (SP.cons (f222_ok hD n) (SP.nil)) Tryz.func143 (by kernel_rfl) (by kernel_rfl) (f143_eq D n)

def s144 (D : Dyn) (n : Nat) : Tb := ⟨X, []⟩
/-- (*jetty/space.Space).Taken -/
def f144 (D : Dyn) (n : Nat) (vs : List AV) (H : AH) : Option (AV × AH) :=
  outR (hd vs fun x0 vs => hd vs fun x1 vs => nl vs <|
  bV (cmpO .neq (eqP x0 .nilPtr)) fun x6 => 
  jn (wnt x6 true (bV (bInt .geq x1 (.int .i64 (.ofNat 0))) fun x9 => 
  some (.norm [x9], H)) (some (.norm [undefA], H))) fun vs H => hd vs fun x9_2 vs => 
  bV (pk3 (some x6) (some x9_2) (some (.bool false))) fun x10 => 
  jn (wnt x10 true (bV (pNil x0) fun x14 => 
  bV (fAd 0 x14) fun x15 => 
  bV (ld1p x15 H) fun x16 => 
  bV (bInt .lss x1 x16) fun x17 => 
  some (.norm [x17], H)) (some (.norm [undefA], H))) fun vs H => hd vs fun x17_2 vs => 
  bV (pk3 (some x10) (some x17_2) (some (.bool false))) fun x18 => 
  jn (wnt x18 true (bV (pNil x0) fun x22 => 
  bV (fAd 2 x22) fun x23 => 
  bV (ixArr 8192 1 x23 x1) fun x24 => 
  bV (ld1p x24 H) fun x25 => 
  bV (bInt .eql x25 (.int .u8 (.ofNat 1))) fun x26 => 
  some (.norm [x26], H)) (some (.norm [undefA], H))) fun vs H => hd vs fun x27 vs => 
  jn (wnt x27 false (bV (pNil x0) fun x30 => 
  bV (fAd 2 x30) fun x31 => 
  bV (ixArr 8192 1 x31 x1) fun x32 => 
  bV (ld1p x32 H) fun x33 => 
  bV (bInt .eql x33 (.int .u8 (.ofNat 2))) fun x34 => 
  some (.norm [x34], H)) (some (.norm [undefA], H))) fun vs H => hd vs fun x34_2 vs => 
  jn (wnt x18 true (bV (pk3 (some x27) (some (.bool true)) (some x34_2)) fun x35 => 
  some (.norm [x35], H)) (some (.norm [undefA], H))) fun vs H => hd vs fun x35_2 vs => 
  bV (pk3 (some x18) (some x35_2) (some (.bool false))) fun x36 => 
  bV (some x36) fun x4 => some (.ret x4, H))
def h144 : Hint := (.s .o (.s .o .o))
theorem f144_eq (D : Dyn) (n : Nat) : f144 D n = funKp (s144 D n) D n 144 Tryz.f144 h144 := by kernel_rfl
theorem f144_ok {D : Dyn} (hD : DP D) (n : Nat) : FP 144 (f144 D n) := fun_okP X_ok hD (SP.nil) Tryz.func144 (by kernel_rfl) (by kernel_rfl) (f144_eq D n)

def s53 (D : Dyn) (n : Nat) : Tb := ⟨X, [(140, f140 D n), (113, f113 D n), (114, f114 D n), (26, f26 D n), (141, f141 D n), (142, f142 D n), (143, f143 D n), (136, f136 D n), (144, f144 D n)]⟩
def f53j0 (D : Dyn) (n : Nat) (vs : List AV) (H : AH) : Rs :=
  hd vs fun x0_3 vs => hd vs fun x5_2 vs => hd vs fun x6_3 vs => hd vs fun x7_2 vs => hd vs fun x78_3 vs => hd vs fun x79_2 vs => 
  bV (bInt .add x79_2 (.int .i64 (.ofNat 1))) fun x100 => 
  some (.norm [x0_3, x5_2, x6_3, x7_2, x78_3, x100], H)
def f53l1 (D : Dyn) (n : Nat) (vs : List AV) (H : AH) : Rs :=
  hd vs fun x0_2 vs => hd vs fun x5 vs => hd vs fun x6_2 vs => hd vs fun x7 vs => hd vs fun x78_2 vs => hd vs fun x79 vs => 
  bV (bInt .lss x79 x78_2) fun x80 => 
  cnd x80 (bV (pNil x0_2) fun x83 => 
  bV (fAd 4 x83) fun x84 => 
  bV (ld1p x84 H) fun x85 => 
  bR (f144 D n [x85, x79] H) fun x87 H => 
  jn (wnt x87 true (bR (f144 D n [x5, x79] H) fun x91 H => 
  bV (aun .not x91) fun x92 => 
  some (.norm [x92], H)) (some (.norm [undefA], H))) fun vs H => hd vs fun x92_2 vs => 
  bV (pk3 (some x87) (some x92_2) (some (.bool false))) fun x93 => 
  jn (cnd x93 (bV (pNil x0_2) fun x95 => 
  bV (fAd 9 x95) fun x96 => 
  bV (ld1p x96 H) fun x97 => 
  bV (bldSp [] [] []) fun x99 => 
  bR (upM [6] x97 x79 x99 H) fun x9999_3 H => 
  some (.norm [x0_2, x5, x6_2, x7, x78_2, x79], H))
  (some (.norm [x0_2, x5, x6_2, x7, x78_2, x79], H))) (f53j0 D n))
  (some (.exit 0 [x0_2, x6_2, x7], H))
def f53l2 (D : Dyn) (n : Nat) (vs : List AV) (H : AH) : Rs :=
  hd vs fun x0_5 vs => hd vs fun x6_5 vs => hd vs fun x7_4 vs => hd vs fun x101 vs => hd vs fun x102_2 vs => hd vs fun x103 vs => 
  bV (bInt .lss x103 x102_2) fun x104 => 
  cnd x104 (bV (ixSl 3 x101 x103) fun x105 => 
  bV (ldNp 3 x105 H) fun x106 => 
  bA (bxV 52 (.agg [(.int .i64 (.ofNat 0)), (.int .i64 (.ofNat 0)), (.int .u64 (.ofNat 0))])) H fun x11 H => 
  bR (stNp 3 x11 x106 H) fun x9999_4 H => 
  bV (pNil x0_5) fun x108 => 
  bV (fAd 9 x108) fun x109 => 
  bV (ld1p x109 H) fun x110 => 
  bV (fAd 0 x11) fun x111 => 
  bV (ld1p x111 H) fun x112 => 
  bR (dlM [6] x110 x112 H) fun x9999_5 H => 
  bV (bInt .add x103 (.int .i64 (.ofNat 1))) fun x113 => 
  some (.norm [x0_5, x6_5, x7_4, x101, x102_2, x113], H))
  (some (.exit 2 [x0_5, x6_5, x7_4], H))
def f53b3 (D : Dyn) (n : Nat) (vs : List AV) (H : AH) : Rs :=
  hd vs fun x0_6 vs => hd vs fun x6_6 vs => hd vs fun x7_5 vs => 
  bV (ldNp 3 x6_6 H) fun x115 => 
  bV (pNil x0_6) fun x116 => 
  bV (fAd 6 x116) fun x117 => 
  bR (stNp 3 x117 x115 H) fun x9999_6 H => 
  bV (pNil x0_6) fun x119 => 
  bV (fAd 5 x119) fun x120 => 
  bV (ld1p x120 H) fun x121 => 
  bV (bInt .add x121 (.int .i64 (.ofNat 1))) fun x122 => 
  bV (pNil x0_6) fun x123 => 
  bV (fAd 5 x123) fun x124 => 
  bR (stNp 1 x124 x122 H) fun x9999_7 H => 
  bV (some x7_5) fun x2_5 => bV (some (.int .i64 (.ofNat 0))) fun x3_5 => some (.ret (.tuple [x2_5, x3_5]), H)
def f53b4 (D : Dyn) (n : Nat) (vs : List AV) (H : AH) : Rs :=
  hd vs fun x0_4 vs => hd vs fun x6_4 vs => hd vs fun x7_3 vs => 
  bV (lnSl x7_3) fun x102 => 
  jb 2 (loopK n (f53l2 D n) [x0_4, x6_4, x7_3, x7_3, x102, (.int .i64 (.ofNat 0))] H) (f53b3 D n)
/-- (*jetty/txg.Store).Sync -/
def f53 (D : Dyn) (n : Nat) (vs : List AV) (H : AH) : Option (AV × AH) :=
  outR (hd vs fun x0 vs => nl vs <|
  bR (f140 D n [x0] H) fun x13 H => 
  cnd x13 (bV (some .nilSlice) fun x2 => bV (some (.int .i64 (.ofNat 2))) fun x3 => some (.ret (.tuple [x2, x3]), H))
  (bV (pNil x0) fun x15 => 
  bV (fAd 5 x15) fun x16 => 
  bV (ld1p x16 H) fun x17 => 
  bV (bInt .geq x17 (.int .i64 (.ofNat 2147483647))) fun x18 => 
  cnd x18 (bV (some .nilSlice) fun x2_2 => bV (some (.int .i64 (.ofNat 3))) fun x3_2 => some (.ret (.tuple [x2_2, x3_2]), H))
  (bV (pNil x0) fun x20 => 
  bV (fAd 2 x20) fun x21 => 
  bV (ld1p x21 H) fun x22 => 
  bV (pNil x0) fun x25 => 
  bV (fAd 4 x25) fun x26 => 
  bV (ld1p x26 H) fun x27 => 
  bR (f113 D n [x22] H) fun x23 H => chk (ld1p x26 H) x27 <| 
  bR (f114 D n [x27] H) fun x28 H => 
  bV (pNil x0) fun x31 => 
  bV (fAd 2 x31) fun x32 => 
  bV (ld1p x32 H) fun x33 => 
  bV (pNil x0) fun x35 => 
  bV (fAd 4 x35) fun x36 => 
  bV (ld1p x36 H) fun x37 => 
  bV (pNil x0) fun x39 => 
  bV (fAd 5 x39) fun x40 => 
  bV (ld1p x40 H) fun x41 => 
  bV (bInt .add x41 (.int .i64 (.ofNat 1))) fun x42 => 
  bA (bxV 52 (.agg [(.int .i64 (.ofNat 0)), (.int .i64 (.ofNat 0)), (.int .u64 (.ofNat 0))])) H fun x6 H => 
  bR (f26 D n [x33, x37, x42] H) fun x43 H => 
  bV (pExtract x43 0) fun x44 => 
  bV (pExtract x43 1) fun x45 => 
  bV (pExtract x43 2) fun x46 => 
  bR (stNp 3 x6 x44 H) fun x9999 H => 
  bV (bInt .neq x46 (.int .i64 (.ofNat 0))) fun x48 => 
  cnd x48 (bV (some .nilSlice) fun x2_3 => bV (some x46) fun x3_3 => some (.ret (.tuple [x2_3, x3_3]), H))
  (bV (ldNp 3 x6 H) fun x51 => 
  bR (f141 D n [x0, x51] H) fun x52 H => 
  bV (bInt .neq x52 (.int .i64 (.ofNat 0))) fun x54 => 
  cnd x54 (bV (pNil x0) fun x56 => 
  bV (fAd 2 x56) fun x57 => 
  bV (ld1p x57 H) fun x58 => 
  bV (pNil x23) fun x60 => 
  bV (ldNp 8 x60 H) fun x61 => 
  bV (pNil x58) fun x62 => 
  bR (stNp 8 x62 x61 H) fun x9999_2 H => 
  bV (pNil x0) fun x64 => 
  bV (fAd 4 x64) fun x65 => 
  bV (ld1p x65 H) fun x66 => 
  bR (f142 D n [x66] H) fun x67 H => 
  bV (some .nilSlice) fun x2_4 => bV (some x52) fun x3_4 => some (.ret (.tuple [x2_4, x3_4]), H))
  (bV (pNil x0) fun x70 => 
  bV (fAd 4 x70) fun x71 => 
  bV (ld1p x71 H) fun x72 => 
  bR (f143 D n [x72] H) fun x73 H => 
  bV (pNil x0) fun x75 => 
  bV (fAd 0 x75) fun x76 => 
  bV (ld1p x76 H) fun x77 => 
  bR (f136 D n [x77] H) fun x78 H => 
  jb 0 (loopK n (f53l1 D n) [x0, x28, x6, x45, x78, (.int .i64 (.ofNat 0))] H) (f53b4 D n))))))
def h53 : Hint := (.s .o (.s (.s .o (.cl (.s .o .o) .o)) (.s (.s .o (.cl (.s .o .o) .o)) (.s .o (.s .o (.s (.s .o (.cl (.s .o .o) .o)) (.s (.s .o (.s .o (.cl (.s .o (.s .o (.s .o .o))) .o))) (.s .o (.s (.s .o (.b [0, 6, 7] (.l [0, 5, 6, 7, 78, 79] (.s .o (.s (.cr .o .o) (.s (.b0 (.s .o (.s .o (.c [0, 5, 6, 7, 78, 79] .o .o)))) .o)))))) (.s (.s .o (.b [0, 6, 7] (.l [0, 6, 7, 101, 102, 103] (.s .o (.s (.cr .o .o) (.s (.b0 (.s .o .o)) .o)))))) (.s .o (.s .o (.s .o .o)))))))))))))
theorem f53_eq (D : Dyn) (n : Nat) : f53 D n = funKp (s53 D n) D n 53 Tryz.f53 h53 := by kernel_rfl
theorem f53_ok {D : Dyn} (hD : DP D) (n : Nat) : FP 53 (f53 D n) := fun_okP X_ok hD (SP.cons (f140_ok hD n) (SP.cons (f113_ok hD n) (SP.cons (f114_ok hD n) (SP.cons (f26_ok hD n) (SP.cons (f141_ok hD n) (SP.cons (f142_ok hD n) (SP.cons (f143_ok hD n) (SP.cons (f136_ok hD n) (SP.cons (f144_ok hD n) (SP.nil)))))))))) Tryz.func53 (by kernel_rfl) (by kernel_rfl) (f53_eq D n)

def s45 (D : Dyn) (n : Nat) : Tb := ⟨X, [(140, f140 D n)]⟩
/-- (*jetty/txg.Store).SetExtra -/
def f45 (D : Dyn) (n : Nat) (vs : List AV) (H : AH) : Option (AV × AH) :=
  outR (hd vs fun x0 vs => hd vs fun x1 vs => nl vs <|
  bR (f140 D n [x0] H) fun x6 H => 
  cnd x6 (bV (some (.int .i64 (.ofNat 2))) fun x4 => some (.ret x4, H))
  (bV (lnStr x1) fun x8 => 
  bV (bInt .gtr x8 (.int .i64 (.ofNat 476))) fun x9 => 
  cnd x9 (bV (some (.int .i64 (.ofNat 40))) fun x4_2 => some (.ret x4_2, H))
  (bV (pNil x0) fun x12 => 
  bV (fAd 3 x12) fun x13 => 
  bR (stNp 1 x13 x1 H) fun x9999 H => 
  bV (some (.int .i64 (.ofNat 0))) fun x4_3 => some (.ret x4_3, H))))
def h45 : Hint := (.s .o (.s (.s .o (.cl (.s .o .o) .o)) (.s (.s .o (.cl (.s .o .o) .o)) (.s .o (.s .o .o)))))
theorem f45_eq (D : Dyn) (n : Nat) : f45 D n = funKp (s45 D n) D n 45 Tryz.f45 h45 := by kernel_rfl
theorem f45_ok {D : Dyn} (hD : DP D) (n : Nat) : FP 45 (f45 D n) := fun_okP X_ok hD (SP.cons (f140_ok hD n) (SP.nil)) Tryz.func45 (by kernel_rfl) (by kernel_rfl) (f45_eq D n)

def s62 (D : Dyn) (n : Nat) : Tb := ⟨X, [(152, f152 D n), (153, f153 D n)]⟩
/-- (*jetty/disk.Disk).Fail -/
def f62 (D : Dyn) (n : Nat) (vs : List AV) (H : AH) : Option (AV × AH) :=
  outR (hd vs fun x0 vs => hd vs fun x1 vs => nl vs <|
  bR (f152 D n [x0] H) fun x7 H => 
  bV (bInt .neq x7 (.int .i64 (.ofNat 0))) fun x9 => 
  cnd x9 (bV (some x7) fun x4 => some (.ret x4, H))
  (bR (f153 D n [x0, x1] H) fun x13 H => 
  bV (some (.int .i64 (.ofNat 0))) fun x4_2 => some (.ret x4_2, H)))
def h62 : Hint := (.s .o (.s (.s .o (.s .o (.cl (.s .o .o) .o))) (.s .o (.s .o .o))))
theorem f62_eq (D : Dyn) (n : Nat) : f62 D n = funKp (s62 D n) D n 62 Tryz.f62 h62 := by kernel_rfl
theorem f62_ok {D : Dyn} (hD : DP D) (n : Nat) : FP 62 (f62 D n) := fun_okP X_ok hD (SP.cons (f152_ok hD n) (SP.cons (f153_ok hD n) (SP.nil))) Tryz.func62 (by kernel_rfl) (by kernel_rfl) (f62_eq D n)

def s204 (D : Dyn) (n : Nat) : Tb := ⟨X, []⟩
/-- maps.Clone[map[int]jetty/api.Block,int,jetty/api.Block] -/
def f204 (D : Dyn) (n : Nat) (vs : List AV) (H : AH) : Option (AV × AH) :=
  outR (hd vs fun x0 vs => nl vs <|
  bV (cmpO .eql (eqM x0 .nilMap)) fun x4 => 
  cnd x4 (bV (some .nilMap) fun x2 => some (.ret x2, H))
  (none))
def h204 : Hint := (.s .o (.s (.s .o (.cl (.s .o .o) .o)) (.s .o .o)))
theorem f204_eq (D : Dyn) (n : Nat) : f204 D n = funKp (s204 D n) D n 204 Tryz.f204 h204 := by kernel_rfl
theorem f204_ok {D : Dyn} (hD : DP D) (n : Nat) : FP 204 (f204 D n) := fun_okP X_ok hD (SP.nil) Tryz.func204 (by kernel_rfl) (by kernel_rfl) (f204_eq D n)
def m204 (D : Dyn) (n : Nat) (vs : List AV) (H : AH) : Option (AV × AH) := clnK (f204 D n) vs H
theorem m204_ok {D : Dyn} (hD : DP D) (n : Nat) : FP 204 (m204 D n) := clnK_okP ⟨_, Tryz.func204, rfl⟩ (AnyW.maps_Clone Tryz.clone204) (f204_ok hD n)

def s217 (D : Dyn) (n : Nat) : Tb := ⟨X, [(204, m204 D n), (100, f100 D n)]⟩
/-- (*jetty/disk.Disk).Boot -/
def f217 (D : Dyn) (n : Nat) (vs : List AV) (H : AH) : Option (AV × AH) :=
  outR (hd vs fun x0 vs => nl vs <|
  bV (cmpO .eql (eqP x0 .nilPtr)) fun x5 => 
  cnd x5 (bV (some .nilPtr) fun x2 => bV (some (.int .i64 (.ofNat 2))) fun x3 => some (.ret (.tuple [x2, x3]), H))
  (bV (pNil x0) fun x7 => 
  bV (fAd 6 x7) fun x8 => 
  bV (ld1p x8 H) fun x9 => 
  bV (aun .not x9) fun x10 => 
  cnd x10 (bV (some .nilPtr) fun x2_2 => bV (some (.int .i64 (.ofNat 50))) fun x3_2 => some (.ret (.tuple [x2_2, x3_2]), H))
  (bV (pNil x0) fun x12 => 
  bV (fAd 0 x12) fun x13 => 
  bV (ld1p x13 H) fun x14 => 
  bV (pNil x0) fun x16 => 
  bV (fAd 1 x16) fun x17 => 
  bV (ld1p x17 H) fun x18 => 
  bR (m204 D n [x18] H) fun x19 H => chk (ld1p x13 H) x14 <| 
  bR (f100 D n [x14, x19] H) fun x20 H => 
  bV (some x20) fun x2_3 => bV (some (.int .i64 (.ofNat 0))) fun x3_3 => some (.ret (.tuple [x2_3, x3_3]), H))))
def h217 : Hint := (.s .o (.s (.s .o (.cl (.s .o .o) .o)) (.s (.s .o (.cl (.s .o .o) .o)) (.s .o .o))))
theorem f217_eq (D : Dyn) (n : Nat) : f217 D n = funKp (s217 D n) D n 217 Tryz.f217 h217 := by kernel_rfl
theorem f217_ok {D : Dyn} (hD : DP D) (n : Nat) : FP 217 (f217 D n) := fun_okP X_ok hD (SP.cons (m204_ok hD n) (SP.cons (f100_ok hD n) (SP.nil))) Tryz.func217 (by kernel_rfl) (by kernel_rfl) (f217_eq D n)

def s132 (D : Dyn) (n : Nat) : Tb := ⟨X, [(217, f217 D n)]⟩
/-- jetty/jettylaw15.booted -/
def f132 (D : Dyn) (n : Nat) (vs : List AV) (H : AH) : Option (AV × AH) :=
  outR (hd vs fun x0 vs => nl vs <|
  bR (f217 D n [x0] H) fun x7 H => 
  bV (pExtract x7 0) fun x8 => 
  bV (pExtract x7 1) fun x9 => 
  bV (bInt .neq x9 (.int .i64 (.ofNat 0))) fun x11 => 
  cnd x11 (bV (some .nilPtr) fun x2 => some (.ret x2, H))
  (bV (some x8) fun x2_2 => some (.ret x2_2, H)))
def h132 : Hint := (.s .o (.s .o (.s (.s .o (.cl (.s .o .o) .o)) (.s .o .o))))
theorem f132_eq (D : Dyn) (n : Nat) : f132 D n = funKp (s132 D n) D n 132 Tryz.f132 h132 := by kernel_rfl
theorem f132_ok {D : Dyn} (hD : DP D) (n : Nat) : FP 132 (f132 D n) := fun_okP X_ok hD (SP.cons (f217_ok hD n) (SP.nil)) Tryz.func132 (by kernel_rfl) (by kernel_rfl) (f132_eq D n)

def s47 (D : Dyn) (n : Nat) : Tb := ⟨X, [(140, f140 D n)]⟩
/-- (*jetty/txg.Store).Extra -/
def f47 (D : Dyn) (n : Nat) (vs : List AV) (H : AH) : Option (AV × AH) :=
  outR (hd vs fun x0 vs => nl vs <|
  bR (f140 D n [x0] H) fun x4 H => 
  cnd x4 (bV (some (.str 0 0)) fun x2 => some (.ret x2, H))
  (bV (pNil x0) fun x6 => 
  bV (fAd 3 x6) fun x7 => 
  bV (ld1p x7 H) fun x8 => 
  bV (some x8) fun x2_2 => some (.ret x2_2, H)))
def h47 : Hint := (.s .o (.s (.s .o (.cl (.s .o .o) .o)) (.s .o .o)))
theorem f47_eq (D : Dyn) (n : Nat) : f47 D n = funKp (s47 D n) D n 47 Tryz.f47 h47 := by kernel_rfl
theorem f47_ok {D : Dyn} (hD : DP D) (n : Nat) : FP 47 (f47 D n) := fun_okP X_ok hD (SP.cons (f140_ok hD n) (SP.nil)) Tryz.func47 (by kernel_rfl) (by kernel_rfl) (f47_eq D n)

def s52 (D : Dyn) (n : Nat) : Tb := ⟨X, []⟩
def f52l0 (D : Dyn) (n : Nat) (vs : List AV) (H : AH) : Rs :=
  hd vs fun x0_2 vs => hd vs fun x3 vs => hd vs fun x4 vs => 
  bV (bInt .add x4 (.int .i64 (.ofNat 1))) fun x6 => 
  bV (lnSl x0_2) fun x8 => 
  bV (bInt .lss x6 x8) fun x9 => 
  cnd x9 (bV (ixSl 1 x0_2 x4) fun x15 => 
  bV (ld1p x15 H) fun x16 => 
  bV (bInt .add x4 (.int .i64 (.ofNat 1))) fun x19 => 
  bV (ixSl 1 x0_2 x19) fun x20 => 
  bV (ld1p x20 H) fun x21 => 
  bV (bldSp [(0, 1), (1, 1)] [(.str 0 0), (.str 0 0)] [(0, x16), (1, x21)]) fun x22 => 
  bA (bldLp 36 2 1 [(.str 0 0), (.str 0 0)] [(0, x22)]) H fun x23 H => 
  bR (apPp 36 2 32 x3 x23 H) fun x24 H => 
  bV (bInt .add x4 (.int .i64 (.ofNat 2))) fun x11 => 
  some (.norm [x0_2, x24, x11], H))
  (some (.exit 0 [x3], H))
def f52b1 (D : Dyn) (n : Nat) (vs : List AV) (H : AH) : Rs :=
  hd vs fun x3_2 vs => 
  bV (some x3_2) fun x2 => some (.ret x2, H)
/-- jetty/jettylaw15.pairs -/
def f52 (D : Dyn) (n : Nat) (vs : List AV) (H : AH) : Option (AV × AH) :=
  outR (hd vs fun x0 vs => nl vs <|
  jb 0 (loopK n (f52l0 D n) [x0, .nilSlice, (.int .i64 (.ofNat 0))] H) (f52b1 D n))
def h52 : Hint := (.s .o (.s .o (.s (.s .o (.b [3] (.l [0, 3, 4] (.s (.s .o (.cr .o .o)) (.s (.b0 .o) .o))))) (.s .o .o))))
theorem f52_eq (D : Dyn) (n : Nat) : f52 D n = funKp (s52 D n) D n 52 Tryz.f52 h52 := by kernel_rfl
theorem f52_ok {D : Dyn} (hD : DP D) (n : Nat) : FP 52 (f52 D n) := fun_okP X_ok hD (SP.nil) Tryz.func52 (by kernel_rfl) (by kernel_rfl) (f52_eq D n)

def s183 (D : Dyn) (n : Nat) : Tb := ⟨X, []⟩
def f183l0 (D : Dyn) (n : Nat) (vs : List AV) (H : AH) : Rs :=
  hd vs fun x0_2 vs => hd vs fun x1_2 vs => hd vs fun x3 vs => 
  bV (bInt .geq x3 (.int .i64 (.ofNat 0))) fun x8 => 
  cnd x8 (bV (ld1p x1_2 H) fun x13 => 
  bV (ixSl 3 x13 x3) fun x15 => 
  bV (ldNp 3 x15 H) fun x16 => 
  bR (callV (s183 D n).S D x0_2 [x3, x16] H) fun x17 H => 
  bV (aun .not x17) fun x18 => 
  cnd x18 (some (.ret (.tuple []), H))
  (bV (bInt .sub x3 (.int .i64 (.ofNat 1))) fun x10 => 
  some (.norm [x0_2, x1_2, x10], H)))
  (some (.exit 0 [], H))
def f183b1 (D : Dyn) (n : Nat) (vs : List AV) (H : AH) : Rs :=
  
  some (.ret (.tuple []), H)
/-- slices.Backward[[]jetty/api.Ptr,jetty/api.Ptr]$1 -/
def f183 (D : Dyn) (n : Nat) (vs : List AV) (H : AH) : Option (AV × AH) :=
  outR (hd vs fun x0 vs => hd vs fun x1 vs => nl vs <|
  bV (ld1p x1 H) fun x4 => 
  bV (lnSl x4) fun x5 => 
  bV (bInt .sub x5 (.int .i64 (.ofNat 1))) fun x6 => 
  jb 0 (loopK n (f183l0 D n) [x0, x1, x6] H) (f183b1 D n))
def h183 : Hint := (.s .o (.b [] (.l [0, 1, 3] (.s (.s .o (.cr .o .o)) (.s (.b0 (.s .o (.cl .o .o))) .o)))))
theorem f183_eq (D : Dyn) (n : Nat) : f183 D n = funKp (s183 D n) D n 183 Tryz.f183 h183 := by kernel_rfl
theorem f183_ok {D : Dyn} (hD : DP D) (n : Nat) : FP 183 (f183 D n) := fun_okP X_ok hD (SP.nil) Tryz.func183 (by kernel_rfl) (by kernel_rfl) (f183_eq D n)

def s92 (D : Dyn) (n : Nat) : Tb := ⟨X, []⟩
/-- slices.Backward[[]jetty/api.Ptr,jetty/api.Ptr] -/
def f92 (D : Dyn) (n : Nat) (vs : List AV) (H : AH) : Option (AV × AH) :=
  outR (hd vs fun x0 vs => nl vs <|
  bA (bxV 55 x0) H fun x1 H => 
  bV (some (.func 183 [] [x1])) fun x2 => some (.ret x2, H))
def h92 : Hint := (.s .o (.s .o .o))
theorem f92_eq (D : Dyn) (n : Nat) : f92 D n = funKp (s92 D n) D n 92 Tryz.f92 h92 := by kernel_rfl
theorem f92_ok {D : Dyn} (hD : DP D) (n : Nat) : FP 92 (f92 D n) := fun_okP X_ok hD (SP.nil) Tryz.func92 (by kernel_rfl) (by kernel_rfl) (f92_eq D n)

def s15 (D : Dyn) (n : Nat) : Tb := ⟨X, [(88, f88 D n), (89, f89 D n), (90, f90 D n), (91, f91 D n), (92, f92 D n)]⟩
def f15j0 (D : Dyn) (n : Nat) (vs : List AV) (H : AH) : Rs :=
  hd vs fun x0_3 vs => hd vs fun x1_3 vs => hd vs fun x4_3 vs => hd vs fun x6_3 vs => hd vs fun x28_3 vs => hd vs fun x29_2 vs => 
  bV (bInt .add x29_2 (.int .i64 (.ofNat 1))) fun x92 => 
  some (.norm [x0_3, x1_3, x4_3, x6_3, x28_3, x92], H)
def f15l1 (D : Dyn) (n : Nat) (vs : List AV) (H : AH) : Rs :=
  hd vs fun x0_2 vs => hd vs fun x1_2 vs => hd vs fun x4_2 vs => hd vs fun x6_2 vs => hd vs fun x28_2 vs => hd vs fun x29 vs => 
  bV (bInt .lss x29 x28_2) fun x30 => 
  cnd x30 (bV (ld1p x6_2 H) fun x31 => 
  bV (lnSl x31) fun x32 => 
  bV (bInt .eql x32 (.int .i64 (.ofNat 0))) fun x33 => 
  cnd x33 (bV (bldSp [(0, 1), (1, 1)] [(.str 0 0), (.str 0 0)] []) fun x34 => 
  bR (stNp 2 x4_2 x34 H) fun x9999_4 H => 
  bV (ldNp 2 x4_2 H) fun x9004_3 => bV (some (.int .i64 (.ofNat 5))) fun x5_3 => some (.ret (.tuple [x9004_3, x5_3]), H))
  (bV (ld1p x6_2 H) fun x37 => 
  bV (ld1p x6_2 H) fun x38 => 
  bV (lnSl x38) fun x39 => 
  bV (bInt .sub x39 (.int .i64 (.ofNat 1))) fun x40 => 
  bV (ixSl 3 x37 x40) fun x41 => 
  bV (ldNp 3 x41 H) fun x42 => 
  bR (f90 D n [x0_2, x42] H) fun x43 H => 
  bV (pExtract x43 0) fun x44 => 
  bV (pExtract x43 1) fun x45 => 
  bA (bxV 57 (.agg [(.bool false), .nilSlice, .nilSlice, .nilSlice])) H fun x7 H => 
  bR (stNp 4 x7 x44 H) fun x9999_5 H => 
  bV (bInt .neq x45 (.int .i64 (.ofNat 0))) fun x47 => 
  cnd x47 (bV (bldSp [(0, 1), (1, 1)] [(.str 0 0), (.str 0 0)] []) fun x48 => 
  bR (stNp 2 x4_2 x48 H) fun x9999_6 H => 
  bV (ldNp 2 x4_2 H) fun x9004_4 => bV (some x45) fun x5_4 => some (.ret (.tuple [x9004_4, x5_4]), H))
  (bV (ld1p x6_2 H) fun x50 => 
  bV (ld1p x6_2 H) fun x51 => 
  bV (lnSl x51) fun x52 => 
  bV (bInt .sub x52 (.int .i64 (.ofNat 1))) fun x53 => 
  bV (slSlp 3 x50 none (some x53) none H) fun x54 => 
  bR (stNp 1 x6_2 x54 H) fun x9999_7 H => 
  bV (ldNp 4 x7 H) fun x55 => 
  bR (f91 D n [x55, x1_2] H) fun x57 H => 
  bV (fAd 0 x7) fun x58 => 
  bV (ld1p x58 H) fun x59 => 
  jn (wnt x59 true (bV (fAd 1 x7) fun x62 => 
  bV (ld1p x62 H) fun x63 => 
  bV (lnSl x63) fun x64 => 
  bV (bInt .lss x57 x64) fun x65 => 
  some (.norm [x65], H)) (some (.norm [undefA], H))) fun vs H => hd vs fun x65_2 vs => 
  bV (pk3 (some x59) (some x65_2) (some (.bool false))) fun x66 => 
  cnd x66 (bV (fAd 1 x7) fun x67 => 
  bV (ld1p x67 H) fun x68 => 
  bV (ixSl 1 x68 x57) fun x70 => 
  bV (ld1p x70 H) fun x71 => 
  bV (fAd 2 x7) fun x72 => 
  bV (ld1p x72 H) fun x73 => 
  bV (ixSl 1 x73 x57) fun x75 => 
  bV (ld1p x75 H) fun x76 => 
  bV (bldSp [(0, 1), (1, 1)] [(.str 0 0), (.str 0 0)] [(0, x71), (1, x76)]) fun x77 => 
  bR (stNp 2 x4_2 x77 H) fun x9999_8 H => 
  bV (ldNp 2 x4_2 H) fun x9004_5 => bV (some (.int .i64 (.ofNat 0))) fun x5_5 => some (.ret (.tuple [x9004_5, x5_5]), H))
  (bV (fAd 0 x7) fun x78 => 
  bV (ld1p x78 H) fun x79 => 
  bV (aun .not x79) fun x80 => 
  jn (cnd x80 (bV (fAd 3 x7) fun x81 => 
  bV (ld1p x81 H) fun x82 => 
  bV (slSlp 3 x82 (some x57) none none H) fun x84 => 
  bR (f92 D n [x84] H) fun x85 H => 
  newB H (.loop ⟨.ready, none, 15, 0, [6], [x6_2]⟩) fun A H => bR (rfC (s15 D n).S D x85 A H) fun _ H => endLp A H fun j H => jmpK j (
  some (.norm [x0_2, x1_2, x4_2, x6_2, x28_2, x29], H))
  (fun id => cond (Nat.beq 0 id) (some (.exit id [x4_2, x6_2], H)) (none)) (bV (ldNp 2 x4_2 H) fun x9004_6 => none))
  (some (.norm [x0_2, x1_2, x4_2, x6_2, x28_2, x29], H))) (f15j0 D n)))))
  (some (.exit 0 [x4_2, x6_2], H))
def f15b2 (D : Dyn) (n : Nat) (vs : List AV) (H : AH) : Rs :=
  hd vs fun x4_4 vs => hd vs fun x6_4 vs => 
  bV (ld1p x6_4 H) fun x93 => 
  bV (lnSl x93) fun x94 => 
  bV (bInt .eql x94 (.int .i64 (.ofNat 0))) fun x95 => 
  cnd x95 (bV (bldSp [(0, 1), (1, 1)] [(.str 0 0), (.str 0 0)] []) fun x96 => 
  bR (stNp 2 x4_4 x96 H) fun x9999_9 H => 
  bV (ldNp 2 x4_4 H) fun x9004_7 => bV (some (.int .i64 (.ofNat 5))) fun x5_6 => some (.ret (.tuple [x9004_7, x5_6]), H))
  (bV (bldSp [(0, 1), (1, 1)] [(.str 0 0), (.str 0 0)] []) fun x97 => 
  bR (stNp 2 x4_4 x97 H) fun x9999_10 H => 
  bV (ldNp 2 x4_4 H) fun x9004_8 => bV (some (.int .i64 (.ofNat 4))) fun x5_7 => some (.ret (.tuple [x9004_8, x5_7]), H))
/-- (*jetty/tree.Tree).Next -/
def f15 (D : Dyn) (n : Nat) (vs : List AV) (H : AH) : Option (AV × AH) :=
  outR (hd vs fun x0 vs => hd vs fun x1 vs => nl vs <|
  bA (bxV 36 (.agg [(.str 0 0), (.str 0 0)])) H fun x4 H => 
  bR (f88 D n [x0] H) fun x13 H => 
  cnd x13 (bV (bldSp [(0, 1), (1, 1)] [(.str 0 0), (.str 0 0)] []) fun x14 => 
  bR (stNp 2 x4 x14 H) fun x9999 H => 
  bV (ldNp 2 x4 H) fun x9004 => bV (some (.int .i64 (.ofNat 2))) fun x5 => some (.ret (.tuple [x9004, x5]), H))
  (bV (pNil x0) fun x16 => 
  bV (fAd 2 x16) fun x17 => 
  bV (fAd 0 x17) fun x18 => 
  bV (ld1p x18 H) fun x19 => 
  bV (bInt .eql x19 (.int .i64 (.ofNat 0))) fun x20 => 
  cnd x20 (bV (bldSp [(0, 1), (1, 1)] [(.str 0 0), (.str 0 0)] []) fun x21 => 
  bR (stNp 2 x4 x21 H) fun x9999_2 H => 
  bV (ldNp 2 x4 H) fun x9004_2 => bV (some (.int .i64 (.ofNat 5))) fun x5_2 => some (.ret (.tuple [x9004_2, x5_2]), H))
  (bV (pNil x0) fun x23 => 
  bV (fAd 2 x23) fun x24 => 
  bV (ldNp 3 x24 H) fun x25 => 
  bA (bldLp 52 3 1 [(.int .i64 (.ofNat 0)), (.int .i64 (.ofNat 0)), (.int .u64 (.ofNat 0))] [(0, x25)]) H fun x26 H => 
  bA (bxV 55 .nilSlice) H fun x6 H => 
  bR (stNp 1 x6 x26 H) fun x9999_3 H => 
  bR (f89 D n [x0] H) fun x28 H => 
  jb 0 (loopK n (f15l1 D n) [x0, x1, x4, x6, x28, (.int .i64 (.ofNat 0))] H) (f15b2 D n))))
def h15 : Hint := (.s .o (.s (.s .o (.cl (.s .o .o) .o)) (.s (.s .o (.cl (.s .o .o) .o)) (.s .o (.s (.s .o (.b [4, 6] (.l [0, 1, 4, 6, 28, 29] (.s .o (.s (.cr .o .o) (.s (.b0 (.s (.s .o (.cl (.s .o .o) .o)) (.s .o (.s (.s .o (.cl (.s .o .o) .o)) (.s .o (.s .o (.s (.s .o (.cl (.s .o .o) .o)) (.s .o (.c [0, 1, 4, 6, 28, 29] (.s .o (.b0 (.rf 0 [6]))) .o))))))))) .o)))))) (.s (.s .o (.cl (.s .o .o) .o)) (.s .o .o)))))))
theorem f15_eq (D : Dyn) (n : Nat) : f15 D n = funKp (s15 D n) D n 15 Tryz.f15 h15 := by kernel_rfl
theorem f15_ok {D : Dyn} (hD : DP D) (n : Nat) : FP 15 (f15 D n) := fun_okP X_ok hD (SP.cons (f88_ok hD n) (SP.cons (f89_ok hD n) (SP.cons (f90_ok hD n) (SP.cons (f91_ok hD n) (SP.cons (f92_ok hD n) (SP.nil)))))) Tryz.func15 (by kernel_rfl) (by kernel_rfl) (f15_eq D n)
def r15_0 (D : Dyn) (n : Nat) (A : Nat) (l : ALoop) (az : List AV) (H : AH) : Option (AV × AH) :=
  bif eqNL [6] l.live then endQ A (hd l.vals fun x6 vs => hd az fun x86 az => hd az fun x87 az => nl az <|
  bA (bxV 52 (.agg [(.int .i64 (.ofNat 0)), (.int .i64 (.ofNat 0)), (.int .u64 (.ofNat 0))])) H fun x11 H => 
  bR (stNp 3 x11 x87 H) fun x9999 H => 
  beginK A H fun H => 
  bV (ld1p x6 H) fun x88 => 
  bV (ldNp 3 x11 H) fun x89 => 
  bA (bldLp 52 3 1 [(.int .i64 (.ofNat 0)), (.int .i64 (.ofNat 0)), (.int .u64 (.ofNat 0))] [(0, x89)]) H fun x90 H => 
  bR (apPp 52 3 24 x88 x90 H) fun x91 H => 
  bR (stNp 1 x6 x91 H) fun x9999_2 H => 
  some (.norm [], H)) else none
def r15_0a : Hint := .o
def r15_0b : Hint := (.b0 .o)
theorem r15_0_eq (D : Dyn) (n : Nat) : r15_0 D n = rndKp (s15 D n) D n 15 0 [6] [0] r15_0a r15_0b := by kernel_rfl
theorem r15_0_ok {D : Dyn} (hD : DP D) (n : Nat) : RdP 15 0 (r15_0 D n) := round_okP X_ok hD (SP.cons (f88_ok hD n) (SP.cons (f89_ok hD n) (SP.cons (f90_ok hD n) (SP.cons (f91_ok hD n) (SP.cons (f92_ok hD n) (SP.nil)))))) (by kernel_rfl) (r15_0_eq D n)

def s51 (D : Dyn) (n : Nat) : Tb := ⟨X, [(15, f15 D n)]⟩
def f51l0 (D : Dyn) (n : Nat) (vs : List AV) (H : AH) : Rs :=
  hd vs fun x0_2 vs => hd vs fun x1_2 vs => hd vs fun x5 vs => hd vs fun x6 vs => 
  bV (lnSl x1_2) fun x13 => 
  bV (bInt .lss x6 x13) fun x14 => 
  cnd x14 (bR (f15 D n [x0_2, x5] H) fun x20 H => 
  bV (pExtract x20 0) fun x21 => 
  bV (pExtract x20 1) fun x22 => 
  bA (bxV 36 (.agg [(.str 0 0), (.str 0 0)])) H fun x7 H => 
  bR (stNp 2 x7 x21 H) fun x9999 H => 
  bV (bInt .neq x22 (.int .i64 (.ofNat 0))) fun x24 => 
  jn (wnt x24 false (bV (ldNp 2 x7 H) fun x26 => 
  bV (ixSl 2 x1_2 x6) fun x29 => 
  bV (ldNp 2 x29 H) fun x30 => 
  bV (cmpO .neq (eqAp [(2, 2)] x26 x30)) fun x31 => 
  some (.norm [x31], H)) (some (.norm [undefA], H))) fun vs H => hd vs fun x31_2 vs => 
  bV (pk3 (some x24) (some (.bool true)) (some x31_2)) fun x32 => 
  cnd x32 (bV (some (.bool false)) fun x4 => some (.ret x4, H))
  (bV (ixSl 2 x1_2 x6) fun x35 => 
  bV (fAd 0 x35) fun x36 => 
  bV (ld1p x36 H) fun x37 => 
  bV (bStr .add x37 (.str 1 0)) fun x38 => 
  bV (bInt .add x6 (.int .i64 (.ofNat 1))) fun x16 => 
  some (.norm [x0_2, x1_2, x38, x16], H)))
  (some (.exit 0 [x0_2, x5], H))
def f51b1 (D : Dyn) (n : Nat) (vs : List AV) (H : AH) : Rs :=
  hd vs fun x0_3 vs => hd vs fun x5_2 vs => 
  bR (f15 D n [x0_3, x5_2] H) fun x42 H => 
  bV (pExtract x42 0) fun x43 => 
  bV (pExtract x42 1) fun x44 => 
  bA (bxV 36 (.agg [(.str 0 0), (.str 0 0)])) H fun x9 H => 
  bR (stNp 2 x9 x43 H) fun x9999_2 H => 
  bV (bInt .eql x44 (.int .i64 (.ofNat 5))) fun x46 => 
  bV (some x46) fun x4_2 => some (.ret x4_2, H)
/-- jetty/jettylaw15.holds -/
def f51 (D : Dyn) (n : Nat) (vs : List AV) (H : AH) : Option (AV × AH) :=
  outR (hd vs fun x0 vs => hd vs fun x1 vs => nl vs <|
  jb 0 (loopK n (f51l0 D n) [x0, x1, (.str 0 0), (.int .i64 (.ofNat 0))] H) (f51b1 D n))
def h51 : Hint := (.s .o (.s .o (.s (.s .o (.b [0, 5] (.l [0, 1, 5, 6] (.s (.s .o (.cr .o .o)) (.s (.b0 (.s .o (.s (.s .o (.cl (.s .o .o) .o)) .o))) .o))))) (.s .o (.s .o .o)))))
theorem f51_eq (D : Dyn) (n : Nat) : f51 D n = funKp (s51 D n) D n 51 Tryz.f51 h51 := by kernel_rfl
theorem f51_ok {D : Dyn} (hD : DP D) (n : Nat) : FP 51 (f51 D n) := fun_okP X_ok hD (SP.cons (f15_ok hD n) (SP.nil)) Tryz.func51 (by kernel_rfl) (by kernel_rfl) (f51_eq D n)

def s133 (D : Dyn) (n : Nat) : Tb := ⟨X, []⟩
def f133l0 (D : Dyn) (n : Nat) (vs : List AV) (H : AH) : Rs :=
  hd vs fun x0_2 vs => hd vs fun x3 vs => hd vs fun x4 vs => 
  bV (lnSl x0_2) fun x7 => 
  bV (bInt .lss x4 x7) fun x8 => 
  cnd x8 (bV (ixSl 3 x0_2 x4) fun x14 => 
  bV (fAd 0 x14) fun x15 => 
  bV (ld1p x15 H) fun x16 => 
  bA (bldLp 3 1 1 [(.int .i64 (.ofNat 0))] [(0, x16)]) H fun x17 H => 
  bR (apPp 3 1 8 x3 x17 H) fun x18 H => 
  bV (bInt .add x4 (.int .i64 (.ofNat 1))) fun x10 => 
  some (.norm [x0_2, x18, x10], H))
  (some (.exit 0 [x3], H))
def f133b1 (D : Dyn) (n : Nat) (vs : List AV) (H : AH) : Rs :=
  hd vs fun x3_2 vs => 
  bV (some x3_2) fun x2 => some (.ret x2, H)
/-- jetty/jettylaw15.numbers -/
def f133 (D : Dyn) (n : Nat) (vs : List AV) (H : AH) : Option (AV × AH) :=
  outR (hd vs fun x0 vs => nl vs <|
  jb 0 (loopK n (f133l0 D n) [x0, .nilSlice, (.int .i64 (.ofNat 0))] H) (f133b1 D n))
def h133 : Hint := (.s .o (.s .o (.s (.s .o (.b [3] (.l [0, 3, 4] (.s (.s .o (.cr .o .o)) (.s (.b0 .o) .o))))) (.s .o .o))))
theorem f133_eq (D : Dyn) (n : Nat) : f133 D n = funKp (s133 D n) D n 133 Tryz.f133 h133 := by kernel_rfl
theorem f133_ok {D : Dyn} (hD : DP D) (n : Nat) : FP 133 (f133 D n) := fun_okP X_ok hD (SP.nil) Tryz.func133 (by kernel_rfl) (by kernel_rfl) (f133_eq D n)

def s145 (D : Dyn) (n : Nat) : Tb := ⟨X, []⟩
def f145l0 (D : Dyn) (n : Nat) (vs : List AV) (H : AH) : Rs :=
  hd vs fun x1_2 vs => hd vs fun x8 vs => hd vs fun x9_2 vs => hd vs fun x10 vs => 
  bV (bInt .lss x10 x9_2) fun x11 => 
  cnd x11 (bV (ixSl 1 x8 x10) fun x12 => 
  bV (ld1p x12 H) fun x13 => 
  bR (callV (s145 D n).S D x1_2 [x13] H) fun x16 H => 
  bV (bInt .neq x16 (.int .i64 (.ofNat 0))) fun x18 => 
  cnd x18 (bV (some x16) fun x4 => some (.ret x4, H))
  (bV (bInt .add x10 (.int .i64 (.ofNat 1))) fun x20 => 
  some (.norm [x1_2, x8, x9_2, x20], H)))
  (some (.exit 0 [], H))
def f145b1 (D : Dyn) (n : Nat) (vs : List AV) (H : AH) : Rs :=
  
  bV (some (.int .i64 (.ofNat 0))) fun x4_2 => some (.ret x4_2, H)
/-- jetty/txg.each -/
def f145 (D : Dyn) (n : Nat) (vs : List AV) (H : AH) : Option (AV × AH) :=
  outR (hd vs fun x0 vs => hd vs fun x1 vs => nl vs <|
  bV (lnSl x0) fun x9 => 
  jb 0 (loopK n (f145l0 D n) [x1, x0, x9, (.int .i64 (.ofNat 0))] H) (f145b1 D n))
def h145 : Hint := (.s .o (.s (.s .o (.b [] (.l [1, 8, 9, 10] (.s .o (.s (.cr .o .o) (.s (.b0 (.s .o (.s .o (.s .o (.cl (.s .o .o) .o))))) .o)))))) (.s .o .o)))
theorem f145_eq (D : Dyn) (n : Nat) : f145 D n = funKp (s145 D n) D n 145 Tryz.f145 h145 := by kernel_rfl
theorem f145_ok {D : Dyn} (hD : DP D) (n : Nat) : FP 145 (f145 D n) := fun_okP X_ok hD (SP.nil) Tryz.func145 (by kernel_rfl) (by kernel_rfl) (f145_eq D n)

def s146 (D : Dyn) (n : Nat) : Tb := ⟨X, [(107, f107 D n)]⟩
/-- (jetty/txg.asked).give -/
def f146 (D : Dyn) (n : Nat) (vs : List AV) (H : AH) : Option (AV × AH) :=
  outR (hd vs fun x0 vs => hd vs fun x1 vs => nl vs <|
  bA (bxV 214 x0) H fun x2 H => 
  bV (fAd 0 x2) fun x8 => 
  bV (ld1p x8 H) fun x9 => 
  bR (f107 D n [x9, x1] H) fun x11 H => 
  bV (bInt .neq x11 (.int .i64 (.ofNat 0))) fun x13 => 
  cnd x13 (bV (some x11) fun x4 => some (.ret x4, H))
  (bV (fAd 1 x2) fun x16 => 
  bV (ld1p x16 H) fun x17 => 
  bV (lkM [6] (.agg []) true x17 x1 H) fun x19 => 
  bV (pExtract x19 0) fun x20 => 
  bV (pExtract x19 1) fun x21 => 
  bA (bxV 195 (.agg [])) H fun x6 H => 
  bR (stNp 0 x6 x20 H) fun x9999 H => 
  cnd x21 (bV (some (.int .i64 (.ofNat 50))) fun x4_2 => some (.ret x4_2, H))
  (bV (some (.int .i64 (.ofNat 0))) fun x4_3 => some (.ret x4_3, H))))
def h146 : Hint := (.s .o (.s (.s .o (.s .o (.cl (.s .o .o) .o))) (.s (.s .o (.s .o (.cl (.s .o .o) .o))) (.s .o .o))))
theorem f146_eq (D : Dyn) (n : Nat) : f146 D n = funKp (s146 D n) D n 146 Tryz.f146 h146 := by kernel_rfl
theorem f146_ok {D : Dyn} (hD : DP D) (n : Nat) : FP 146 (f146 D n) := fun_okP X_ok hD (SP.cons (f107_ok hD n) (SP.nil)) Tryz.func146 (by kernel_rfl) (by kernel_rfl) (f146_eq D n)

def s55 (D : Dyn) (n : Nat) : Tb := ⟨X, [(140, f140 D n), (114, f114 D n), (145, f145 D n), (143, f143 D n)]⟩
/-- (*jetty/txg.Store).Free -/
def f55 (D : Dyn) (n : Nat) (vs : List AV) (H : AH) : Option (AV × AH) :=
  outR (hd vs fun x0 vs => hd vs fun x1 vs => nl vs <|
  bR (f140 D n [x0] H) fun x8 H => 
  cnd x8 (bV (some (.int .i64 (.ofNat 2))) fun x4 => some (.ret x4, H))
  (bV (pNil x0) fun x11 => 
  bV (fAd 4 x11) fun x12 => 
  bV (ld1p x12 H) fun x13 => 
  bV (pNil x0) fun x16 => 
  bV (fAd 9 x16) fun x17 => 
  bV (ld1p x17 H) fun x18 => 
  bR (f114 D n [x13] H) fun x14 H => chk (ld1p x17 H) x18 <| 
  bV (bldSp [(0, 1), (1, 1)] [.nilPtr, .nilMap] [(0, x14), (1, x18)]) fun x19 => 
  bR (f145 D n [x1, (.func 146 [x19] [])] H) fun x21 H => 
  bV (bInt .neq x21 (.int .i64 (.ofNat 0))) fun x23 => 
  cnd x23 (bV (some x21) fun x4_2 => some (.ret x4_2, H))
  (bV (pNil x0) fun x27 => 
  bV (fAd 4 x27) fun x28 => 
  bV (ld1p x28 H) fun x29 => 
  bR (f145 D n [x1, (.func 107 [x29] [])] H) fun x31 H => 
  bV (bInt .neq x31 (.int .i64 (.ofNat 0))) fun x33 => 
  cnd x33 (bV (some x31) fun x4_3 => some (.ret x4_3, H))
  (bV (pNil x0) fun x36 => 
  bV (fAd 4 x36) fun x37 => 
  bV (ld1p x37 H) fun x38 => 
  bR (f143 D n [x38] H) fun x39 H => 
  bV (some (.int .i64 (.ofNat 0))) fun x4_4 => some (.ret x4_4, H)))))
def h55 : Hint := (.s .o (.s (.s .o (.cl (.s .o .o) .o)) (.s (.s .o (.s .o (.cl (.s .o .o) .o))) (.s (.s .o (.s .o (.cl (.s .o .o) .o))) (.s .o (.s .o .o))))))
theorem f55_eq (D : Dyn) (n : Nat) : f55 D n = funKp (s55 D n) D n 55 Tryz.f55 h55 := by kernel_rfl
theorem f55_ok {D : Dyn} (hD : DP D) (n : Nat) : FP 55 (f55 D n) := fun_okP X_ok hD (SP.cons (f140_ok hD n) (SP.cons (f114_ok hD n) (SP.cons (f145_ok hD n) (SP.cons (f143_ok hD n) (SP.nil))))) Tryz.func55 (by kernel_rfl) (by kernel_rfl) (f55_eq D n)
end Go.Eng.Sh
