/- Shallow functions, by program (gen.py). -/
import Derived.Test.YtnbpjfmfopgomaaGreatDoorRO3
import Derived.Test.YtnbpjfmfopgomaaGreatDoorProg
import Derived.KernelRfl
noncomputable section
namespace Go.Eng.Sh
open Go.Proofs
set_option maxRecDepth 100000
set_option linter.all false
def s263 (D : Dyn) (n : Nat) : Tb := ⟨X, [(319, f319 D n), (206, f206 D n), (264, f264 D n), (320, f320 D n), (321, f321 D n), (281, f281 D n), (323, f323 D n), (322, f322 D n)]⟩
def f263j0 (D : Dyn) (n : Nat) (vs : List AV) (H : AH) : Rs :=
  hd vs fun x0_3 vs => hd vs fun x5_3 vs => hd vs fun x7_3 vs => hd vs fun x8_3 vs => hd vs fun x10 vs => hd vs fun x11 vs => hd vs fun x14 vs => 
  bV (bInt .neq x14 (.int .i64 (.ofNat 0))) fun x85 => 
  cnd x85 (bV (bldSp [(0, 1), (1, 1), (2, 1), (3, 1)] [(.bool false), .nilSlice, .nilSlice, .nilSlice] []) fun x86 => 
  bR (stNp 4 x8_3 x86 H) fun x9999_5 H => 
  bV (ldNp 4 x8_3 H) fun x9008_2 => bV (some (.int .i64 (.ofNat 4))) fun x9_2 => some (.ret (.tuple [x9008_2, x9_2]), H))
  (some (.norm [x0_3, x5_3, x7_3, x8_3, x10, x11], H))
def f263j1 (D : Dyn) (n : Nat) (vs : List AV) (H : AH) : Rs :=
  hd vs fun x0_2 vs => hd vs fun x2_2 vs => hd vs fun x5_2 vs => hd vs fun x7_2 vs => hd vs fun x8_2 vs => hd vs fun x12 vs => 
  bV (pNil x0_2) fun x30 => 
  bV (fAd 0 x30) fun x31 => 
  bV (ld1p x31 H) fun x32 => 
  bV (fAd 3 x5_2) fun x33 => 
  bV (ld1p x33 H) fun x34 => 
  bV (ixSl 3 x34 x12) fun x36 => 
  bV (ldNp 3 x36 H) fun x37 => 
  bA (bxV 269 (.agg [(.bool false), .nilSlice, .nilSlice, .nilSlice])) H fun x13 H => 
  bR (noPan (f206 D n [x32, x37] H)) fun x38 H => 
  bV (pExtract x38 0) fun x39 => 
  bV (pExtract x38 1) fun x40 => 
  bR (stNp 4 x13 x39 H) fun x9999 H => 
  bV (bInt .neq x40 (.int .i64 (.ofNat 0))) fun x42 => 
  cnd x42 (bV (bldSp [(0, 1), (1, 1), (2, 1), (3, 1)] [(.bool false), .nilSlice, .nilSlice, .nilSlice] []) fun x43 => 
  bR (stNp 4 x8_2 x43 H) fun x9999_2 H => 
  bV (ldNp 4 x8_2 H) fun x9008 => bV (some x40) fun x9 => some (.ret (.tuple [x9008, x9]), H))
  (bV (fAd 3 x5_2) fun x46 => 
  bV (ld1p x46 H) fun x47 => 
  bV (ixSl 3 x47 x12) fun x49 => 
  bV (ldNp 3 x49 H) fun x50 => 
  bR (noPan (f264 D n [x0_2, x50] H)) fun x51 H => 
  bV (mn2 x2_2 x12) fun x54 => 
  bV (mx2 x2_2 x12) fun x57 => 
  bV (bInt .add x57 (.int .i64 (.ofNat 1))) fun x58 => 
  bV (bInt .lss x12 x2_2) fun x61 => 
  jn (cnd x61 (bV (ldNp 4 x13 H) fun x63 => 
  bV (fAd 1 x5_2) fun x64 => 
  bV (ld1p x64 H) fun x65 => 
  bV (ixSl 1 x65 x54) fun x67 => 
  bV (ld1p x67 H) fun x68 => 
  bV (ldNp 4 x7_2 H) fun x69 => 
  bR (noPan (f320 D n [x63, x68, x69] H)) fun x70 H => 
  bV (pExtract x70 0) fun x71 => 
  bV (pExtract x70 1) fun x72 => 
  bR (stNp 4 x7_2 x71 H) fun x9999_3 H => 
  some (.norm [x0_2, x5_2, x7_2, x8_2, x54, x58, x72], H))
  (bV (ldNp 4 x7_2 H) fun x74 => 
  bV (fAd 1 x5_2) fun x75 => 
  bV (ld1p x75 H) fun x76 => 
  bV (ixSl 1 x76 x54) fun x78 => 
  bV (ld1p x78 H) fun x79 => 
  bV (ldNp 4 x13 H) fun x80 => 
  bR (noPan (f320 D n [x74, x79, x80] H)) fun x81 H => 
  bV (pExtract x81 0) fun x82 => 
  bV (pExtract x81 1) fun x83 => 
  bR (stNp 4 x7_2 x82 H) fun x9999_4 H => 
  some (.norm [x0_2, x5_2, x7_2, x8_2, x54, x58, x83], H))) (f263j0 D n))
def f263j2 (D : Dyn) (n : Nat) (vs : List AV) (H : AH) : Rs :=
  hd vs fun x0_4 vs => hd vs fun x5_4 vs => hd vs fun x7_4 vs => hd vs fun x8_4 vs => hd vs fun x10_2 vs => hd vs fun x11_2 vs => 
  bV (ldNp 4 x7_4 H) fun x88 => 
  bR (noPan (f321 D n [x88] H)) fun x89 H => 
  bV (pExtract x89 0) fun x90 => 
  bV (pExtract x89 1) fun x91 => 
  bV (pExtract x89 2) fun x92 => 
  bV (bInt .neq x92 (.int .i64 (.ofNat 0))) fun x94 => 
  cnd x94 (bV (bldSp [(0, 1), (1, 1), (2, 1), (3, 1)] [(.bool false), .nilSlice, .nilSlice, .nilSlice] []) fun x95 => 
  bR (stNp 4 x8_4 x95 H) fun x9999_6 H => 
  bV (ldNp 4 x8_4 H) fun x9008_3 => bV (some x92) fun x9_3 => some (.ret (.tuple [x9008_3, x9_3]), H))
  (bV (fAd 1 x5_4) fun x97 => 
  bV (ld1p x97 H) fun x98 => 
  bV (slSlp 1 x98 none (some x10_2) (some x10_2) H) fun x101 => 
  bV (fAd 1 x5_4) fun x103 => 
  bV (ld1p x103 H) fun x104 => 
  bV (bInt .sub x11_2 (.int .i64 (.ofNat 1))) fun x106 => 
  bV (slSlp 1 x104 (some x106) none none H) fun x107 => 
  bA (bldLp 229 1 3 [.nilSlice] [(0, x101), (1, x91), (2, x107)]) H fun x108 H => 
  bV (fAd 3 x5_4) fun x110 => 
  bV (ld1p x110 H) fun x111 => 
  bV (slSlp 3 x111 none (some x10_2) (some x10_2) H) fun x114 => 
  bV (fAd 3 x5_4) fun x118 => 
  bV (ld1p x118 H) fun x119 => 
  bV (slSlp 3 x119 (some x11_2) none none H) fun x121 => 
  bR (noPan (f281 D n [x108] H)) fun x109 H => chk (ld1p x110 H) x111 <| chk (slSlp 3 x111 none (some x10_2) (some x10_2) H) x114 <| chk (ld1p x118 H) x119 <| chk (slSlp 3 x119 (some x11_2) none none H) x121 <| 
  bR (noPan (f323 D n [x0_4, x90] H)) fun x117 H => chk (ld1p x110 H) x111 <| chk (slSlp 3 x111 none (some x10_2) (some x10_2) H) x114 <| chk (ld1p x118 H) x119 <| chk (slSlp 3 x119 (some x11_2) none none H) x121 <| 
  bA (bldLp 174 1 3 [.nilSlice] [(0, x114), (1, x117), (2, x121)]) H fun x122 H => 
  bR (noPan (f322 D n [x122] H)) fun x123 H => 
  bV (bldSp [(0, 1), (1, 1), (2, 1), (3, 1)] [(.bool false), .nilSlice, .nilSlice, .nilSlice] [(1, x109), (3, x123)]) fun x124 => 
  bR (stNp 4 x8_4 x124 H) fun x9999_7 H => 
  bV (ldNp 4 x8_4 H) fun x9008_4 => bV (some (.int .i64 (.ofNat 0))) fun x9_4 => some (.ret (.tuple [x9008_4, x9_4]), H))
/-- (*jetty/tree.change).place -/
def f263 (D : Dyn) (n : Nat) (vs : List AV) (H : AH) : Option (AV × AH) :=
  outR (hd vs fun x0 vs => hd vs fun x1 vs => hd vs fun x2 vs => hd vs fun x3 vs => nl vs <|
  bA (bxV 269 x1) H fun x5 H => 
  bA (bxV 269 x3) H fun x7 H => 
  bA (bxV 269 (.agg [(.bool false), .nilSlice, .nilSlice, .nilSlice])) H fun x8 H => 
  bV (bInt .add x2 (.int .i64 (.ofNat 1))) fun x20 => 
  bV (ldNp 4 x7 H) fun x21 => 
  bR (noPan (f319 D n [x21] H)) fun x22 H => 
  bV (bInt .lss x22 (.int .i64 (.ofNat 160))) fun x23 => 
  jn (cnd x23 (bV (bInt .sub x2 (.int .i64 (.ofNat 1))) fun x25 => 
  bV (bInt .eql x2 (.int .i64 (.ofNat 0))) fun x27 => 
  jn (cnd x27 (some (.norm [x0, x2, x5, x7, x8, (.int .i64 (.ofNat 1))], H))
  (some (.norm [x0, x2, x5, x7, x8, x25], H))) (f263j1 D n))
  (some (.norm [x0, x5, x7, x8, x2, x20], H))) (f263j2 D n))
def h263 : Hint := (.s .o (.s .o (.s (.s .o (.c [0, 5, 7, 8, 10, 11] (.s .o (.s (.s .o (.c [0, 2, 5, 7, 8, 12] .o .o)) (.s .o (.s (.s .o (.cl (.s .o .o) .o)) (.s .o (.s .o (.s (.s .o (.c [0, 5, 7, 8, 10, 11, 14] .o .o)) (.s .o (.cl (.s .o .o) .o))))))))) .o)) (.s .o (.s (.s .o (.cl (.s .o .o) .o)) (.s .o .o))))))
theorem f263_eq (D : Dyn) (n : Nat) : f263 D n = funKp (s263 D n) D n 263 Tryz.f263 h263 := by kernel_rfl
theorem f263_ok {D : Dyn} (hD : DP D) (n : Nat) : FP 263 (f263 D n) := fun_okP X_ok hD (SP.cons (f319_ok hD n) (SP.cons (f206_ok hD n) (SP.cons (f264_ok hD n) (SP.cons (f320_ok hD n) (SP.cons (f321_ok hD n) (SP.cons (f281_ok hD n) (SP.cons (f323_ok hD n) (SP.cons (f322_ok hD n) (SP.nil))))))))) Tryz.func263 (by kernel_rfl) (by kernel_rfl) (f263_eq D n)

def s262 (D : Dyn) (n : Nat) : Tb := ⟨X, [(205, f205 D n), (206, f206 D n), (208, f208 D n), (263, f263 D n), (264, f264 D n)]⟩
def f262j0 (D : Dyn) (n : Nat) (vs : List AV) (H : AH) : Rs :=
  hd vs fun x6_2 vs => hd vs fun x7_2 vs => hd vs fun x8_2 vs => hd vs fun x10_2 vs => hd vs fun x11 vs => 
  some (.norm [x6_2, x7_2, x8_2, x10_2, x11], H)
def f262j1 (D : Dyn) (n : Nat) (vs : List AV) (H : AH) : Rs :=
  hd vs fun x6_3 vs => hd vs fun x7_3 vs => hd vs fun x8_3 vs => hd vs fun x10_3 vs => hd vs fun x11_2 vs => 
  bV (bInt .neq x11_2 (.int .i64 (.ofNat 0))) fun x63 => 
  cnd x63 (bV (bldSp [(0, 1), (1, 1), (2, 1), (3, 1)] [(.bool false), .nilSlice, .nilSlice, .nilSlice] []) fun x64 => 
  bR (stNp 4 x8_3 x64 H) fun x9999_8 H => 
  bV (ldNp 4 x8_3 H) fun x9008_3 => bV (some x11_2) fun x9_3 => some (.ret (.tuple [x9008_3, x9_3]), H))
  (bV (ld1p x6_3 H) fun x66 => 
  bV (ldNp 3 x7_3 H) fun x67 => 
  bR (noPan (f264 D n [x66, x67] H)) fun x68 H => 
  bV (ldNp 4 x10_3 H) fun x69 => 
  bR (stNp 4 x8_3 x69 H) fun x9999_9 H => 
  bV (ldNp 4 x8_3 H) fun x9008_4 => bV (some (.int .i64 (.ofNat 0))) fun x9_4 => some (.ret (.tuple [x9008_4, x9_4]), H))
/-- (*jetty/tree.Tree).change$1 -/
def f262 (D : Dyn) (n : Nat) (vs : List AV) (H : AH) : Option (AV × AH) :=
  outR (hd vs fun x0 vs => hd vs fun x1 vs => hd vs fun x2 vs => hd vs fun x3 vs => hd vs fun x4 vs => hd vs fun x5 vs => hd vs fun x6 vs => nl vs <|
  bA (bxV 119 x0) H fun x7 H => 
  bA (bxV 269 (.agg [(.bool false), .nilSlice, .nilSlice, .nilSlice])) H fun x8 H => 
  bV (ld1p x1 H) fun x14 => 
  bV (bInt .add x14 (.int .i64 (.ofNat 1))) fun x15 => 
  bR (stNp 1 x1 x15 H) fun x9999 H => 
  bV (ld1p x1 H) fun x16 => 
  bV (ld1p x2 H) fun x17 => 
  bR (noPan (f205 D n [x17] H)) fun x18 H => chk (ld1p x1 H) x16 <| 
  bV (bInt .gtr x16 x18) fun x19 => 
  cnd x19 (bV (bldSp [(0, 1), (1, 1), (2, 1), (3, 1)] [(.bool false), .nilSlice, .nilSlice, .nilSlice] []) fun x20 => 
  bR (stNp 4 x8 x20 H) fun x9999_2 H => 
  bV (ldNp 4 x8 H) fun x9008 => bV (some (.int .i64 (.ofNat 4))) fun x9 => some (.ret (.tuple [x9008, x9]), H))
  (bV (ld1p x2 H) fun x22 => 
  bV (ldNp 3 x7 H) fun x23 => 
  bR (noPan (f206 D n [x22, x23] H)) fun x24 H => 
  bV (pExtract x24 0) fun x25 => 
  bV (pExtract x24 1) fun x26 => 
  bA (bxV 269 (.agg [(.bool false), .nilSlice, .nilSlice, .nilSlice])) H fun x10 H => 
  bR (stNp 4 x10 x25 H) fun x9999_3 H => 
  bV (bInt .neq x26 (.int .i64 (.ofNat 0))) fun x28 => 
  cnd x28 (bV (bldSp [(0, 1), (1, 1), (2, 1), (3, 1)] [(.bool false), .nilSlice, .nilSlice, .nilSlice] []) fun x29 => 
  bR (stNp 4 x8 x29 H) fun x9999_4 H => 
  bV (ldNp 4 x8 H) fun x9008_2 => bV (some x26) fun x9_2 => some (.ret (.tuple [x9008_2, x9_2]), H))
  (bV (fAd 0 x10) fun x31 => 
  bV (ld1p x31 H) fun x32 => 
  jn (cnd x32 (bV (ld1p x3 H) fun x34 => 
  bV (ldNp 4 x10 H) fun x35 => 
  bR (noPan (callV (s262 D n).S D x34 [x35] H)) fun x36 H => 
  bV (pExtract x36 0) fun x37 => 
  bV (pExtract x36 1) fun x38 => 
  bR (stNp 4 x10 x37 H) fun x9999_5 H => 
  some (.norm [x6, x7, x8, x10, x38], H))
  (bV (ldNp 4 x10 H) fun x39 => 
  bV (ld1p x4 H) fun x40 => 
  bR (noPan (f208 D n [x39, x40] H)) fun x41 H => 
  bA (bxV 269 (.agg [(.bool false), .nilSlice, .nilSlice, .nilSlice])) H fun x13 H => 
  bV (ld1p x5 H) fun x43 => 
  bV (fAd 3 x10) fun x44 => 
  bV (ld1p x44 H) fun x45 => 
  bV (ixSl 3 x45 x41) fun x47 => 
  bV (ldNp 3 x47 H) fun x48 => 
  bR (noPan (callV (s262 D n).S D x43 [x48] H)) fun x49 H => 
  bV (pExtract x49 0) fun x50 => 
  bV (pExtract x49 1) fun x51 => 
  bR (stNp 4 x13 x50 H) fun x9999_6 H => 
  bV (bInt .eql x51 (.int .i64 (.ofNat 0))) fun x53 => 
  jn (cnd x53 (bV (ld1p x6 H) fun x55 => 
  bV (ldNp 4 x10 H) fun x56 => 
  bV (ldNp 4 x13 H) fun x58 => 
  bR (noPan (f263 D n [x55, x56, x41, x58] H)) fun x59 H => 
  bV (pExtract x59 0) fun x60 => 
  bV (pExtract x59 1) fun x61 => 
  bR (stNp 4 x10 x60 H) fun x9999_7 H => 
  some (.norm [x6, x7, x8, x10, x61], H))
  (some (.norm [x6, x7, x8, x10, x51], H))) (f262j0 D n))) (f262j1 D n))))
def h262 : Hint := (.s .o (.s (.s .o (.s .o (.cl (.s .o .o) .o))) (.s .o (.s (.s .o (.cl (.s .o .o) .o)) (.s (.s .o (.c [6, 7, 8, 10, 11] .o (.s .o (.s .o (.s .o (.s .o (.c [6, 7, 8, 10, 11] .o .o))))))) (.s (.s .o (.cl (.s .o .o) .o)) (.s .o (.s .o .o))))))))
theorem f262_eq (D : Dyn) (n : Nat) : f262 D n = funKp (s262 D n) D n 262 Tryz.f262 h262 := by kernel_rfl
theorem f262_ok {D : Dyn} (hD : DP D) (n : Nat) : FP 262 (f262 D n) := fun_okP X_ok hD (SP.cons (f205_ok hD n) (SP.cons (f206_ok hD n) (SP.cons (f208_ok hD n) (SP.cons (f263_ok hD n) (SP.cons (f264_ok hD n) (SP.nil)))))) Tryz.func262 (by kernel_rfl) (by kernel_rfl) (f262_eq D n)

def s187 (D : Dyn) (n : Nat) : Tb := ⟨X, [(261, f261 D n), (260, f260 D n), (265, f265 D n)]⟩
/-- (*jetty/tree.Tree).change -/
def f187 (D : Dyn) (n : Nat) (vs : List AV) (H : AH) : Option (AV × AH) :=
  outR (hd vs fun x0 vs => hd vs fun x1 vs => hd vs fun x2 vs => nl vs <|
  bA (bxV 46 x0) H fun x3 H => 
  bA (bxV 9 x1) H fun x4 H => 
  bA (bxV 284 x2) H fun x5 H => 
  bV (ld1p x3 H) fun x14 => 
  bV (ld1p x3 H) fun x15 => 
  bV (pNil x15) fun x16 => 
  bV (fAd 6 x16) fun x17 => 
  bV (ld1p x17 H) fun x18 => 
  bA (mkM [10]) H fun x19 H => 
  bV (bldSp [(0, 1), (1, 1), (2, 1), (3, 1)] [.nilPtr, (.int .u64 (.ofNat 0)), .nilMap, .nilSlice] [(0, x14), (1, x18), (2, x19)]) fun x20 => 
  bA (bxV 364 x20) H fun x21 H => 
  bA (bxV 362 .nilPtr) H fun x7 H => 
  bR (stNp 1 x7 x21 H) fun x9999 H => 
  bV (ld1p x3 H) fun x22 => 
  bV (pNil x22) fun x23 => 
  bV (fAd 2 x23) fun x24 => 
  bV (fAd 0 x24) fun x25 => 
  bV (ld1p x25 H) fun x26 => 
  bV (bInt .eql x26 (.int .i64 (.ofNat 0))) fun x27 => 
  cnd x27 (bV (ld1p x5 H) fun x29 => 
  bV (bldSp [(0, 1), (1, 1), (2, 1), (3, 1)] [(.bool false), .nilSlice, .nilSlice, .nilSlice] [(0, (.bool true))]) fun x30 => 
  bR (noPan (callV (s187 D n).S D x29 [x30] H)) fun x31 H => 
  bV (pExtract x31 0) fun x32 => 
  bV (pExtract x31 1) fun x33 => 
  bA (bxV 269 (.agg [(.bool false), .nilSlice, .nilSlice, .nilSlice])) H fun x8 H => 
  bR (stNp 4 x8 x32 H) fun x9999_2 H => 
  bV (bInt .neq x33 (.int .i64 (.ofNat 0))) fun x35 => 
  cnd x35 (bV (some x33) fun x6 => some (.ret x6, H))
  (bV (ld1p x7 H) fun x37 => 
  bV (ld1p x7 H) fun x38 => 
  bV (ldNp 4 x8 H) fun x39 => 
  bR (noPan (f261 D n [x38, x39] H)) fun x40 H => chk (ld1p x7 H) x37 <| 
  bR (noPan (f260 D n [x37, x40] H)) fun x41 H => 
  bV (some (.int .i64 (.ofNat 0))) fun x6_2 => some (.ret x6_2, H)))
  (bA (bxV 3 (.int .i64 (.ofNat 0))) H fun x10 H => 
  bR (stNp 1 x10 (.int .i64 (.ofNat 0)) H) fun x9999_3 H => 
  bA (bxV 300 .nilFunc) H fun x11 H => 
  bR (stNp 1 x11 (.func 262 [] [x10, x3, x5, x4, x11, x7]) H) fun x9999_4 H => 
  bV (ld1p x11 H) fun x44 => 
  bV (ld1p x3 H) fun x45 => 
  bV (pNil x45) fun x46 => 
  bV (fAd 2 x46) fun x47 => 
  bV (ldNp 3 x47 H) fun x48 => 
  bA (bxV 269 (.agg [(.bool false), .nilSlice, .nilSlice, .nilSlice])) H fun x12 H => 
  bR (noPan (callV (s187 D n).S D x44 [x48] H)) fun x49 H => 
  bV (pExtract x49 0) fun x50 => 
  bV (pExtract x49 1) fun x51 => 
  bR (stNp 4 x12 x50 H) fun x9999_5 H => 
  bV (bInt .neq x51 (.int .i64 (.ofNat 0))) fun x53 => 
  cnd x53 (bV (some x51) fun x6_3 => some (.ret x6_3, H))
  (bV (ld1p x7 H) fun x55 => 
  bV (ldNp 4 x12 H) fun x56 => 
  bR (noPan (f265 D n [x55, x56] H)) fun x57 H => 
  bV (some x57) fun x6_4 => some (.ret x6_4, H))))
def h187 : Hint := (.s .o (.s .o (.s (.s .o (.cl (.s .o (.s (.s .o (.cl (.s .o .o) .o)) (.s .o (.s .o .o)))) .o)) (.s .o (.s .o (.s .o (.s .o (.s (.s .o (.cl (.s .o .o) .o)) (.s .o .o)))))))))
theorem f187_eq (D : Dyn) (n : Nat) : f187 D n = funKp (s187 D n) D n 187 Tryz.f187 h187 := by kernel_rfl
theorem f187_ok {D : Dyn} (hD : DP D) (n : Nat) : FP 187 (f187 D n) := fun_okP X_ok hD (SP.cons (f261_ok hD n) (SP.cons (f260_ok hD n) (SP.cons (f265_ok hD n) (SP.nil)))) Tryz.func187 (by kernel_rfl) (by kernel_rfl) (f187_eq D n)

def s385 (D : Dyn) (n : Nat) : Tb := ⟨X, []⟩
def f385l0 (D : Dyn) (n : Nat) (vs : List AV) (H : AH) : Rs :=
  hd vs fun x0_2 vs => hd vs fun x2 vs => hd vs fun x3 vs => 
  bV (bInt .lss x2 x3) fun x9 => 
  cnd x9 (bV (ixSl 1 x0_2 x3) fun x20 => 
  bV (ld1p x20 H) fun x21 => 
  bV (ixSl 1 x0_2 x2) fun x24 => 
  bV (ld1p x24 H) fun x25 => 
  bV (ixSl 1 x0_2 x2) fun x26 => 
  bR (stNp 1 x26 x21 H) fun x9999 H => 
  bV (ixSl 1 x0_2 x3) fun x27 => 
  bR (stNp 1 x27 x25 H) fun x9999_2 H => 
  bV (bInt .add x2 (.int .i64 (.ofNat 1))) fun x11 => 
  bV (bInt .sub x3 (.int .i64 (.ofNat 1))) fun x13 => 
  some (.norm [x0_2, x11, x13], H))
  (some (.exit 0 [], H))
def f385b1 (D : Dyn) (n : Nat) (vs : List AV) (H : AH) : Rs :=
  
  some (.ret (.tuple []), H)
/-- slices.Reverse[[]string,string] -/
def f385 (D : Dyn) (n : Nat) (vs : List AV) (H : AH) : Option (AV × AH) :=
  outR (hd vs fun x0 vs => nl vs <|
  bV (lnSl x0) fun x5 => 
  bV (bInt .sub x5 (.int .i64 (.ofNat 1))) fun x6 => 
  jb 0 (loopK n (f385l0 D n) [x0, (.int .i64 (.ofNat 0)), x6] H) (f385b1 D n))
def h385 : Hint := (.s .o (.b [] (.l [0, 2, 3] (.s (.s .o (.cr .o .o)) (.s (.b0 .o) .o)))))
theorem f385_eq (D : Dyn) (n : Nat) : f385 D n = funKp (s385 D n) D n 385 Tryz.f385 h385 := by kernel_rfl
theorem f385_ok {D : Dyn} (hD : DP D) (n : Nat) : FP 385 (f385 D n) := fun_okP X_ok hD (SP.nil) Tryz.func385 (by kernel_rfl) (by kernel_rfl) (f385_eq D n)

def s361 (D : Dyn) (n : Nat) : Tb := ⟨X, [(385, f385 D n)]⟩
/-- slices.rotateLeft[string] -/
def f361 (D : Dyn) (n : Nat) (vs : List AV) (H : AH) : Option (AV × AH) :=
  outR (hd vs fun x0 vs => hd vs fun x1 vs => nl vs <|
  bV (slSlp 1 x0 none (some x1) none H) fun x6 => 
  bR (noPan (f385 D n [x6] H)) fun x7 H => 
  bV (slSlp 1 x0 (some x1) none none H) fun x10 => 
  bR (noPan (f385 D n [x10] H)) fun x11 H => 
  bR (noPan (f385 D n [x0] H)) fun x13 H => 
  some (.ret (.tuple []), H))
def h361 : Hint := (.s .o (.s .o .o))
theorem f361_eq (D : Dyn) (n : Nat) : f361 D n = funKp (s361 D n) D n 361 Tryz.f361 h361 := by kernel_rfl
theorem f361_ok {D : Dyn} (hD : DP D) (n : Nat) : FP 361 (f361 D n) := fun_okP X_ok hD (SP.cons (f385_ok hD n) (SP.nil)) Tryz.func361 (by kernel_rfl) (by kernel_rfl) (f361_eq D n)

def s325 (D : Dyn) (n : Nat) : Tb := ⟨X, [(361, f361 D n)]⟩
/-- slices.rotateRight[string] -/
def f325 (D : Dyn) (n : Nat) (vs : List AV) (H : AH) : Option (AV × AH) :=
  outR (hd vs fun x0 vs => hd vs fun x1 vs => nl vs <|
  bV (lnSl x0) fun x6 => 
  bV (bInt .sub x6 x1) fun x8 => 
  bR (noPan (f361 D n [x0, x8] H)) fun x9 H => 
  some (.ret (.tuple []), H))
def h325 : Hint := .o
theorem f325_eq (D : Dyn) (n : Nat) : f325 D n = funKp (s325 D n) D n 325 Tryz.f325 h325 := by kernel_rfl
theorem f325_ok {D : Dyn} (hD : DP D) (n : Nat) : FP 325 (f325 D n) := fun_okP X_ok hD (SP.cons (f361_ok hD n) (SP.nil)) Tryz.func325 (by kernel_rfl) (by kernel_rfl) (f325_eq D n)

def s269 (D : Dyn) (n : Nat) : Tb := ⟨X, [(325, f325 D n)]⟩
/-- slices.Insert[[]string,string] -/
def f269 (D : Dyn) (n : Nat) (vs : List AV) (H : AH) : Option (AV × AH) :=
  outR (hd vs fun x0 vs => hd vs fun x1 vs => hd vs fun x2 vs => nl vs <|
  bV (slSlp 1 x0 (some x1) none none H) fun x12 => 
  bV (lnSl x2) fun x14 => 
  bV (bInt .eql x14 (.int .i64 (.ofNat 0))) fun x16 => 
  cnd x16 (bV (some x0) fun x6 => some (.ret x6, H))
  (bV (lnSl x0) fun x19 => 
  bV (bInt .eql x1 x19) fun x22 => 
  cnd x22 (bR (apPp 9 1 16 x0 x2 H) fun x25 H => 
  bV (some x25) fun x6_2 => some (.ret x6_2, H))
  (bV (bInt .add x19 x14) fun x28 => 
  bV (acap X 229 x0) fun x30 => 
  bV (bInt .gtr x28 x30) fun x31 => 
  cnd x31 (bV (slSlp 1 x0 none (some x1) none H) fun x34 => 
  bV (bInt .add x19 x14) fun x37 => 
  bV (bInt .sub x37 x1) fun x39 => 
  bR (apZp 9 1 16 [(.str 0 0)] x34 x39 H) fun x40 H => 
  bV (slSlp 1 x40 (some x1) none none H) fun x43 => 
  bR (cpyp 1 x43 x2 H) fun x45 H => 
  bV (bInt .add x1 x14) fun x49 => 
  bV (slSlp 1 x40 (some x49) none none H) fun x50 => 
  bV (slSlp 1 x0 (some x1) none none H) fun x53 => 
  bR (cpyp 1 x50 x53 H) fun x54 H => 
  bV (some x40) fun x6_3 => some (.ret x6_3, H))
  (bV (bInt .add x19 x14) fun x59 => 
  bV (slSlp 1 x0 none (some x59) none H) fun x60 => 
  bV (bInt .add x1 x14) fun x65 => 
  bV (slSlp 1 x60 (some x65) none none H) fun x66 => 
  bR (noPan (D.fn 324 [x2, x66] H)) fun x67 H => 
  bV (aun .not x67) fun x68 => 
  cnd x68 (bV (bInt .add x1 x14) fun x72 => 
  bV (slSlp 1 x60 (some x72) none none H) fun x73 => 
  bV (slSlp 1 x60 (some x1) none none H) fun x76 => 
  bR (cpyp 1 x73 x76 H) fun x77 H => 
  bV (slSlp 1 x60 (some x1) none none H) fun x80 => 
  bR (cpyp 1 x80 x2 H) fun x82 H => 
  bV (some x60) fun x6_4 => some (.ret x6_4, H))
  (bV (slSlp 1 x60 (some x19) none none H) fun x86 => 
  bR (cpyp 1 x86 x2 H) fun x88 H => 
  bV (slSlp 1 x60 (some x1) none none H) fun x91 => 
  bR (noPan (f325 D n [x91, x14] H)) fun x93 H => 
  bV (some x60) fun x6_5 => some (.ret x6_5, H))))))
def h269 : Hint := (.s .o (.s .o (.s .o (.s (.s .o (.cl (.s .o .o) .o)) (.s .o (.s (.s .o (.cl (.s .o .o) .o)) (.s (.s .o (.cl (.s .o (.s .o (.s .o (.s .o .o)))) .o)) (.s .o (.s (.s .o (.cl (.s .o (.s .o (.s .o .o))) .o)) (.s .o (.s .o (.s .o .o))))))))))))
theorem f269_eq (D : Dyn) (n : Nat) : f269 D n = funKp (s269 D n) D n 269 Tryz.f269 h269 := by kernel_rfl
theorem f269_ok {D : Dyn} (hD : DP D) (n : Nat) : FP 269 (f269 D n) := fun_okP X_ok hD (SP.cons (f325_ok hD n) (SP.nil)) Tryz.func269 (by kernel_rfl) (by kernel_rfl) (f269_eq D n)
def m269 (D : Dyn) (n : Nat) (vs : List AV) (H : AH) : Option (AV × AH) := insKp (f269 D n) vs H
theorem m269_ok {D : Dyn} (hD : DP D) (n : Nat) : FP 269 (m269 D n) := insKp_ok (by kernel_rfl) (f269_ok hD n)

def s189 (D : Dyn) (n : Nat) : Tb := ⟨X, [(266, f266 D n), (267, f267 D n), (268, f268 D n), (208, f208 D n), (269, m269 D n)]⟩
/-- jetty/node.Put -/
def f189 (D : Dyn) (n : Nat) (vs : List AV) (H : AH) : Option (AV × AH) :=
  outR (hd vs fun x0 vs => hd vs fun x1 vs => hd vs fun x2 vs => nl vs <|
  bA (bxV 269 x0) H fun x3 H => 
  bA (bxV 269 (.agg [(.bool false), .nilSlice, .nilSlice, .nilSlice])) H fun x6 H => 
  bV (ldNp 4 x3 H) fun x10 => 
  bR (noPan (f266 D n [x10] H)) fun x11 H => 
  bV (aun .not x11) fun x12 => 
  jn (wnt x12 false (bV (fAd 0 x3) fun x14 => 
  bV (ld1p x14 H) fun x15 => 
  bV (aun .not x15) fun x16 => 
  some (.norm [x16], H)) (some (.norm [undefA], H))) fun vs H => hd vs fun x16_2 vs => 
  bV (pk3 (some x12) (some (.bool true)) (some x16_2)) fun x17 => 
  jn (wnt x17 false (bR (noPan (f267 D n [x1] H)) fun x20 H => 
  bV (aun .not x20) fun x21 => 
  some (.norm [x21], H)) (some (.norm [undefA], H))) fun vs H => hd vs fun x21_2 vs => 
  bV (pk3 (some x17) (some (.bool true)) (some x21_2)) fun x22 => 
  jn (wnt x22 false (bV (lnStr x2) fun x25 => 
  bV (bInt .gtr x25 (.int .i64 (.ofNat 200))) fun x26 => 
  some (.norm [x26], H)) (some (.norm [undefA], H))) fun vs H => hd vs fun x26_2 vs => 
  bV (pk3 (some x22) (some (.bool true)) (some x26_2)) fun x27 => 
  cnd x27 (bV (bldSp [(0, 1), (1, 1), (2, 1), (3, 1)] [(.bool false), .nilSlice, .nilSlice, .nilSlice] []) fun x28 => 
  bR (stNp 4 x6 x28 H) fun x9999 H => 
  bV (ldNp 4 x6 H) fun x9006 => bV (some (.int .i64 (.ofNat 1))) fun x7 => some (.ret (.tuple [x9006, x7]), H))
  (bV (fAd 1 x3) fun x29 => 
  bV (ld1p x29 H) fun x30 => 
  bV (fAd 2 x3) fun x32 => 
  bV (ld1p x32 H) fun x33 => 
  bA (bxV 269 (.agg [(.bool false), .nilSlice, .nilSlice, .nilSlice])) H fun x8 H => 
  bR (noPan (f268 D n [x30] H)) fun x31 H => chk (ld1p x32 H) x33 <| 
  bR (noPan (f268 D n [x33] H)) fun x34 H => 
  bV (bldSp [(0, 1), (1, 1), (2, 1), (3, 1)] [(.bool false), .nilSlice, .nilSlice, .nilSlice] [(0, (.bool true)), (1, x31), (2, x34)]) fun x35 => 
  bR (stNp 4 x8 x35 H) fun x9999_2 H => 
  bV (ldNp 4 x3 H) fun x36 => 
  bR (noPan (f208 D n [x36, x1] H)) fun x38 H => 
  bV (fAd 1 x3) fun x40 => 
  bV (ld1p x40 H) fun x41 => 
  bV (lnSl x41) fun x42 => 
  bV (bInt .lss x38 x42) fun x43 => 
  jn (wnt x43 true (bV (fAd 1 x3) fun x45 => 
  bV (ld1p x45 H) fun x46 => 
  bV (ixSl 1 x46 x38) fun x48 => 
  bV (ld1p x48 H) fun x49 => 
  bV (bStr .eql x49 x1) fun x51 => 
  some (.norm [x51], H)) (some (.norm [undefA], H))) fun vs H => hd vs fun x51_2 vs => 
  bV (pk3 (some x43) (some x51_2) (some (.bool false))) fun x52 => 
  cnd x52 (bV (fAd 2 x8) fun x53 => 
  bV (ld1p x53 H) fun x54 => 
  bV (ixSl 1 x54 x38) fun x57 => 
  bR (stNp 1 x57 x2 H) fun x9999_3 H => 
  bV (ldNp 4 x8 H) fun x58 => 
  bR (stNp 4 x6 x58 H) fun x9999_4 H => 
  bV (ldNp 4 x6 H) fun x9006_2 => bV (some (.int .i64 (.ofNat 0))) fun x7_2 => some (.ret (.tuple [x9006_2, x7_2]), H))
  (bV (fAd 1 x8) fun x59 => 
  bV (ld1p x59 H) fun x60 => 
  bA (bldLp 9 1 1 [(.str 0 0)] [(0, x1)]) H fun x63 H => 
  bR (noPan (m269 D n [x60, x38, x63] H)) fun x64 H => 
  bV (fAd 1 x8) fun x65 => 
  bR (stNp 1 x65 x64 H) fun x9999_5 H => 
  bV (fAd 2 x8) fun x66 => 
  bV (ld1p x66 H) fun x67 => 
  bA (bldLp 9 1 1 [(.str 0 0)] [(0, x2)]) H fun x70 H => 
  bR (noPan (m269 D n [x67, x38, x70] H)) fun x71 H => 
  bV (fAd 2 x8) fun x72 => 
  bR (stNp 1 x72 x71 H) fun x9999_6 H => 
  bV (ldNp 4 x8 H) fun x73 => 
  bR (stNp 4 x6 x73 H) fun x9999_7 H => 
  bV (ldNp 4 x6 H) fun x9006_3 => bV (some (.int .i64 (.ofNat 0))) fun x7_3 => some (.ret (.tuple [x9006_3, x7_3]), H))))
def h189 : Hint := (.s .o (.s (.s .o (.cl (.s .o .o) .o)) (.s .o (.s .o (.s (.s .o (.cl (.s .o (.s .o .o)) .o)) (.s .o (.s .o (.s .o .o))))))))
theorem f189_eq (D : Dyn) (n : Nat) : f189 D n = funKp (s189 D n) D n 189 Tryz.f189 h189 := by kernel_rfl
theorem f189_ok {D : Dyn} (hD : DP D) (n : Nat) : FP 189 (f189 D n) := fun_okP X_ok hD (SP.cons (f266_ok hD n) (SP.cons (f267_ok hD n) (SP.cons (f268_ok hD n) (SP.cons (f208_ok hD n) (SP.cons (m269_ok hD n) (SP.nil)))))) Tryz.func189 (by kernel_rfl) (by kernel_rfl) (f189_eq D n)

def s188 (D : Dyn) (n : Nat) : Tb := ⟨X, [(189, f189 D n)]⟩
/-- (*jetty/tree.Tree).Put$1 -/
def f188 (D : Dyn) (n : Nat) (vs : List AV) (H : AH) : Option (AV × AH) :=
  outR (hd vs fun x0 vs => hd vs fun x1 vs => hd vs fun x2 vs => nl vs <|
  bA (bxV 269 x0) H fun x3 H => 
  bA (bxV 269 (.agg [(.bool false), .nilSlice, .nilSlice, .nilSlice])) H fun x4 H => 
  bV (ldNp 4 x3 H) fun x6 => 
  bV (ld1p x1 H) fun x7 => 
  bV (ld1p x2 H) fun x8 => 
  bR (noPan (f189 D n [x6, x7, x8] H)) fun x9 H => 
  bV (pExtract x9 0) fun x10 => 
  bV (pExtract x9 1) fun x11 => 
  bR (stNp 4 x4 x10 H) fun x9999 H => 
  bV (ldNp 4 x4 H) fun x9004 => bV (some x11) fun x5 => some (.ret (.tuple [x9004, x5]), H))
def h188 : Hint := (.s .o (.s .o .o))
theorem f188_eq (D : Dyn) (n : Nat) : f188 D n = funKp (s188 D n) D n 188 Tryz.f188 h188 := by kernel_rfl
theorem f188_ok {D : Dyn} (hD : DP D) (n : Nat) : FP 188 (f188 D n) := fun_okP X_ok hD (SP.cons (f189_ok hD n) (SP.nil)) Tryz.func188 (by kernel_rfl) (by kernel_rfl) (f188_eq D n)

def s117 (D : Dyn) (n : Nat) : Tb := ⟨X, [(186, f186 D n), (187, f187 D n)]⟩
/-- (*jetty/tree.Tree).Put -/
def f117 (D : Dyn) (n : Nat) (vs : List AV) (H : AH) : Option (AV × AH) :=
  outR (hd vs fun x0 vs => hd vs fun x1 vs => hd vs fun x2 vs => nl vs <|
  bA (bxV 9 x1) H fun x4 H => 
  bA (bxV 9 x2) H fun x5 H => 
  bR (noPan (f186 D n [x0] H)) fun x8 H => 
  cnd x8 (bV (some (.int .i64 (.ofNat 2))) fun x6 => some (.ret x6, H))
  (bV (ld1p x4 H) fun x9 => 
  bV (lnStr x9) fun x10 => 
  bV (bInt .lss x10 (.int .i64 (.ofNat 1))) fun x11 => 
  jn (wnt x11 false (bV (ld1p x4 H) fun x13 => 
  bV (lnStr x13) fun x14 => 
  bV (bInt .gtr x14 (.int .i64 (.ofNat 40))) fun x15 => 
  some (.norm [x15], H)) (some (.norm [undefA], H))) fun vs H => hd vs fun x15_2 vs => 
  bV (pk3 (some x11) (some (.bool true)) (some x15_2)) fun x16 => 
  jn (wnt x16 false (bV (ld1p x5 H) fun x18 => 
  bV (lnStr x18) fun x19 => 
  bV (bInt .gtr x19 (.int .i64 (.ofNat 200))) fun x20 => 
  some (.norm [x20], H)) (some (.norm [undefA], H))) fun vs H => hd vs fun x20_2 vs => 
  bV (pk3 (some x16) (some (.bool true)) (some x20_2)) fun x21 => 
  cnd x21 (bV (some (.int .i64 (.ofNat 1))) fun x6_2 => some (.ret x6_2, H))
  (bV (ld1p x4 H) fun x23 => 
  bR (noPan (f187 D n [x0, x23, (.func 188 [] [x4, x5])] H)) fun x25 H => 
  bV (some x25) fun x6_3 => some (.ret x6_3, H))))
def h117 : Hint := (.s .o (.s (.s .o (.cl (.s .o .o) .o)) (.s (.s .o (.cl (.s .o .o) .o)) (.s .o .o))))
theorem f117_eq (D : Dyn) (n : Nat) : f117 D n = funKp (s117 D n) D n 117 Tryz.f117 h117 := by kernel_rfl
theorem f117_ok {D : Dyn} (hD : DP D) (n : Nat) : FP 117 (f117 D n) := fun_okP X_ok hD (SP.cons (f186_ok hD n) (SP.cons (f187_ok hD n) (SP.nil))) Tryz.func117 (by kernel_rfl) (by kernel_rfl) (f117_eq D n)

def s56 (D : Dyn) (n : Nat) : Tb := ⟨X, [(117, f117 D n), (54, f54 D n)]⟩
/-- (jetty/objs.work).put -/
def f56 (D : Dyn) (n : Nat) (vs : List AV) (H : AH) : Option (AV × AH) :=
  outR (hd vs fun x0 vs => hd vs fun x1 vs => hd vs fun x2 vs => nl vs <|
  bA (bxV 73 x0) H fun x3 H => 
  bV (fAd 0 x3) fun x6 => 
  bV (ld1p x6 H) fun x7 => 
  bC (f117 D n [x7, x1, x2] H) (fun x H => some (.ret (.pan x), H)) fun x10 H => 
  bC (f54 D n [x10] H) (fun x H => some (.ret (.pan x), H)) fun x11 H => 
  some (.ret (.tuple []), H))
def h56 : Hint := (.s .o .pc)
theorem f56_eq (D : Dyn) (n : Nat) : f56 D n = funKp (s56 D n) D n 56 Tryz.f56 h56 := by kernel_rfl
theorem f56_ok {D : Dyn} (hD : DP D) (n : Nat) : FP 56 (f56 D n) := fun_okP X_ok hD (SP.cons (f117_ok hD n) (SP.cons (f54_ok hD n) (SP.nil))) Tryz.func56 (by kernel_rfl) (by kernel_rfl) (f56_eq D n)

def s44 (D : Dyn) (n : Nat) : Tb := ⟨X, [(113, f113 D n), (54, f54 D n), (56, f56 D n)]⟩
/-- (jetty/objs.work).count -/
def f44 (D : Dyn) (n : Nat) (vs : List AV) (H : AH) : Option (AV × AH) :=
  outR (hd vs fun x0 vs => hd vs fun x1 vs => nl vs <|
  bA (bxV 73 x0) H fun x2 H => 
  bA (bxV 31 x1) H fun x3 H => 
  bV (ldNp 2 x3 H) fun x7 => 
  bR (noPan (f113 D n [x7] H)) fun x8 H => 
  bV (pExtract x8 0) fun x9 => 
  bV (pExtract x8 1) fun x10 => 
  bC (f54 D n [x10] H) (fun x H => some (.ret (.pan x), H)) fun x12 H => 
  bV (ldNp 2 x2 H) fun x13 => 
  bC (f56 D n [x13, (.str 1 109), x9] H) (fun x H => some (.ret (.pan x), H)) fun x15 H => 
  some (.ret (.tuple []), H))
def h44 : Hint := (.s .o (.s .o (.s .pc .pc)))
theorem f44_eq (D : Dyn) (n : Nat) : f44 D n = funKp (s44 D n) D n 44 Tryz.f44 h44 := by kernel_rfl
theorem f44_ok {D : Dyn} (hD : DP D) (n : Nat) : FP 44 (f44 D n) := fun_okP X_ok hD (SP.cons (f113_ok hD n) (SP.cons (f54_ok hD n) (SP.cons (f56_ok hD n) (SP.nil)))) Tryz.func44 (by kernel_rfl) (by kernel_rfl) (f44_eq D n)

def s43 (D : Dyn) (n : Nat) : Tb := ⟨X, [(41, f41 D n), (38, f38 D n), (44, f44 D n)]⟩
def f43j0 (D : Dyn) (n : Nat) (vs : List AV) (H : AH) : Rs :=
  hd vs fun x1_2 vs => hd vs fun x3_2 vs => 
  bV (fAd 1 x3_2) fun x10 => 
  bV (ld1p x10 H) fun x11 => 
  bV (bInt .add x11 (.int .i64 (.ofNat 1))) fun x12 => 
  bV (fAd 1 x3_2) fun x13 => 
  bR (stNp 1 x13 x12 H) fun x9999_2 H => 
  bV (ldNp 2 x1_2 H) fun x14 => 
  bV (ldNp 2 x3_2 H) fun x15 => 
  bC (f44 D n [x14, x15] H) (fun x H => some (.ret (.pan x), H)) fun x16 H => 
  bV (fAd 1 x3_2) fun x17 => 
  bV (ld1p x17 H) fun x18 => 
  bV (some x18) fun x2 => some (.ret x2, H)
/-- jetty/objs.Boot$1 -/
def f43 (D : Dyn) (n : Nat) (vs : List AV) (H : AH) : Option (AV × AH) :=
  outR (hd vs fun x0 vs => nl vs <|
  bA (bxV 73 x0) H fun x1 H => 
  bV (ldNp 2 x1 H) fun x4 => 
  bC (f41 D n [x4] H) (fun x H => some (.ret (.pan x), H)) fun x5 H => 
  bA (bxV 31 (.agg [(.int .i64 (.ofNat 0)), (.int .i64 (.ofNat 0))])) H fun x3 H => 
  bR (stNp 2 x3 x5 H) fun x9999 H => 
  bV (fAd 1 x3) fun x6 => 
  bV (ld1p x6 H) fun x7 => 
  bV (bInt .geq x7 (.int .i64 (.ofNat 2147483647))) fun x8 => 
  jn (cnd x8 (bC (f38 D n [(.int .i64 (.ofNat 3))] H) (fun x H => some (.ret (.pan x), H)) fun x9 H => 
  some (.norm [x1, x3], H))
  (some (.norm [x1, x3], H))) (f43j0 D n))
def h43 : Hint := (.s .o (.s .pc (.s (.s .o (.c [1, 3] .pc .o)) (.s .o (.s .pc (.s .o .o))))))
theorem f43_eq (D : Dyn) (n : Nat) : f43 D n = funKp (s43 D n) D n 43 Tryz.f43 h43 := by kernel_rfl
theorem f43_ok {D : Dyn} (hD : DP D) (n : Nat) : FP 43 (f43 D n) := fun_okP X_ok hD (SP.cons (f41_ok hD n) (SP.cons (f38_ok hD n) (SP.cons (f44_ok hD n) (SP.nil)))) Tryz.func43 (by kernel_rfl) (by kernel_rfl) (f43_eq D n)

def s8 (D : Dyn) (n : Nat) : Tb := ⟨X, [(42, f42 D n)]⟩
/-- jetty/objs.Boot -/
def f8 (D : Dyn) (n : Nat) (vs : List AV) (H : AH) : Option (AV × AH) :=
  outR (hd vs fun x0 vs => nl vs <|
  bR (noPan (f42 D n [x0, (.int .i64 (.ofNat 0)), (.func 43 [] [])] H)) fun x5 H => 
  bV (pExtract x5 0) fun x6 => 
  bV (pExtract x5 1) fun x7 => 
  bV (some x6) fun x2 => bV (some x7) fun x3 => some (.ret (.tuple [x2, x3]), H))
def h8 : Hint := (.s .o (.s .o .o))
theorem f8_eq (D : Dyn) (n : Nat) : f8 D n = funKp (s8 D n) D n 8 Tryz.f8 h8 := by kernel_rfl
theorem f8_ok {D : Dyn} (hD : DP D) (n : Nat) : FP 8 (f8 D n) := fun_okP X_ok hD (SP.cons (f42_ok hD n) (SP.nil)) Tryz.func8 (by kernel_rfl) (by kernel_rfl) (f8_eq D n)

def s46 (D : Dyn) (n : Nat) : Tb := ⟨X, [(34, f34 D n), (38, f38 D n)]⟩
def f46j0 (D : Dyn) (n : Nat) (vs : List AV) (H : AH) : Rs :=
  hd vs fun x4_2 vs => hd vs fun x5_2 vs => 
  bV (ldNp 8 x5_2 H) fun x13 => 
  bR (stNp 8 x4_2 x13 H) fun x9999_2 H => 
  bV (ldNp 8 x4_2 H) fun x9004 => some (.ret x9004, H)
/-- (jetty/objs.work).directory -/
def f46 (D : Dyn) (n : Nat) (vs : List AV) (H : AH) : Option (AV × AH) :=
  outR (hd vs fun x0 vs => hd vs fun x1 vs => nl vs <|
  bA (bxV 73 x0) H fun x2 H => 
  bA (bxV 23 (.agg [(.int .u8 (.ofNat 0)), (.int .i64 (.ofNat 0)), (.int .i64 (.ofNat 0)), (.int .i64 (.ofNat 0)), (.int .i64 (.ofNat 0)), (.int .i64 (.ofNat 0)), (.int .i64 (.ofNat 0)), (.int .i64 (.ofNat 0))])) H fun x4 H => 
  bV (ldNp 2 x2 H) fun x6 => 
  bC (f34 D n [x6, x1] H) (fun x H => some (.ret (.pan x), H)) fun x8 H => 
  bA (bxV 23 (.agg [(.int .u8 (.ofNat 0)), (.int .i64 (.ofNat 0)), (.int .i64 (.ofNat 0)), (.int .i64 (.ofNat 0)), (.int .i64 (.ofNat 0)), (.int .i64 (.ofNat 0)), (.int .i64 (.ofNat 0)), (.int .i64 (.ofNat 0))])) H fun x5 H => 
  bR (stNp 8 x5 x8 H) fun x9999 H => 
  bV (fAd 0 x5) fun x9 => 
  bV (ld1p x9 H) fun x10 => 
  bV (bInt .neq x10 (.int .u8 (.ofNat 2))) fun x11 => 
  jn (cnd x11 (bC (f38 D n [(.int .i64 (.ofNat 55))] H) (fun x H => some (.ret (.pan x), H)) fun x12 H => 
  some (.norm [x4, x5], H))
  (some (.norm [x4, x5], H))) (f46j0 D n))
def h46 : Hint := (.s .o (.s .pc (.s (.s .o (.c [4, 5] .pc .o)) (.s .o .o))))
theorem f46_eq (D : Dyn) (n : Nat) : f46 D n = funKp (s46 D n) D n 46 Tryz.f46 h46 := by kernel_rfl
theorem f46_ok {D : Dyn} (hD : DP D) (n : Nat) : FP 46 (f46 D n) := fun_okP X_ok hD (SP.cons (f34_ok hD n) (SP.cons (f38_ok hD n) (SP.nil))) Tryz.func46 (by kernel_rfl) (by kernel_rfl) (f46_eq D n)

def s383 (D : Dyn) (n : Nat) : Tb := ⟨X, []⟩
/-- internal/stringslite.IndexByte -/
def f383 (D : Dyn) (n : Nat) (vs : List AV) (H : AH) : Option (AV × AH) :=
  outR (hd vs fun x0 vs => hd vs fun x1 vs => nl vs <|
  bR (noPan (D.fn 410 [x0, x1] H)) fun x7 H => 
  bV (some x7) fun x4 => some (.ret x4, H))
def h383 : Hint := (.s .o (.s .o .o))
theorem f383_eq (D : Dyn) (n : Nat) : f383 D n = funKp (s383 D n) D n 383 Tryz.f383 h383 := by kernel_rfl
theorem f383_ok {D : Dyn} (hD : DP D) (n : Nat) : FP 383 (f383 D n) := fun_okP X_ok hD (SP.nil) Tryz.func383 (by kernel_rfl) (by kernel_rfl) (f383_eq D n)

def s354 (D : Dyn) (n : Nat) : Tb := ⟨X, [(383, f383 D n)]⟩
/-- strings.IndexByte -/
def f354 (D : Dyn) (n : Nat) (vs : List AV) (H : AH) : Option (AV × AH) :=
  outR (hd vs fun x0 vs => hd vs fun x1 vs => nl vs <|
  bR (noPan (f383 D n [x0, x1] H)) fun x7 H => 
  bV (some x7) fun x4 => some (.ret x4, H))
def h354 : Hint := (.s .o (.s .o .o))
theorem f354_eq (D : Dyn) (n : Nat) : f354 D n = funKp (s354 D n) D n 354 Tryz.f354 h354 := by kernel_rfl
theorem f354_ok {D : Dyn} (hD : DP D) (n : Nat) : FP 354 (f354 D n) := fun_okP X_ok hD (SP.cons (f383_ok hD n) (SP.nil)) Tryz.func354 (by kernel_rfl) (by kernel_rfl) (f354_eq D n)

def s355 (D : Dyn) (n : Nat) : Tb := ⟨X, []⟩
/-- unicode/utf8.ValidRune -/
def f355 (D : Dyn) (n : Nat) (vs : List AV) (H : AH) : Option (AV × AH) :=
  outR (hd vs fun x0 vs => nl vs <|
  bV (bInt .leq (.int .i32 (.ofNat 0)) x0) fun x5 => 
  jn (wnt x5 true (bV (bInt .lss x0 (.int .i32 (.ofNat 55296))) fun x8 => 
  some (.norm [x8], H)) (some (.norm [undefA], H))) fun vs H => hd vs fun x8_2 vs => 
  bV (pk3 (some x5) (some x8_2) (some (.bool false))) fun x9 => 
  cnd x9 (bV (some (.bool true)) fun x2 => some (.ret x2, H))
  (bV (bInt .lss (.int .i32 (.ofNat 57343)) x0) fun x12 => 
  jn (wnt x12 true (bV (bInt .leq x0 (.int .i32 (.ofNat 1114111))) fun x15 => 
  some (.norm [x15], H)) (some (.norm [undefA], H))) fun vs H => hd vs fun x15_2 vs => 
  bV (pk3 (some x12) (some x15_2) (some (.bool false))) fun x16 => 
  cnd x16 (bV (some (.bool true)) fun x2_2 => some (.ret x2_2, H))
  (bV (some (.bool false)) fun x2_3 => some (.ret x2_3, H))))
def h355 : Hint := (.s .o (.s (.b0 (.s .o (.cl (.s .o .o) (.s .o (.cl (.s .o .o) .o))))) (.s .o .o)))
theorem f355_eq (D : Dyn) (n : Nat) : f355 D n = funKp (s355 D n) D n 355 Tryz.f355 h355 := by kernel_rfl
theorem f355_ok {D : Dyn} (hD : DP D) (n : Nat) : FP 355 (f355 D n) := fun_okP X_ok hD (SP.nil) Tryz.func355 (by kernel_rfl) (by kernel_rfl) (f355_eq D n)

def s356 (D : Dyn) (n : Nat) : Tb := ⟨X, []⟩
/-- internal/bytealg.Cutover -/
def f356 (D : Dyn) (n : Nat) (vs : List AV) (H : AH) : Option (AV × AH) :=
  outR (hd vs fun x0 vs => nl vs <|
  bV (bInt .add x0 (.int .i64 (.ofNat 16))) fun x4 => 
  bV (bInt .quo x4 (.int .i64 (.ofNat 8))) fun x5 => 
  bV (some x5) fun x2 => some (.ret x2, H))
def h356 : Hint := (.s .o (.s .o .o))
theorem f356_eq (D : Dyn) (n : Nat) : f356 D n = funKp (s356 D n) D n 356 Tryz.f356 h356 := by kernel_rfl
theorem f356_ok {D : Dyn} (hD : DP D) (n : Nat) : FP 356 (f356 D n) := fun_okP X_ok hD (SP.nil) Tryz.func356 (by kernel_rfl) (by kernel_rfl) (f356_eq D n)

def s314 (D : Dyn) (n : Nat) : Tb := ⟨X, []⟩
/-- strings.shouldUseASCIISet -/
def f314 (D : Dyn) (n : Nat) (vs : List AV) (H : AH) : Option (AV × AH) :=
  outR (hd vs fun x0 vs => nl vs <|
  bV (bInt .gtr x0 (.int .i64 (.ofNat 8))) fun x4 => 
  bV (some x4) fun x2 => some (.ret x2, H))
def h314 : Hint := (.s .o (.s .o .o))
theorem f314_eq (D : Dyn) (n : Nat) : f314 D n = funKp (s314 D n) D n 314 Tryz.f314 h314 := by kernel_rfl
theorem f314_ok {D : Dyn} (hD : DP D) (n : Nat) : FP 314 (f314 D n) := fun_okP X_ok hD (SP.nil) Tryz.func314 (by kernel_rfl) (by kernel_rfl) (f314_eq D n)

def s275 (D : Dyn) (n : Nat) : Tb := ⟨X, []⟩
def f275l0 (D : Dyn) (n : Nat) (vs : List AV) (H : AH) : Rs :=
  hd vs fun x0_2 vs => hd vs fun x2_2 vs => hd vs fun x4 vs => 
  bV (lnStr x0_2) fun x8 => 
  bV (bInt .lss x4 x8) fun x9 => 
  cnd x9 (bV (ixStr x0_2 x4) fun x14 => 
  bV (bInt .geq x14 (.int .u8 (.ofNat 128))) fun x16 => 
  cnd x16 (bV (ldNp 256 x2_2 H) fun x17 => 
  bR (stNp 256 x2_2 x17 H) fun x9999 H => 
  bV (ldNp 256 x2_2 H) fun x9002 => bV (some (.bool false)) fun x3 => some (.ret (.tuple [x9002, x3]), H))
  (bV (ixArr 256 1 x2_2 x14) fun x19 => 
  bR (stNp 1 x19 (.bool true) H) fun x9999_2 H => 
  bV (bInt .add x4 (.int .i64 (.ofNat 1))) fun x11 => 
  some (.norm [x0_2, x2_2, x11], H)))
  (some (.exit 0 [x2_2], H))
def f275b1 (D : Dyn) (n : Nat) (vs : List AV) (H : AH) : Rs :=
  hd vs fun x2_3 vs => 
  bV (ldNp 256 x2_3 H) fun x20 => 
  bR (stNp 256 x2_3 x20 H) fun x9999_3 H => 
  bV (ldNp 256 x2_3 H) fun x9002_2 => bV (some (.bool true)) fun x3_2 => some (.ret (.tuple [x9002_2, x3_2]), H)
/-- strings.makeASCIISet -/
def f275 (D : Dyn) (n : Nat) (vs : List AV) (H : AH) : Option (AV × AH) :=
  outR (hd vs fun x0 vs => nl vs <|
  bA (bxV 378 (.agg (rep 256 [(.bool false)]))) H fun x2 H => 
  jb 0 (loopK n (f275l0 D n) [x0, x2, (.int .i64 (.ofNat 0))] H) (f275b1 D n))
def h275 : Hint := (.s .o (.s (.s .o (.b [2] (.l [0, 2, 4] (.s (.s .o (.cr .o .o)) (.s (.b0 (.s .o (.s (.s .o (.cl (.s .o .o) .o)) .o))) .o))))) (.s .o .o)))
theorem f275_eq (D : Dyn) (n : Nat) : f275 D n = funKp (s275 D n) D n 275 Tryz.f275 h275 := by kernel_rfl
theorem f275_ok {D : Dyn} (hD : DP D) (n : Nat) : FP 275 (f275 D n) := fun_okP X_ok hD (SP.nil) Tryz.func275 (by kernel_rfl) (by kernel_rfl) (f275_eq D n)

def s315 (D : Dyn) (n : Nat) : Tb := ⟨X, []⟩
/-- (*strings.asciiSet).contains -/
def f315 (D : Dyn) (n : Nat) (vs : List AV) (H : AH) : Option (AV × AH) :=
  outR (hd vs fun x0 vs => hd vs fun x1 vs => nl vs <|
  bV (pNil x0) fun x7 => 
  bV (ixArr 256 1 x7 x1) fun x8 => 
  bV (ld1p x8 H) fun x9 => 
  bV (some x9) fun x4 => some (.ret x4, H))
def h315 : Hint := (.s .o (.s .o .o))
theorem f315_eq (D : Dyn) (n : Nat) : f315 D n = funKp (s315 D n) D n 315 Tryz.f315 h315 := by kernel_rfl
theorem f315_ok {D : Dyn} (hD : DP D) (n : Nat) : FP 315 (f315 D n) := fun_okP X_ok hD (SP.nil) Tryz.func315 (by kernel_rfl) (by kernel_rfl) (f315_eq D n)

def s256 (D : Dyn) (n : Nat) : Tb := ⟨X, [(314, f314 D n), (275, f275 D n), (315, f315 D n)]⟩
def f256j0 (D : Dyn) (n : Nat) (vs : List AV) (H : AH) : Rs :=
  hd vs fun x0_2 vs => hd vs fun x5 vs => 
  bR (noPan (D.fn 313 [x0_2, x5] H)) fun x23 H => 
  bV (some x23) fun x4_2 => some (.ret x4_2, H)
def f256l1 (D : Dyn) (n : Nat) (vs : List AV) (H : AH) : Rs :=
  hd vs fun x0_3 vs => hd vs fun x6_2 vs => hd vs fun x8 vs => 
  bV (lnStr x0_3) fun x35 => 
  bV (bInt .lss x8 x35) fun x36 => 
  cnd x36 (bV (ixStr x0_3 x8) fun x41 => 
  bR (noPan (f315 D n [x6_2, x41] H)) fun x42 H => 
  cnd x42 (bV (some x8) fun x4_3 => some (.ret x4_3, H))
  (bV (bInt .add x8 (.int .i64 (.ofNat 1))) fun x38 => 
  some (.norm [x0_3, x6_2, x38], H)))
  (some (.exit 0 [], H))
def f256b2 (D : Dyn) (n : Nat) (vs : List AV) (H : AH) : Rs :=
  
  bV (some (.int .i64 (.negSucc 0))) fun x4_4 => some (.ret x4_4, H)
def f256j3 (D : Dyn) (n : Nat) (vs : List AV) (H : AH) : Rs :=
  hd vs fun x0_4 vs => hd vs fun x1_2 vs => 
  none
/-- strings.IndexAny -/
def f256 (D : Dyn) (n : Nat) (vs : List AV) (H : AH) : Option (AV × AH) :=
  outR (hd vs fun x0 vs => hd vs fun x1 vs => nl vs <|
  bV (bStr .eql x1 (.str 0 0)) fun x12 => 
  cnd x12 (bV (some (.int .i64 (.negSucc 0))) fun x4 => some (.ret x4, H))
  (bV (lnStr x1) fun x14 => 
  bV (bInt .eql x14 (.int .i64 (.ofNat 1))) fun x15 => 
  cnd x15 (bV (ixStr x1 (.int .i64 (.ofNat 0))) fun x17 => 
  bV (cvI .i32 x17) fun x18 => 
  bV (bInt .geq x18 (.int .i32 (.ofNat 128))) fun x20 => 
  jn (cnd x20 (some (.norm [x0, (.int .i32 (.ofNat 65533))], H))
  (some (.norm [x0, x18], H))) (f256j0 D n))
  (bV (lnStr x0) fun x25 => 
  bR (noPan (f314 D n [x25] H)) fun x26 H => 
  jn (cnd x26 (bR (noPan (f275 D n [x1] H)) fun x29 H => 
  bV (pExtract x29 0) fun x30 => 
  bV (pExtract x29 1) fun x31 => 
  bA (bxV 378 (.agg (rep 256 [(.bool false)]))) H fun x6 H => 
  bR (stNp 256 x6 x30 H) fun x9999 H => 
  cnd x31 (jb 0 (loopK n (f256l1 D n) [x0, x6, (.int .i64 (.ofNat 0))] H) (f256b2 D n))
  (some (.norm [x0, x1], H)))
  (some (.norm [x0, x1], H))) (f256j3 D n))))
def h256 : Hint := (.s .o (.s (.s .o (.cl (.s .o .o) .o)) (.s (.s .o (.cl (.s .o (.s (.s .o (.c [0, 5] .o .o)) (.s .o .o))) .o)) (.s (.s .o (.c [0, 1] (.s .o (.s .o (.cl (.s (.s .o (.b [] (.l [0, 6, 8] (.s (.s .o (.cr .o .o)) (.s (.b0 (.s .o (.cl (.s .o .o) .o))) .o))))) (.s .o .o)) .o))) .o)) (.s (.s .o (.b [] (.l [1, 45] (.s .o (.s (.cr .o .o) (.b0 (.s .o (.s .o (.cl (.s .o .o) .o))))))))) (.s .o .o))))))
theorem f256_eq (D : Dyn) (n : Nat) : f256 D n = funKp (s256 D n) D n 256 Tryz.f256 h256 := by kernel_rfl
theorem f256_ok {D : Dyn} (hD : DP D) (n : Nat) : FP 256 (f256 D n) := fun_okP X_ok hD (SP.cons (f314_ok hD n) (SP.cons (f275_ok hD n) (SP.cons (f315_ok hD n) (SP.nil)))) Tryz.func256 (by kernel_rfl) (by kernel_rfl) (f256_eq D n)

def s182 (D : Dyn) (n : Nat) : Tb := ⟨X, [(256, f256 D n)]⟩
/-- strings.ContainsAny -/
def f182 (D : Dyn) (n : Nat) (vs : List AV) (H : AH) : Option (AV × AH) :=
  outR (hd vs fun x0 vs => hd vs fun x1 vs => nl vs <|
  bR (noPan (f256 D n [x0, x1] H)) fun x7 H => 
  bV (bInt .geq x7 (.int .i64 (.ofNat 0))) fun x8 => 
  bV (some x8) fun x4 => some (.ret x4, H))
def h182 : Hint := (.s .o (.s .o .o))
theorem f182_eq (D : Dyn) (n : Nat) : f182 D n = funKp (s182 D n) D n 182 Tryz.f182 h182 := by kernel_rfl
theorem f182_ok {D : Dyn} (hD : DP D) (n : Nat) : FP 182 (f182 D n) := fun_okP X_ok hD (SP.cons (f256_ok hD n) (SP.nil)) Tryz.func182 (by kernel_rfl) (by kernel_rfl) (f182_eq D n)
def m182 (D : Dyn) (n : Nat) (vs : List AV) (H : AH) : Option (AV × AH) := canyK (f182 D n) vs H
theorem m182_ok {D : Dyn} (hD : DP D) (n : Nat) : FP 182 (m182 D n) := canyK_okP (by kernel_rfl) (f182_ok hD n)

def s114 (D : Dyn) (n : Nat) : Tb := ⟨X, [(182, m182 D n)]⟩
def f114j0 (D : Dyn) (n : Nat) (vs : List AV) (H : AH) : Rs :=
  hd vs fun x0_2 vs => hd vs fun x4 vs => 
  some (.norm [x0_2, x4], H)
def f114j1 (D : Dyn) (n : Nat) (vs : List AV) (H : AH) : Rs :=
  hd vs fun x0_3 vs => hd vs fun x4_2 vs => 
  some (.norm [x0_3, x4_2], H)
def f114j2 (D : Dyn) (n : Nat) (vs : List AV) (H : AH) : Rs :=
  hd vs fun x0_4 vs => hd vs fun x4_3 vs => 
  cnd x4_3 (bV (some (.bool false)) fun x2 => some (.ret x2, H))
  (bV (lnStr x0_4) fun x10 => 
  bV (bInt .leq x10 (.int .i64 (.ofNat 32))) fun x11 => 
  jn (wnt x11 true (bR (noPan (m182 D n [x0_4, (.str 2 12032)] H)) fun x14 H => 
  bV (aun .not x14) fun x15 => 
  some (.norm [x15], H)) (some (.norm [undefA], H))) fun vs H => hd vs fun x15_2 vs => 
  bV (pk3 (some x11) (some x15_2) (some (.bool false))) fun x16 => 
  bV (some x16) fun x2_2 => some (.ret x2_2, H))
/-- jetty/name.May -/
def f114 (D : Dyn) (n : Nat) (vs : List AV) (H : AH) : Option (AV × AH) :=
  outR (hd vs fun x0 vs => nl vs <|
  bV (bStr .eql x0 (.str 0 0)) fun x5 => 
  jn (cnd x5 (some (.norm [x0, x5], H))
  (bV (bStr .eql x0 (.str 1 46)) fun x6 => 
  jn (cnd x6 (some (.norm [x0, x6], H))
  (bV (bStr .eql x0 (.str 2 11822)) fun x7 => 
  jn (cnd x7 (some (.norm [x0, x7], H))
  (bV (bStr .eql x0 (.str 9 2147850105812604056366)) fun x8 => 
  some (.norm [x0, x8], H))) (f114j0 D n))) (f114j1 D n))) (f114j2 D n))
def h114 : Hint := (.s .o (.s (.s .o (.b0 (.s (.s .o (.c [0, 4] .o (.s .o (.c [0, 4] .o (.s .o (.c [0, 4] .o .o)))))) (.cl (.s .o .o) .o)))) (.s .o .o)))
theorem f114_eq (D : Dyn) (n : Nat) : f114 D n = funKp (s114 D n) D n 114 Tryz.f114 h114 := by kernel_rfl
theorem f114_ok {D : Dyn} (hD : DP D) (n : Nat) : FP 114 (f114 D n) := fun_okP X_ok hD (SP.cons (m182_ok hD n) (SP.nil)) Tryz.func114 (by kernel_rfl) (by kernel_rfl) (f114_eq D n)

def s47 (D : Dyn) (n : Nat) : Tb := ⟨X, [(114, f114 D n), (38, f38 D n)]⟩
def f47j0 (D : Dyn) (n : Nat) (vs : List AV) (H : AH) : Rs :=
  
  some (.ret (.tuple []), H)
/-- jetty/objs.checkName -/
def f47 (D : Dyn) (n : Nat) (vs : List AV) (H : AH) : Option (AV × AH) :=
  outR (hd vs fun x0 vs => nl vs <|
  bR (noPan (f114 D n [x0] H)) fun x3 H => 
  bV (aun .not x3) fun x4 => 
  jn (cnd x4 (bC (f38 D n [(.int .i64 (.ofNat 56))] H) (fun x H => some (.ret (.pan x), H)) fun x5 H => 
  some (.norm [], H))
  (some (.norm [], H))) (f47j0 D n))
def h47 : Hint := (.s .o (.c [] .pc .o))
theorem f47_eq (D : Dyn) (n : Nat) : f47 D n = funKp (s47 D n) D n 47 Tryz.f47 h47 := by kernel_rfl
theorem f47_ok {D : Dyn} (hD : DP D) (n : Nat) : FP 47 (f47 D n) := fun_okP X_ok hD (SP.cons (f114_ok hD n) (SP.cons (f38_ok hD n) (SP.nil))) Tryz.func47 (by kernel_rfl) (by kernel_rfl) (f47_eq D n)

def s190 (D : Dyn) (n : Nat) : Tb := ⟨X, []⟩
/-- jetty/dir.isNumber -/
def f190 (D : Dyn) (n : Nat) (vs : List AV) (H : AH) : Option (AV × AH) :=
  outR (hd vs fun x0 vs => nl vs <|
  bV (bInt .geq x0 (.int .i64 (.ofNat 1))) fun x4 => 
  jn (wnt x4 true (bV (bInt .leq x0 (.int .i64 (.ofNat 2147483647))) fun x7 => 
  some (.norm [x7], H)) (some (.norm [undefA], H))) fun vs H => hd vs fun x7_2 vs => 
  bV (pk3 (some x4) (some x7_2) (some (.bool false))) fun x8 => 
  bV (some x8) fun x2 => some (.ret x2, H))
def h190 : Hint := (.s .o (.s .o .o))
theorem f190_eq (D : Dyn) (n : Nat) : f190 D n = funKp (s190 D n) D n 190 Tryz.f190 h190 := by kernel_rfl
theorem f190_ok {D : Dyn} (hD : DP D) (n : Nat) : FP 190 (f190 D n) := fun_okP X_ok hD (SP.nil) Tryz.func190 (by kernel_rfl) (by kernel_rfl) (f190_eq D n)

def s191 (D : Dyn) (n : Nat) : Tb := ⟨X, [(182, m182 D n)]⟩
def f191j0 (D : Dyn) (n : Nat) (vs : List AV) (H : AH) : Rs :=
  hd vs fun x0_2 vs => hd vs fun x4 vs => 
  some (.norm [x0_2, x4], H)
def f191j1 (D : Dyn) (n : Nat) (vs : List AV) (H : AH) : Rs :=
  hd vs fun x0_3 vs => hd vs fun x4_2 vs => 
  some (.norm [x0_3, x4_2], H)
def f191j2 (D : Dyn) (n : Nat) (vs : List AV) (H : AH) : Rs :=
  hd vs fun x0_4 vs => hd vs fun x4_3 vs => 
  cnd x4_3 (bV (some (.bool false)) fun x2 => some (.ret x2, H))
  (bV (lnStr x0_4) fun x10 => 
  bV (bInt .leq x10 (.int .i64 (.ofNat 32))) fun x11 => 
  jn (wnt x11 true (bR (noPan (m182 D n [x0_4, (.str 2 12032)] H)) fun x14 H => 
  bV (aun .not x14) fun x15 => 
  some (.norm [x15], H)) (some (.norm [undefA], H))) fun vs H => hd vs fun x15_2 vs => 
  bV (pk3 (some x11) (some x15_2) (some (.bool false))) fun x16 => 
  bV (some x16) fun x2_2 => some (.ret x2_2, H))
/-- jetty/dir.may -/
def f191 (D : Dyn) (n : Nat) (vs : List AV) (H : AH) : Option (AV × AH) :=
  outR (hd vs fun x0 vs => nl vs <|
  bV (bStr .eql x0 (.str 0 0)) fun x5 => 
  jn (cnd x5 (some (.norm [x0, x5], H))
  (bV (bStr .eql x0 (.str 1 46)) fun x6 => 
  jn (cnd x6 (some (.norm [x0, x6], H))
  (bV (bStr .eql x0 (.str 2 11822)) fun x7 => 
  jn (cnd x7 (some (.norm [x0, x7], H))
  (bV (bStr .eql x0 (.str 9 2147850105812604056366)) fun x8 => 
  some (.norm [x0, x8], H))) (f191j0 D n))) (f191j1 D n))) (f191j2 D n))
def h191 : Hint := (.s .o (.s (.s .o (.b0 (.s (.s .o (.c [0, 4] .o (.s .o (.c [0, 4] .o (.s .o (.c [0, 4] .o .o)))))) (.cl (.s .o .o) .o)))) (.s .o .o)))
theorem f191_eq (D : Dyn) (n : Nat) : f191 D n = funKp (s191 D n) D n 191 Tryz.f191 h191 := by kernel_rfl
theorem f191_ok {D : Dyn} (hD : DP D) (n : Nat) : FP 191 (f191 D n) := fun_okP X_ok hD (SP.cons (m182_ok hD n) (SP.nil)) Tryz.func191 (by kernel_rfl) (by kernel_rfl) (f191_eq D n)

def s192 (D : Dyn) (n : Nat) : Tb := ⟨X, [(270, f270 D n)]⟩
/-- jetty/dir.Hash -/
def f192 (D : Dyn) (n : Nat) (vs : List AV) (H : AH) : Option (AV × AH) :=
  outR (hd vs fun x0 vs => nl vs <|
  bR (noPan (f270 D n [x0] H)) fun x4 H => 
  bV (bInt .and x4 (.int .u64 (.ofNat 1023))) fun x5 => 
  bV (cvI .i64 x5) fun x6 => 
  bV (some x6) fun x2 => some (.ret x2, H))
def h192 : Hint := (.s .o (.s .o .o))
theorem f192_eq (D : Dyn) (n : Nat) : f192 D n = funKp (s192 D n) D n 192 Tryz.f192 h192 := by kernel_rfl
theorem f192_ok {D : Dyn} (hD : DP D) (n : Nat) : FP 192 (f192 D n) := fun_okP X_ok hD (SP.cons (f270_ok hD n) (SP.nil)) Tryz.func192 (by kernel_rfl) (by kernel_rfl) (f192_eq D n)

def s196 (D : Dyn) (n : Nat) : Tb := ⟨X, []⟩
def f196l0 (D : Dyn) (n : Nat) (vs : List AV) (H : AH) : Rs :=
  hd vs fun x0_2 vs => hd vs fun x3_2 vs => hd vs fun x5 vs => 
  bV (bInt .lss x5 (.int .i64 (.ofNat 4))) fun x6 => 
  cnd x6 (bV (bInt .sub (.int .i64 (.ofNat 3)) x5) fun x11 => 
  bV (bInt .mul (.int .i64 (.ofNat 8)) x11) fun x12 => 
  bV (bInt .shr x0_2 x12) fun x13 => 
  bV (cvI .u8 x13) fun x14 => 
  bV (ixArr 4 1 x3_2 x5) fun x15 => 
  bR (stNp 1 x15 x14 H) fun x9999 H => 
  bV (bInt .add x5 (.int .i64 (.ofNat 1))) fun x16 => 
  some (.norm [x0_2, x3_2, x16], H))
  (some (.exit 0 [x3_2], H))
def f196b1 (D : Dyn) (n : Nat) (vs : List AV) (H : AH) : Rs :=
  hd vs fun x3_3 vs => 
  bV (slArr 4 1 x3_3 none none none) fun x17 => 
  bV (cvBSp x17 H) fun x18 => 
  bV (some x18) fun x2 => some (.ret x2, H)
/-- jetty/dir.number -/
def f196 (D : Dyn) (n : Nat) (vs : List AV) (H : AH) : Option (AV × AH) :=
  outR (hd vs fun x0 vs => nl vs <|
  bA (bxV 375 (.agg [.pk 4 0])) H fun x3 H => 
  jb 0 (loopK n (f196l0 D n) [x0, x3, (.int .i64 (.ofNat 0))] H) (f196b1 D n))
def h196 : Hint := (.s .o (.s .o (.s (.s .o (.b [3] (.l [0, 3, 5] (.s .o (.s (.cr .o .o) (.s (.b0 (.s .o .o)) .o)))))) (.s .o .o))))
theorem f196_eq (D : Dyn) (n : Nat) : f196 D n = funKp (s196 D n) D n 196 Tryz.f196 h196 := by kernel_rfl
theorem f196_ok {D : Dyn} (hD : DP D) (n : Nat) : FP 196 (f196 D n) := fun_okP X_ok hD (SP.nil) Tryz.func196 (by kernel_rfl) (by kernel_rfl) (f196_eq D n)

def s195 (D : Dyn) (n : Nat) : Tb := ⟨X, [(196, f196 D n)]⟩
/-- jetty/dir.key -/
def f195 (D : Dyn) (n : Nat) (vs : List AV) (H : AH) : Option (AV × AH) :=
  outR (hd vs fun x0 vs => hd vs fun x1 vs => nl vs <|
  bR (noPan (f196 D n [x0] H)) fun x6 H => 
  bV (bStr .add (.str 1 101) x6) fun x7 => 
  bR (noPan (f196 D n [x1] H)) fun x9 H => 
  bV (bStr .add x7 x9) fun x10 => 
  bV (some x10) fun x4 => some (.ret x4, H))
def h195 : Hint := (.s .o (.s .o .o))
theorem f195_eq (D : Dyn) (n : Nat) : f195 D n = funKp (s195 D n) D n 195 Tryz.f195 h195 := by kernel_rfl
theorem f195_ok {D : Dyn} (hD : DP D) (n : Nat) : FP 195 (f195 D n) := fun_okP X_ok hD (SP.cons (f196_ok hD n) (SP.nil)) Tryz.func195 (by kernel_rfl) (by kernel_rfl) (f195_eq D n)

def s257 (D : Dyn) (n : Nat) : Tb := ⟨X, [(186, f186 D n)]⟩
/-- (*jetty/tree.Tree).Dirty -/
def f257 (D : Dyn) (n : Nat) (vs : List AV) (H : AH) : Option (AV × AH) :=
  outR (hd vs fun x0 vs => nl vs <|
  bR (noPan (f186 D n [x0] H)) fun x4 H => 
  cnd x4 (bV (some (.int .i64 (.ofNat 0))) fun x2 => some (.ret x2, H))
  (bV (pNil x0) fun x6 => 
  bV (fAd 5 x6) fun x7 => 
  bV (ld1p x7 H) fun x8 => 
  bV (lnMap x8 H) fun x9 => 
  bV (some x9) fun x2_2 => some (.ret x2_2, H)))
def h257 : Hint := (.s .o (.s (.s .o (.cl (.s .o .o) .o)) (.s .o .o)))
theorem f257_eq (D : Dyn) (n : Nat) : f257 D n = funKp (s257 D n) D n 257 Tryz.f257 h257 := by kernel_rfl
theorem f257_ok {D : Dyn} (hD : DP D) (n : Nat) : FP 257 (f257 D n) := fun_okP X_ok hD (SP.cons (f186_ok hD n) (SP.nil)) Tryz.func257 (by kernel_rfl) (by kernel_rfl) (f257_eq D n)

def s183 (D : Dyn) (n : Nat) : Tb := ⟨X, [(257, f257 D n)]⟩
/-- jetty/walk.through -/
def f183 (D : Dyn) (n : Nat) (vs : List AV) (H : AH) : Option (AV × AH) :=
  outR (hd vs fun x0 vs => nl vs <|
  bR (noPan (f257 D n [x0] H)) fun x5 H => 
  bV (bInt .add (.int .i64 (.ofNat 8192)) x5) fun x6 => 
  bV (bldSp [(0, 1), (1, 1), (2, 1), (3, 1)] [.nilPtr, .nilMap, (.int .i64 (.ofNat 0)), (.int .i64 (.ofNat 0))] [(0, x0), (2, x6)]) fun x7 => 
  bA (bxV 280 x7) H fun x8 H => 
  bV (some x8) fun x2 => some (.ret x2, H))
def h183 : Hint := (.s .o (.s .o .o))
theorem f183_eq (D : Dyn) (n : Nat) : f183 D n = funKp (s183 D n) D n 183 Tryz.f183 h183 := by kernel_rfl
theorem f183_ok {D : Dyn} (hD : DP D) (n : Nat) : FP 183 (f183 D n) := fun_okP X_ok hD (SP.cons (f257_ok hD n) (SP.nil)) Tryz.func183 (by kernel_rfl) (by kernel_rfl) (f183_eq D n)

def s317 (D : Dyn) (n : Nat) : Tb := ⟨X, [(186, f186 D n)]⟩
/-- (*jetty/tree.Tree).Root -/
def f317 (D : Dyn) (n : Nat) (vs : List AV) (H : AH) : Option (AV × AH) :=
  outR (hd vs fun x0 vs => nl vs <|
  bA (bxV 119 (.agg [(.int .i64 (.ofNat 0)), (.int .i64 (.ofNat 0)), (.int .u64 (.ofNat 0))])) H fun x2 H => 
  bR (noPan (f186 D n [x0] H)) fun x4 H => 
  cnd x4 (bV (bldSp [(0, 1), (1, 1), (2, 1)] [(.int .i64 (.ofNat 0)), (.int .i64 (.ofNat 0)), (.int .u64 (.ofNat 0))] []) fun x5 => 
  bR (stNp 3 x2 x5 H) fun x9999 H => 
  bV (ldNp 3 x2 H) fun x9002 => some (.ret x9002, H))
  (bV (pNil x0) fun x7 => 
  bV (fAd 2 x7) fun x8 => 
  bV (ldNp 3 x8 H) fun x9 => 
  bR (stNp 3 x2 x9 H) fun x9999_2 H => 
  bV (ldNp 3 x2 H) fun x9002_2 => some (.ret x9002_2, H)))
def h317 : Hint := (.s .o (.s (.s .o (.cl (.s .o .o) .o)) (.s .o .o)))
theorem f317_eq (D : Dyn) (n : Nat) : f317 D n = funKp (s317 D n) D n 317 Tryz.f317 h317 := by kernel_rfl
theorem f317_ok {D : Dyn} (hD : DP D) (n : Nat) : FP 317 (f317 D n) := fun_okP X_ok hD (SP.cons (f186_ok hD n) (SP.nil)) Tryz.func317 (by kernel_rfl) (by kernel_rfl) (f317_eq D n)

def s300 (D : Dyn) (n : Nat) : Tb := ⟨X, [(186, f186 D n), (206, f206 D n), (268, f268 D n), (180, f180 D n)]⟩
/-- (*jetty/tree.Tree).Load -/
def f300 (D : Dyn) (n : Nat) (vs : List AV) (H : AH) : Option (AV × AH) :=
  outR (hd vs fun x0 vs => hd vs fun x1 vs => nl vs <|
  bA (bxV 119 x1) H fun x3 H => 
  bA (bxV 269 (.agg [(.bool false), .nilSlice, .nilSlice, .nilSlice])) H fun x4 H => 
  bR (noPan (f186 D n [x0] H)) fun x9 H => 
  cnd x9 (bV (bldSp [(0, 1), (1, 1), (2, 1), (3, 1)] [(.bool false), .nilSlice, .nilSlice, .nilSlice] []) fun x10 => 
  bR (stNp 4 x4 x10 H) fun x9999 H => 
  bV (ldNp 4 x4 H) fun x9004 => bV (some (.int .i64 (.ofNat 2))) fun x5 => some (.ret (.tuple [x9004, x5]), H))
  (bV (fAd 0 x3) fun x11 => 
  bV (ld1p x11 H) fun x12 => 
  bV (bInt .eql x12 (.int .i64 (.ofNat 0))) fun x13 => 
  cnd x13 (bV (bldSp [(0, 1), (1, 1), (2, 1), (3, 1)] [(.bool false), .nilSlice, .nilSlice, .nilSlice] []) fun x14 => 
  bR (stNp 4 x4 x14 H) fun x9999_2 H => 
  bV (ldNp 4 x4 H) fun x9004_2 => bV (some (.int .i64 (.ofNat 1))) fun x5_2 => some (.ret (.tuple [x9004_2, x5_2]), H))
  (bV (ldNp 3 x3 H) fun x17 => 
  bR (noPan (f206 D n [x0, x17] H)) fun x18 H => 
  bV (pExtract x18 0) fun x19 => 
  bV (pExtract x18 1) fun x20 => 
  bA (bxV 269 (.agg [(.bool false), .nilSlice, .nilSlice, .nilSlice])) H fun x6 H => 
  bR (stNp 4 x6 x19 H) fun x9999_3 H => 
  bV (bInt .neq x20 (.int .i64 (.ofNat 0))) fun x22 => 
  cnd x22 (bV (bldSp [(0, 1), (1, 1), (2, 1), (3, 1)] [(.bool false), .nilSlice, .nilSlice, .nilSlice] []) fun x23 => 
  bR (stNp 4 x4 x23 H) fun x9999_4 H => 
  bV (ldNp 4 x4 H) fun x9004_3 => bV (some x20) fun x5_3 => some (.ret (.tuple [x9004_3, x5_3]), H))
  (bV (fAd 0 x6) fun x25 => 
  bV (ld1p x25 H) fun x26 => 
  bV (fAd 1 x6) fun x27 => 
  bV (ld1p x27 H) fun x28 => 
  bV (fAd 2 x6) fun x30 => 
  bV (ld1p x30 H) fun x31 => 
  bV (fAd 3 x6) fun x33 => 
  bV (ld1p x33 H) fun x34 => 
  bR (noPan (f268 D n [x28] H)) fun x29 H => chk (ld1p x25 H) x26 <| chk (ld1p x30 H) x31 <| chk (ld1p x33 H) x34 <| 
  bR (noPan (f268 D n [x31] H)) fun x32 H => chk (ld1p x25 H) x26 <| chk (ld1p x33 H) x34 <| 
  bR (noPan (f180 D n [x34] H)) fun x35 H => chk (ld1p x25 H) x26 <| 
  bV (bldSp [(0, 1), (1, 1), (2, 1), (3, 1)] [(.bool false), .nilSlice, .nilSlice, .nilSlice] [(0, x26), (1, x29), (2, x32), (3, x35)]) fun x36 => 
  bR (stNp 4 x4 x36 H) fun x9999_5 H => 
  bV (ldNp 4 x4 H) fun x9004_4 => bV (some (.int .i64 (.ofNat 0))) fun x5_4 => some (.ret (.tuple [x9004_4, x5_4]), H)))))
def h300 : Hint := (.s .o (.s (.s .o (.cl (.s .o .o) .o)) (.s (.s .o (.cl (.s .o .o) .o)) (.s .o (.s (.s .o (.cl (.s .o .o) .o)) (.s .o .o))))))
theorem f300_eq (D : Dyn) (n : Nat) : f300 D n = funKp (s300 D n) D n 300 Tryz.f300 h300 := by kernel_rfl
theorem f300_ok {D : Dyn} (hD : DP D) (n : Nat) : FP 300 (f300 D n) := fun_okP X_ok hD (SP.cons (f186_ok hD n) (SP.cons (f206_ok hD n) (SP.cons (f268_ok hD n) (SP.cons (f180_ok hD n) (SP.nil))))) Tryz.func300 (by kernel_rfl) (by kernel_rfl) (f300_eq D n)
end Go.Eng.Sh
