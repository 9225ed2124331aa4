/- Shallow functions, by program (gen.py). -/
import Derived.Test.YtdbpihiihgkkdaaGreatQ31
import Derived.Test.YtdbpihiihgkkdaaGreatProg
import Derived.KernelRfl
noncomputable section
namespace Go.Eng.Sh
open Go.Proofs
set_option maxRecDepth 100000
set_option linter.all false
def s135 (D : Dyn) (n : Nat) : Tb := ⟨X, [(219, f219 D n), (150, f150 D n)]⟩
/-- jetty/block.Decode -/
def f135 (D : Dyn) (n : Nat) (vs : List AV) (H : AH) : Option (AV × AH) :=
  outR (hd vs fun x0 vs => nl vs <|
  bA (bxV 52 (.agg [(.int .i64 (.ofNat 0)), (.int .i64 (.ofNat 0)), (.int .u64 (.ofNat 0))])) H fun x2 H => 
  bV (lnStr x0) fun x7 => 
  bV (bInt .neq x7 (.int .i64 (.ofNat 16))) fun x8 => 
  cnd x8 (bV (bldS [(0, 1), (1, 1), (2, 1)] [(.int .i64 (.ofNat 0)), (.int .i64 (.ofNat 0)), (.int .u64 (.ofNat 0))] []) fun x9 => 
  bR (stN 3 x2 x9 H) fun x9999 H => 
  bV (ldN 3 x2 H) fun x9002 => bV (some (.int .i64 (.ofNat 4))) fun x3 => some (.ret (.tuple [x9002, x3]), H))
  (bA (cvSB 5 x0) H fun x11 H => 
  bV (s2a 16 x11) fun x12 => 
  bV (ldN 16 x12 H) fun x13 => 
  bA (bxV 217 (.agg (rep 16 [(.int .u8 (.ofNat 0))]))) H fun x4 H => 
  bR (stN 16 x4 x13 H) fun x9999_2 H => 
  bV (slArr 16 1 x4 none (some (.int .i64 (.ofNat 4))) none) fun x14 => 
  bV (slArr 16 1 x4 (some (.int .i64 (.ofNat 4))) (some (.int .i64 (.ofNat 8))) none) fun x17 => 
  bV (slArr 16 1 x4 (some (.int .i64 (.ofNat 8))) none none) fun x20 => 
  bA (bxV 52 (.agg [(.int .i64 (.ofNat 0)), (.int .i64 (.ofNat 0)), (.int .u64 (.ofNat 0))])) H fun x5 H => 
  bR (f219 D n [x14] H) fun x15 H => 
  bV (cvI .i64 x15) fun x16 => 
  bR (f219 D n [x17] H) fun x18 H => 
  bV (cvI .i64 x18) fun x19 => 
  bR (f219 D n [x20] H) fun x21 H => 
  bV (bldS [(0, 1), (1, 1), (2, 1)] [(.int .i64 (.ofNat 0)), (.int .i64 (.ofNat 0)), (.int .u64 (.ofNat 0))] [(0, x16), (1, x19), (2, x21)]) fun x22 => 
  bR (stN 3 x5 x22 H) fun x9999_3 H => 
  bV (ldN 3 x5 H) fun x23 => 
  bR (f150 D n [x23] H) fun x24 H => 
  bV (aun .not x24) fun x25 => 
  cnd x25 (bV (bldS [(0, 1), (1, 1), (2, 1)] [(.int .i64 (.ofNat 0)), (.int .i64 (.ofNat 0)), (.int .u64 (.ofNat 0))] []) fun x26 => 
  bR (stN 3 x2 x26 H) fun x9999_4 H => 
  bV (ldN 3 x2 H) fun x9002_2 => bV (some (.int .i64 (.ofNat 4))) fun x3_2 => some (.ret (.tuple [x9002_2, x3_2]), H))
  (bV (ldN 3 x5 H) fun x27 => 
  bR (stN 3 x2 x27 H) fun x9999_5 H => 
  bV (ldN 3 x2 H) fun x9002_3 => bV (some (.int .i64 (.ofNat 0))) fun x3_3 => some (.ret (.tuple [x9002_3, x3_3]), H))))
def h135 : Hint := (.s .o (.s (.s .o (.cl (.s .o .o) .o)) (.s .o (.s .o (.s (.s .o (.cl (.s .o .o) .o)) (.s .o .o))))))
theorem f135_eq (D : Dyn) (n : Nat) : f135 D n = funK (s135 D n) D n 135 Tryz.f135 h135 := by kernel_rfl
theorem f135_ok {D : Dyn} (hD : DG D) (n : Nat) : FI 135 (f135 D n) := fun_ok X_ok hD (SOk.cons (f219_ok hD n).fs (SOk.cons (f150_ok hD n).fs (SOk.nil))) Tryz.func135 (by kernel_rfl) (f135_eq D n)

def s251 (D : Dyn) (n : Nat) : Tb := ⟨X, [(249, f249 D n), (135, f135 D n)]⟩
/-- (*jetty/node.reader).kid -/
def f251 (D : Dyn) (n : Nat) (vs : List AV) (H : AH) : Option (AV × AH) :=
  outR (hd vs fun x0 vs => nl vs <|
  bR (f249 D n [x0, (.int .i64 (.ofNat 16))] H) fun x6 H => 
  bV (pNil x0) fun x8 => 
  bV (fAd 1 x8) fun x9 => 
  bV (ld1 x9 H) fun x10 => 
  cnd x10 (some (.ret (.tuple []), H))
  (bR (f135 D n [x6] H) fun x13 H => 
  bV (pExtract x13 0) fun x14 => 
  bV (pExtract x13 1) fun x15 => 
  bA (bxV 52 (.agg [(.int .i64 (.ofNat 0)), (.int .i64 (.ofNat 0)), (.int .u64 (.ofNat 0))])) H fun x3 H => 
  bR (stN 3 x3 x14 H) fun x9999 H => 
  bV (bInt .neq x15 (.int .i64 (.ofNat 0))) fun x17 => 
  cnd x17 (bV (pNil x0) fun x19 => 
  bV (fAd 1 x19) fun x20 => 
  bR (stN 1 x20 (.bool true) H) fun x9999_2 H => 
  some (.ret (.tuple []), H))
  (bV (pNil x0) fun x23 => 
  bV (fAd 2 x23) fun x24 => 
  bV (fAd 3 x24) fun x25 => 
  bV (ld1 x25 H) fun x26 => 
  bV (ldN 3 x3 H) fun x27 => 
  bA (bldL 52 3 1 [(.int .i64 (.ofNat 0)), (.int .i64 (.ofNat 0)), (.int .u64 (.ofNat 0))] [(0, x27)]) H fun x28 H => 
  bR (apP 52 3 24 x26 x28 H) fun x29 H => 
  bV (pNil x0) fun x30 => 
  bV (fAd 2 x30) fun x31 => 
  bV (fAd 3 x31) fun x32 => 
  bR (stN 1 x32 x29 H) fun x9999_3 H => 
  some (.ret (.tuple []), H))))
def h251 : Hint := (.s .o (.s (.s .o (.cl .o .o)) (.s .o (.s (.s .o (.cl (.s .o .o) .o)) .o))))
theorem f251_eq (D : Dyn) (n : Nat) : f251 D n = funK (s251 D n) D n 251 Tryz.f251 h251 := by kernel_rfl
theorem f251_ok {D : Dyn} (hD : DG D) (n : Nat) : FI 251 (f251 D n) := fun_ok X_ok hD (SOk.cons (f249_ok hD n).fs (SOk.cons (f135_ok hD n).fs (SOk.nil))) Tryz.func251 (by kernel_rfl) (f251_eq D n)

def s191 (D : Dyn) (n : Nat) : Tb := ⟨X, []⟩
/-- jetty/node.mayKey -/
def f191 (D : Dyn) (n : Nat) (vs : List AV) (H : AH) : Option (AV × AH) :=
  outR (hd vs fun x0 vs => nl vs <|
  bV (lnStr x0) fun x4 => 
  bV (bInt .geq x4 (.int .i64 (.ofNat 1))) fun x5 => 
  jn (wnt x5 true (bV (lnStr x0) fun x8 => 
  bV (bInt .leq x8 (.int .i64 (.ofNat 40))) fun x9 => 
  some (.norm [x9], H)) (some (.norm [undefA], H))) fun vs H => hd vs fun x9_2 vs => 
  bV (pk3 (some x5) (some x9_2) (some (.bool false))) fun x10 => 
  bV (some x10) fun x2 => some (.ret x2, H))
def h191 : Hint := (.s .o (.s .o .o))
theorem f191_eq (D : Dyn) (n : Nat) : f191 D n = funK (s191 D n) D n 191 Tryz.f191 h191 := by kernel_rfl
theorem f191_ok {D : Dyn} (hD : DG D) (n : Nat) : FI 191 (f191 D n) := fun_ok X_ok hD (SOk.nil) Tryz.func191 (by kernel_rfl) (f191_eq D n)

def s190 (D : Dyn) (n : Nat) : Tb := ⟨X, [(191, f191 D n)]⟩
def f190l0 (D : Dyn) (n : Nat) (vs : List AV) (H : AH) : Rs :=
  hd vs fun x1_2 vs => hd vs fun x10_2 vs => hd vs fun x11_2 vs => hd vs fun x12 vs => 
  bV (bInt .lss x12 x11_2) fun x13 => 
  cnd x13 (bV (ixSl 1 x10_2 x12) fun x15 => 
  bV (ld1 x15 H) fun x16 => 
  bR (f191 D n [x16] H) fun x18 H => 
  bV (aun .not x18) fun x19 => 
  jn (wnt x19 false (bV (bInt .gtr x12 (.int .i64 (.ofNat 0))) fun x22 => 
  some (.norm [x22], H)) (some (.norm [undefA], H))) fun vs H => hd vs fun x23 vs => 
  jn (wnt x23 true (bV (fAd 1 x1_2) fun x24 => 
  bV (ld1 x24 H) fun x25 => 
  bV (bInt .sub x12 (.int .i64 (.ofNat 1))) fun x27 => 
  bV (ixSl 1 x25 x27) fun x28 => 
  bV (ld1 x28 H) fun x29 => 
  bV (bStr .geq x29 x16) fun x31 => 
  some (.norm [x31], H)) (some (.norm [undefA], H))) fun vs H => hd vs fun x31_2 vs => 
  jn (wnt x19 false (bV (pk3 (some x23) (some x31_2) (some (.bool false))) fun x32 => 
  some (.norm [x32], H)) (some (.norm [undefA], H))) fun vs H => hd vs fun x32_2 vs => 
  bV (pk3 (some x19) (some (.bool true)) (some x32_2)) fun x33 => 
  cnd x33 (bV (some (.bool false)) fun x2 => some (.ret x2, H))
  (bV (bInt .add x12 (.int .i64 (.ofNat 1))) fun x34 => 
  some (.norm [x1_2, x10_2, x11_2, x34], H)))
  (some (.exit 0 [x1_2], H))
def f190l1 (D : Dyn) (n : Nat) (vs : List AV) (H : AH) : Rs :=
  hd vs fun x51_2 vs => hd vs fun x52_2 vs => hd vs fun x53 vs => 
  bV (bInt .lss x53 x52_2) fun x54 => 
  cnd x54 (bV (ixSl 1 x51_2 x53) fun x55 => 
  bV (ld1 x55 H) fun x56 => 
  bV (lnStr x56) fun x58 => 
  bV (bInt .gtr x58 (.int .i64 (.ofNat 200))) fun x59 => 
  cnd x59 (bV (some (.bool false)) fun x2_3 => some (.ret x2_3, H))
  (bV (bInt .add x53 (.int .i64 (.ofNat 1))) fun x60 => 
  some (.norm [x51_2, x52_2, x60], H)))
  (some (.exit 2 [], H))
def f190b2 (D : Dyn) (n : Nat) (vs : List AV) (H : AH) : Rs :=
  
  bV (some (.bool true)) fun x2_4 => some (.ret x2_4, H)
def f190l3 (D : Dyn) (n : Nat) (vs : List AV) (H : AH) : Rs :=
  hd vs fun x82_2 vs => hd vs fun x83_2 vs => hd vs fun x84 vs => 
  bV (bInt .lss x84 x83_2) fun x85 => 
  cnd x85 (bV (ixSl 3 x82_2 x84) fun x86 => 
  bV (ldN 3 x86 H) fun x87 => 
  bA (bxV 52 (.agg [(.int .i64 (.ofNat 0)), (.int .i64 (.ofNat 0)), (.int .u64 (.ofNat 0))])) H fun x8 H => 
  bR (stN 3 x8 x87 H) fun x9999 H => 
  bV (fAd 0 x8) fun x88 => 
  bV (ld1 x88 H) fun x89 => 
  bV (bInt .lss x89 (.int .i64 (.ofNat 1))) fun x90 => 
  jn (wnt x90 false (bV (fAd 0 x8) fun x92 => 
  bV (ld1 x92 H) fun x93 => 
  bV (bInt .geq x93 (.int .i64 (.ofNat 8192))) fun x94 => 
  some (.norm [x94], H)) (some (.norm [undefA], H))) fun vs H => hd vs fun x94_2 vs => 
  bV (pk3 (some x90) (some (.bool true)) (some x94_2)) fun x95 => 
  jn (wnt x95 false (bV (fAd 1 x8) fun x97 => 
  bV (ld1 x97 H) fun x98 => 
  bV (bInt .lss x98 (.int .i64 (.ofNat 0))) fun x99 => 
  some (.norm [x99], H)) (some (.norm [undefA], H))) fun vs H => hd vs fun x99_2 vs => 
  bV (pk3 (some x95) (some (.bool true)) (some x99_2)) fun x100 => 
  jn (wnt x100 false (bV (fAd 1 x8) fun x102 => 
  bV (ld1 x102 H) fun x103 => 
  bV (bInt .gtr x103 (.int .i64 (.ofNat 2147483647))) fun x104 => 
  some (.norm [x104], H)) (some (.norm [undefA], H))) fun vs H => hd vs fun x104_2 vs => 
  bV (pk3 (some x100) (some (.bool true)) (some x104_2)) fun x105 => 
  cnd x105 (bV (some (.bool false)) fun x2_6 => some (.ret x2_6, H))
  (bV (bInt .add x84 (.int .i64 (.ofNat 1))) fun x106 => 
  some (.norm [x82_2, x83_2, x106], H)))
  (some (.exit 4 [], H))
def f190b4 (D : Dyn) (n : Nat) (vs : List AV) (H : AH) : Rs :=
  
  bV (some (.bool true)) fun x2_7 => some (.ret x2_7, H)
def f190b5 (D : Dyn) (n : Nat) (vs : List AV) (H : AH) : Rs :=
  hd vs fun x1_3 vs => 
  bV (fAd 0 x1_3) fun x35 => 
  bV (ld1 x35 H) fun x36 => 
  cnd x36 (bV (fAd 2 x1_3) fun x37 => 
  bV (ld1 x37 H) fun x38 => 
  bV (lnSl x38) fun x39 => 
  bV (fAd 1 x1_3) fun x40 => 
  bV (ld1 x40 H) fun x41 => 
  bV (lnSl x41) fun x42 => 
  bV (bInt .neq x39 x42) fun x43 => 
  jn (wnt x43 false (bV (fAd 3 x1_3) fun x45 => 
  bV (ld1 x45 H) fun x46 => 
  bV (lnSl x46) fun x47 => 
  bV (bInt .neq x47 (.int .i64 (.ofNat 0))) fun x48 => 
  some (.norm [x48], H)) (some (.norm [undefA], H))) fun vs H => hd vs fun x48_2 vs => 
  bV (pk3 (some x43) (some (.bool true)) (some x48_2)) fun x49 => 
  cnd x49 (bV (some (.bool false)) fun x2_2 => some (.ret x2_2, H))
  (bV (fAd 2 x1_3) fun x50 => 
  bV (ld1 x50 H) fun x51 => 
  bV (lnSl x51) fun x52 => 
  jb 2 (loopK n (f190l1 D n) [x51, x52, (.int .i64 (.ofNat 0))] H) (f190b2 D n)))
  (bV (fAd 1 x1_3) fun x61 => 
  bV (ld1 x61 H) fun x62 => 
  bV (lnSl x62) fun x63 => 
  bV (bInt .eql x63 (.int .i64 (.ofNat 0))) fun x64 => 
  jn (wnt x64 false (bV (fAd 2 x1_3) fun x66 => 
  bV (ld1 x66 H) fun x67 => 
  bV (lnSl x67) fun x68 => 
  bV (bInt .neq x68 (.int .i64 (.ofNat 0))) fun x69 => 
  some (.norm [x69], H)) (some (.norm [undefA], H))) fun vs H => hd vs fun x69_2 vs => 
  bV (pk3 (some x64) (some (.bool true)) (some x69_2)) fun x70 => 
  jn (wnt x70 false (bV (fAd 3 x1_3) fun x72 => 
  bV (ld1 x72 H) fun x73 => 
  bV (lnSl x73) fun x74 => 
  bV (fAd 1 x1_3) fun x75 => 
  bV (ld1 x75 H) fun x76 => 
  bV (lnSl x76) fun x77 => 
  bV (bInt .add x77 (.int .i64 (.ofNat 1))) fun x78 => 
  bV (bInt .neq x74 x78) fun x79 => 
  some (.norm [x79], H)) (some (.norm [undefA], H))) fun vs H => hd vs fun x79_2 vs => 
  bV (pk3 (some x70) (some (.bool true)) (some x79_2)) fun x80 => 
  cnd x80 (bV (some (.bool false)) fun x2_5 => some (.ret x2_5, H))
  (bV (fAd 3 x1_3) fun x81 => 
  bV (ld1 x81 H) fun x82 => 
  bV (lnSl x82) fun x83 => 
  jb 4 (loopK n (f190l3 D n) [x82, x83, (.int .i64 (.ofNat 0))] H) (f190b4 D n)))
/-- jetty/node.shaped -/
def f190 (D : Dyn) (n : Nat) (vs : List AV) (H : AH) : Option (AV × AH) :=
  outR (hd vs fun x0 vs => nl vs <|
  bA (bxV 57 x0) H fun x1 H => 
  bV (fAd 1 x1) fun x9 => 
  bV (ld1 x9 H) fun x10 => 
  bV (lnSl x10) fun x11 => 
  jb 0 (loopK n (f190l0 D n) [x1, x10, x11, (.int .i64 (.ofNat 0))] H) (f190b5 D n))
def h190 : Hint := (.s .o (.s (.s .o (.b [1] (.l [1, 10, 11, 12] (.s .o (.s (.cr .o .o) (.s (.b0 (.s .o (.s .o (.cl (.s .o .o) .o)))) .o)))))) (.s (.s .o (.cl (.s (.s .o (.cl (.s .o .o) .o)) (.s (.s .o (.b [] (.l [51, 52, 53] (.s .o (.s (.cr .o .o) (.s (.b0 (.s .o (.s .o (.cl (.s .o .o) .o)))) .o)))))) (.s .o .o))) .o)) (.s (.s .o (.cl (.s .o .o) .o)) (.s (.s .o (.b [] (.l [82, 83, 84] (.s .o (.s (.cr .o .o) (.s (.b0 (.s .o (.s .o (.cl (.s .o .o) .o)))) .o)))))) (.s .o .o))))))
theorem f190_eq (D : Dyn) (n : Nat) : f190 D n = funK (s190 D n) D n 190 Tryz.f190 h190 := by kernel_rfl
theorem f190_ok {D : Dyn} (hD : DG D) (n : Nat) : FI 190 (f190 D n) := fun_ok X_ok hD (SOk.cons (f191_ok hD n).fs (SOk.nil)) Tryz.func190 (by kernel_rfl) (f190_eq D n)

def s254 (D : Dyn) (n : Nat) : Tb := ⟨X, []⟩
def f254l0 (D : Dyn) (n : Nat) (vs : List AV) (H : AH) : Rs :=
  hd vs fun x1_2 vs => hd vs fun x3 vs => hd vs fun x14_2 vs => hd vs fun x15_2 vs => hd vs fun x16 vs => 
  bV (bInt .lss x16 x15_2) fun x17 => 
  cnd x17 (bV (ixSl 1 x14_2 x16) fun x18 => 
  bV (ld1 x18 H) fun x19 => 
  bV (lnStr x19) fun x22 => 
  bV (bInt .add (.int .i64 (.ofNat 1)) x22) fun x23 => 
  bV (bInt .add x3 x23) fun x24 => 
  bV (bInt .add x16 (.int .i64 (.ofNat 1))) fun x25 => 
  some (.norm [x1_2, x24, x14_2, x15_2, x25], H))
  (some (.exit 0 [x1_2, x3], H))
def f254l1 (D : Dyn) (n : Nat) (vs : List AV) (H : AH) : Rs :=
  hd vs fun x3_3 vs => hd vs fun x27_2 vs => hd vs fun x28_2 vs => hd vs fun x29 vs => 
  bV (bInt .lss x29 x28_2) fun x30 => 
  cnd x30 (bV (ixSl 1 x27_2 x29) fun x31 => 
  bV (ld1 x31 H) fun x32 => 
  bV (lnStr x32) fun x35 => 
  bV (bInt .add (.int .i64 (.ofNat 1)) x35) fun x36 => 
  bV (bInt .add x3_3 x36) fun x37 => 
  bV (bInt .add x29 (.int .i64 (.ofNat 1))) fun x38 => 
  some (.norm [x37, x27_2, x28_2, x38], H))
  (some (.exit 2 [x3_3], H))
def f254b2 (D : Dyn) (n : Nat) (vs : List AV) (H : AH) : Rs :=
  hd vs fun x3_4 vs => 
  bV (some x3_4) fun x2 => some (.ret x2, H)
def f254b3 (D : Dyn) (n : Nat) (vs : List AV) (H : AH) : Rs :=
  hd vs fun x1_3 vs => hd vs fun x3_2 vs => 
  bV (fAd 2 x1_3) fun x26 => 
  bV (ld1 x26 H) fun x27 => 
  bV (lnSl x27) fun x28 => 
  jb 2 (loopK n (f254l1 D n) [x3_2, x27, x28, (.int .i64 (.ofNat 0))] H) (f254b2 D n)
/-- jetty/node.Size -/
def f254 (D : Dyn) (n : Nat) (vs : List AV) (H : AH) : Option (AV × AH) :=
  outR (hd vs fun x0 vs => nl vs <|
  bA (bxV 57 x0) H fun x1 H => 
  bV (fAd 3 x1) fun x8 => 
  bV (ld1 x8 H) fun x9 => 
  bV (lnSl x9) fun x10 => 
  bV (bInt .mul (.int .i64 (.ofNat 16)) x10) fun x11 => 
  bV (bInt .add (.int .i64 (.ofNat 2)) x11) fun x12 => 
  bV (fAd 1 x1) fun x13 => 
  bV (ld1 x13 H) fun x14 => 
  bV (lnSl x14) fun x15 => 
  jb 0 (loopK n (f254l0 D n) [x1, x12, x14, x15, (.int .i64 (.ofNat 0))] H) (f254b3 D n))
def h254 : Hint := (.s .o (.s .o (.s (.s .o (.b [1, 3] (.l [1, 3, 14, 15, 16] (.s .o (.s (.cr .o .o) (.s (.b0 (.s .o .o)) .o)))))) (.s (.s .o (.b [3] (.l [3, 27, 28, 29] (.s .o (.s (.cr .o .o) (.s (.b0 (.s .o .o)) .o)))))) (.s .o .o)))))
theorem f254_eq (D : Dyn) (n : Nat) : f254 D n = funK (s254 D n) D n 254 Tryz.f254 h254 := by kernel_rfl
theorem f254_ok {D : Dyn} (hD : DG D) (n : Nat) : FI 254 (f254 D n) := fun_ok X_ok hD (SOk.nil) Tryz.func254 (by kernel_rfl) (f254_eq D n)

def s253 (D : Dyn) (n : Nat) : Tb := ⟨X, [(190, f190 D n), (254, f254 D n)]⟩
/-- jetty/node.May -/
def f253 (D : Dyn) (n : Nat) (vs : List AV) (H : AH) : Option (AV × AH) :=
  outR (hd vs fun x0 vs => nl vs <|
  bA (bxV 57 x0) H fun x1 H => 
  bV (ldN 4 x1 H) fun x3 => 
  bR (f190 D n [x3] H) fun x4 H => 
  jn (wnt x4 true (bV (ldN 4 x1 H) fun x6 => 
  bR (f254 D n [x6] H) fun x7 H => 
  bV (bInt .leq x7 (.int .i64 (.ofNat 500))) fun x8 => 
  some (.norm [x8], H)) (some (.norm [undefA], H))) fun vs H => hd vs fun x8_2 vs => 
  bV (pk3 (some x4) (some x8_2) (some (.bool false))) fun x9 => 
  bV (some x9) fun x2 => some (.ret x2, H))
def h253 : Hint := (.s .o (.s .o .o))
theorem f253_eq (D : Dyn) (n : Nat) : f253 D n = funK (s253 D n) D n 253 Tryz.f253 h253 := by kernel_rfl
theorem f253_ok {D : Dyn} (hD : DG D) (n : Nat) : FI 253 (f253 D n) := fun_ok X_ok hD (SOk.cons (f190_ok hD n).fs (SOk.cons (f254_ok hD n).fs (SOk.nil))) Tryz.func253 (by kernel_rfl) (f253_eq D n)

def s283 (D : Dyn) (n : Nat) : Tb := ⟨X, [(249, f249 D n)]⟩
/-- (*jetty/node.reader).text -/
def f283 (D : Dyn) (n : Nat) (vs : List AV) (H : AH) : Option (AV × AH) :=
  outR (hd vs fun x0 vs => nl vs <|
  bR (f249 D n [x0, (.int .i64 (.ofNat 1))] H) fun x5 H => 
  bV (pNil x0) fun x7 => 
  bV (fAd 1 x7) fun x8 => 
  bV (ld1 x8 H) fun x9 => 
  cnd x9 (bV (some (.str 0 0)) fun x2 => some (.ret x2, H))
  (bV (ixStr x5 (.int .i64 (.ofNat 0))) fun x12 => 
  bV (cvI .i64 x12) fun x13 => 
  bR (f249 D n [x0, x13] H) fun x14 H => 
  bV (some x14) fun x2_2 => some (.ret x2_2, H)))
def h283 : Hint := (.s .o (.s .o (.s (.s .o (.cl (.s .o .o) .o)) (.s .o .o))))
theorem f283_eq (D : Dyn) (n : Nat) : f283 D n = funK (s283 D n) D n 283 Tryz.f283 h283 := by kernel_rfl
theorem f283_ok {D : Dyn} (hD : DG D) (n : Nat) : FI 283 (f283 D n) := fun_ok X_ok hD (SOk.cons (f249_ok hD n).fs (SOk.nil)) Tryz.func283 (by kernel_rfl) (f283_eq D n)

def s250 (D : Dyn) (n : Nat) : Tb := ⟨X, [(283, f283 D n)]⟩
/-- (*jetty/node.reader).key -/
def f250 (D : Dyn) (n : Nat) (vs : List AV) (H : AH) : Option (AV × AH) :=
  outR (hd vs fun x0 vs => nl vs <|
  bV (pNil x0) fun x4 => 
  bV (fAd 2 x4) fun x5 => 
  bV (fAd 1 x5) fun x6 => 
  bV (ld1 x6 H) fun x7 => 
  bR (f283 D n [x0] H) fun x9 H => chk (ld1 x6 H) x7 <| 
  bA (bldL 9 1 1 [(.str 0 0)] [(0, x9)]) H fun x10 H => 
  bR (apP 9 1 16 x7 x10 H) fun x11 H => 
  bV (pNil x0) fun x12 => 
  bV (fAd 2 x12) fun x13 => 
  bV (fAd 1 x13) fun x14 => 
  bR (stN 1 x14 x11 H) fun x9999 H => 
  some (.ret (.tuple []), H))
def h250 : Hint := .o
theorem f250_eq (D : Dyn) (n : Nat) : f250 D n = funK (s250 D n) D n 250 Tryz.f250 h250 := by kernel_rfl
theorem f250_ok {D : Dyn} (hD : DG D) (n : Nat) : FI 250 (f250 D n) := fun_ok X_ok hD (SOk.cons (f283_ok hD n).fs (SOk.nil)) Tryz.func250 (by kernel_rfl) (f250_eq D n)

def s252 (D : Dyn) (n : Nat) : Tb := ⟨X, [(283, f283 D n)]⟩
/-- (*jetty/node.reader).value -/
def f252 (D : Dyn) (n : Nat) (vs : List AV) (H : AH) : Option (AV × AH) :=
  outR (hd vs fun x0 vs => nl vs <|
  bV (pNil x0) fun x4 => 
  bV (fAd 2 x4) fun x5 => 
  bV (fAd 2 x5) fun x6 => 
  bV (ld1 x6 H) fun x7 => 
  bR (f283 D n [x0] H) fun x9 H => chk (ld1 x6 H) x7 <| 
  bA (bldL 9 1 1 [(.str 0 0)] [(0, x9)]) H fun x10 H => 
  bR (apP 9 1 16 x7 x10 H) fun x11 H => 
  bV (pNil x0) fun x12 => 
  bV (fAd 2 x12) fun x13 => 
  bV (fAd 2 x13) fun x14 => 
  bR (stN 1 x14 x11 H) fun x9999 H => 
  some (.ret (.tuple []), H))
def h252 : Hint := .o
theorem f252_eq (D : Dyn) (n : Nat) : f252 D n = funK (s252 D n) D n 252 Tryz.f252 h252 := by kernel_rfl
theorem f252_ok {D : Dyn} (hD : DG D) (n : Nat) : FI 252 (f252 D n) := fun_ok X_ok hD (SOk.cons (f283_ok hD n).fs (SOk.nil)) Tryz.func252 (by kernel_rfl) (f252_eq D n)

def s182 (D : Dyn) (n : Nat) : Tb := ⟨X, [(249, f249 D n), (251, f251 D n), (253, f253 D n)]⟩
def f182l0 (D : Dyn) (n : Nat) (vs : List AV) (H : AH) : Rs :=
  hd vs fun x4_4 vs => hd vs fun x6_3 vs => hd vs fun x8_3 vs => hd vs fun x47_3 vs => hd vs fun x48_2 vs => hd vs fun x50 vs => hd vs fun x51_2 vs => hd vs fun x52 vs => 
  bV (bInt .lss x52 x51_2) fun x53 => 
  cnd x53 (bV (ixSl 1 x50 x52) fun x54 => 
  bV (ld1 x54 H) fun x55 => 
  bR (callV (s182 D n).S D x55 [] H) fun x57 H => 
  bV (bInt .add x52 (.int .i64 (.ofNat 1))) fun x58 => 
  some (.norm [x4_4, x6_3, x8_3, x47_3, x48_2, x50, x51_2, x58], H))
  (some (.exit 2 [x4_4, x6_3, x8_3, x47_3, x48_2], H))
def f182b1 (D : Dyn) (n : Nat) (vs : List AV) (H : AH) : Rs :=
  hd vs fun x4_5 vs => hd vs fun x6_4 vs => hd vs fun x8_4 vs => hd vs fun x47_4 vs => hd vs fun x48_3 vs => 
  bV (pNil x6_4) fun x60 => 
  bV (fAd 1 x60) fun x61 => 
  bV (ld1 x61 H) fun x62 => 
  cnd x62 (some (.exit 0 [x4_5, x6_4], H))
  (bV (bInt .add x48_3 (.int .i64 (.ofNat 1))) fun x63 => 
  some (.norm [x4_5, x6_4, x8_4, x47_4, x63], H))
def f182l2 (D : Dyn) (n : Nat) (vs : List AV) (H : AH) : Rs :=
  hd vs fun x4_3 vs => hd vs fun x6_2 vs => hd vs fun x8_2 vs => hd vs fun x47_2 vs => hd vs fun x48 vs => 
  bV (bInt .lss x48 x47_2) fun x49 => 
  cnd x49 (bV (lnSl x8_2) fun x51 => 
  jb 2 (loopK n (f182l0 D n) [x4_3, x6_2, x8_2, x47_2, x48, x8_2, x51, (.int .i64 (.ofNat 0))] H) (f182b1 D n))
  (some (.exit 0 [x4_3, x6_2], H))
def f182b3 (D : Dyn) (n : Nat) (vs : List AV) (H : AH) : Rs :=
  hd vs fun x4_6 vs => hd vs fun x6_5 vs => 
  bV (pNil x6_5) fun x65 => 
  bV (fAd 1 x65) fun x66 => 
  bV (ld1 x66 H) fun x67 => 
  jn (wnt x67 false (bV (pNil x6_5) fun x70 => 
  bV (fAd 0 x70) fun x71 => 
  bV (ld1 x71 H) fun x72 => 
  bV (bStr .neq x72 (.str 0 0)) fun x73 => 
  some (.norm [x73], H)) (some (.norm [undefA], H))) fun vs H => hd vs fun x73_2 vs => 
  bV (pk3 (some x67) (some (.bool true)) (some x73_2)) fun x74 => 
  jn (wnt x74 false (bV (pNil x6_5) fun x77 => 
  bV (fAd 2 x77) fun x78 => 
  bV (ldN 4 x78 H) fun x79 => 
  bR (f253 D n [x79] H) fun x80 H => 
  bV (aun .not x80) fun x81 => 
  some (.norm [x81], H)) (some (.norm [undefA], H))) fun vs H => hd vs fun x81_2 vs => 
  bV (pk3 (some x74) (some (.bool true)) (some x81_2)) fun x82 => 
  cnd x82 (bV (bldS [(0, 1), (1, 1), (2, 1), (3, 1)] [(.bool false), .nilSlice, .nilSlice, .nilSlice] []) fun x83 => 
  bR (stN 4 x4_6 x83 H) fun x9999_3 H => 
  bV (ldN 4 x4_6 H) fun x9004_3 => bV (some (.int .i64 (.ofNat 4))) fun x5_3 => some (.ret (.tuple [x9004_3, x5_3]), H))
  (bV (pNil x6_5) fun x85 => 
  bV (fAd 2 x85) fun x86 => 
  bV (ldN 4 x86 H) fun x87 => 
  bR (stN 4 x4_6 x87 H) fun x9999_4 H => 
  bV (ldN 4 x4_6 H) fun x9004_4 => bV (some (.int .i64 (.ofNat 0))) fun x5_4 => some (.ret (.tuple [x9004_4, x5_4]), H))
def f182j4 (D : Dyn) (n : Nat) (vs : List AV) (H : AH) : Rs :=
  hd vs fun x4_2 vs => hd vs fun x6 vs => hd vs fun x7 vs => hd vs fun x8 vs => 
  bV (ixStr x7 (.int .i64 (.ofNat 0))) fun x41 => 
  bV (cvI .i64 x41) fun x42 => 
  bV (bInt .shl x42 (.int .u64 (.ofNat 8))) fun x43 => 
  bV (ixStr x7 (.int .i64 (.ofNat 1))) fun x45 => 
  bV (cvI .i64 x45) fun x46 => 
  bV (bInt .or x43 x46) fun x47 => 
  jb 0 (loopK n (f182l2 D n) [x4_2, x6, x8, x47, (.int .i64 (.ofNat 0))] H) (f182b3 D n)
/-- jetty/node.Decode -/
def f182 (D : Dyn) (n : Nat) (vs : List AV) (H : AH) : Option (AV × AH) :=
  outR (hd vs fun x0 vs => hd vs fun x1 vs => nl vs <|
  bA (bxV 57 (.agg [(.bool false), .nilSlice, .nilSlice, .nilSlice])) H fun x4 H => 
  bV (lnStr x1) fun x12 => 
  bV (bInt .gtr x12 (.int .i64 (.ofNat 500))) fun x13 => 
  cnd x13 (bV (bldS [(0, 1), (1, 1), (2, 1), (3, 1)] [(.bool false), .nilSlice, .nilSlice, .nilSlice] []) fun x14 => 
  bR (stN 4 x4 x14 H) fun x9999 H => 
  bV (ldN 4 x4 H) fun x9004 => bV (some (.int .i64 (.ofNat 4))) fun x5 => some (.ret (.tuple [x9004, x5]), H))
  (bV (bldS [(0, 1), (1, 1), (2, 1), (3, 1)] [(.bool false), .nilSlice, .nilSlice, .nilSlice] [(0, x0)]) fun x17 => 
  bV (bldS [(0, 1), (1, 1), (2, 4)] [(.str 0 0), (.bool false), (.bool false), .nilSlice, .nilSlice, .nilSlice] [(0, x1), (2, x17)]) fun x18 => 
  bA (bxV 336 x18) H fun x19 H => 
  bR (f249 D n [x19, (.int .i64 (.ofNat 2))] H) fun x21 H => 
  bV (pNil x19) fun x23 => 
  bV (fAd 1 x23) fun x24 => 
  bV (ld1 x24 H) fun x25 => 
  cnd x25 (bV (bldS [(0, 1), (1, 1), (2, 1), (3, 1)] [(.bool false), .nilSlice, .nilSlice, .nilSlice] []) fun x26 => 
  bR (stN 4 x4 x26 H) fun x9999_2 H => 
  bV (ldN 4 x4 H) fun x9004_2 => bV (some (.int .i64 (.ofNat 4))) fun x5_2 => some (.ret (.tuple [x9004_2, x5_2]), H))
  (bA (bldL 1 1 2 [.nilFunc] [(0, (.func 250 [x19] [])), (1, (.func 251 [x19] []))]) H fun x31 H => 
  jn (cnd x0 (bA (bldL 1 1 2 [.nilFunc] [(0, (.func 250 [x19] [])), (1, (.func 252 [x19] []))]) H fun x37 H => 
  some (.norm [x4, x19, x21, x37], H))
  (bR (f251 D n [x19] H) fun x39 H => 
  some (.norm [x4, x19, x21, x31], H))) (f182j4 D n))))
def h182 : Hint := (.s .o (.s (.s .o (.cl (.s .o .o) .o)) (.s .o (.s .o (.s (.s .o (.cl (.s .o .o) .o)) (.s .o (.s (.s .o (.c [4, 6, 7, 8] .o .o)) (.s (.s .o (.b [4, 6] (.l [4, 6, 8, 47, 48] (.s .o (.s (.cr .o .o) (.s (.b0 (.s (.s .o (.b [4, 6, 8, 47, 48] (.l [4, 6, 8, 47, 48, 50, 51, 52] (.s .o (.s (.cr .o .o) (.s (.b0 (.s .o .o)) .o)))))) (.s .o (.cl .o .o)))) .o)))))) (.s (.s .o (.cl (.s .o .o) .o)) (.s .o .o))))))))))
theorem f182_eq (D : Dyn) (n : Nat) : f182 D n = funK (s182 D n) D n 182 Tryz.f182 h182 := by kernel_rfl
theorem f182_ok {D : Dyn} (hD : DG D) (n : Nat) : FI 182 (f182 D n) := fun_ok X_ok hD (SOk.cons (f249_ok hD n).fs (SOk.cons (f251_ok hD n).fs (SOk.cons (f253_ok hD n).fs (SOk.nil)))) Tryz.func182 (by kernel_rfl) (f182_eq D n)

def s90 (D : Dyn) (n : Nat) : Tb := ⟨X, [(181, f181 D n), (182, f182 D n)]⟩
/-- (*jetty/tree.Tree).read -/
def f90 (D : Dyn) (n : Nat) (vs : List AV) (H : AH) : Option (AV × AH) :=
  outR (hd vs fun x0 vs => hd vs fun x1 vs => nl vs <|
  bA (bxV 52 x1) H fun x3 H => 
  bA (bxV 57 (.agg [(.bool false), .nilSlice, .nilSlice, .nilSlice])) H fun x4 H => 
  bV (fAd 0 x3) fun x11 => 
  bV (ld1 x11 H) fun x12 => 
  bV (bInt .eql x12 (.int .i64 (.ofNat 1))) fun x13 => 
  cnd x13 (bV (pNil x0) fun x16 => 
  bV (fAd 5 x16) fun x17 => 
  bV (ld1 x17 H) fun x18 => 
  bV (fAd 2 x3) fun x19 => 
  bV (ld1 x19 H) fun x20 => 
  bV (lkM [10] (.agg [(.bool false), .nilSlice, .nilSlice, .nilSlice]) true x18 x20 H) fun x21 => 
  bV (pExtract x21 0) fun x22 => 
  bV (pExtract x21 1) fun x23 => 
  bA (bxV 57 (.agg [(.bool false), .nilSlice, .nilSlice, .nilSlice])) H fun x6 H => 
  bR (stN 4 x6 x22 H) fun x9999 H => 
  bV (aun .not x23) fun x25 => 
  jn (wnt x25 false (bV (fAd 1 x3) fun x27 => 
  bV (ld1 x27 H) fun x28 => 
  bV (bInt .neq x28 (.int .i64 (.ofNat 0))) fun x29 => 
  some (.norm [x29], H)) (some (.norm [undefA], H))) fun vs H => hd vs fun x29_2 vs => 
  bV (pk3 (some x25) (some (.bool true)) (some x29_2)) fun x30 => 
  cnd x30 (bV (bldS [(0, 1), (1, 1), (2, 1), (3, 1)] [(.bool false), .nilSlice, .nilSlice, .nilSlice] []) fun x31 => 
  bR (stN 4 x4 x31 H) fun x9999_2 H => 
  bV (ldN 4 x4 H) fun x9004 => bV (some (.int .i64 (.ofNat 1))) fun x5 => some (.ret (.tuple [x9004, x5]), H))
  (bV (ldN 4 x6 H) fun x32 => 
  bR (stN 4 x4 x32 H) fun x9999_3 H => 
  bV (ldN 4 x4 H) fun x9004_2 => bV (some (.int .i64 (.ofNat 0))) fun x5_2 => some (.ret (.tuple [x9004_2, x5_2]), H)))
  (bV (ldN 3 x3 H) fun x35 => 
  bR (f181 D n [x0, x35] H) fun x36 H => 
  bV (pExtract x36 0) fun x37 => 
  bV (pExtract x36 1) fun x38 => 
  bV (pExtract x36 2) fun x39 => 
  bV (bInt .neq x39 (.int .i64 (.ofNat 0))) fun x41 => 
  cnd x41 (bV (bldS [(0, 1), (1, 1), (2, 1), (3, 1)] [(.bool false), .nilSlice, .nilSlice, .nilSlice] []) fun x42 => 
  bR (stN 4 x4 x42 H) fun x9999_4 H => 
  bV (ldN 4 x4 H) fun x9004_3 => bV (some x39) fun x5_3 => some (.ret (.tuple [x9004_3, x5_3]), H))
  (bV (bInt .neq x37 (.int .u8 (.ofNat 1))) fun x45 => 
  jn (wnt x45 true (bV (bInt .neq x37 (.int .u8 (.ofNat 2))) fun x48 => 
  some (.norm [x48], H)) (some (.norm [undefA], H))) fun vs H => hd vs fun x48_2 vs => 
  bV (pk3 (some x45) (some x48_2) (some (.bool false))) fun x49 => 
  cnd x49 (bV (bldS [(0, 1), (1, 1), (2, 1), (3, 1)] [(.bool false), .nilSlice, .nilSlice, .nilSlice] []) fun x50 => 
  bR (stN 4 x4 x50 H) fun x9999_5 H => 
  bV (ldN 4 x4 H) fun x9004_4 => bV (some (.int .i64 (.ofNat 4))) fun x5_4 => some (.ret (.tuple [x9004_4, x5_4]), H))
  (bV (bInt .eql x37 (.int .u8 (.ofNat 1))) fun x52 => 
  bR (f182 D n [x52, x38] H) fun x54 H => 
  bV (pExtract x54 0) fun x55 => 
  bV (pExtract x54 1) fun x56 => 
  bR (stN 4 x4 x55 H) fun x9999_6 H => 
  bV (ldN 4 x4 H) fun x9004_5 => bV (some x56) fun x5_5 => some (.ret (.tuple [x9004_5, x5_5]), H)))))
def h90 : Hint := (.s .o (.s (.s .o (.cl (.s .o (.s (.s .o (.cl (.s .o .o) .o)) (.s .o .o))) .o)) (.s .o (.s (.s .o (.cl (.s .o .o) .o)) (.s (.s .o (.cl (.s .o .o) .o)) (.s .o .o))))))
theorem f90_eq (D : Dyn) (n : Nat) : f90 D n = funK (s90 D n) D n 90 Tryz.f90 h90 := by kernel_rfl
theorem f90_ok {D : Dyn} (hD : DG D) (n : Nat) : FI 90 (f90 D n) := fun_ok X_ok hD (SOk.cons (f181_ok hD n).fs (SOk.cons (f182_ok hD n).fs (SOk.nil))) Tryz.func90 (by kernel_rfl) (f90_eq D n)

def s103 (D : Dyn) (n : Nat) : Tb := ⟨X, []⟩
/-- slices.Clone[[]string,string] -/
def f103 (D : Dyn) (n : Nat) (vs : List AV) (H : AH) : Option (AV × AH) :=
  outR (hd vs fun x0 vs => nl vs <|
  bV (cmpO .eql (eqS x0 .nilSlice)) fun x4 => 
  cnd x4 (bV (some .nilSlice) fun x2 => some (.ret x2, H))
  (bA (bldL 9 1 0 [(.str 0 0)] []) H fun x5 H => 
  bR (apP 9 1 16 x5 x0 H) fun x7 H => 
  bV (some x7) fun x2_2 => some (.ret x2_2, H)))
def h103 : Hint := (.s .o (.s (.s .o (.cl (.s .o .o) .o)) (.s .o .o)))
theorem f103_eq (D : Dyn) (n : Nat) : f103 D n = funK (s103 D n) D n 103 Tryz.f103 h103 := by kernel_rfl
theorem f103_ok {D : Dyn} (hD : DG D) (n : Nat) : FI 103 (f103 D n) := fun_ok X_ok hD (SOk.nil) Tryz.func103 (by kernel_rfl) (f103_eq D n)

def s104 (D : Dyn) (n : Nat) : Tb := ⟨X, []⟩
/-- slices.Clone[[]jetty/api.Ptr,jetty/api.Ptr] -/
def f104 (D : Dyn) (n : Nat) (vs : List AV) (H : AH) : Option (AV × AH) :=
  outR (hd vs fun x0 vs => nl vs <|
  bV (cmpO .eql (eqS x0 .nilSlice)) fun x4 => 
  cnd x4 (bV (some .nilSlice) fun x2 => some (.ret x2, H))
  (bA (bldL 52 3 0 [(.int .i64 (.ofNat 0)), (.int .i64 (.ofNat 0)), (.int .u64 (.ofNat 0))] []) H fun x5 H => 
  bR (apP 52 3 24 x5 x0 H) fun x7 H => 
  bV (some x7) fun x2_2 => some (.ret x2_2, H)))
def h104 : Hint := (.s .o (.s (.s .o (.cl (.s .o .o) .o)) (.s .o .o)))
theorem f104_eq (D : Dyn) (n : Nat) : f104 D n = funK (s104 D n) D n 104 Tryz.f104 h104 := by kernel_rfl
theorem f104_ok {D : Dyn} (hD : DG D) (n : Nat) : FI 104 (f104 D n) := fun_ok X_ok hD (SOk.nil) Tryz.func104 (by kernel_rfl) (f104_eq D n)

def s25 (D : Dyn) (n : Nat) : Tb := ⟨X, [(88, f88 D n), (90, f90 D n), (103, f103 D n), (104, f104 D n)]⟩
/-- (*jetty/tree.Tree).Load -/
def f25 (D : Dyn) (n : Nat) (vs : List AV) (H : AH) : Option (AV × AH) :=
  outR (hd vs fun x0 vs => hd vs fun x1 vs => nl vs <|
  bA (bxV 52 x1) H fun x3 H => 
  bA (bxV 57 (.agg [(.bool false), .nilSlice, .nilSlice, .nilSlice])) H fun x4 H => 
  bR (f88 D n [x0] H) fun x9 H => 
  cnd x9 (bV (bldS [(0, 1), (1, 1), (2, 1), (3, 1)] [(.bool false), .nilSlice, .nilSlice, .nilSlice] []) fun x10 => 
  bR (stN 4 x4 x10 H) fun x9999 H => 
  bV (ldN 4 x4 H) fun x9004 => bV (some (.int .i64 (.ofNat 2))) fun x5 => some (.ret (.tuple [x9004, x5]), H))
  (bV (fAd 0 x3) fun x11 => 
  bV (ld1 x11 H) fun x12 => 
  bV (bInt .eql x12 (.int .i64 (.ofNat 0))) fun x13 => 
  cnd x13 (bV (bldS [(0, 1), (1, 1), (2, 1), (3, 1)] [(.bool false), .nilSlice, .nilSlice, .nilSlice] []) fun x14 => 
  bR (stN 4 x4 x14 H) fun x9999_2 H => 
  bV (ldN 4 x4 H) fun x9004_2 => bV (some (.int .i64 (.ofNat 1))) fun x5_2 => some (.ret (.tuple [x9004_2, x5_2]), H))
  (bV (ldN 3 x3 H) fun x17 => 
  bR (f90 D n [x0, x17] H) fun x18 H => 
  bV (pExtract x18 0) fun x19 => 
  bV (pExtract x18 1) fun x20 => 
  bA (bxV 57 (.agg [(.bool false), .nilSlice, .nilSlice, .nilSlice])) H fun x6 H => 
  bR (stN 4 x6 x19 H) fun x9999_3 H => 
  bV (bInt .neq x20 (.int .i64 (.ofNat 0))) fun x22 => 
  cnd x22 (bV (bldS [(0, 1), (1, 1), (2, 1), (3, 1)] [(.bool false), .nilSlice, .nilSlice, .nilSlice] []) fun x23 => 
  bR (stN 4 x4 x23 H) fun x9999_4 H => 
  bV (ldN 4 x4 H) fun x9004_3 => bV (some x20) fun x5_3 => some (.ret (.tuple [x9004_3, x5_3]), H))
  (bV (fAd 0 x6) fun x25 => 
  bV (ld1 x25 H) fun x26 => 
  bV (fAd 1 x6) fun x27 => 
  bV (ld1 x27 H) fun x28 => 
  bV (fAd 2 x6) fun x30 => 
  bV (ld1 x30 H) fun x31 => 
  bV (fAd 3 x6) fun x33 => 
  bV (ld1 x33 H) fun x34 => 
  bR (f103 D n [x28] H) fun x29 H => chk (ld1 x25 H) x26 <| chk (ld1 x30 H) x31 <| chk (ld1 x33 H) x34 <| 
  bR (f103 D n [x31] H) fun x32 H => chk (ld1 x25 H) x26 <| chk (ld1 x33 H) x34 <| 
  bR (f104 D n [x34] H) fun x35 H => chk (ld1 x25 H) x26 <| 
  bV (bldS [(0, 1), (1, 1), (2, 1), (3, 1)] [(.bool false), .nilSlice, .nilSlice, .nilSlice] [(0, x26), (1, x29), (2, x32), (3, x35)]) fun x36 => 
  bR (stN 4 x4 x36 H) fun x9999_5 H => 
  bV (ldN 4 x4 H) fun x9004_4 => bV (some (.int .i64 (.ofNat 0))) fun x5_4 => some (.ret (.tuple [x9004_4, x5_4]), H)))))
def h25 : Hint := (.s .o (.s (.s .o (.cl (.s .o .o) .o)) (.s (.s .o (.cl (.s .o .o) .o)) (.s .o (.s (.s .o (.cl (.s .o .o) .o)) (.s .o .o))))))
theorem f25_eq (D : Dyn) (n : Nat) : f25 D n = funK (s25 D n) D n 25 Tryz.f25 h25 := by kernel_rfl
theorem f25_ok {D : Dyn} (hD : DG D) (n : Nat) : FI 25 (f25 D n) := fun_ok X_ok hD (SOk.cons (f88_ok hD n).fs (SOk.cons (f90_ok hD n).fs (SOk.cons (f103_ok hD n).fs (SOk.cons (f104_ok hD n).fs (SOk.nil))))) Tryz.func25 (by kernel_rfl) (f25_eq D n)

def s91 (D : Dyn) (n : Nat) : Tb := ⟨X, []⟩
def f91j0 (D : Dyn) (n : Nat) (vs : List AV) (H : AH) : Rs :=
  hd vs fun x1_3 vs => hd vs fun x2_3 vs => hd vs fun x5_2 vs => hd vs fun x9_3 vs => hd vs fun x10_3 vs => hd vs fun x11_2 vs => 
  bV (bInt .add x11_2 (.int .i64 (.ofNat 1))) fun x30 => 
  some (.norm [x1_3, x2_3, x5_2, x9_3, x10_3, x30], H)
def f91l1 (D : Dyn) (n : Nat) (vs : List AV) (H : AH) : Rs :=
  hd vs fun x1_2 vs => hd vs fun x2_2 vs => hd vs fun x5 vs => hd vs fun x9_2 vs => hd vs fun x10_2 vs => hd vs fun x11 vs => 
  bV (bInt .lss x11 x10_2) fun x12 => 
  cnd x12 (bV (ixSl 1 x9_2 x11) fun x13 => 
  bV (ld1 x13 H) fun x14 => 
  bV (bStr .lss x14 x1_2) fun x17 => 
  jn (wnt x17 false (bV (fAd 0 x2_2) fun x19 => 
  bV (ld1 x19 H) fun x20 => 
  bV (aun .not x20) fun x21 => 
  some (.norm [x21], H)) (some (.norm [undefA], H))) fun vs H => hd vs fun x22 vs => 
  jn (wnt x22 true (bV (bStr .eql x14 x1_2) fun x25 => 
  some (.norm [x25], H)) (some (.norm [undefA], H))) fun vs H => hd vs fun x25_2 vs => 
  jn (wnt x17 false (bV (pk3 (some x22) (some x25_2) (some (.bool false))) fun x26 => 
  some (.norm [x26], H)) (some (.norm [undefA], H))) fun vs H => hd vs fun x26_2 vs => 
  bV (pk3 (some x17) (some (.bool true)) (some x26_2)) fun x27 => 
  jn (cnd x27 (bV (bInt .add x5 (.int .i64 (.ofNat 1))) fun x29 => 
  some (.norm [x1_2, x2_2, x29, x9_2, x10_2, x11], H))
  (some (.norm [x1_2, x2_2, x5, x9_2, x10_2, x11], H))) (f91j0 D n))
  (some (.exit 0 [x5], H))
def f91b2 (D : Dyn) (n : Nat) (vs : List AV) (H : AH) : Rs :=
  hd vs fun x5_3 vs => 
  bV (some x5_3) fun x4 => some (.ret x4, H)
/-- jetty/node.Where -/
def f91 (D : Dyn) (n : Nat) (vs : List AV) (H : AH) : Option (AV × AH) :=
  outR (hd vs fun x0 vs => hd vs fun x1 vs => nl vs <|
  bA (bxV 57 x0) H fun x2 H => 
  bV (fAd 1 x2) fun x8 => 
  bV (ld1 x8 H) fun x9 => 
  bV (lnSl x9) fun x10 => 
  jb 0 (loopK n (f91l1 D n) [x1, x2, (.int .i64 (.ofNat 0)), x9, x10, (.int .i64 (.ofNat 0))] H) (f91b2 D n))
def h91 : Hint := (.s .o (.s .o (.s (.s .o (.b [5] (.l [1, 2, 5, 9, 10, 11] (.s .o (.s (.cr .o .o) (.s (.b0 (.s .o (.s .o (.c [1, 2, 5, 9, 10, 11] .o .o)))) .o)))))) (.s .o .o))))
theorem f91_eq (D : Dyn) (n : Nat) : f91 D n = funK (s91 D n) D n 91 Tryz.f91 h91 := by kernel_rfl
theorem f91_ok {D : Dyn} (hD : DG D) (n : Nat) : FI 91 (f91 D n) := fun_ok X_ok hD (SOk.nil) Tryz.func91 (by kernel_rfl) (f91_eq D n)

def s215 (D : Dyn) (n : Nat) : Tb := ⟨X, [(25, f25 D n), (91, f91 D n)]⟩
def f215l0 (D : Dyn) (n : Nat) (vs : List AV) (H : AH) : Rs :=
  hd vs fun x0_3 vs => hd vs fun x2_3 vs => hd vs fun x3_3 vs => hd vs fun x4_3 vs => hd vs fun x5_3 vs => hd vs fun x13_3 vs => hd vs fun x15 vs => hd vs fun x16 vs => 
  bV (fAd 3 x13_3) fun x77 => 
  bV (ld1 x77 H) fun x78 => 
  bV (lnSl x78) fun x79 => 
  bV (bInt .lss x16 x79) fun x80 => 
  cnd x80 (bV (bInt .gtr x16 x15) fun x85 => 
  jn (wnt x85 true (bV (bStr .neq x3_3 (.str 0 0)) fun x88 => 
  some (.norm [x88], H)) (some (.norm [undefA], H))) fun vs H => hd vs fun x88_2 vs => 
  bV (pk3 (some x85) (some x88_2) (some (.bool false))) fun x89 => 
  jn (wnt x89 true (bV (fAd 1 x13_3) fun x91 => 
  bV (ld1 x91 H) fun x92 => 
  bV (bInt .sub x16 (.int .i64 (.ofNat 1))) fun x94 => 
  bV (ixSl 1 x92 x94) fun x95 => 
  bV (ld1 x95 H) fun x96 => 
  bV (bStr .geq x96 x3_3) fun x98 => 
  some (.norm [x98], H)) (some (.norm [undefA], H))) fun vs H => hd vs fun x98_2 vs => 
  bV (pk3 (some x89) (some x98_2) (some (.bool false))) fun x99 => 
  cnd x99 (some (.exit 0 [], H))
  (bV (fAd 3 x13_3) fun x101 => 
  bV (ld1 x101 H) fun x102 => 
  bV (ixSl 3 x102 x16) fun x104 => 
  bV (ldN 3 x104 H) fun x105 => 
  bR (D.fn 215 [x0_3, x105, x2_3, x3_3, x4_3, x5_3] H) fun x110 H => 
  bV (aun .not x110) fun x111 => 
  cnd x111 (bV (some (.bool false)) fun x12_5 => some (.ret x12_5, H))
  (bV (bInt .add x16 (.int .i64 (.ofNat 1))) fun x82 => 
  some (.norm [x0_3, x2_3, x3_3, x4_3, x5_3, x13_3, x15, x82], H))))
  (some (.exit 0 [], H))
def f215b1 (D : Dyn) (n : Nat) (vs : List AV) (H : AH) : Rs :=
  
  bV (some (.bool true)) fun x12_6 => some (.ret x12_6, H)
def f215j2 (D : Dyn) (n : Nat) (vs : List AV) (H : AH) : Rs :=
  hd vs fun x0_2 vs => hd vs fun x2_2 vs => hd vs fun x3_2 vs => hd vs fun x4_2 vs => hd vs fun x5_2 vs => hd vs fun x7_2 vs => hd vs fun x13_2 vs => 
  bV (pNil x0_2) fun x59 => 
  bV (fAd 3 x59) fun x60 => 
  bV (ld1 x60 H) fun x61 => 
  bV (bInt .neq x61 (.int .i64 (.ofNat 0))) fun x62 => 
  jn (wnt x62 false (bV (ldN 3 x7_2 H) fun x65 => 
  bV (ldN 4 x13_2 H) fun x66 => 
  bR (callV (s215 D n).S D x5_2 [x65, x66] H) fun x67 H => 
  bV (aun .not x67) fun x68 => 
  some (.norm [x68], H)) (some (.norm [undefA], H))) fun vs H => hd vs fun x68_2 vs => 
  bV (pk3 (some x62) (some (.bool true)) (some x68_2)) fun x69 => 
  cnd x69 (bV (some (.bool false)) fun x12_3 => some (.ret x12_3, H))
  (bV (fAd 0 x13_2) fun x70 => 
  bV (ld1 x70 H) fun x71 => 
  cnd x71 (bV (some (.bool true)) fun x12_4 => some (.ret x12_4, H))
  (bV (ldN 4 x13_2 H) fun x72 => 
  bR (f91 D n [x72, x2_2] H) fun x74 H => 
  jb 0 (loopK n (f215l0 D n) [x0_2, x2_2, x3_2, x4_2, x5_2, x13_2, x74, x74] H) (f215b1 D n)))
/-- (*jetty/walk.walker).down -/
def f215 (D : Dyn) (n : Nat) (vs : List AV) (H : AH) : Option (AV × AH) :=
  outR (hd vs fun x0 vs => hd vs fun x1 vs => hd vs fun x2 vs => hd vs fun x3 vs => hd vs fun x4 vs => hd vs fun x5 vs => nl vs <|
  bA (bxV 52 x1) H fun x7 H => 
  bV (ldN 3 x7 H) fun x18 => 
  bR (callV (s215 D n).S D x4 [x18] H) fun x19 H => 
  cnd x19 (bV (some (.bool true)) fun x12 => some (.ret x12, H))
  (bV (pNil x0) fun x21 => 
  bV (fAd 2 x21) fun x22 => 
  bV (ld1 x22 H) fun x23 => 
  bV (bInt .sub x23 (.int .i64 (.ofNat 1))) fun x24 => 
  bV (pNil x0) fun x25 => 
  bV (fAd 2 x25) fun x26 => 
  bR (stN 1 x26 x24 H) fun x9999 H => 
  bV (pNil x0) fun x28 => 
  bV (fAd 2 x28) fun x29 => 
  bV (ld1 x29 H) fun x30 => 
  bV (bInt .lss x30 (.int .i64 (.ofNat 0))) fun x31 => 
  cnd x31 (bV (pNil x0) fun x33 => 
  bV (fAd 3 x33) fun x34 => 
  bR (stN 1 x34 (.int .i64 (.ofNat 4)) H) fun x9999_2 H => 
  bV (some (.bool false)) fun x12_2 => some (.ret x12_2, H))
  (bV (pNil x0) fun x37 => 
  bV (fAd 1 x37) fun x38 => 
  bV (ld1 x38 H) fun x39 => 
  bV (ldN 3 x7 H) fun x40 => 
  bV (lkM (1 :: [6, 6, 10]) (.agg [(.bool false), .nilSlice, .nilSlice, .nilSlice]) true x39 x40 H) fun x41 => 
  bV (pExtract x41 0) fun x42 => 
  bV (pExtract x41 1) fun x43 => 
  bA (bxV 57 (.agg [(.bool false), .nilSlice, .nilSlice, .nilSlice])) H fun x13 H => 
  bR (stN 4 x13 x42 H) fun x9999_3 H => 
  bV (aun .not x43) fun x45 => 
  jn (cnd x45 (bV (pNil x0) fun x49 => 
  bV (fAd 0 x49) fun x50 => 
  bV (ld1 x50 H) fun x51 => 
  bV (ldN 3 x7 H) fun x52 => 
  bR (f25 D n [x51, x52] H) fun x53 H => 
  bV (pExtract x53 0) fun x54 => 
  bV (pExtract x53 1) fun x55 => 
  bR (stN 4 x13 x54 H) fun x9999_4 H => 
  bV (pNil x0) fun x56 => 
  bV (fAd 3 x56) fun x57 => 
  bR (stN 1 x57 x55 H) fun x9999_5 H => 
  some (.norm [x0, x2, x3, x4, x5, x7, x13], H))
  (some (.norm [x0, x2, x3, x4, x5, x7, x13], H))) (f215j2 D n))))
def h215 : Hint := (.s .o (.s (.s .o (.cl (.s .o .o) .o)) (.s (.s .o (.s .o (.cl (.s .o (.s .o .o)) .o))) (.s .o (.s (.s .o (.c [0, 2, 3, 4, 5, 7, 13] .o .o)) (.s (.s .o (.cl (.s .o .o) .o)) (.s (.s .o (.cl (.s .o .o) .o)) (.s .o (.s (.s .o (.b [] (.l [0, 2, 3, 4, 5, 13, 15, 16] (.s (.s .o (.cr .o .o)) (.s (.b0 (.s (.s .o (.cl .o .o)) (.s .o (.cl (.s .o .o) .o)))) .o))))) (.s .o .o))))))))))
theorem f215_eq (D : Dyn) (n : Nat) : f215 D n = funK (s215 D n) D n 215 Tryz.f215 h215 := by kernel_rfl
theorem f215_ok {D : Dyn} (hD : DG D) (n : Nat) : FI 215 (f215 D n) := fun_ok X_ok hD (SOk.cons (f25_ok hD n).fs (SOk.cons (f91_ok hD n).fs (SOk.nil))) Tryz.func215 (by kernel_rfl) (f215_eq D n)

def s214 (D : Dyn) (n : Nat) : Tb := ⟨X, [(97, f97 D n), (215, f215 D n)]⟩
def f214j0 (D : Dyn) (n : Nat) (vs : List AV) (H : AH) : Rs :=
  
  some (.ret (.tuple []), H)
/-- (*jetty/walk.walker).nodes$1 -/
def f214 (D : Dyn) (n : Nat) (vs : List AV) (H : AH) : Option (AV × AH) :=
  outR (hd vs fun x0 vs => hd vs fun x1 vs => hd vs fun x2 vs => hd vs fun x3 vs => hd vs fun x4 vs => nl vs <|
  bV (ld1 x1 H) fun x7 => 
  bV (pNil x7) fun x8 => 
  bV (fAd 0 x8) fun x9 => 
  bV (ld1 x9 H) fun x10 => 
  bR (f97 D n [x10] H) fun x11 H => 
  bA (bxV 52 (.agg [(.int .i64 (.ofNat 0)), (.int .i64 (.ofNat 0)), (.int .u64 (.ofNat 0))])) H fun x6 H => 
  bR (stN 3 x6 x11 H) fun x9999 H => 
  bV (fAd 0 x6) fun x12 => 
  bV (ld1 x12 H) fun x13 => 
  bV (bInt .neq x13 (.int .i64 (.ofNat 0))) fun x14 => 
  jn (wnt x14 true (bV (ld1 x2 H) fun x16 => 
  bV (bStr .eql x16 (.str 0 0)) fun x17 => 
  some (.norm [x17], H)) (some (.norm [undefA], H))) fun vs H => hd vs fun x18 vs => 
  jn (wnt x18 false (bV (ld1 x3 H) fun x19 => 
  bV (ld1 x2 H) fun x20 => 
  bV (bStr .lss x19 x20) fun x21 => 
  some (.norm [x21], H)) (some (.norm [undefA], H))) fun vs H => hd vs fun x21_2 vs => 
  jn (wnt x14 true (bV (pk3 (some x18) (some (.bool true)) (some x21_2)) fun x22 => 
  some (.norm [x22], H)) (some (.norm [undefA], H))) fun vs H => hd vs fun x22_2 vs => 
  bV (pk3 (some x14) (some x22_2) (some (.bool false))) fun x23 => 
  jn (cnd x23 (bV (ld1 x1 H) fun x24 => 
  bV (ldN 3 x6 H) fun x25 => 
  bV (ld1 x3 H) fun x26 => 
  bV (ld1 x2 H) fun x27 => 
  bV (ld1 x4 H) fun x28 => 
  bR (f215 D n [x24, x25, x26, x27, x28, x0] H) fun x30 H => 
  some (.norm [], H))
  (some (.norm [], H))) (f214j0 D n))
def h214 : Hint := (.s .o (.s .o (.c [] .o .o)))
theorem f214_eq (D : Dyn) (n : Nat) : f214 D n = funK (s214 D n) D n 214 Tryz.f214 h214 := by kernel_rfl
theorem f214_ok {D : Dyn} (hD : DG D) (n : Nat) : FI 214 (f214 D n) := fun_ok X_ok hD (SOk.cons (f97_ok hD n).fs (SOk.cons (f215_ok hD n).fs (SOk.nil))) Tryz.func214 (by kernel_rfl) (f214_eq D n)

def s126 (D : Dyn) (n : Nat) : Tb := ⟨X, []⟩
/-- (*jetty/walk.walker).nodes -/
def f126 (D : Dyn) (n : Nat) (vs : List AV) (H : AH) : Option (AV × AH) :=
  outR (hd vs fun x0 vs => hd vs fun x1 vs => hd vs fun x2 vs => hd vs fun x3 vs => nl vs <|
  bA (bxV 179 x0) H fun x4 H => 
  bA (bxV 9 x1) H fun x5 H => 
  bA (bxV 9 x2) H fun x6 H => 
  bA (bxV 184 x3) H fun x7 H => 
  bV (some (.func 214 [] [x4, x6, x5, x7])) fun x8 => some (.ret x8, H))
def h126 : Hint := (.s .o (.s .o .o))
theorem f126_eq (D : Dyn) (n : Nat) : f126 D n = funK (s126 D n) D n 126 Tryz.f126 h126 := by kernel_rfl
theorem f126_ok {D : Dyn} (hD : DG D) (n : Nat) : FI 126 (f126 D n) := fun_ok X_ok hD (SOk.nil) Tryz.func126 (by kernel_rfl) (f126_eq D n)

def s213 (D : Dyn) (n : Nat) : Tb := ⟨X, [(126, f126 D n), (91, f91 D n)]⟩
/-- (*jetty/walk.walker).pairs$1 -/
def f213 (D : Dyn) (n : Nat) (vs : List AV) (H : AH) : Option (AV × AH) :=
  outR (hd vs fun x0 vs => hd vs fun x1 vs => hd vs fun x2 vs => hd vs fun x3 vs => hd vs fun x4 vs => nl vs <|
  bA (bxV 301 x0) H fun x5 H => 
  bV (ld1 x1 H) fun x9 => 
  bV (ld1 x2 H) fun x10 => 
  bV (ld1 x3 H) fun x11 => 
  bV (ld1 x4 H) fun x12 => 
  bR (f126 D n [x9, x10, x11, x12] H) fun x13 H => 
  newB H (.loop ⟨.ready, none, 213, 0, [2, 3, 5], [x2, x3, x5]⟩) fun A H => bR (rfC (s213 D n).S D x13 A H) fun _ H => endLp A H fun j H => jmpK j (
  some (.ret (.tuple []), H))
  (fun id => none) (some (.ret (.tuple []), H)))
def h213 : Hint := (.s .o (.s .o (.b0 (.rf 0 [2, 3, 5]))))
theorem f213_eq (D : Dyn) (n : Nat) : f213 D n = funK (s213 D n) D n 213 Tryz.f213 h213 := by kernel_rfl
theorem f213_ok {D : Dyn} (hD : DG D) (n : Nat) : FI 213 (f213 D n) := fun_ok X_ok hD (SOk.cons (f126_ok hD n).fs (SOk.cons (f91_ok hD n).fs (SOk.nil))) Tryz.func213 (by kernel_rfl) (f213_eq D n)
def f213l0 (D : Dyn) (n : Nat) (vs : List AV) (H : AH) : Rs :=
  hd vs fun x3_2 vs => hd vs fun x5_2 vs => hd vs fun x7_2 vs => hd vs fun x8 vs => 
  bV (fAd 1 x7_2) fun x23 => 
  bV (ld1 x23 H) fun x24 => 
  bV (lnSl x24) fun x25 => 
  bV (bInt .lss x8 x25) fun x26 => 
  cnd x26 (bV (ld1 x3_2 H) fun x29 => 
  bV (bStr .neq x29 (.str 0 0)) fun x30 => 
  jn (wnt x30 true (bV (fAd 1 x7_2) fun x32 => 
  bV (ld1 x32 H) fun x33 => 
  bV (ixSl 1 x33 x8) fun x35 => 
  bV (ld1 x35 H) fun x36 => 
  bV (ld1 x3_2 H) fun x37 => 
  bV (bStr .geq x36 x37) fun x38 => 
  some (.norm [x38], H)) (some (.norm [undefA], H))) fun vs H => hd vs fun x38_2 vs => 
  bV (pk3 (some x30) (some x38_2) (some (.bool false))) fun x39 => 
  jn (wnt x39 false (bV (ld1 x5_2 H) fun x41 => 
  bV (fAd 1 x7_2) fun x42 => 
  bV (ld1 x42 H) fun x43 => 
  bV (ixSl 1 x43 x8) fun x45 => 
  bV (ld1 x45 H) fun x46 => 
  bV (fAd 2 x7_2) fun x47 => 
  bV (ld1 x47 H) fun x48 => 
  bV (ixSl 1 x48 x8) fun x50 => 
  bV (ld1 x50 H) fun x51 => 
  bV (bldS [(0, 1), (1, 1)] [(.str 0 0), (.str 0 0)] [(0, x46), (1, x51)]) fun x52 => 
  bR (callV (s213 D n).S D x41 [x52] H) fun x53 H => 
  bV (aun .not x53) fun x54 => 
  some (.norm [x54], H)) (some (.norm [undefA], H))) fun vs H => hd vs fun x54_2 vs => 
  bV (pk3 (some x39) (some (.bool true)) (some x54_2)) fun x55 => 
  cnd x55 (some (.ret (.tuple []), H))
  (bV (bInt .add x8 (.int .i64 (.ofNat 1))) fun x28 => 
  some (.norm [x3_2, x5_2, x7_2, x28], H)))
  (some (.exit 2 [], H))
def f213b1 (D : Dyn) (n : Nat) (vs : List AV) (H : AH) : Rs :=
  
  some (.norm [], H)
def f213b2 (D : Dyn) (n : Nat) (vs : List AV) (H : AH) : Rs :=
  
  some (.norm [], H)
def r213_0 (D : Dyn) (n : Nat) (A : Nat) (l : ALoop) (az : List AV) (H : AH) : Option (AV × AH) :=
  bif eqNL [2, 3, 5] l.live then endQ A (hd l.vals fun x2 vs => hd vs fun x3 vs => hd vs fun x5 vs => hd az fun x14 az => hd az fun x15 az => nl az <|
  bA (bxV 57 (.agg [(.bool false), .nilSlice, .nilSlice, .nilSlice])) H fun x7 H => 
  bR (stN 4 x7 x15 H) fun x9999 H => 
  beginK A H fun H => 
  jb 1 (bV (fAd 0 x7) fun x16 => 
  bV (ld1 x16 H) fun x17 => 
  bV (aun .not x17) fun x18 => 
  cnd x18 (some (.exit 1 [], H))
  (bV (ldN 4 x7 H) fun x19 => 
  bV (ld1 x2 H) fun x20 => 
  bR (f91 D n [x19, x20] H) fun x21 H => 
  jb 2 (loopK n (f213l0 D n) [x3, x5, x7, x21] H) (f213b1 D n))) (f213b2 D n)) else none
def r213_0a : Hint := .o
def r213_0b : Hint := (.b [] (.s (.s .o (.cl .o .o)) (.s .o (.b [] (.l [3, 5, 7, 8] (.s (.s .o (.cr .o .o)) (.s (.b0 (.s .o (.cl .o .o))) .o)))))))
theorem r213_0_eq (D : Dyn) (n : Nat) : r213_0 D n = rndK (s213 D n) D n 213 0 [2, 3, 5] [] r213_0a r213_0b := by kernel_rfl
theorem r213_0_ok {D : Dyn} (hD : DG D) (n : Nat) : RS 213 0 (r213_0 D n) := round_ok X_ok hD (SOk.cons (f126_ok hD n).fs (SOk.cons (f91_ok hD n).fs (SOk.nil))) (by kernel_rfl) (r213_0_eq D n)

def s124 (D : Dyn) (n : Nat) : Tb := ⟨X, []⟩
/-- (*jetty/walk.walker).pairs -/
def f124 (D : Dyn) (n : Nat) (vs : List AV) (H : AH) : Option (AV × AH) :=
  outR (hd vs fun x0 vs => hd vs fun x1 vs => hd vs fun x2 vs => hd vs fun x3 vs => nl vs <|
  bA (bxV 179 x0) H fun x4 H => 
  bA (bxV 9 x1) H fun x5 H => 
  bA (bxV 9 x2) H fun x6 H => 
  bA (bxV 184 x3) H fun x7 H => 
  bV (some (.func 213 [] [x4, x5, x6, x7])) fun x8 => some (.ret x8, H))
def h124 : Hint := (.s .o (.s .o .o))
theorem f124_eq (D : Dyn) (n : Nat) : f124 D n = funK (s124 D n) D n 124 Tryz.f124 h124 := by kernel_rfl
theorem f124_ok {D : Dyn} (hD : DG D) (n : Nat) : FI 124 (f124 D n) := fun_ok X_ok hD (SOk.nil) Tryz.func124 (by kernel_rfl) (f124_eq D n)

def s125 (D : Dyn) (n : Nat) : Tb := ⟨X, []⟩
/-- jetty/walk.all -/
def f125 (D : Dyn) (n : Nat) (vs : List AV) (H : AH) : Option (AV × AH) :=
  outR (hd vs fun x0 vs => nl vs <|
  bA (bxV 52 x0) H fun x1 H => 
  bV (some (.bool false)) fun x2 => some (.ret x2, H))
def h125 : Hint := (.s .o (.s .o .o))
theorem f125_eq (D : Dyn) (n : Nat) : f125 D n = funK (s125 D n) D n 125 Tryz.f125 h125 := by kernel_rfl
theorem f125_ok {D : Dyn} (hD : DG D) (n : Nat) : FI 125 (f125 D n) := fun_ok X_ok hD (SOk.nil) Tryz.func125 (by kernel_rfl) (f125_eq D n)

def s34 (D : Dyn) (n : Nat) : Tb := ⟨X, [(123, f123 D n), (124, f124 D n)]⟩
def f34b0 (D : Dyn) (n : Nat) (vs : List AV) (H : AH) : Rs :=
  hd vs fun x11 vs => hd vs fun x12_2 vs => hd vs fun x13_2 vs => 
  bV (pNil x11) fun x35 => 
  bV (fAd 3 x35) fun x36 => 
  bV (ld1 x36 H) fun x37 => 
  bV (bInt .neq x37 (.int .i64 (.ofNat 0))) fun x38 => 
  cnd x38 (bV (pNil x11) fun x40 => 
  bV (fAd 3 x40) fun x41 => 
  bV (ld1 x41 H) fun x42 => 
  bV (some .nilSlice) fun x8_4 => bV (some (.bool false)) fun x9_4 => bV (some x42) fun x10_4 => some (.ret (.tuple [x8_4, x9_4, x10_4]), H))
  (bV (ld1 x12_2 H) fun x43 => 
  bV (ld1 x13_2 H) fun x44 => 
  bV (some x43) fun x8_5 => bV (some x44) fun x9_5 => bV (some (.int .i64 (.ofNat 0))) fun x10_5 => some (.ret (.tuple [x8_5, x9_5, x10_5]), H))
/-- jetty/walk.Range -/
def f34 (D : Dyn) (n : Nat) (vs : List AV) (H : AH) : Option (AV × AH) :=
  outR (hd vs fun x0 vs => hd vs fun x1 vs => hd vs fun x2 vs => hd vs fun x3 vs => nl vs <|
  bA (bxV 3 x3) H fun x7 H => 
  bV (cmpO .eql (eqP x0 .nilPtr)) fun x16 => 
  cnd x16 (bV (some .nilSlice) fun x8 => bV (some (.bool false)) fun x9 => bV (some (.int .i64 (.ofNat 2))) fun x10 => some (.ret (.tuple [x8, x9, x10]), H))
  (bV (ld1 x7 H) fun x17 => 
  bV (bInt .lss x17 (.int .i64 (.ofNat 0))) fun x18 => 
  cnd x18 (bV (some .nilSlice) fun x8_2 => bV (some (.bool false)) fun x9_2 => bV (some (.int .i64 (.ofNat 1))) fun x10_2 => some (.ret (.tuple [x8_2, x9_2, x10_2]), H))
  (bR (f123 D n [x0] H) fun x20 H => 
  bA (bxV 40 .nilSlice) H fun x12 H => 
  bA (bxV 4 (.bool false)) H fun x13 H => 
  bR (stN 1 x13 (.bool false) H) fun x9999 H => 
  bR (f124 D n [x20, x1, x2, (.func 125 [] [])] H) fun x24 H => 
  jb 0 (newB H (.loop ⟨.ready, none, 34, 0, [7, 12, 13], [x7, x12, x13]⟩) fun A H => bR (rfC (s34 D n).S D x24 A H) fun _ H => endLp A H fun j H => jmpK j (
  some (.norm [x20, x12, x13], H))
  (fun id => cond (Nat.beq 0 id) (some (.exit id [x20, x12, x13], H)) (none)) (bV (some .nilSlice) fun x8_3 => bV (some (.bool false)) fun x9_3 => bV (some (.int .i64 (.ofNat 0))) fun x10_3 => some (.ret (.tuple [x8_3, x9_3, x10_3]), H))) (f34b0 D n))))
def h34 : Hint := (.s .o (.s (.s .o (.cl (.s .o .o) .o)) (.s (.s .o (.cl (.s .o .o) .o)) (.s .o (.s .o (.s .o (.s (.s .o (.b [11, 12, 13] (.rf 0 [7, 12, 13]))) (.s (.s .o (.cl (.s .o .o) .o)) (.s .o .o)))))))))
theorem f34_eq (D : Dyn) (n : Nat) : f34 D n = funK (s34 D n) D n 34 Tryz.f34 h34 := by kernel_rfl
theorem f34_ok {D : Dyn} (hD : DG D) (n : Nat) : FI 34 (f34 D n) := fun_ok X_ok hD (SOk.cons (f123_ok hD n).fs (SOk.cons (f124_ok hD n).fs (SOk.nil))) Tryz.func34 (by kernel_rfl) (f34_eq D n)
def r34_0 (D : Dyn) (n : Nat) (A : Nat) (l : ALoop) (az : List AV) (H : AH) : Option (AV × AH) :=
  bif eqNL [7, 12, 13] l.live then endQ A (hd l.vals fun x7 vs => hd vs fun x12 vs => hd vs fun x13 vs => hd az fun x25 az => nl az <|
  bA (bxV 36 (.agg [(.str 0 0), (.str 0 0)])) H fun x14 H => 
  bR (stN 2 x14 x25 H) fun x9999 H => 
  beginK A H fun H => 
  bV (ld1 x12 H) fun x26 => 
  bV (lnSl x26) fun x27 => 
  bV (ld1 x7 H) fun x28 => 
  bV (bInt .eql x27 x28) fun x29 => 
  cnd x29 (bR (stN 1 x13 (.bool true) H) fun x9999_2 H => 
  some (.exit 0 [], H))
  (bV (ld1 x12 H) fun x30 => 
  bV (ldN 2 x14 H) fun x31 => 
  bA (bldL 36 2 1 [(.str 0 0), (.str 0 0)] [(0, x31)]) H fun x32 H => 
  bR (apP 36 2 32 x30 x32 H) fun x33 H => 
  bR (stN 1 x12 x33 H) fun x9999_3 H => 
  some (.norm [], H))) else none
def r34_0a : Hint := .o
def r34_0b : Hint := (.b0 (.s (.s .o (.cl (.s .o .o) .o)) .o))
theorem r34_0_eq (D : Dyn) (n : Nat) : r34_0 D n = rndK (s34 D n) D n 34 0 [7, 12, 13] [0] r34_0a r34_0b := by kernel_rfl
theorem r34_0_ok {D : Dyn} (hD : DG D) (n : Nat) : RS 34 0 (r34_0 D n) := round_ok X_ok hD (SOk.cons (f123_ok hD n).fs (SOk.cons (f124_ok hD n).fs (SOk.nil))) (by kernel_rfl) (r34_0_eq D n)

def s245 (D : Dyn) (n : Nat) : Tb := ⟨X, [(180, f180 D n), (38, f38 D n), (34, f34 D n)]⟩
def f245l0 (D : Dyn) (n : Nat) (vs : List AV) (H : AH) : Rs :=
  hd vs fun x0_2 vs => hd vs fun x26 vs => hd vs fun x27_2 vs => hd vs fun x28 vs => 
  bV (bInt .lss x28 x27_2) fun x29 => 
  cnd x29 (bV (ixSl 2 x26 x28) fun x30 => 
  bV (ldN 2 x30 H) fun x31 => 
  bA (bxV 36 (.agg [(.str 0 0), (.str 0 0)])) H fun x8 H => 
  bR (stN 2 x8 x31 H) fun x9999 H => 
  bV (ldN 2 x8 H) fun x33 => 
  bR (callV (s245 D n).S D x0_2 [x33, (.int .i64 (.ofNat 0))] H) fun x34 H => 
  bV (aun .not x34) fun x35 => 
  cnd x35 (some (.ret (.tuple []), H))
  (bV (bInt .add x28 (.int .i64 (.ofNat 1))) fun x36 => 
  some (.norm [x0_2, x26, x27_2, x36], H)))
  (some (.exit 0 [], H))
def f245b1 (D : Dyn) (n : Nat) (vs : List AV) (H : AH) : Rs :=
  
  some (.ret (.tuple []), H)
/-- jetty/drc.pairs$1 -/
def f245 (D : Dyn) (n : Nat) (vs : List AV) (H : AH) : Option (AV × AH) :=
  outR (hd vs fun x0 vs => hd vs fun x1 vs => hd vs fun x2 vs => nl vs <|
  bV (ld1 x1 H) fun x10 => 
  bV (ld1 x2 H) fun x11 => 
  bV (ld1 x2 H) fun x13 => 
  bR (f180 D n [x11] H) fun x12 H => chk (ld1 x1 H) x10 <| chk (ld1 x2 H) x13 <| 
  bR (f180 D n [x13] H) fun x14 H => chk (ld1 x1 H) x10 <| 
  bR (f38 D n [x14] H) fun x15 H => chk (ld1 x1 H) x10 <| 
  bR (f34 D n [x10, x12, x15, (.int .i64 (.ofNat 2147483647))] H) fun x16 H => 
  bV (pExtract x16 0) fun x17 => 
  bV (pExtract x16 1) fun x18 => 
  bV (pExtract x16 2) fun x19 => 
  bV (bInt .neq x19 (.int .i64 (.ofNat 0))) fun x21 => 
  cnd x21 (bV (bldS [(0, 1), (1, 1)] [(.str 0 0), (.str 0 0)] []) fun x23 => 
  bR (callV (s245 D n).S D x0 [x23, x19] H) fun x25 H => 
  some (.ret (.tuple []), H))
  (bV (lnSl x17) fun x27 => 
  jb 0 (loopK n (f245l0 D n) [x0, x17, x27, (.int .i64 (.ofNat 0))] H) (f245b1 D n)))
def h245 : Hint := (.s .o (.s (.s .o (.cl (.s .o .o) .o)) (.s .o (.b [] (.l [0, 26, 27, 28] (.s .o (.s (.cr .o .o) (.s (.b0 (.s .o (.s .o (.cl .o .o)))) .o))))))))
theorem f245_eq (D : Dyn) (n : Nat) : f245 D n = funK (s245 D n) D n 245 Tryz.f245 h245 := by kernel_rfl
theorem f245_ok {D : Dyn} (hD : DG D) (n : Nat) : FI 245 (f245 D n) := fun_ok X_ok hD (SOk.cons (f180_ok hD n).fs (SOk.cons (f38_ok hD n).fs (SOk.cons (f34_ok hD n).fs (SOk.nil)))) Tryz.func245 (by kernel_rfl) (f245_eq D n)

def s178 (D : Dyn) (n : Nat) : Tb := ⟨X, []⟩
/-- jetty/drc.pairs -/
def f178 (D : Dyn) (n : Nat) (vs : List AV) (H : AH) : Option (AV × AH) :=
  outR (hd vs fun x0 vs => hd vs fun x1 vs => nl vs <|
  bA (bxV 23 x0) H fun x2 H => 
  bA (bxV 3 x1) H fun x3 H => 
  bV (some (.func 245 [] [x2, x3])) fun x4 => some (.ret x4, H))
def h178 : Hint := (.s .o (.s .o .o))
theorem f178_eq (D : Dyn) (n : Nat) : f178 D n = funK (s178 D n) D n 178 Tryz.f178 h178 := by kernel_rfl
theorem f178_ok {D : Dyn} (hD : DG D) (n : Nat) : FI 178 (f178 D n) := fun_ok X_ok hD (SOk.nil) Tryz.func178 (by kernel_rfl) (f178_eq D n)

def s246 (D : Dyn) (n : Nat) : Tb := ⟨X, []⟩
def f246l0 (D : Dyn) (n : Nat) (vs : List AV) (H : AH) : Rs :=
  hd vs fun x0_2 vs => hd vs fun x3 vs => hd vs fun x6_2 vs => hd vs fun x7 vs => 
  bV (bInt .lss x7 x6_2) fun x8 => 
  cnd x8 (bV (bInt .shl x3 (.int .u64 (.ofNat 8))) fun x11 => 
  bV (ixStr x0_2 x7) fun x14 => 
  bV (cvI .u64 x14) fun x15 => 
  bV (bInt .or x11 x15) fun x16 => 
  bV (bInt .add x7 (.int .i64 (.ofNat 1))) fun x17 => 
  some (.norm [x0_2, x16, x6_2, x17], H))
  (some (.exit 0 [x3], H))
def f246b1 (D : Dyn) (n : Nat) (vs : List AV) (H : AH) : Rs :=
  hd vs fun x3_2 vs => 
  bV (some x3_2) fun x2 => some (.ret x2, H)
/-- jetty/drc.parse -/
def f246 (D : Dyn) (n : Nat) (vs : List AV) (H : AH) : Option (AV × AH) :=
  outR (hd vs fun x0 vs => nl vs <|
  bV (lnStr x0) fun x6 => 
  jb 0 (loopK n (f246l0 D n) [x0, (.int .u64 (.ofNat 0)), x6, (.int .i64 (.ofNat 0))] H) (f246b1 D n))
def h246 : Hint := (.s .o (.s .o (.s (.s .o (.b [3] (.l [0, 3, 6, 7] (.s .o (.s (.cr .o .o) (.s (.b0 (.s .o .o)) .o)))))) (.s .o .o))))
theorem f246_eq (D : Dyn) (n : Nat) : f246 D n = funK (s246 D n) D n 246 Tryz.f246 h246 := by kernel_rfl
theorem f246_ok {D : Dyn} (hD : DG D) (n : Nat) : FI 246 (f246 D n) := fun_ok X_ok hD (SOk.nil) Tryz.func246 (by kernel_rfl) (f246_eq D n)

def s179 (D : Dyn) (n : Nat) : Tb := ⟨X, [(246, f246 D n)]⟩
/-- jetty/drc.read -/
def f179 (D : Dyn) (n : Nat) (vs : List AV) (H : AH) : Option (AV × AH) :=
  outR (hd vs fun x0 vs => nl vs <|
  bA (bxV 36 x0) H fun x1 H => 
  bA (bxV 125 (.agg [(.int .i64 (.ofNat 0)), (.int .u64 (.ofNat 0)), (.str 0 0), (.int .i64 (.ofNat 0))])) H fun x2 H => 
  bV (fAd 0 x1) fun x5 => 
  bV (ld1 x5 H) fun x6 => 
  bV (lnStr x6) fun x7 => 
  bV (bInt .neq x7 (.int .i64 (.ofNat 6))) fun x8 => 
  jn (wnt x8 false (bV (fAd 1 x1) fun x10 => 
  bV (ld1 x10 H) fun x11 => 
  bV (lnStr x11) fun x12 => 
  bV (bInt .lss x12 (.int .i64 (.ofNat 12))) fun x13 => 
  some (.norm [x13], H)) (some (.norm [undefA], H))) fun vs H => hd vs fun x13_2 vs => 
  bV (pk3 (some x8) (some (.bool true)) (some x13_2)) fun x14 => 
  cnd x14 (bV (bldS [(0, 3), (3, 1)] [(.int .i64 (.ofNat 0)), (.int .u64 (.ofNat 0)), (.str 0 0), (.int .i64 (.ofNat 0))] []) fun x15 => 
  bR (stN 4 x2 x15 H) fun x9999 H => 
  bV (ldN 4 x2 H) fun x9002 => bV (some (.bool false)) fun x3 => some (.ret (.tuple [x9002, x3]), H))
  (bA (bxV 125 (.agg [(.int .i64 (.ofNat 0)), (.int .u64 (.ofNat 0)), (.str 0 0), (.int .i64 (.ofNat 0))])) H fun x4 H => 
  bV (fAd 0 x1) fun x16 => 
  bV (ld1 x16 H) fun x17 => 
  bV (slStr x17 (some (.int .i64 (.ofNat 2))) none) fun x18 => 
  bR (f246 D n [x18] H) fun x19 H => 
  bV (cvI .i64 x19) fun x20 => 
  bV (fAd 3 x4) fun x21 => 
  bR (stN 1 x21 x20 H) fun x9999_2 H => 
  bV (fAd 1 x1) fun x22 => 
  bV (ld1 x22 H) fun x23 => 
  bV (slStr x23 none (some (.int .i64 (.ofNat 4)))) fun x24 => 
  bR (f246 D n [x24] H) fun x25 H => 
  bV (cvI .i64 x25) fun x26 => 
  bV (fAd 0 x4) fun x27 => 
  bV (fAd 0 x27) fun x28 => 
  bR (stN 1 x28 x26 H) fun x9999_3 H => 
  bV (fAd 1 x1) fun x29 => 
  bV (ld1 x29 H) fun x30 => 
  bV (slStr x30 (some (.int .i64 (.ofNat 4))) (some (.int .i64 (.ofNat 12)))) fun x31 => 
  bR (f246 D n [x31] H) fun x32 H => 
  bV (fAd 0 x4) fun x33 => 
  bV (fAd 1 x33) fun x34 => 
  bR (stN 1 x34 x32 H) fun x9999_4 H => 
  bV (fAd 1 x1) fun x35 => 
  bV (ld1 x35 H) fun x36 => 
  bV (slStr x36 (some (.int .i64 (.ofNat 12))) none) fun x37 => 
  bV (fAd 0 x4) fun x38 => 
  bV (fAd 2 x38) fun x39 => 
  bR (stN 1 x39 x37 H) fun x9999_5 H => 
  bV (ldN 4 x4 H) fun x40 => 
  bV (fAd 3 x4) fun x41 => 
  bV (ld1 x41 H) fun x42 => 
  bV (bInt .geq x42 (.int .i64 (.ofNat 1))) fun x43 => 
  wnt x43 true (bV (fAd 3 x4) fun x45 => 
  bV (ld1 x45 H) fun x46 => 
  bV (bInt .leq x46 (.int .i64 (.ofNat 2147483647))) fun x47 => 
  bV (pk3 (some x43) (some x47) (some (.bool false))) fun x48 => 
  bR (stN 4 x2 x40 H) fun x9999_6 H => chk (ld1 x45 H) x46 <| 
  bV (ldN 4 x2 H) fun x9002_2 => bV (some x48) fun x3_2 => some (.ret (.tuple [x9002_2, x3_2]), H)) (bV (pk3 (some x43) (some undefA) (some (.bool false))) fun x48_2 => 
  bR (stN 4 x2 x40 H) fun x9999_7 H => 
  bV (ldN 4 x2 H) fun x9002_3 => bV (some x48_2) fun x3_3 => some (.ret (.tuple [x9002_3, x3_3]), H))))
def h179 : Hint := (.s .o (.s (.s .o (.cl (.s .o .o) .o)) (.s .o (.s .o (.s .o (.s .o (.s .o (.s .o .o))))))))
theorem f179_eq (D : Dyn) (n : Nat) : f179 D n = funK (s179 D n) D n 179 Tryz.f179 h179 := by kernel_rfl
theorem f179_ok {D : Dyn} (hD : DG D) (n : Nat) : FI 179 (f179 D n) := fun_ok X_ok hD (SOk.cons (f246_ok hD n).fs (SOk.nil)) Tryz.func179 (by kernel_rfl) (f179_eq D n)
end Go.Eng.Sh
