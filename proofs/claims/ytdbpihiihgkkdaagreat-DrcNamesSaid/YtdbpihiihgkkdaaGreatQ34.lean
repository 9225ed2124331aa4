/- Shallow functions, by program (gen.py). -/
import Derived.Test.YtdbpihiihgkkdaaGreatQ33
import Derived.Test.YtdbpihiihgkkdaaGreatProg
import Derived.KernelRfl
noncomputable section
namespace Go.Eng.Sh
open Go.Proofs
set_option maxRecDepth 100000
set_option linter.all false
def s110 (D : Dyn) (n : Nat) : Tb := ⟨X, [(190, f190 D n), (91, f91 D n), (201, f201 D n)]⟩
/-- jetty/node.Del -/
def f110 (D : Dyn) (n : Nat) (vs : List AV) (H : AH) : Option (AV × AH) :=
  outR (hd vs fun x0 vs => hd vs fun x1 vs => nl vs <|
  bA (bxV 57 x0) H fun x2 H => 
  bA (bxV 57 (.agg [(.bool false), .nilSlice, .nilSlice, .nilSlice])) H fun x4 H => 
  bV (ldN 4 x2 H) fun x7 => 
  bR (f190 D n [x7] H) fun x8 H => 
  bV (aun .not x8) fun x9 => 
  jn (wnt x9 false (bV (fAd 0 x2) fun x11 => 
  bV (ld1 x11 H) fun x12 => 
  bV (aun .not x12) fun x13 => 
  some (.norm [x13], H)) (some (.norm [undefA], H))) fun vs H => hd vs fun x13_2 vs => 
  bV (pk3 (some x9) (some (.bool true)) (some x13_2)) fun x14 => 
  cnd x14 (bV (bldS [(0, 1), (1, 1), (2, 1), (3, 1)] [(.bool false), .nilSlice, .nilSlice, .nilSlice] []) fun x15 => 
  bR (stN 4 x4 x15 H) fun x9999 H => 
  bV (ldN 4 x4 H) fun x9004 => bV (some (.int .i64 (.ofNat 1))) fun x5 => some (.ret (.tuple [x9004, x5]), H))
  (bV (ldN 4 x2 H) fun x16 => 
  bR (f91 D n [x16, x1] H) fun x18 H => 
  bV (fAd 1 x2) fun x20 => 
  bV (ld1 x20 H) fun x21 => 
  bV (lnSl x21) fun x22 => 
  bV (bInt .geq x18 x22) fun x23 => 
  jn (wnt x23 false (bV (fAd 1 x2) fun x25 => 
  bV (ld1 x25 H) fun x26 => 
  bV (ixSl 1 x26 x18) fun x28 => 
  bV (ld1 x28 H) fun x29 => 
  bV (bStr .neq x29 x1) fun x31 => 
  some (.norm [x31], H)) (some (.norm [undefA], H))) fun vs H => hd vs fun x31_2 vs => 
  bV (pk3 (some x23) (some (.bool true)) (some x31_2)) fun x32 => 
  cnd x32 (bV (bldS [(0, 1), (1, 1), (2, 1), (3, 1)] [(.bool false), .nilSlice, .nilSlice, .nilSlice] []) fun x33 => 
  bR (stN 4 x4 x33 H) fun x9999_2 H => 
  bV (ldN 4 x4 H) fun x9004_2 => bV (some (.int .i64 (.ofNat 5))) fun x5_2 => some (.ret (.tuple [x9004_2, x5_2]), H))
  (bV (fAd 1 x2) fun x34 => 
  bV (ld1 x34 H) fun x35 => 
  bV (slSl 1 x35 none (some x18) (some x18) H) fun x38 => 
  bV (fAd 1 x2) fun x39 => 
  bV (ld1 x39 H) fun x40 => 
  bV (bInt .add x18 (.int .i64 (.ofNat 1))) fun x42 => 
  bV (slSl 1 x40 (some x42) none none H) fun x43 => 
  bA (bldL 54 1 2 [.nilSlice] [(0, x38), (1, x43)]) H fun x44 H => 
  bV (fAd 2 x2) fun x46 => 
  bV (ld1 x46 H) fun x47 => 
  bV (slSl 1 x47 none (some x18) (some x18) H) fun x50 => 
  bV (fAd 2 x2) fun x51 => 
  bV (ld1 x51 H) fun x52 => 
  bV (bInt .add x18 (.int .i64 (.ofNat 1))) fun x54 => 
  bV (slSl 1 x52 (some x54) none none H) fun x55 => 
  bA (bldL 54 1 2 [.nilSlice] [(0, x50), (1, x55)]) H fun x56 H => 
  bR (f201 D n [x44] H) fun x45 H => chk (ld1 x46 H) x47 <| chk (slSl 1 x47 none (some x18) (some x18) H) x50 <| chk (ld1 x51 H) x52 <| chk (slSl 1 x52 (some x54) none none H) x55 <| 
  bR (f201 D n [x56] H) fun x57 H => 
  bV (bldS [(0, 1), (1, 1), (2, 1), (3, 1)] [(.bool false), .nilSlice, .nilSlice, .nilSlice] [(0, (.bool true)), (1, x45), (2, x57)]) fun x58 => 
  bR (stN 4 x4 x58 H) fun x9999_3 H => 
  bV (ldN 4 x4 H) fun x9004_3 => bV (some (.int .i64 (.ofNat 0))) fun x5_3 => some (.ret (.tuple [x9004_3, x5_3]), H))))
def h110 : Hint := (.s .o (.s (.s .o (.cl (.s .o .o) .o)) (.s .o (.s (.s .o (.cl (.s .o .o) .o)) (.s .o .o)))))
theorem f110_eq (D : Dyn) (n : Nat) : f110 D n = funK (s110 D n) D n 110 Tryz.f110 h110 := by kernel_rfl
theorem f110_ok {D : Dyn} (hD : DG D) (n : Nat) : FI 110 (f110 D n) := fun_ok X_ok hD (SOk.cons (f190_ok hD n).fs (SOk.cons (f91_ok hD n).fs (SOk.cons (f201_ok hD n).fs (SOk.nil)))) Tryz.func110 (by kernel_rfl) (f110_eq D n)

def s109 (D : Dyn) (n : Nat) : Tb := ⟨X, [(110, f110 D n)]⟩
/-- (*jetty/tree.Tree).Del$1 -/
def f109 (D : Dyn) (n : Nat) (vs : List AV) (H : AH) : Option (AV × AH) :=
  outR (hd vs fun x0 vs => hd vs fun x1 vs => nl vs <|
  bA (bxV 57 x0) H fun x2 H => 
  bA (bxV 57 (.agg [(.bool false), .nilSlice, .nilSlice, .nilSlice])) H fun x3 H => 
  bV (ldN 4 x2 H) fun x5 => 
  bV (ld1 x1 H) fun x6 => 
  bR (f110 D n [x5, x6] H) fun x7 H => 
  bV (pExtract x7 0) fun x8 => 
  bV (pExtract x7 1) fun x9 => 
  bR (stN 4 x3 x8 H) fun x9999 H => 
  bV (ldN 4 x3 H) fun x9003 => bV (some x9) fun x4 => some (.ret (.tuple [x9003, x4]), H))
def h109 : Hint := (.s .o (.s .o .o))
theorem f109_eq (D : Dyn) (n : Nat) : f109 D n = funK (s109 D n) D n 109 Tryz.f109 h109 := by kernel_rfl
theorem f109_ok {D : Dyn} (hD : DG D) (n : Nat) : FI 109 (f109 D n) := fun_ok X_ok hD (SOk.cons (f110_ok hD n).fs (SOk.nil)) Tryz.func109 (by kernel_rfl) (f109_eq D n)

def s27 (D : Dyn) (n : Nat) : Tb := ⟨X, [(88, f88 D n), (93, f93 D n)]⟩
/-- (*jetty/tree.Tree).Del -/
def f27 (D : Dyn) (n : Nat) (vs : List AV) (H : AH) : Option (AV × AH) :=
  outR (hd vs fun x0 vs => hd vs fun x1 vs => nl vs <|
  bA (bxV 9 x1) H fun x3 H => 
  bR (f88 D n [x0] H) fun x6 H => 
  cnd x6 (bV (some (.int .i64 (.ofNat 2))) fun x4 => some (.ret x4, H))
  (bV (ld1 x3 H) fun x7 => 
  bV (lnStr x7) fun x8 => 
  bV (bInt .lss x8 (.int .i64 (.ofNat 1))) fun x9 => 
  jn (wnt x9 false (bV (ld1 x3 H) fun x11 => 
  bV (lnStr x11) fun x12 => 
  bV (bInt .gtr x12 (.int .i64 (.ofNat 40))) fun x13 => 
  some (.norm [x13], H)) (some (.norm [undefA], H))) fun vs H => hd vs fun x13_2 vs => 
  bV (pk3 (some x9) (some (.bool true)) (some x13_2)) fun x14 => 
  cnd x14 (bV (some (.int .i64 (.ofNat 1))) fun x4_2 => some (.ret x4_2, H))
  (bV (ld1 x3 H) fun x16 => 
  bR (f93 D n [x0, x16, (.func 109 [] [x3])] H) fun x18 H => 
  bV (some x18) fun x4_3 => some (.ret x4_3, H))))
def h27 : Hint := (.s .o (.s (.s .o (.cl (.s .o .o) .o)) (.s (.s .o (.cl (.s .o .o) .o)) (.s .o .o))))
theorem f27_eq (D : Dyn) (n : Nat) : f27 D n = funK (s27 D n) D n 27 Tryz.f27 h27 := by kernel_rfl
theorem f27_ok {D : Dyn} (hD : DG D) (n : Nat) : FI 27 (f27 D n) := fun_ok X_ok hD (SOk.cons (f88_ok hD n).fs (SOk.cons (f93_ok hD n).fs (SOk.nil))) Tryz.func27 (by kernel_rfl) (f27_eq D n)

def s295 (D : Dyn) (n : Nat) : Tb := ⟨X, []⟩
def f295l0 (D : Dyn) (n : Nat) (vs : List AV) (H : AH) : Rs :=
  hd vs fun x0_2 vs => hd vs fun x2 vs => hd vs fun x3 vs => 
  bV (bInt .lss x2 x3) fun x9 => 
  cnd x9 (bV (ixSl 1 x0_2 x3) fun x20 => 
  bV (ld1 x20 H) fun x21 => 
  bV (ixSl 1 x0_2 x2) fun x24 => 
  bV (ld1 x24 H) fun x25 => 
  bV (ixSl 1 x0_2 x2) fun x26 => 
  bR (stN 1 x26 x21 H) fun x9999 H => 
  bV (ixSl 1 x0_2 x3) fun x27 => 
  bR (stN 1 x27 x25 H) fun x9999_2 H => 
  bV (bInt .add x2 (.int .i64 (.ofNat 1))) fun x11 => 
  bV (bInt .sub x3 (.int .i64 (.ofNat 1))) fun x13 => 
  some (.norm [x0_2, x11, x13], H))
  (some (.exit 0 [], H))
def f295b1 (D : Dyn) (n : Nat) (vs : List AV) (H : AH) : Rs :=
  
  some (.ret (.tuple []), H)
/-- slices.Reverse[[]string,string] -/
def f295 (D : Dyn) (n : Nat) (vs : List AV) (H : AH) : Option (AV × AH) :=
  outR (hd vs fun x0 vs => nl vs <|
  bV (lnSl x0) fun x5 => 
  bV (bInt .sub x5 (.int .i64 (.ofNat 1))) fun x6 => 
  jb 0 (loopK n (f295l0 D n) [x0, (.int .i64 (.ofNat 0)), x6] H) (f295b1 D n))
def h295 : Hint := (.s .o (.b [] (.l [0, 2, 3] (.s (.s .o (.cr .o .o)) (.s (.b0 .o) .o)))))
theorem f295_eq (D : Dyn) (n : Nat) : f295 D n = funK (s295 D n) D n 295 Tryz.f295 h295 := by kernel_rfl
theorem f295_ok {D : Dyn} (hD : DG D) (n : Nat) : FI 295 (f295 D n) := fun_ok X_ok hD (SOk.nil) Tryz.func295 (by kernel_rfl) (f295_eq D n)

def s287 (D : Dyn) (n : Nat) : Tb := ⟨X, [(295, f295 D n)]⟩
/-- slices.rotateLeft[string] -/
def f287 (D : Dyn) (n : Nat) (vs : List AV) (H : AH) : Option (AV × AH) :=
  outR (hd vs fun x0 vs => hd vs fun x1 vs => nl vs <|
  bV (slSl 1 x0 none (some x1) none H) fun x6 => 
  bR (f295 D n [x6] H) fun x7 H => 
  bV (slSl 1 x0 (some x1) none none H) fun x10 => 
  bR (f295 D n [x10] H) fun x11 H => 
  bR (f295 D n [x0] H) fun x13 H => 
  some (.ret (.tuple []), H))
def h287 : Hint := (.s .o (.s .o .o))
theorem f287_eq (D : Dyn) (n : Nat) : f287 D n = funK (s287 D n) D n 287 Tryz.f287 h287 := by kernel_rfl
theorem f287_ok {D : Dyn} (hD : DG D) (n : Nat) : FI 287 (f287 D n) := fun_ok X_ok hD (SOk.cons (f295_ok hD n).fs (SOk.nil)) Tryz.func287 (by kernel_rfl) (f287_eq D n)

def s260 (D : Dyn) (n : Nat) : Tb := ⟨X, [(287, f287 D n)]⟩
/-- slices.rotateRight[string] -/
def f260 (D : Dyn) (n : Nat) (vs : List AV) (H : AH) : Option (AV × AH) :=
  outR (hd vs fun x0 vs => hd vs fun x1 vs => nl vs <|
  bV (lnSl x0) fun x6 => 
  bV (bInt .sub x6 x1) fun x8 => 
  bR (f287 D n [x0, x8] H) fun x9 H => 
  some (.ret (.tuple []), H))
def h260 : Hint := .o
theorem f260_eq (D : Dyn) (n : Nat) : f260 D n = funK (s260 D n) D n 260 Tryz.f260 h260 := by kernel_rfl
theorem f260_ok {D : Dyn} (hD : DG D) (n : Nat) : FI 260 (f260 D n) := fun_ok X_ok hD (SOk.cons (f287_ok hD n).fs (SOk.nil)) Tryz.func260 (by kernel_rfl) (f260_eq D n)

def s192 (D : Dyn) (n : Nat) : Tb := ⟨X, [(260, f260 D n)]⟩
/-- slices.Insert[[]string,string] -/
def f192 (D : Dyn) (n : Nat) (vs : List AV) (H : AH) : Option (AV × AH) :=
  outR (hd vs fun x0 vs => hd vs fun x1 vs => hd vs fun x2 vs => nl vs <|
  bV (slSl 1 x0 (some x1) none none H) fun x12 => 
  bV (lnSl x2) fun x14 => 
  bV (bInt .eql x14 (.int .i64 (.ofNat 0))) fun x16 => 
  cnd x16 (bV (some x0) fun x6 => some (.ret x6, H))
  (bV (lnSl x0) fun x19 => 
  bV (bInt .eql x1 x19) fun x22 => 
  cnd x22 (bR (apP 9 1 16 x0 x2 H) fun x25 H => 
  bV (some x25) fun x6_2 => some (.ret x6_2, H))
  (bV (bInt .add x19 x14) fun x28 => 
  bV (acap X 54 x0) fun x30 => 
  bV (bInt .gtr x28 x30) fun x31 => 
  cnd x31 (bV (slSl 1 x0 none (some x1) none H) fun x34 => 
  bV (bInt .add x19 x14) fun x37 => 
  bV (bInt .sub x37 x1) fun x39 => 
  bR (apZ 9 1 16 [(.str 0 0)] x34 x39 H) fun x40 H => 
  bV (slSl 1 x40 (some x1) none none H) fun x43 => 
  bR (cpy 1 x43 x2 H) fun x45 H => 
  bV (bInt .add x1 x14) fun x49 => 
  bV (slSl 1 x40 (some x49) none none H) fun x50 => 
  bV (slSl 1 x0 (some x1) none none H) fun x53 => 
  bR (cpy 1 x50 x53 H) fun x54 H => 
  bV (some x40) fun x6_3 => some (.ret x6_3, H))
  (bV (bInt .add x19 x14) fun x59 => 
  bV (slSl 1 x0 none (some x59) none H) fun x60 => 
  bV (bInt .add x1 x14) fun x65 => 
  bV (slSl 1 x60 (some x65) none none H) fun x66 => 
  bR (D.fn 259 [x2, x66] H) fun x67 H => 
  bV (aun .not x67) fun x68 => 
  cnd x68 (bV (bInt .add x1 x14) fun x72 => 
  bV (slSl 1 x60 (some x72) none none H) fun x73 => 
  bV (slSl 1 x60 (some x1) none none H) fun x76 => 
  bR (cpy 1 x73 x76 H) fun x77 H => 
  bV (slSl 1 x60 (some x1) none none H) fun x80 => 
  bR (cpy 1 x80 x2 H) fun x82 H => 
  bV (some x60) fun x6_4 => some (.ret x6_4, H))
  (bV (slSl 1 x60 (some x19) none none H) fun x86 => 
  bR (cpy 1 x86 x2 H) fun x88 H => 
  bV (slSl 1 x60 (some x1) none none H) fun x91 => 
  bR (f260 D n [x91, x14] H) fun x93 H => 
  bV (some x60) fun x6_5 => some (.ret x6_5, H))))))
def h192 : Hint := (.s .o (.s .o (.s .o (.s (.s .o (.cl (.s .o .o) .o)) (.s .o (.s (.s .o (.cl (.s .o .o) .o)) (.s (.s .o (.cl (.s .o (.s .o (.s .o (.s .o .o)))) .o)) (.s .o (.s (.s .o (.cl (.s .o (.s .o (.s .o .o))) .o)) (.s .o (.s .o (.s .o .o))))))))))))
theorem f192_eq (D : Dyn) (n : Nat) : f192 D n = funK (s192 D n) D n 192 Tryz.f192 h192 := by kernel_rfl
theorem f192_ok {D : Dyn} (hD : DG D) (n : Nat) : FI 192 (f192 D n) := fun_ok X_ok hD (SOk.cons (f260_ok hD n).fs (SOk.nil)) Tryz.func192 (by kernel_rfl) (f192_eq D n)
def m192 (D : Dyn) (n : Nat) (vs : List AV) (H : AH) : Option (AV × AH) := insK (f192 D n) vs H
theorem m192_ok {D : Dyn} (hD : DG D) (n : Nat) : FI 192 (m192 D n) := insK_ok (by kernel_rfl) (f192_ok hD n)

def s95 (D : Dyn) (n : Nat) : Tb := ⟨X, [(190, f190 D n), (191, f191 D n), (103, f103 D n), (91, f91 D n), (192, m192 D n)]⟩
/-- jetty/node.Put -/
def f95 (D : Dyn) (n : Nat) (vs : List AV) (H : AH) : Option (AV × AH) :=
  outR (hd vs fun x0 vs => hd vs fun x1 vs => hd vs fun x2 vs => nl vs <|
  bA (bxV 57 x0) H fun x3 H => 
  bA (bxV 57 (.agg [(.bool false), .nilSlice, .nilSlice, .nilSlice])) H fun x6 H => 
  bV (ldN 4 x3 H) fun x10 => 
  bR (f190 D n [x10] H) fun x11 H => 
  bV (aun .not x11) fun x12 => 
  jn (wnt x12 false (bV (fAd 0 x3) fun x14 => 
  bV (ld1 x14 H) fun x15 => 
  bV (aun .not x15) fun x16 => 
  some (.norm [x16], H)) (some (.norm [undefA], H))) fun vs H => hd vs fun x16_2 vs => 
  bV (pk3 (some x12) (some (.bool true)) (some x16_2)) fun x17 => 
  jn (wnt x17 false (bR (f191 D n [x1] H) fun x20 H => 
  bV (aun .not x20) fun x21 => 
  some (.norm [x21], H)) (some (.norm [undefA], H))) fun vs H => hd vs fun x21_2 vs => 
  bV (pk3 (some x17) (some (.bool true)) (some x21_2)) fun x22 => 
  jn (wnt x22 false (bV (lnStr x2) fun x25 => 
  bV (bInt .gtr x25 (.int .i64 (.ofNat 200))) fun x26 => 
  some (.norm [x26], H)) (some (.norm [undefA], H))) fun vs H => hd vs fun x26_2 vs => 
  bV (pk3 (some x22) (some (.bool true)) (some x26_2)) fun x27 => 
  cnd x27 (bV (bldS [(0, 1), (1, 1), (2, 1), (3, 1)] [(.bool false), .nilSlice, .nilSlice, .nilSlice] []) fun x28 => 
  bR (stN 4 x6 x28 H) fun x9999 H => 
  bV (ldN 4 x6 H) fun x9006 => bV (some (.int .i64 (.ofNat 1))) fun x7 => some (.ret (.tuple [x9006, x7]), H))
  (bV (fAd 1 x3) fun x29 => 
  bV (ld1 x29 H) fun x30 => 
  bV (fAd 2 x3) fun x32 => 
  bV (ld1 x32 H) fun x33 => 
  bA (bxV 57 (.agg [(.bool false), .nilSlice, .nilSlice, .nilSlice])) H fun x8 H => 
  bR (f103 D n [x30] H) fun x31 H => chk (ld1 x32 H) x33 <| 
  bR (f103 D n [x33] H) fun x34 H => 
  bV (bldS [(0, 1), (1, 1), (2, 1), (3, 1)] [(.bool false), .nilSlice, .nilSlice, .nilSlice] [(0, (.bool true)), (1, x31), (2, x34)]) fun x35 => 
  bR (stN 4 x8 x35 H) fun x9999_2 H => 
  bV (ldN 4 x3 H) fun x36 => 
  bR (f91 D n [x36, x1] H) fun x38 H => 
  bV (fAd 1 x3) fun x40 => 
  bV (ld1 x40 H) fun x41 => 
  bV (lnSl x41) fun x42 => 
  bV (bInt .lss x38 x42) fun x43 => 
  jn (wnt x43 true (bV (fAd 1 x3) fun x45 => 
  bV (ld1 x45 H) fun x46 => 
  bV (ixSl 1 x46 x38) fun x48 => 
  bV (ld1 x48 H) fun x49 => 
  bV (bStr .eql x49 x1) fun x51 => 
  some (.norm [x51], H)) (some (.norm [undefA], H))) fun vs H => hd vs fun x51_2 vs => 
  bV (pk3 (some x43) (some x51_2) (some (.bool false))) fun x52 => 
  cnd x52 (bV (fAd 2 x8) fun x53 => 
  bV (ld1 x53 H) fun x54 => 
  bV (ixSl 1 x54 x38) fun x57 => 
  bR (stN 1 x57 x2 H) fun x9999_3 H => 
  bV (ldN 4 x8 H) fun x58 => 
  bR (stN 4 x6 x58 H) fun x9999_4 H => 
  bV (ldN 4 x6 H) fun x9006_2 => bV (some (.int .i64 (.ofNat 0))) fun x7_2 => some (.ret (.tuple [x9006_2, x7_2]), H))
  (bV (fAd 1 x8) fun x59 => 
  bV (ld1 x59 H) fun x60 => 
  bA (bldL 9 1 1 [(.str 0 0)] [(0, x1)]) H fun x63 H => 
  bR (m192 D n [x60, x38, x63] H) fun x64 H => 
  bV (fAd 1 x8) fun x65 => 
  bR (stN 1 x65 x64 H) fun x9999_5 H => 
  bV (fAd 2 x8) fun x66 => 
  bV (ld1 x66 H) fun x67 => 
  bA (bldL 9 1 1 [(.str 0 0)] [(0, x2)]) H fun x70 H => 
  bR (m192 D n [x67, x38, x70] H) fun x71 H => 
  bV (fAd 2 x8) fun x72 => 
  bR (stN 1 x72 x71 H) fun x9999_6 H => 
  bV (ldN 4 x8 H) fun x73 => 
  bR (stN 4 x6 x73 H) fun x9999_7 H => 
  bV (ldN 4 x6 H) fun x9006_3 => bV (some (.int .i64 (.ofNat 0))) fun x7_3 => some (.ret (.tuple [x9006_3, x7_3]), H))))
def h95 : Hint := (.s .o (.s (.s .o (.cl (.s .o .o) .o)) (.s .o (.s .o (.s (.s .o (.cl (.s .o (.s .o .o)) .o)) (.s .o (.s .o (.s .o .o))))))))
theorem f95_eq (D : Dyn) (n : Nat) : f95 D n = funK (s95 D n) D n 95 Tryz.f95 h95 := by kernel_rfl
theorem f95_ok {D : Dyn} (hD : DG D) (n : Nat) : FI 95 (f95 D n) := fun_ok X_ok hD (SOk.cons (f190_ok hD n).fs (SOk.cons (f191_ok hD n).fs (SOk.cons (f103_ok hD n).fs (SOk.cons (f91_ok hD n).fs (SOk.cons (m192_ok hD n).fs (SOk.nil)))))) Tryz.func95 (by kernel_rfl) (f95_eq D n)

def s94 (D : Dyn) (n : Nat) : Tb := ⟨X, [(95, f95 D n)]⟩
/-- (*jetty/tree.Tree).Put$1 -/
def f94 (D : Dyn) (n : Nat) (vs : List AV) (H : AH) : Option (AV × AH) :=
  outR (hd vs fun x0 vs => hd vs fun x1 vs => hd vs fun x2 vs => nl vs <|
  bA (bxV 57 x0) H fun x3 H => 
  bA (bxV 57 (.agg [(.bool false), .nilSlice, .nilSlice, .nilSlice])) H fun x4 H => 
  bV (ldN 4 x3 H) fun x6 => 
  bV (ld1 x1 H) fun x7 => 
  bV (ld1 x2 H) fun x8 => 
  bR (f95 D n [x6, x7, x8] H) fun x9 H => 
  bV (pExtract x9 0) fun x10 => 
  bV (pExtract x9 1) fun x11 => 
  bR (stN 4 x4 x10 H) fun x9999 H => 
  bV (ldN 4 x4 H) fun x9004 => bV (some x11) fun x5 => some (.ret (.tuple [x9004, x5]), H))
def h94 : Hint := (.s .o (.s .o .o))
theorem f94_eq (D : Dyn) (n : Nat) : f94 D n = funK (s94 D n) D n 94 Tryz.f94 h94 := by kernel_rfl
theorem f94_ok {D : Dyn} (hD : DG D) (n : Nat) : FI 94 (f94 D n) := fun_ok X_ok hD (SOk.cons (f95_ok hD n).fs (SOk.nil)) Tryz.func94 (by kernel_rfl) (f94_eq D n)

def s17 (D : Dyn) (n : Nat) : Tb := ⟨X, [(88, f88 D n), (93, f93 D n)]⟩
/-- (*jetty/tree.Tree).Put -/
def f17 (D : Dyn) (n : Nat) (vs : List AV) (H : AH) : Option (AV × AH) :=
  outR (hd vs fun x0 vs => hd vs fun x1 vs => hd vs fun x2 vs => nl vs <|
  bA (bxV 9 x1) H fun x4 H => 
  bA (bxV 9 x2) H fun x5 H => 
  bR (f88 D n [x0] H) fun x8 H => 
  cnd x8 (bV (some (.int .i64 (.ofNat 2))) fun x6 => some (.ret x6, H))
  (bV (ld1 x4 H) fun x9 => 
  bV (lnStr x9) fun x10 => 
  bV (bInt .lss x10 (.int .i64 (.ofNat 1))) fun x11 => 
  jn (wnt x11 false (bV (ld1 x4 H) fun x13 => 
  bV (lnStr x13) fun x14 => 
  bV (bInt .gtr x14 (.int .i64 (.ofNat 40))) fun x15 => 
  some (.norm [x15], H)) (some (.norm [undefA], H))) fun vs H => hd vs fun x15_2 vs => 
  bV (pk3 (some x11) (some (.bool true)) (some x15_2)) fun x16 => 
  jn (wnt x16 false (bV (ld1 x5 H) fun x18 => 
  bV (lnStr x18) fun x19 => 
  bV (bInt .gtr x19 (.int .i64 (.ofNat 200))) fun x20 => 
  some (.norm [x20], H)) (some (.norm [undefA], H))) fun vs H => hd vs fun x20_2 vs => 
  bV (pk3 (some x16) (some (.bool true)) (some x20_2)) fun x21 => 
  cnd x21 (bV (some (.int .i64 (.ofNat 1))) fun x6_2 => some (.ret x6_2, H))
  (bV (ld1 x4 H) fun x23 => 
  bR (f93 D n [x0, x23, (.func 94 [] [x4, x5])] H) fun x25 H => 
  bV (some x25) fun x6_3 => some (.ret x6_3, H))))
def h17 : Hint := (.s .o (.s (.s .o (.cl (.s .o .o) .o)) (.s (.s .o (.cl (.s .o .o) .o)) (.s .o .o))))
theorem f17_eq (D : Dyn) (n : Nat) : f17 D n = funK (s17 D n) D n 17 Tryz.f17 h17 := by kernel_rfl
theorem f17_ok {D : Dyn} (hD : DG D) (n : Nat) : FI 17 (f17 D n) := fun_ok X_ok hD (SOk.cons (f88_ok hD n).fs (SOk.cons (f93_ok hD n).fs (SOk.nil))) Tryz.func17 (by kernel_rfl) (f17_eq D n)

def s12 (D : Dyn) (n : Nat) : Tb := ⟨X, [(82, f82 D n), (83, f83 D n), (86, f86 D n), (27, f27 D n), (87, f87 D n), (17, f17 D n)]⟩
def f12j0 (D : Dyn) (n : Nat) (vs : List AV) (H : AH) : Rs :=
  hd vs fun x0_4 vs => hd vs fun x1_4 vs => hd vs fun x2_4 vs => hd vs fun x3_4 vs => hd vs fun x4_4 vs => hd vs fun x13_3 vs => hd vs fun x15_2 vs => hd vs fun x16_2 vs => hd vs fun x52_2 vs => hd vs fun x53_3 vs => hd vs fun x54_2 vs => 
  bV (bInt .add x54_2 (.int .i64 (.ofNat 1))) fun x71 => 
  some (.norm [x0_4, x1_4, x2_4, x3_4, x4_4, x13_3, x15_2, x16_2, x52_2, x53_3, x71], H)
def f12l1 (D : Dyn) (n : Nat) (vs : List AV) (H : AH) : Rs :=
  hd vs fun x0_3 vs => hd vs fun x1_3 vs => hd vs fun x2_3 vs => hd vs fun x3_3 vs => hd vs fun x4_3 vs => hd vs fun x13_2 vs => hd vs fun x15 vs => hd vs fun x16 vs => hd vs fun x52 vs => hd vs fun x53_2 vs => hd vs fun x54 vs => 
  bV (bInt .lss x54 x53_2) fun x55 => 
  cnd x55 (bV (ixSl 4 x52 x54) fun x56 => 
  bV (ldN 4 x56 H) fun x57 => 
  bA (bxV 125 (.agg [(.int .i64 (.ofNat 0)), (.int .u64 (.ofNat 0)), (.str 0 0), (.int .i64 (.ofNat 0))])) H fun x18 H => 
  bR (stN 4 x18 x57 H) fun x9999 H => 
  bV (fAd 0 x18) fun x58 => 
  bV (fAd 0 x58) fun x59 => 
  bV (ld1 x59 H) fun x60 => 
  bV (bInt .eql x60 x2_3) fun x62 => 
  jn (cnd x62 (bV (ldN 4 x18 H) fun x64 => 
  bA (bldL 125 4 1 [(.int .i64 (.ofNat 0)), (.int .u64 (.ofNat 0)), (.str 0 0), (.int .i64 (.ofNat 0))] [(0, x64)]) H fun x65 H => 
  bR (apP 125 4 40 x15 x65 H) fun x66 H => 
  some (.norm [x0_3, x1_3, x2_3, x3_3, x4_3, x13_2, x66, x16, x52, x53_2, x54], H))
  (bV (ldN 4 x18 H) fun x68 => 
  bA (bldL 125 4 1 [(.int .i64 (.ofNat 0)), (.int .u64 (.ofNat 0)), (.str 0 0), (.int .i64 (.ofNat 0))] [(0, x68)]) H fun x69 H => 
  bR (apP 125 4 40 x16 x69 H) fun x70 H => 
  some (.norm [x0_3, x1_3, x2_3, x3_3, x4_3, x13_2, x15, x70, x52, x53_2, x54], H))) (f12j0 D n))
  (some (.exit 0 [x0_3, x1_3, x2_3, x3_3, x4_3, x13_2, x15, x16], H))
def f12l2 (D : Dyn) (n : Nat) (vs : List AV) (H : AH) : Rs :=
  hd vs fun x0_7 vs => hd vs fun x1_7 vs => hd vs fun x2_7 vs => hd vs fun x3_7 vs => hd vs fun x4_7 vs => hd vs fun x13_6 vs => hd vs fun x82 vs => hd vs fun x83_2 vs => hd vs fun x84 vs => 
  bV (bInt .lss x84 x83_2) fun x85 => 
  cnd x85 (bV (ixSl 4 x82 x84) fun x86 => 
  bV (ldN 4 x86 H) fun x87 => 
  bA (bxV 125 (.agg [(.int .i64 (.ofNat 0)), (.int .u64 (.ofNat 0)), (.str 0 0), (.int .i64 (.ofNat 0))])) H fun x21 H => 
  bR (stN 4 x21 x87 H) fun x9999_2 H => 
  bV (fAd 3 x21) fun x90 => 
  bV (ld1 x90 H) fun x91 => 
  bR (f86 D n [x1_7, x91] H) fun x92 H => 
  bR (f27 D n [x0_7, x92] H) fun x93 H => 
  bV (bInt .neq x93 (.int .i64 (.ofNat 0))) fun x95 => 
  cnd x95 (bV (some x93) fun x10_5 => some (.ret x10_5, H))
  (bV (bInt .add x84 (.int .i64 (.ofNat 1))) fun x97 => 
  some (.norm [x0_7, x1_7, x2_7, x3_7, x4_7, x13_6, x82, x83_2, x97], H)))
  (some (.exit 2 [x0_7, x1_7, x2_7, x3_7, x4_7, x13_6], H))
def f12b3 (D : Dyn) (n : Nat) (vs : List AV) (H : AH) : Rs :=
  hd vs fun x0_8 vs => hd vs fun x1_8 vs => hd vs fun x2_8 vs => hd vs fun x3_8 vs => hd vs fun x4_8 vs => hd vs fun x13_7 vs => 
  bR (f86 D n [x1_8, x13_7] H) fun x101 H => 
  bV (cvI .u64 x2_8) fun x103 => 
  bR (f87 D n [x103, (.int .i64 (.ofNat 4))] H) fun x104 H => 
  bR (f87 D n [x3_8, (.int .i64 (.ofNat 8))] H) fun x106 H => 
  bV (bStr .add x104 x106) fun x107 => 
  bV (bStr .add x107 x4_8) fun x109 => 
  bR (f17 D n [x0_8, x101, x109] H) fun x110 H => 
  bV (some x110) fun x10_6 => some (.ret x10_6, H)
def f12j4 (D : Dyn) (n : Nat) (vs : List AV) (H : AH) : Rs :=
  hd vs fun x0_6 vs => hd vs fun x1_6 vs => hd vs fun x2_6 vs => hd vs fun x3_6 vs => hd vs fun x4_6 vs => hd vs fun x13_5 vs => hd vs fun x15_4 vs => 
  bV (lnSl x15_4) fun x83 => 
  jb 2 (loopK n (f12l2 D n) [x0_6, x1_6, x2_6, x3_6, x4_6, x13_5, x15_4, x83, (.int .i64 (.ofNat 0))] H) (f12b3 D n)
def f12b5 (D : Dyn) (n : Nat) (vs : List AV) (H : AH) : Rs :=
  hd vs fun x0_5 vs => hd vs fun x1_5 vs => hd vs fun x2_5 vs => hd vs fun x3_5 vs => hd vs fun x4_5 vs => hd vs fun x13_4 vs => hd vs fun x15_3 vs => hd vs fun x16_3 vs => 
  bV (lnSl x16_3) fun x73 => 
  bV (bInt .sub x73 (.int .i64 (.ofNat 7))) fun x74 => 
  bV (bInt .gtr x74 (.int .i64 (.ofNat 0))) fun x76 => 
  jn (cnd x76 (bV (slSl 4 x16_3 none (some x74) none H) fun x80 => 
  bR (apP 125 4 40 x15_3 x80 H) fun x81 H => 
  some (.norm [x0_5, x1_5, x2_5, x3_5, x4_5, x13_4, x81], H))
  (some (.norm [x0_5, x1_5, x2_5, x3_5, x4_5, x13_4, x15_3], H))) (f12j4 D n)
def f12j6 (D : Dyn) (n : Nat) (vs : List AV) (H : AH) : Rs :=
  hd vs fun x0_2 vs => hd vs fun x1_2 vs => hd vs fun x2_2 vs => hd vs fun x3_2 vs => hd vs fun x4_2 vs => hd vs fun x11 vs => hd vs fun x13 vs => 
  bV (lnSl x11) fun x53 => 
  jb 0 (loopK n (f12l1 D n) [x0_2, x1_2, x2_2, x3_2, x4_2, x13, .nilSlice, .nilSlice, x11, x53, (.int .i64 (.ofNat 0))] H) (f12b5 D n)
/-- jetty/drc.Keep -/
def f12 (D : Dyn) (n : Nat) (vs : List AV) (H : AH) : Option (AV × AH) :=
  outR (hd vs fun x0 vs => hd vs fun x1 vs => hd vs fun x2 vs => hd vs fun x3 vs => hd vs fun x4 vs => nl vs <|
  bR (f82 D n [x0, x1] H) fun x26 H => 
  bV (pExtract x26 0) fun x27 => 
  bV (pExtract x26 1) fun x28 => 
  bV (bInt .neq x28 (.int .i64 (.ofNat 0))) fun x30 => 
  cnd x30 (bV (some x28) fun x10 => some (.ret x10, H))
  (bR (f83 D n [x2] H) fun x33 H => 
  bV (aun .not x33) fun x34 => 
  cnd x34 (bV (some (.int .i64 (.ofNat 1))) fun x10_2 => some (.ret x10_2, H))
  (bV (lnStr x4) fun x36 => 
  bV (bInt .gtr x36 (.int .i64 (.ofNat 188))) fun x37 => 
  cnd x37 (bV (some (.int .i64 (.ofNat 40))) fun x10_3 => some (.ret x10_3, H))
  (bV (lnSl x27) fun x39 => 
  bV (bInt .gtr x39 (.int .i64 (.ofNat 0))) fun x40 => 
  jn (cnd x40 (bV (lnSl x27) fun x43 => 
  bV (bInt .sub x43 (.int .i64 (.ofNat 1))) fun x44 => 
  bV (ixSl 4 x27 x44) fun x45 => 
  bV (fAd 3 x45) fun x46 => 
  bV (ld1 x46 H) fun x47 => 
  bV (bInt .geq x47 (.int .i64 (.ofNat 2147483647))) fun x49 => 
  cnd x49 (bV (some (.int .i64 (.ofNat 3))) fun x10_4 => some (.ret x10_4, H))
  (bV (bInt .add x47 (.int .i64 (.ofNat 1))) fun x51 => 
  some (.norm [x0, x1, x2, x3, x4, x27, x51], H)))
  (some (.norm [x0, x1, x2, x3, x4, x27, (.int .i64 (.ofNat 1))], H))) (f12j6 D n)))))
def h12 : Hint := (.s .o (.s .o (.s (.s .o (.cl (.s .o .o) .o)) (.s (.s .o (.cl (.s .o .o) .o)) (.s (.s .o (.cl (.s .o .o) .o)) (.s .o (.s (.s .o (.c [0, 1, 2, 3, 4, 11, 13] (.s .o (.s (.s .o (.cl (.s .o .o) .o)) .o)) .o)) (.s .o (.s (.s .o (.b [0, 1, 2, 3, 4, 13, 15, 16] (.l [0, 1, 2, 3, 4, 13, 15, 16, 52, 53, 54] (.s .o (.s (.cr .o .o) (.s (.b0 (.s .o (.s .o (.c [0, 1, 2, 3, 4, 13, 15, 16, 52, 53, 54] .o .o)))) .o)))))) (.s (.s .o (.s .o (.c [0, 1, 2, 3, 4, 13, 15] .o .o))) (.s (.s .o (.b [0, 1, 2, 3, 4, 13] (.l [0, 1, 2, 3, 4, 13, 82, 83, 84] (.s .o (.s (.cr .o .o) (.s (.b0 (.s .o (.s .o (.s .o (.cl (.s .o .o) .o))))) .o)))))) (.s .o .o))))))))))))
theorem f12_eq (D : Dyn) (n : Nat) : f12 D n = funK (s12 D n) D n 12 Tryz.f12 h12 := by kernel_rfl
theorem f12_ok {D : Dyn} (hD : DG D) (n : Nat) : FI 12 (f12 D n) := fun_ok X_ok hD (SOk.cons (f82_ok hD n).fs (SOk.cons (f83_ok hD n).fs (SOk.cons (f86_ok hD n).fs (SOk.cons (f27_ok hD n).fs (SOk.cons (f87_ok hD n).fs (SOk.cons (f17_ok hD n).fs (SOk.nil))))))) Tryz.func12 (by kernel_rfl) (f12_eq D n)

def s84 (D : Dyn) (n : Nat) : Tb := ⟨X, []⟩
def f84l0 (D : Dyn) (n : Nat) (vs : List AV) (H : AH) : Rs :=
  hd vs fun x1_2 vs => hd vs fun x4_2 vs => hd vs fun x8 vs => hd vs fun x9_2 vs => hd vs fun x10 vs => 
  bV (bInt .lss x10 x9_2) fun x11 => 
  cnd x11 (bV (ixSl 4 x8 x10) fun x12 => 
  bV (ldN 4 x12 H) fun x13 => 
  bA (bxV 125 (.agg [(.int .i64 (.ofNat 0)), (.int .u64 (.ofNat 0)), (.str 0 0), (.int .i64 (.ofNat 0))])) H fun x7 H => 
  bR (stN 4 x7 x13 H) fun x9999 H => 
  bV (ldN 4 x7 H) fun x15 => 
  bR (callV (s84 D n).S D x1_2 [x15] H) fun x16 H => 
  cnd x16 (bV (ldN 4 x7 H) fun x17 => 
  bR (stN 4 x4_2 x17 H) fun x9999_2 H => 
  bV (ldN 4 x4_2 H) fun x9004 => bV (some (.bool true)) fun x5 => some (.ret (.tuple [x9004, x5]), H))
  (bV (bInt .add x10 (.int .i64 (.ofNat 1))) fun x18 => 
  some (.norm [x1_2, x4_2, x8, x9_2, x18], H)))
  (some (.exit 0 [x4_2], H))
def f84b1 (D : Dyn) (n : Nat) (vs : List AV) (H : AH) : Rs :=
  hd vs fun x4_3 vs => 
  bV (bldS [(0, 3), (3, 1)] [(.int .i64 (.ofNat 0)), (.int .u64 (.ofNat 0)), (.str 0 0), (.int .i64 (.ofNat 0))] []) fun x19 => 
  bR (stN 4 x4_3 x19 H) fun x9999_3 H => 
  bV (ldN 4 x4_3 H) fun x9004_2 => bV (some (.bool false)) fun x5_2 => some (.ret (.tuple [x9004_2, x5_2]), H)
/-- jetty/drc.first -/
def f84 (D : Dyn) (n : Nat) (vs : List AV) (H : AH) : Option (AV × AH) :=
  outR (hd vs fun x0 vs => hd vs fun x1 vs => nl vs <|
  bA (bxV 125 (.agg [(.int .i64 (.ofNat 0)), (.int .u64 (.ofNat 0)), (.str 0 0), (.int .i64 (.ofNat 0))])) H fun x4 H => 
  bV (lnSl x0) fun x9 => 
  jb 0 (loopK n (f84l0 D n) [x1, x4, x0, x9, (.int .i64 (.ofNat 0))] H) (f84b1 D n))
def h84 : Hint := (.s .o (.s (.s .o (.b [4] (.l [1, 4, 8, 9, 10] (.s .o (.s (.cr .o .o) (.s (.b0 (.s .o (.s .o (.cl (.s .o .o) .o)))) .o)))))) (.s .o .o)))
theorem f84_eq (D : Dyn) (n : Nat) : f84 D n = funK (s84 D n) D n 84 Tryz.f84 h84 := by kernel_rfl
theorem f84_ok {D : Dyn} (hD : DG D) (n : Nat) : FI 84 (f84 D n) := fun_ok X_ok hD (SOk.nil) Tryz.func84 (by kernel_rfl) (f84_eq D n)

def s85 (D : Dyn) (n : Nat) : Tb := ⟨X, []⟩
/-- jetty/drc.Look$1 -/
def f85 (D : Dyn) (n : Nat) (vs : List AV) (H : AH) : Option (AV × AH) :=
  outR (hd vs fun x0 vs => hd vs fun x1 vs => hd vs fun x2 vs => nl vs <|
  bA (bxV 125 x0) H fun x3 H => 
  bV (fAd 0 x3) fun x5 => 
  bV (fAd 0 x5) fun x6 => 
  bV (ld1 x6 H) fun x7 => 
  bV (ld1 x1 H) fun x8 => 
  bV (bInt .eql x7 x8) fun x9 => 
  jn (wnt x9 true (bV (fAd 0 x3) fun x11 => 
  bV (fAd 1 x11) fun x12 => 
  bV (ld1 x12 H) fun x13 => 
  bV (ld1 x2 H) fun x14 => 
  bV (bInt .eql x13 x14) fun x15 => 
  some (.norm [x15], H)) (some (.norm [undefA], H))) fun vs H => hd vs fun x15_2 vs => 
  bV (pk3 (some x9) (some x15_2) (some (.bool false))) fun x16 => 
  bV (some x16) fun x4 => some (.ret x4, H))
def h85 : Hint := (.s .o (.s .o .o))
theorem f85_eq (D : Dyn) (n : Nat) : f85 D n = funK (s85 D n) D n 85 Tryz.f85 h85 := by kernel_rfl
theorem f85_ok {D : Dyn} (hD : DG D) (n : Nat) : FI 85 (f85 D n) := fun_ok X_ok hD (SOk.nil) Tryz.func85 (by kernel_rfl) (f85_eq D n)

def s11 (D : Dyn) (n : Nat) : Tb := ⟨X, [(82, f82 D n), (83, f83 D n), (84, f84 D n)]⟩
/-- jetty/drc.Look -/
def f11 (D : Dyn) (n : Nat) (vs : List AV) (H : AH) : Option (AV × AH) :=
  outR (hd vs fun x0 vs => hd vs fun x1 vs => hd vs fun x2 vs => hd vs fun x3 vs => nl vs <|
  bA (bxV 3 x2) H fun x6 H => 
  bA (bxV 31 x3) H fun x7 H => 
  bR (f82 D n [x0, x1] H) fun x17 H => 
  bV (pExtract x17 0) fun x18 => 
  bV (pExtract x17 1) fun x19 => 
  bV (bInt .neq x19 (.int .i64 (.ofNat 0))) fun x21 => 
  cnd x21 (bV (some (.str 0 0)) fun x8 => bV (some x19) fun x9 => some (.ret (.tuple [x8, x9]), H))
  (bV (ld1 x6 H) fun x23 => 
  bR (f83 D n [x23] H) fun x24 H => 
  bV (aun .not x24) fun x25 => 
  cnd x25 (bV (some (.str 0 0)) fun x8_2 => bV (some (.int .i64 (.ofNat 1))) fun x9_2 => some (.ret (.tuple [x8_2, x9_2]), H))
  (bR (f84 D n [x18, (.func 85 [] [x6, x7])] H) fun x29 H => 
  bV (pExtract x29 0) fun x30 => 
  bV (pExtract x29 1) fun x31 => 
  bA (bxV 125 (.agg [(.int .i64 (.ofNat 0)), (.int .u64 (.ofNat 0)), (.str 0 0), (.int .i64 (.ofNat 0))])) H fun x12 H => 
  bR (stN 4 x12 x30 H) fun x9999 H => 
  bV (aun .not x31) fun x33 => 
  cnd x33 (bV (some (.str 0 0)) fun x8_3 => bV (some (.int .i64 (.ofNat 5))) fun x9_3 => some (.ret (.tuple [x8_3, x9_3]), H))
  (bV (fAd 0 x12) fun x34 => 
  bV (fAd 2 x34) fun x35 => 
  bV (ld1 x35 H) fun x36 => 
  bV (some x36) fun x8_4 => bV (some (.int .i64 (.ofNat 0))) fun x9_4 => some (.ret (.tuple [x8_4, x9_4]), H)))))
def h11 : Hint := (.s .o (.s .o (.s (.s .o (.cl (.s .o .o) .o)) (.s (.s .o (.cl (.s .o .o) .o)) (.s .o (.s (.s .o (.cl (.s .o .o) .o)) (.s .o .o)))))))
theorem f11_eq (D : Dyn) (n : Nat) : f11 D n = funK (s11 D n) D n 11 Tryz.f11 h11 := by kernel_rfl
theorem f11_ok {D : Dyn} (hD : DG D) (n : Nat) : FI 11 (f11 D n) := fun_ok X_ok hD (SOk.cons (f82_ok hD n).fs (SOk.cons (f83_ok hD n).fs (SOk.cons (f84_ok hD n).fs (SOk.nil)))) Tryz.func11 (by kernel_rfl) (f11_eq D n)

def s14 (D : Dyn) (n : Nat) : Tb := ⟨X, [(11, f11 D n)]⟩
/-- jetty/jettylaw27.told -/
def f14 (D : Dyn) (n : Nat) (vs : List AV) (H : AH) : Option (AV × AH) :=
  outR (hd vs fun x0 vs => hd vs fun x1 vs => hd vs fun x2 vs => hd vs fun x3 vs => hd vs fun x4 vs => nl vs <|
  bR (f11 D n [x0, x1, x2, x3] H) fun x18 H => 
  bV (pExtract x18 0) fun x19 => 
  bV (pExtract x18 1) fun x20 => 
  bV (bInt .eql x20 (.int .i64 (.ofNat 0))) fun x22 => 
  jn (wnt x22 true (bV (bStr .eql x19 x4) fun x26 => 
  some (.norm [x26], H)) (some (.norm [undefA], H))) fun vs H => hd vs fun x26_2 vs => 
  bV (pk3 (some x22) (some x26_2) (some (.bool false))) fun x27 => 
  bV (some x27) fun x10 => some (.ret x10, H))
def h14 : Hint := (.s .o (.s .o (.s .o .o)))
theorem f14_eq (D : Dyn) (n : Nat) : f14 D n = funK (s14 D n) D n 14 Tryz.f14 h14 := by kernel_rfl
theorem f14_ok {D : Dyn} (hD : DG D) (n : Nat) : FI 14 (f14 D n) := fun_ok X_ok hD (SOk.cons (f11_ok hD n).fs (SOk.nil)) Tryz.func14 (by kernel_rfl) (f14_eq D n)

def s81 (D : Dyn) (n : Nat) : Tb := ⟨X, [(11, f11 D n)]⟩
/-- jetty/jettylaw27.none -/
def f81 (D : Dyn) (n : Nat) (vs : List AV) (H : AH) : Option (AV × AH) :=
  outR (hd vs fun x0 vs => hd vs fun x1 vs => hd vs fun x2 vs => hd vs fun x3 vs => nl vs <|
  bR (f11 D n [x0, x1, x2, x3] H) fun x16 H => 
  bV (pExtract x16 0) fun x17 => 
  bV (pExtract x16 1) fun x18 => 
  bV (bInt .eql x18 (.int .i64 (.ofNat 5))) fun x20 => 
  jn (wnt x20 true (bV (bStr .eql x17 (.str 0 0)) fun x23 => 
  some (.norm [x23], H)) (some (.norm [undefA], H))) fun vs H => hd vs fun x23_2 vs => 
  bV (pk3 (some x20) (some x23_2) (some (.bool false))) fun x24 => 
  bV (some x24) fun x8 => some (.ret x8, H))
def h81 : Hint := (.s .o (.s .o (.s .o .o)))
theorem f81_eq (D : Dyn) (n : Nat) : f81 D n = funK (s81 D n) D n 81 Tryz.f81 h81 := by kernel_rfl
theorem f81_ok {D : Dyn} (hD : DG D) (n : Nat) : FI 81 (f81 D n) := fun_ok X_ok hD (SOk.cons (f11_ok hD n).fs (SOk.nil)) Tryz.func81 (by kernel_rfl) (f81_eq D n)

def s10 (D : Dyn) (n : Nat) : Tb := ⟨X, [(82, f82 D n)]⟩
def f10l0 (D : Dyn) (n : Nat) (vs : List AV) (H : AH) : Rs :=
  hd vs fun x7 vs => hd vs fun x8 vs => hd vs fun x17 vs => hd vs fun x18_2 vs => hd vs fun x19 vs => 
  bV (bInt .lss x19 x18_2) fun x20 => 
  cnd x20 (bV (ixSl 4 x17 x19) fun x21 => 
  bV (ldN 4 x21 H) fun x22 => 
  bA (bxV 125 (.agg [(.int .i64 (.ofNat 0)), (.int .u64 (.ofNat 0)), (.str 0 0), (.int .i64 (.ofNat 0))])) H fun x10 H => 
  bR (stN 4 x10 x22 H) fun x9999 H => 
  bV (fAd 0 x10) fun x24 => 
  bV (ldN 3 x24 H) fun x25 => 
  bA (bldL 123 3 1 [(.int .i64 (.ofNat 0)), (.int .u64 (.ofNat 0)), (.str 0 0)] [(0, x25)]) H fun x26 H => 
  bR (apP 123 3 32 x8 x26 H) fun x27 H => 
  bV (bInt .add x19 (.int .i64 (.ofNat 1))) fun x28 => 
  some (.norm [x7, x27, x17, x18_2, x28], H))
  (some (.exit 0 [x7, x8], H))
def f10b1 (D : Dyn) (n : Nat) (vs : List AV) (H : AH) : Rs :=
  hd vs fun x7_2 vs => hd vs fun x8_2 vs => 
  bV (some x8_2) fun x4 => bV (some x7_2) fun x5 => some (.ret (.tuple [x4, x5]), H)
/-- jetty/drc.Window -/
def f10 (D : Dyn) (n : Nat) (vs : List AV) (H : AH) : Option (AV × AH) :=
  outR (hd vs fun x0 vs => hd vs fun x1 vs => nl vs <|
  bR (f82 D n [x0, x1] H) fun x14 H => 
  bV (pExtract x14 0) fun x15 => 
  bV (pExtract x14 1) fun x16 => 
  bV (lnSl x15) fun x18 => 
  jb 0 (loopK n (f10l0 D n) [x16, .nilSlice, x15, x18, (.int .i64 (.ofNat 0))] H) (f10b1 D n))
def h10 : Hint := (.s .o (.s .o (.s .o (.s (.s .o (.b [7, 8] (.l [7, 8, 17, 18, 19] (.s .o (.s (.cr .o .o) (.s (.b0 (.s .o .o)) .o)))))) (.s .o .o)))))
theorem f10_eq (D : Dyn) (n : Nat) : f10 D n = funK (s10 D n) D n 10 Tryz.f10 h10 := by kernel_rfl
theorem f10_ok {D : Dyn} (hD : DG D) (n : Nat) : FI 10 (f10 D n) := fun_ok X_ok hD (SOk.cons (f82_ok hD n).fs (SOk.nil)) Tryz.func10 (by kernel_rfl) (f10_eq D n)

def s16 (D : Dyn) (n : Nat) : Tb := ⟨X, [(10, f10 D n)]⟩
def f16l0 (D : Dyn) (n : Nat) (vs : List AV) (H : AH) : Rs :=
  hd vs fun x2_2 vs => hd vs fun x7 vs => hd vs fun x9 vs => 
  bV (lnSl x7) fun x27 => 
  bV (bInt .lss x9 x27) fun x28 => 
  cnd x28 (bV (ixSl 3 x7 x9) fun x33 => 
  bV (fAd 0 x33) fun x34 => 
  bV (ld1 x34 H) fun x35 => 
  bV (ixSl 1 x2_2 x9) fun x38 => 
  bV (ld1 x38 H) fun x39 => 
  bV (bInt .neq x35 x39) fun x40 => 
  cnd x40 (bV (some (.bool false)) fun x6_2 => some (.ret x6_2, H))
  (bV (bInt .add x9 (.int .i64 (.ofNat 1))) fun x30 => 
  some (.norm [x2_2, x7, x30], H)))
  (some (.exit 0 [], H))
def f16b1 (D : Dyn) (n : Nat) (vs : List AV) (H : AH) : Rs :=
  
  bV (some (.bool true)) fun x6_3 => some (.ret x6_3, H)
/-- jetty/jettylaw27.xids -/
def f16 (D : Dyn) (n : Nat) (vs : List AV) (H : AH) : Option (AV × AH) :=
  outR (hd vs fun x0 vs => hd vs fun x1 vs => hd vs fun x2 vs => nl vs <|
  bR (f10 D n [x0, x1] H) fun x13 H => 
  bV (pExtract x13 0) fun x14 => 
  bV (pExtract x13 1) fun x15 => 
  bV (bInt .neq x15 (.int .i64 (.ofNat 0))) fun x17 => 
  jn (wnt x17 false (bV (lnSl x14) fun x20 => 
  bV (lnSl x2) fun x22 => 
  bV (bInt .neq x20 x22) fun x23 => 
  some (.norm [x23], H)) (some (.norm [undefA], H))) fun vs H => hd vs fun x23_2 vs => 
  bV (pk3 (some x17) (some (.bool true)) (some x23_2)) fun x24 => 
  cnd x24 (bV (some (.bool false)) fun x6 => some (.ret x6, H))
  (jb 0 (loopK n (f16l0 D n) [x2, x14, (.int .i64 (.ofNat 0))] H) (f16b1 D n)))
def h16 : Hint := (.s .o (.s .o (.s (.s .o (.cl (.s .o .o) .o)) (.s (.s .o (.b [] (.l [2, 7, 9] (.s (.s .o (.cr .o .o)) (.s (.b0 (.s .o (.cl (.s .o .o) .o))) .o))))) (.s .o .o)))))
theorem f16_eq (D : Dyn) (n : Nat) : f16 D n = funK (s16 D n) D n 16 Tryz.f16 h16 := by kernel_rfl
theorem f16_ok {D : Dyn} (hD : DG D) (n : Nat) : FI 16 (f16 D n) := fun_ok X_ok hD (SOk.cons (f10_ok hD n).fs (SOk.nil)) Tryz.func16 (by kernel_rfl) (f16_eq D n)

def s8 (D : Dyn) (n : Nat) : Tb := ⟨X, [(9, f9 D n), (12, f12 D n), (14, f14 D n), (81, f81 D n), (16, f16 D n)]⟩
def f8l0 (D : Dyn) (n : Nat) (vs : List AV) (H : AH) : Rs :=
  hd vs fun x1 vs => hd vs fun x2 vs => 
  bV (bInt .lss x2 (.int .i64 (.ofNat 16))) fun x27 => 
  cnd x27 (bR (f12 D n [x1, (.int .i64 (.ofNat 1)), x2, (.int .u64 (.ofNat 5)), (.str 0 0)] H) fun x32 H => 
  bV (bInt .neq x32 (.int .i64 (.ofNat 0))) fun x33 => 
  cnd x33 (bV (some (.bool false)) fun x0_2 => some (.ret x0_2, H))
  (bV (bInt .add x2 (.int .i64 (.ofNat 1))) fun x29 => 
  some (.norm [x1, x29], H)))
  (some (.exit 0 [x1], H))
def f8b1 (D : Dyn) (n : Nat) (vs : List AV) (H : AH) : Rs :=
  hd vs fun x1_2 vs => 
  bR (f81 D n [x1_2, (.int .i64 (.ofNat 1)), (.int .i64 (.ofNat 7)), (.int .u64 (.ofNat 5))] H) fun x35 H => 
  jn (wnt x35 true (bA (bldL 3 1 8 [(.int .i64 (.ofNat 0))] [(0, (.int .i64 (.ofNat 8))), (1, (.int .i64 (.ofNat 9))), (2, (.int .i64 (.ofNat 10))), (3, (.int .i64 (.ofNat 11))), (4, (.int .i64 (.ofNat 12))), (5, (.int .i64 (.ofNat 13))), (6, (.int .i64 (.ofNat 14))), (7, (.int .i64 (.ofNat 15)))]) H fun x38 H => 
  bR (f16 D n [x1_2, (.int .i64 (.ofNat 1)), x38] H) fun x39 H => 
  some (.norm [x39], H)) (some (.norm [undefA], H))) fun vs H => hd vs fun x39_2 vs => 
  bV (pk3 (some x35) (some x39_2) (some (.bool false))) fun x40 => 
  jn (wnt x40 true (bR (f12 D n [x1_2, (.int .i64 (.ofNat 1)), (.int .i64 (.ofNat 9)), (.int .u64 (.ofNat 1)), (.str 5 474214393697)] H) fun x43 H => 
  bV (bInt .eql x43 (.int .i64 (.ofNat 0))) fun x44 => 
  some (.norm [x44], H)) (some (.norm [undefA], H))) fun vs H => hd vs fun x44_2 vs => 
  bV (pk3 (some x40) (some x44_2) (some (.bool false))) fun x45 => 
  jn (wnt x45 true (bA (bldL 3 1 8 [(.int .i64 (.ofNat 0))] [(0, (.int .i64 (.ofNat 8))), (1, (.int .i64 (.ofNat 10))), (2, (.int .i64 (.ofNat 11))), (3, (.int .i64 (.ofNat 12))), (4, (.int .i64 (.ofNat 13))), (5, (.int .i64 (.ofNat 14))), (6, (.int .i64 (.ofNat 15))), (7, (.int .i64 (.ofNat 9)))]) H fun x48 H => 
  bR (f16 D n [x1_2, (.int .i64 (.ofNat 1)), x48] H) fun x49 H => 
  some (.norm [x49], H)) (some (.norm [undefA], H))) fun vs H => hd vs fun x49_2 vs => 
  bV (pk3 (some x45) (some x49_2) (some (.bool false))) fun x50 => 
  jn (wnt x50 true (bR (f81 D n [x1_2, (.int .i64 (.ofNat 1)), (.int .i64 (.ofNat 9)), (.int .u64 (.ofNat 5))] H) fun x53 H => 
  some (.norm [x53], H)) (some (.norm [undefA], H))) fun vs H => hd vs fun x53_2 vs => 
  bV (pk3 (some x50) (some x53_2) (some (.bool false))) fun x54 => 
  jn (wnt x54 true (bR (f14 D n [x1_2, (.int .i64 (.ofNat 1)), (.int .i64 (.ofNat 9)), (.int .u64 (.ofNat 1)), (.str 5 474214393697)] H) fun x57 H => 
  some (.norm [x57], H)) (some (.norm [undefA], H))) fun vs H => hd vs fun x57_2 vs => 
  bV (pk3 (some x54) (some x57_2) (some (.bool false))) fun x58 => 
  bV (some x58) fun x0_3 => some (.ret x0_3, H)
/-- jetty/jettylaw27.works -/
def f8 (D : Dyn) (n : Nat) (vs : List AV) (H : AH) : Option (AV × AH) :=
  outR (nl vs <|
  bR (f9 D n [] H) fun x3 H => 
  bV (cmpO .eql (eqP x3 .nilPtr)) fun x5 => 
  jn (wnt x5 false (bR (f12 D n [x3, (.int .i64 (.ofNat 1)), (.int .i64 (.ofNat 7)), (.int .u64 (.ofNat 5)), (.str 3 7562617)] H) fun x8 H => 
  bV (bInt .neq x8 (.int .i64 (.ofNat 0))) fun x9 => 
  some (.norm [x9], H)) (some (.norm [undefA], H))) fun vs H => hd vs fun x9_2 vs => 
  bV (pk3 (some x5) (some (.bool true)) (some x9_2)) fun x10 => 
  jn (wnt x10 false (bR (f14 D n [x3, (.int .i64 (.ofNat 1)), (.int .i64 (.ofNat 7)), (.int .u64 (.ofNat 5)), (.str 3 7562617)] H) fun x13 H => 
  bV (aun .not x13) fun x14 => 
  some (.norm [x14], H)) (some (.norm [undefA], H))) fun vs H => hd vs fun x14_2 vs => 
  bV (pk3 (some x10) (some (.bool true)) (some x14_2)) fun x15 => 
  jn (wnt x15 false (bR (f81 D n [x3, (.int .i64 (.ofNat 1)), (.int .i64 (.ofNat 7)), (.int .u64 (.ofNat 6))] H) fun x18 H => 
  bV (aun .not x18) fun x19 => 
  some (.norm [x19], H)) (some (.norm [undefA], H))) fun vs H => hd vs fun x19_2 vs => 
  bV (pk3 (some x15) (some (.bool true)) (some x19_2)) fun x20 => 
  jn (wnt x20 false (bR (f81 D n [x3, (.int .i64 (.ofNat 2)), (.int .i64 (.ofNat 7)), (.int .u64 (.ofNat 5))] H) fun x23 H => 
  bV (aun .not x23) fun x24 => 
  some (.norm [x24], H)) (some (.norm [undefA], H))) fun vs H => hd vs fun x24_2 vs => 
  bV (pk3 (some x20) (some (.bool true)) (some x24_2)) fun x25 => 
  cnd x25 (bV (some (.bool false)) fun x0 => some (.ret x0, H))
  (jb 0 (loopK n (f8l0 D n) [x3, (.int .i64 (.ofNat 8))] H) (f8b1 D n)))
def h8 : Hint := (.s .o (.s .o (.s (.s .o (.cl (.s .o .o) .o)) (.s (.s .o (.b [1] (.l [1, 2] (.s (.s .o (.cr .o .o)) (.s (.b0 (.s .o (.cl (.s .o .o) .o))) .o))))) (.s .o .o)))))
theorem f8_eq (D : Dyn) (n : Nat) : f8 D n = funK (s8 D n) D n 8 Tryz.f8 h8 := by kernel_rfl
theorem f8_ok {D : Dyn} (hD : DG D) (n : Nat) : FI 8 (f8 D n) := fun_ok X_ok hD (SOk.cons (f9_ok hD n).fs (SOk.cons (f12_ok hD n).fs (SOk.cons (f14_ok hD n).fs (SOk.cons (f81_ok hD n).fs (SOk.cons (f16_ok hD n).fs (SOk.nil)))))) Tryz.func8 (by kernel_rfl) (f8_eq D n)

def s13 (D : Dyn) (n : Nat) : Tb := ⟨X, []⟩
/-- jetty/jettylaw27.many -/
def f13 (D : Dyn) (n : Nat) (vs : List AV) (H : AH) : Option (AV × AH) :=
  outR (hd vs fun x0 vs => nl vs <|
  bA (mkSl 5 1 1 [(.int .u8 (.ofNat 0))] x0 x0) H fun x4 H => 
  bV (cvBS x4 H) fun x5 => 
  bV (some x5) fun x2 => some (.ret x2, H))
def h13 : Hint := (.s .o (.s .o .o))
theorem f13_eq (D : Dyn) (n : Nat) : f13 D n = funK (s13 D n) D n 13 Tryz.f13 h13 := by kernel_rfl
theorem f13_ok {D : Dyn} (hD : DG D) (n : Nat) : FI 13 (f13 D n) := fun_ok X_ok hD (SOk.nil) Tryz.func13 (by kernel_rfl) (f13_eq D n)

def s183 (D : Dyn) (n : Nat) : Tb := ⟨X, []⟩
def f183l0 (D : Dyn) (n : Nat) (vs : List AV) (H : AH) : Rs :=
  hd vs fun x0_2 vs => hd vs fun x1_2 vs => hd vs fun x3 vs => 
  bV (bInt .geq x3 (.int .i64 (.ofNat 0))) fun x8 => 
  cnd x8 (bV (ld1 x1_2 H) fun x13 => 
  bV (ixSl 3 x13 x3) fun x15 => 
  bV (ldN 3 x15 H) fun x16 => 
  bR (callV (s183 D n).S D x0_2 [x3, x16] H) fun x17 H => 
  bV (aun .not x17) fun x18 => 
  cnd x18 (some (.ret (.tuple []), H))
  (bV (bInt .sub x3 (.int .i64 (.ofNat 1))) fun x10 => 
  some (.norm [x0_2, x1_2, x10], H)))
  (some (.exit 0 [], H))
def f183b1 (D : Dyn) (n : Nat) (vs : List AV) (H : AH) : Rs :=
  
  some (.ret (.tuple []), H)
/-- slices.Backward[[]jetty/api.Ptr,jetty/api.Ptr]$1 -/
def f183 (D : Dyn) (n : Nat) (vs : List AV) (H : AH) : Option (AV × AH) :=
  outR (hd vs fun x0 vs => hd vs fun x1 vs => nl vs <|
  bV (ld1 x1 H) fun x4 => 
  bV (lnSl x4) fun x5 => 
  bV (bInt .sub x5 (.int .i64 (.ofNat 1))) fun x6 => 
  jb 0 (loopK n (f183l0 D n) [x0, x1, x6] H) (f183b1 D n))
def h183 : Hint := (.s .o (.b [] (.l [0, 1, 3] (.s (.s .o (.cr .o .o)) (.s (.b0 (.s .o (.cl .o .o))) .o)))))
theorem f183_eq (D : Dyn) (n : Nat) : f183 D n = funK (s183 D n) D n 183 Tryz.f183 h183 := by kernel_rfl
theorem f183_ok {D : Dyn} (hD : DG D) (n : Nat) : FI 183 (f183 D n) := fun_ok X_ok hD (SOk.nil) Tryz.func183 (by kernel_rfl) (f183_eq D n)

def s92 (D : Dyn) (n : Nat) : Tb := ⟨X, []⟩
/-- slices.Backward[[]jetty/api.Ptr,jetty/api.Ptr] -/
def f92 (D : Dyn) (n : Nat) (vs : List AV) (H : AH) : Option (AV × AH) :=
  outR (hd vs fun x0 vs => nl vs <|
  bA (bxV 55 x0) H fun x1 H => 
  bV (some (.func 183 [] [x1])) fun x2 => some (.ret x2, H))
def h92 : Hint := (.s .o (.s .o .o))
theorem f92_eq (D : Dyn) (n : Nat) : f92 D n = funK (s92 D n) D n 92 Tryz.f92 h92 := by kernel_rfl
theorem f92_ok {D : Dyn} (hD : DG D) (n : Nat) : FI 92 (f92 D n) := fun_ok X_ok hD (SOk.nil) Tryz.func92 (by kernel_rfl) (f92_eq D n)

def s15 (D : Dyn) (n : Nat) : Tb := ⟨X, [(88, f88 D n), (89, f89 D n), (90, f90 D n), (91, f91 D n), (92, f92 D n)]⟩
def f15j0 (D : Dyn) (n : Nat) (vs : List AV) (H : AH) : Rs :=
  hd vs fun x0_3 vs => hd vs fun x1_3 vs => hd vs fun x4_3 vs => hd vs fun x6_3 vs => hd vs fun x28_3 vs => hd vs fun x29_2 vs => 
  bV (bInt .add x29_2 (.int .i64 (.ofNat 1))) fun x92 => 
  some (.norm [x0_3, x1_3, x4_3, x6_3, x28_3, x92], H)
def f15l1 (D : Dyn) (n : Nat) (vs : List AV) (H : AH) : Rs :=
  hd vs fun x0_2 vs => hd vs fun x1_2 vs => hd vs fun x4_2 vs => hd vs fun x6_2 vs => hd vs fun x28_2 vs => hd vs fun x29 vs => 
  bV (bInt .lss x29 x28_2) fun x30 => 
  cnd x30 (bV (ld1 x6_2 H) fun x31 => 
  bV (lnSl x31) fun x32 => 
  bV (bInt .eql x32 (.int .i64 (.ofNat 0))) fun x33 => 
  cnd x33 (bV (bldS [(0, 1), (1, 1)] [(.str 0 0), (.str 0 0)] []) fun x34 => 
  bR (stN 2 x4_2 x34 H) fun x9999_4 H => 
  bV (ldN 2 x4_2 H) fun x9004_3 => bV (some (.int .i64 (.ofNat 5))) fun x5_3 => some (.ret (.tuple [x9004_3, x5_3]), H))
  (bV (ld1 x6_2 H) fun x37 => 
  bV (ld1 x6_2 H) fun x38 => 
  bV (lnSl x38) fun x39 => 
  bV (bInt .sub x39 (.int .i64 (.ofNat 1))) fun x40 => 
  bV (ixSl 3 x37 x40) fun x41 => 
  bV (ldN 3 x41 H) fun x42 => 
  bR (f90 D n [x0_2, x42] H) fun x43 H => 
  bV (pExtract x43 0) fun x44 => 
  bV (pExtract x43 1) fun x45 => 
  bA (bxV 57 (.agg [(.bool false), .nilSlice, .nilSlice, .nilSlice])) H fun x7 H => 
  bR (stN 4 x7 x44 H) fun x9999_5 H => 
  bV (bInt .neq x45 (.int .i64 (.ofNat 0))) fun x47 => 
  cnd x47 (bV (bldS [(0, 1), (1, 1)] [(.str 0 0), (.str 0 0)] []) fun x48 => 
  bR (stN 2 x4_2 x48 H) fun x9999_6 H => 
  bV (ldN 2 x4_2 H) fun x9004_4 => bV (some x45) fun x5_4 => some (.ret (.tuple [x9004_4, x5_4]), H))
  (bV (ld1 x6_2 H) fun x50 => 
  bV (ld1 x6_2 H) fun x51 => 
  bV (lnSl x51) fun x52 => 
  bV (bInt .sub x52 (.int .i64 (.ofNat 1))) fun x53 => 
  bV (slSl 3 x50 none (some x53) none H) fun x54 => 
  bR (stN 1 x6_2 x54 H) fun x9999_7 H => 
  bV (ldN 4 x7 H) fun x55 => 
  bR (f91 D n [x55, x1_2] H) fun x57 H => 
  bV (fAd 0 x7) fun x58 => 
  bV (ld1 x58 H) fun x59 => 
  jn (wnt x59 true (bV (fAd 1 x7) fun x62 => 
  bV (ld1 x62 H) fun x63 => 
  bV (lnSl x63) fun x64 => 
  bV (bInt .lss x57 x64) fun x65 => 
  some (.norm [x65], H)) (some (.norm [undefA], H))) fun vs H => hd vs fun x65_2 vs => 
  bV (pk3 (some x59) (some x65_2) (some (.bool false))) fun x66 => 
  cnd x66 (bV (fAd 1 x7) fun x67 => 
  bV (ld1 x67 H) fun x68 => 
  bV (ixSl 1 x68 x57) fun x70 => 
  bV (ld1 x70 H) fun x71 => 
  bV (fAd 2 x7) fun x72 => 
  bV (ld1 x72 H) fun x73 => 
  bV (ixSl 1 x73 x57) fun x75 => 
  bV (ld1 x75 H) fun x76 => 
  bV (bldS [(0, 1), (1, 1)] [(.str 0 0), (.str 0 0)] [(0, x71), (1, x76)]) fun x77 => 
  bR (stN 2 x4_2 x77 H) fun x9999_8 H => 
  bV (ldN 2 x4_2 H) fun x9004_5 => bV (some (.int .i64 (.ofNat 0))) fun x5_5 => some (.ret (.tuple [x9004_5, x5_5]), H))
  (bV (fAd 0 x7) fun x78 => 
  bV (ld1 x78 H) fun x79 => 
  bV (aun .not x79) fun x80 => 
  jn (cnd x80 (bV (fAd 3 x7) fun x81 => 
  bV (ld1 x81 H) fun x82 => 
  bV (slSl 3 x82 (some x57) none none H) fun x84 => 
  bR (f92 D n [x84] H) fun x85 H => 
  newB H (.loop ⟨.ready, none, 15, 0, [6], [x6_2]⟩) fun A H => bR (rfC (s15 D n).S D x85 A H) fun _ H => endLp A H fun j H => jmpK j (
  some (.norm [x0_2, x1_2, x4_2, x6_2, x28_2, x29], H))
  (fun id => cond (Nat.beq 0 id) (some (.exit id [x4_2, x6_2], H)) (none)) (bV (ldN 2 x4_2 H) fun x9004_6 => none))
  (some (.norm [x0_2, x1_2, x4_2, x6_2, x28_2, x29], H))) (f15j0 D n)))))
  (some (.exit 0 [x4_2, x6_2], H))
def f15b2 (D : Dyn) (n : Nat) (vs : List AV) (H : AH) : Rs :=
  hd vs fun x4_4 vs => hd vs fun x6_4 vs => 
  bV (ld1 x6_4 H) fun x93 => 
  bV (lnSl x93) fun x94 => 
  bV (bInt .eql x94 (.int .i64 (.ofNat 0))) fun x95 => 
  cnd x95 (bV (bldS [(0, 1), (1, 1)] [(.str 0 0), (.str 0 0)] []) fun x96 => 
  bR (stN 2 x4_4 x96 H) fun x9999_9 H => 
  bV (ldN 2 x4_4 H) fun x9004_7 => bV (some (.int .i64 (.ofNat 5))) fun x5_6 => some (.ret (.tuple [x9004_7, x5_6]), H))
  (bV (bldS [(0, 1), (1, 1)] [(.str 0 0), (.str 0 0)] []) fun x97 => 
  bR (stN 2 x4_4 x97 H) fun x9999_10 H => 
  bV (ldN 2 x4_4 H) fun x9004_8 => bV (some (.int .i64 (.ofNat 4))) fun x5_7 => some (.ret (.tuple [x9004_8, x5_7]), H))
/-- (*jetty/tree.Tree).Next -/
def f15 (D : Dyn) (n : Nat) (vs : List AV) (H : AH) : Option (AV × AH) :=
  outR (hd vs fun x0 vs => hd vs fun x1 vs => nl vs <|
  bA (bxV 36 (.agg [(.str 0 0), (.str 0 0)])) H fun x4 H => 
  bR (f88 D n [x0] H) fun x13 H => 
  cnd x13 (bV (bldS [(0, 1), (1, 1)] [(.str 0 0), (.str 0 0)] []) fun x14 => 
  bR (stN 2 x4 x14 H) fun x9999 H => 
  bV (ldN 2 x4 H) fun x9004 => bV (some (.int .i64 (.ofNat 2))) fun x5 => some (.ret (.tuple [x9004, x5]), H))
  (bV (pNil x0) fun x16 => 
  bV (fAd 2 x16) fun x17 => 
  bV (fAd 0 x17) fun x18 => 
  bV (ld1 x18 H) fun x19 => 
  bV (bInt .eql x19 (.int .i64 (.ofNat 0))) fun x20 => 
  cnd x20 (bV (bldS [(0, 1), (1, 1)] [(.str 0 0), (.str 0 0)] []) fun x21 => 
  bR (stN 2 x4 x21 H) fun x9999_2 H => 
  bV (ldN 2 x4 H) fun x9004_2 => bV (some (.int .i64 (.ofNat 5))) fun x5_2 => some (.ret (.tuple [x9004_2, x5_2]), H))
  (bV (pNil x0) fun x23 => 
  bV (fAd 2 x23) fun x24 => 
  bV (ldN 3 x24 H) fun x25 => 
  bA (bldL 52 3 1 [(.int .i64 (.ofNat 0)), (.int .i64 (.ofNat 0)), (.int .u64 (.ofNat 0))] [(0, x25)]) H fun x26 H => 
  bA (bxV 55 .nilSlice) H fun x6 H => 
  bR (stN 1 x6 x26 H) fun x9999_3 H => 
  bR (f89 D n [x0] H) fun x28 H => 
  jb 0 (loopK n (f15l1 D n) [x0, x1, x4, x6, x28, (.int .i64 (.ofNat 0))] H) (f15b2 D n))))
def h15 : Hint := (.s .o (.s (.s .o (.cl (.s .o .o) .o)) (.s (.s .o (.cl (.s .o .o) .o)) (.s .o (.s (.s .o (.b [4, 6] (.l [0, 1, 4, 6, 28, 29] (.s .o (.s (.cr .o .o) (.s (.b0 (.s (.s .o (.cl (.s .o .o) .o)) (.s .o (.s (.s .o (.cl (.s .o .o) .o)) (.s .o (.s .o (.s (.s .o (.cl (.s .o .o) .o)) (.s .o (.c [0, 1, 4, 6, 28, 29] (.s .o (.b0 (.rf 0 [6]))) .o))))))))) .o)))))) (.s (.s .o (.cl (.s .o .o) .o)) (.s .o .o)))))))
theorem f15_eq (D : Dyn) (n : Nat) : f15 D n = funK (s15 D n) D n 15 Tryz.f15 h15 := by kernel_rfl
theorem f15_ok {D : Dyn} (hD : DG D) (n : Nat) : FI 15 (f15 D n) := fun_ok X_ok hD (SOk.cons (f88_ok hD n).fs (SOk.cons (f89_ok hD n).fs (SOk.cons (f90_ok hD n).fs (SOk.cons (f91_ok hD n).fs (SOk.cons (f92_ok hD n).fs (SOk.nil)))))) Tryz.func15 (by kernel_rfl) (f15_eq D n)
def r15_0 (D : Dyn) (n : Nat) (A : Nat) (l : ALoop) (az : List AV) (H : AH) : Option (AV × AH) :=
  bif eqNL [6] l.live then endQ A (hd l.vals fun x6 vs => hd az fun x86 az => hd az fun x87 az => nl az <|
  bA (bxV 52 (.agg [(.int .i64 (.ofNat 0)), (.int .i64 (.ofNat 0)), (.int .u64 (.ofNat 0))])) H fun x11 H => 
  bR (stN 3 x11 x87 H) fun x9999 H => 
  beginK A H fun H => 
  bV (ld1 x6 H) fun x88 => 
  bV (ldN 3 x11 H) fun x89 => 
  bA (bldL 52 3 1 [(.int .i64 (.ofNat 0)), (.int .i64 (.ofNat 0)), (.int .u64 (.ofNat 0))] [(0, x89)]) H fun x90 H => 
  bR (apP 52 3 24 x88 x90 H) fun x91 H => 
  bR (stN 1 x6 x91 H) fun x9999_2 H => 
  some (.norm [], H)) else none
def r15_0a : Hint := .o
def r15_0b : Hint := (.b0 .o)
theorem r15_0_eq (D : Dyn) (n : Nat) : r15_0 D n = rndK (s15 D n) D n 15 0 [6] [0] r15_0a r15_0b := by kernel_rfl
theorem r15_0_ok {D : Dyn} (hD : DG D) (n : Nat) : RS 15 0 (r15_0 D n) := round_ok X_ok hD (SOk.cons (f88_ok hD n).fs (SOk.cons (f89_ok hD n).fs (SOk.cons (f90_ok hD n).fs (SOk.cons (f91_ok hD n).fs (SOk.cons (f92_ok hD n).fs (SOk.nil)))))) (by kernel_rfl) (r15_0_eq D n)

def s194 (D : Dyn) (n : Nat) : Tb := ⟨X, []⟩
def f194l0 (D : Dyn) (n : Nat) (vs : List AV) (H : AH) : Rs :=
  hd vs fun x0_2 vs => hd vs fun x1_2 vs => hd vs fun x7_2 vs => hd vs fun x8 vs => 
  bV (bInt .lss x8 x7_2) fun x9 => 
  cnd x9 (bV (ixSl 1 x1_2 x8) fun x14 => 
  bV (ld1 x14 H) fun x15 => 
  bV (cvI .u64 x15) fun x16 => 
  bV (bInt .xor x0_2 x16) fun x17 => 
  bV (bInt .mul x17 (.int .u64 (.ofNat 1099511628211))) fun x18 => 
  bV (bInt .add x8 (.int .i64 (.ofNat 1))) fun x19 => 
  some (.norm [x18, x1_2, x7_2, x19], H))
  (some (.exit 0 [x0_2], H))
def f194b1 (D : Dyn) (n : Nat) (vs : List AV) (H : AH) : Rs :=
  hd vs fun x0_3 vs => 
  bV (some x0_3) fun x4 => some (.ret x4, H)
/-- jetty/digest.sum[[]byte] -/
def f194 (D : Dyn) (n : Nat) (vs : List AV) (H : AH) : Option (AV × AH) :=
  outR (hd vs fun x0 vs => hd vs fun x1 vs => nl vs <|
  bV (lnSl x1) fun x7 => 
  jb 0 (loopK n (f194l0 D n) [x0, x1, x7, (.int .i64 (.ofNat 0))] H) (f194b1 D n))
def h194 : Hint := (.s .o (.s (.s .o (.b [0] (.l [0, 1, 7, 8] (.s .o (.s (.cr .o .o) (.s (.b0 (.s .o .o)) .o)))))) (.s .o .o)))
theorem f194_eq (D : Dyn) (n : Nat) : f194 D n = funK (s194 D n) D n 194 Tryz.f194 h194 := by kernel_rfl
theorem f194_ok {D : Dyn} (hD : DG D) (n : Nat) : FI 194 (f194 D n) := fun_ok X_ok hD (SOk.nil) Tryz.func194 (by kernel_rfl) (f194_eq D n)

def s96 (D : Dyn) (n : Nat) : Tb := ⟨X, [(194, f194 D n), (193, f193 D n)]⟩
def f96l0 (D : Dyn) (n : Nat) (vs : List AV) (H : AH) : Rs :=
  hd vs fun x3_2 vs => hd vs fun x5 vs => hd vs fun x6_2 vs => hd vs fun x8_2 vs => hd vs fun x9_3 vs => hd vs fun x10_2 vs => hd vs fun x14 vs => 
  bV (bInt .lss x14 (.int .i64 (.ofNat 8))) fun x15 => 
  cnd x15 (bV (bInt .sub (.int .i64 (.ofNat 7)) x14) fun x18 => 
  bV (lnStr x5) fun x20 => 
  bV (cvI .u64 x20) fun x21 => 
  bV (bInt .mul (.int .i64 (.ofNat 8)) x14) fun x23 => 
  bV (bInt .shr x21 x23) fun x24 => 
  bV (cvI .u8 x24) fun x25 => 
  bV (ixArr 8 1 x6_2 x18) fun x26 => 
  bR (stN 1 x26 x25 H) fun x9999 H => 
  bV (bInt .add x14 (.int .i64 (.ofNat 1))) fun x27 => 
  some (.norm [x3_2, x5, x6_2, x8_2, x9_3, x10_2, x27], H))
  (some (.exit 2 [x3_2, x5, x6_2, x8_2, x9_3, x10_2], H))
def f96b1 (D : Dyn) (n : Nat) (vs : List AV) (H : AH) : Rs :=
  hd vs fun x3_3 vs => hd vs fun x5_2 vs => hd vs fun x6_3 vs => hd vs fun x8_3 vs => hd vs fun x9_4 vs => hd vs fun x10_3 vs => 
  bV (slArr 8 1 x6_3 none none none) fun x29 => 
  bR (f194 D n [x3_3, x29] H) fun x30 H => 
  bR (f193 D n [x30, x5_2] H) fun x32 H => 
  bV (bInt .add x10_3 (.int .i64 (.ofNat 1))) fun x33 => 
  some (.norm [x32, x8_3, x9_4, x33], H)
def f96l2 (D : Dyn) (n : Nat) (vs : List AV) (H : AH) : Rs :=
  hd vs fun x3 vs => hd vs fun x8 vs => hd vs fun x9_2 vs => hd vs fun x10 vs => 
  bV (bInt .lss x10 x9_2) fun x11 => 
  cnd x11 (bV (ixSl 1 x8 x10) fun x12 => 
  bV (ld1 x12 H) fun x13 => 
  bA (bxV 264 (.agg [(.int .u8 (.ofNat 0)), (.int .u8 (.ofNat 0)), (.int .u8 (.ofNat 0)), (.int .u8 (.ofNat 0)), (.int .u8 (.ofNat 0)), (.int .u8 (.ofNat 0)), (.int .u8 (.ofNat 0)), (.int .u8 (.ofNat 0))])) H fun x6 H => 
  jb 2 (loopK n (f96l0 D n) [x3, x13, x6, x8, x9_2, x10, (.int .i64 (.ofNat 0))] H) (f96b1 D n))
  (some (.exit 0 [x3], H))
def f96b3 (D : Dyn) (n : Nat) (vs : List AV) (H : AH) : Rs :=
  hd vs fun x3_4 vs => 
  bV (some x3_4) fun x2 => some (.ret x2, H)
/-- jetty/digest.Of -/
def f96 (D : Dyn) (n : Nat) (vs : List AV) (H : AH) : Option (AV × AH) :=
  outR (hd vs fun x0 vs => nl vs <|
  bV (lnSl x0) fun x9 => 
  jb 0 (loopK n (f96l2 D n) [(.int .u64 (.ofNat 14695981039346656037)), x0, x9, (.int .i64 (.ofNat 0))] H) (f96b3 D n))
def h96 : Hint := (.s .o (.s .o (.s (.s .o (.b [3] (.l [3, 8, 9, 10] (.s .o (.s (.cr .o .o) (.s (.b0 (.s .o (.s .o (.s (.s .o (.b [3, 5, 6, 8, 9, 10] (.l [3, 5, 6, 8, 9, 10, 14] (.s .o (.s (.cr .o .o) (.s (.b0 (.s .o .o)) .o)))))) .o)))) .o)))))) (.s .o .o))))
theorem f96_eq (D : Dyn) (n : Nat) : f96 D n = funK (s96 D n) D n 96 Tryz.f96 h96 := by kernel_rfl
theorem f96_ok {D : Dyn} (hD : DG D) (n : Nat) : FI 96 (f96 D n) := fun_ok X_ok hD (SOk.cons (f194_ok hD n).fs (SOk.cons (f193_ok hD n).fs (SOk.nil))) Tryz.func96 (by kernel_rfl) (f96_eq D n)

def s18 (D : Dyn) (n : Nat) : Tb := ⟨X, [(87, f87 D n), (96, f96 D n)]⟩
/-- jetty/drc.Sum -/
def f18 (D : Dyn) (n : Nat) (vs : List AV) (H : AH) : Option (AV × AH) :=
  outR (hd vs fun x0 vs => hd vs fun x1 vs => nl vs <|
  bV (cvI .u64 x0) fun x6 => 
  bR (f87 D n [x6, (.int .i64 (.ofNat 4))] H) fun x7 H => 
  bA (bldL 9 1 2 [(.str 0 0)] [(0, x7), (1, x1)]) H fun x9 H => 
  bR (f96 D n [x9] H) fun x10 H => 
  bV (some x10) fun x4 => some (.ret x4, H))
def h18 : Hint := (.s .o (.s .o .o))
theorem f18_eq (D : Dyn) (n : Nat) : f18 D n = funK (s18 D n) D n 18 Tryz.f18 h18 := by kernel_rfl
theorem f18_ok {D : Dyn} (hD : DG D) (n : Nat) : FI 18 (f18 D n) := fun_ok X_ok hD (SOk.cons (f87_ok hD n).fs (SOk.cons (f96_ok hD n).fs (SOk.nil))) Tryz.func18 (by kernel_rfl) (f18_eq D n)
end Go.Eng.Sh
