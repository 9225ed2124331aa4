/- Shallow functions, by program (gen.py). -/
import Derived.Test.YtnbpjfmfopgomaaGreatRS4
import Derived.Test.YtnbpjfmfopgomaaGreatProg
import Derived.KernelRfl
noncomputable section
namespace Go.Eng.Sh
open Go.Proofs
set_option maxRecDepth 100000
set_option linter.all false
def s120 (D : Dyn) (n : Nat) : Tb := ⟨X, [(43, f43 D n), (44, f44 D n), (46, f46 D n), (121, f121 D n), (122, f122 D n)]⟩
def f120j0 (D : Dyn) (n : Nat) (vs : List AV) (H : AH) : Rs :=
  hd vs fun x6_2 vs => hd vs fun x7_2 vs => hd vs fun x8_2 vs => hd vs fun x10_2 vs => hd vs fun x11 vs => 
  some (.norm [x6_2, x7_2, x8_2, x10_2, x11], H)
def f120j1 (D : Dyn) (n : Nat) (vs : List AV) (H : AH) : Rs :=
  hd vs fun x6_3 vs => hd vs fun x7_3 vs => hd vs fun x8_3 vs => hd vs fun x10_3 vs => hd vs fun x11_2 vs => 
  bV (bInt .neq x11_2 (.int .i64 (.ofNat 0))) fun x63 => 
  cnd x63 (bV (bldSp [(0, 1), (1, 1), (2, 1), (3, 1)] [(.bool false), .nilSlice, .nilSlice, .nilSlice] []) fun x64 => 
  bR (stNp 4 x8_3 x64 H) fun x9999_8 H => 
  bV (ldNp 4 x8_3 H) fun x9008_3 => bV (some x11_2) fun x9_3 => some (.ret (.tuple [x9008_3, x9_3]), H))
  (bV (ld1p x6_3 H) fun x66 => 
  bV (ldNp 3 x7_3 H) fun x67 => 
  bR (noPan (f122 D n [x66, x67] H)) fun x68 H => 
  bV (ldNp 4 x10_3 H) fun x69 => 
  bR (stNp 4 x8_3 x69 H) fun x9999_9 H => 
  bV (ldNp 4 x8_3 H) fun x9008_4 => bV (some (.int .i64 (.ofNat 0))) fun x9_4 => some (.ret (.tuple [x9008_4, x9_4]), H))
/-- (*jetty/tree.Tree).change$1 -/
def f120 (D : Dyn) (n : Nat) (vs : List AV) (H : AH) : Option (AV × AH) :=
  outR (hd vs fun x0 vs => hd vs fun x1 vs => hd vs fun x2 vs => hd vs fun x3 vs => hd vs fun x4 vs => hd vs fun x5 vs => hd vs fun x6 vs => nl vs <|
  bA (bxV 35 x0) H fun x7 H => 
  bA (bxV 46 (.agg [(.bool false), .nilSlice, .nilSlice, .nilSlice])) H fun x8 H => 
  bV (ld1p x1 H) fun x14 => 
  bV (bInt .add x14 (.int .i64 (.ofNat 1))) fun x15 => 
  bR (stNp 1 x1 x15 H) fun x9999 H => 
  bV (ld1p x1 H) fun x16 => 
  bV (ld1p x2 H) fun x17 => 
  bR (noPan (f43 D n [x17] H)) fun x18 H => chk (ld1p x1 H) x16 <| 
  bV (bInt .gtr x16 x18) fun x19 => 
  cnd x19 (bV (bldSp [(0, 1), (1, 1), (2, 1), (3, 1)] [(.bool false), .nilSlice, .nilSlice, .nilSlice] []) fun x20 => 
  bR (stNp 4 x8 x20 H) fun x9999_2 H => 
  bV (ldNp 4 x8 H) fun x9008 => bV (some (.int .i64 (.ofNat 4))) fun x9 => some (.ret (.tuple [x9008, x9]), H))
  (bV (ld1p x2 H) fun x22 => 
  bV (ldNp 3 x7 H) fun x23 => 
  bR (noPan (f44 D n [x22, x23] H)) fun x24 H => 
  bV (pExtract x24 0) fun x25 => 
  bV (pExtract x24 1) fun x26 => 
  bA (bxV 46 (.agg [(.bool false), .nilSlice, .nilSlice, .nilSlice])) H fun x10 H => 
  bR (stNp 4 x10 x25 H) fun x9999_3 H => 
  bV (bInt .neq x26 (.int .i64 (.ofNat 0))) fun x28 => 
  cnd x28 (bV (bldSp [(0, 1), (1, 1), (2, 1), (3, 1)] [(.bool false), .nilSlice, .nilSlice, .nilSlice] []) fun x29 => 
  bR (stNp 4 x8 x29 H) fun x9999_4 H => 
  bV (ldNp 4 x8 H) fun x9008_2 => bV (some x26) fun x9_2 => some (.ret (.tuple [x9008_2, x9_2]), H))
  (bV (fAd 0 x10) fun x31 => 
  bV (ld1p x31 H) fun x32 => 
  jn (cnd x32 (bV (ld1p x3 H) fun x34 => 
  bV (ldNp 4 x10 H) fun x35 => 
  bR (noPan (callV (s120 D n).S D x34 [x35] H)) fun x36 H => 
  bV (pExtract x36 0) fun x37 => 
  bV (pExtract x36 1) fun x38 => 
  bR (stNp 4 x10 x37 H) fun x9999_5 H => 
  some (.norm [x6, x7, x8, x10, x38], H))
  (bV (ldNp 4 x10 H) fun x39 => 
  bV (ld1p x4 H) fun x40 => 
  bR (noPan (f46 D n [x39, x40] H)) fun x41 H => 
  bA (bxV 46 (.agg [(.bool false), .nilSlice, .nilSlice, .nilSlice])) H fun x13 H => 
  bV (ld1p x5 H) fun x43 => 
  bV (fAd 3 x10) fun x44 => 
  bV (ld1p x44 H) fun x45 => 
  bV (ixSl 3 x45 x41) fun x47 => 
  bV (ldNp 3 x47 H) fun x48 => 
  bR (noPan (callV (s120 D n).S D x43 [x48] H)) fun x49 H => 
  bV (pExtract x49 0) fun x50 => 
  bV (pExtract x49 1) fun x51 => 
  bR (stNp 4 x13 x50 H) fun x9999_6 H => 
  bV (bInt .eql x51 (.int .i64 (.ofNat 0))) fun x53 => 
  jn (cnd x53 (bV (ld1p x6 H) fun x55 => 
  bV (ldNp 4 x10 H) fun x56 => 
  bV (ldNp 4 x13 H) fun x58 => 
  bR (noPan (f121 D n [x55, x56, x41, x58] H)) fun x59 H => 
  bV (pExtract x59 0) fun x60 => 
  bV (pExtract x59 1) fun x61 => 
  bR (stNp 4 x10 x60 H) fun x9999_7 H => 
  some (.norm [x6, x7, x8, x10, x61], H))
  (some (.norm [x6, x7, x8, x10, x51], H))) (f120j0 D n))) (f120j1 D n))))
def h120 : Hint := (.s .o (.s (.s .o (.s .o (.cl (.s .o .o) .o))) (.s .o (.s (.s .o (.cl (.s .o .o) .o)) (.s (.s .o (.c [6, 7, 8, 10, 11] .o (.s .o (.s .o (.s .o (.s .o (.c [6, 7, 8, 10, 11] .o .o))))))) (.s (.s .o (.cl (.s .o .o) .o)) (.s .o (.s .o .o))))))))
theorem f120_eq (D : Dyn) (n : Nat) : f120 D n = funKp (s120 D n) D n 120 Tryz.f120 h120 := by kernel_rfl
theorem f120_ok {D : Dyn} (hD : DP D) (n : Nat) : FP 120 (f120 D n) := fun_okP X_ok hD (SP.cons (f43_ok hD n) (SP.cons (f44_ok hD n) (SP.cons (f46_ok hD n) (SP.cons (f121_ok hD n) (SP.cons (f122_ok hD n) (SP.nil)))))) Tryz.func120 (by kernel_rfl) (by kernel_rfl) (f120_eq D n)

def s54 (D : Dyn) (n : Nat) : Tb := ⟨X, [(119, f119 D n), (118, f118 D n), (123, f123 D n)]⟩
/-- (*jetty/tree.Tree).change -/
def f54 (D : Dyn) (n : Nat) (vs : List AV) (H : AH) : Option (AV × AH) :=
  outR (hd vs fun x0 vs => hd vs fun x1 vs => hd vs fun x2 vs => nl vs <|
  bA (bxV 30 x0) H fun x3 H => 
  bA (bxV 9 x1) H fun x4 H => 
  bA (bxV 106 x2) H fun x5 H => 
  bV (ld1p x3 H) fun x14 => 
  bV (ld1p x3 H) fun x15 => 
  bV (pNil x15) fun x16 => 
  bV (fAd 6 x16) fun x17 => 
  bV (ld1p x17 H) fun x18 => 
  bA (mkM [10]) H fun x19 H => 
  bV (bldSp [(0, 1), (1, 1), (2, 1), (3, 1)] [.nilPtr, (.int .u64 (.ofNat 0)), .nilMap, .nilSlice] [(0, x14), (1, x18), (2, x19)]) fun x20 => 
  bA (bxV 181 x20) H fun x21 H => 
  bA (bxV 179 .nilPtr) H fun x7 H => 
  bR (stNp 1 x7 x21 H) fun x9999 H => 
  bV (ld1p x3 H) fun x22 => 
  bV (pNil x22) fun x23 => 
  bV (fAd 2 x23) fun x24 => 
  bV (fAd 0 x24) fun x25 => 
  bV (ld1p x25 H) fun x26 => 
  bV (bInt .eql x26 (.int .i64 (.ofNat 0))) fun x27 => 
  cnd x27 (bV (ld1p x5 H) fun x29 => 
  bV (bldSp [(0, 1), (1, 1), (2, 1), (3, 1)] [(.bool false), .nilSlice, .nilSlice, .nilSlice] [(0, (.bool true))]) fun x30 => 
  bR (noPan (callV (s54 D n).S D x29 [x30] H)) fun x31 H => 
  bV (pExtract x31 0) fun x32 => 
  bV (pExtract x31 1) fun x33 => 
  bA (bxV 46 (.agg [(.bool false), .nilSlice, .nilSlice, .nilSlice])) H fun x8 H => 
  bR (stNp 4 x8 x32 H) fun x9999_2 H => 
  bV (bInt .neq x33 (.int .i64 (.ofNat 0))) fun x35 => 
  cnd x35 (bV (some x33) fun x6 => some (.ret x6, H))
  (bV (ld1p x7 H) fun x37 => 
  bV (ld1p x7 H) fun x38 => 
  bV (ldNp 4 x8 H) fun x39 => 
  bR (noPan (f119 D n [x38, x39] H)) fun x40 H => chk (ld1p x7 H) x37 <| 
  bR (noPan (f118 D n [x37, x40] H)) fun x41 H => 
  bV (some (.int .i64 (.ofNat 0))) fun x6_2 => some (.ret x6_2, H)))
  (bA (bxV 3 (.int .i64 (.ofNat 0))) H fun x10 H => 
  bR (stNp 1 x10 (.int .i64 (.ofNat 0)) H) fun x9999_3 H => 
  bA (bxV 48 .nilFunc) H fun x11 H => 
  bR (stNp 1 x11 (.func 120 [] [x10, x3, x5, x4, x11, x7]) H) fun x9999_4 H => 
  bV (ld1p x11 H) fun x44 => 
  bV (ld1p x3 H) fun x45 => 
  bV (pNil x45) fun x46 => 
  bV (fAd 2 x46) fun x47 => 
  bV (ldNp 3 x47 H) fun x48 => 
  bA (bxV 46 (.agg [(.bool false), .nilSlice, .nilSlice, .nilSlice])) H fun x12 H => 
  bR (noPan (callV (s54 D n).S D x44 [x48] H)) fun x49 H => 
  bV (pExtract x49 0) fun x50 => 
  bV (pExtract x49 1) fun x51 => 
  bR (stNp 4 x12 x50 H) fun x9999_5 H => 
  bV (bInt .neq x51 (.int .i64 (.ofNat 0))) fun x53 => 
  cnd x53 (bV (some x51) fun x6_3 => some (.ret x6_3, H))
  (bV (ld1p x7 H) fun x55 => 
  bV (ldNp 4 x12 H) fun x56 => 
  bR (noPan (f123 D n [x55, x56] H)) fun x57 H => 
  bV (some x57) fun x6_4 => some (.ret x6_4, H))))
def h54 : Hint := (.s .o (.s .o (.s (.s .o (.cl (.s .o (.s (.s .o (.cl (.s .o .o) .o)) (.s .o (.s .o .o)))) .o)) (.s .o (.s .o (.s .o (.s .o (.s (.s .o (.cl (.s .o .o) .o)) (.s .o .o)))))))))
theorem f54_eq (D : Dyn) (n : Nat) : f54 D n = funKp (s54 D n) D n 54 Tryz.f54 h54 := by kernel_rfl
theorem f54_ok {D : Dyn} (hD : DP D) (n : Nat) : FP 54 (f54 D n) := fun_okP X_ok hD (SP.cons (f119_ok hD n) (SP.cons (f118_ok hD n) (SP.cons (f123_ok hD n) (SP.nil)))) Tryz.func54 (by kernel_rfl) (by kernel_rfl) (f54_eq D n)

def s228 (D : Dyn) (n : Nat) : Tb := ⟨X, []⟩
def f228l0 (D : Dyn) (n : Nat) (vs : List AV) (H : AH) : Rs :=
  hd vs fun x0_2 vs => hd vs fun x2 vs => hd vs fun x3 vs => 
  bV (bInt .lss x2 x3) fun x9 => 
  cnd x9 (bV (ixSl 1 x0_2 x3) fun x20 => 
  bV (ld1p x20 H) fun x21 => 
  bV (ixSl 1 x0_2 x2) fun x24 => 
  bV (ld1p x24 H) fun x25 => 
  bV (ixSl 1 x0_2 x2) fun x26 => 
  bR (stNp 1 x26 x21 H) fun x9999 H => 
  bV (ixSl 1 x0_2 x3) fun x27 => 
  bR (stNp 1 x27 x25 H) fun x9999_2 H => 
  bV (bInt .add x2 (.int .i64 (.ofNat 1))) fun x11 => 
  bV (bInt .sub x3 (.int .i64 (.ofNat 1))) fun x13 => 
  some (.norm [x0_2, x11, x13], H))
  (some (.exit 0 [], H))
def f228b1 (D : Dyn) (n : Nat) (vs : List AV) (H : AH) : Rs :=
  
  some (.ret (.tuple []), H)
/-- slices.Reverse[[]string,string] -/
def f228 (D : Dyn) (n : Nat) (vs : List AV) (H : AH) : Option (AV × AH) :=
  outR (hd vs fun x0 vs => nl vs <|
  bV (lnSl x0) fun x5 => 
  bV (bInt .sub x5 (.int .i64 (.ofNat 1))) fun x6 => 
  jb 0 (loopK n (f228l0 D n) [x0, (.int .i64 (.ofNat 0)), x6] H) (f228b1 D n))
def h228 : Hint := (.s .o (.b [] (.l [0, 2, 3] (.s (.s .o (.cr .o .o)) (.s (.b0 .o) .o)))))
theorem f228_eq (D : Dyn) (n : Nat) : f228 D n = funKp (s228 D n) D n 228 Tryz.f228 h228 := by kernel_rfl
theorem f228_ok {D : Dyn} (hD : DP D) (n : Nat) : FP 228 (f228 D n) := fun_okP X_ok hD (SP.nil) Tryz.func228 (by kernel_rfl) (by kernel_rfl) (f228_eq D n)

def s221 (D : Dyn) (n : Nat) : Tb := ⟨X, [(228, f228 D n)]⟩
/-- slices.rotateLeft[string] -/
def f221 (D : Dyn) (n : Nat) (vs : List AV) (H : AH) : Option (AV × AH) :=
  outR (hd vs fun x0 vs => hd vs fun x1 vs => nl vs <|
  bV (slSlp 1 x0 none (some x1) none H) fun x6 => 
  bR (noPan (f228 D n [x6] H)) fun x7 H => 
  bV (slSlp 1 x0 (some x1) none none H) fun x10 => 
  bR (noPan (f228 D n [x10] H)) fun x11 H => 
  bR (noPan (f228 D n [x0] H)) fun x13 H => 
  some (.ret (.tuple []), H))
def h221 : Hint := (.s .o (.s .o .o))
theorem f221_eq (D : Dyn) (n : Nat) : f221 D n = funKp (s221 D n) D n 221 Tryz.f221 h221 := by kernel_rfl
theorem f221_ok {D : Dyn} (hD : DP D) (n : Nat) : FP 221 (f221 D n) := fun_okP X_ok hD (SP.cons (f228_ok hD n) (SP.nil)) Tryz.func221 (by kernel_rfl) (by kernel_rfl) (f221_eq D n)

def s198 (D : Dyn) (n : Nat) : Tb := ⟨X, [(221, f221 D n)]⟩
/-- slices.rotateRight[string] -/
def f198 (D : Dyn) (n : Nat) (vs : List AV) (H : AH) : Option (AV × AH) :=
  outR (hd vs fun x0 vs => hd vs fun x1 vs => nl vs <|
  bV (lnSl x0) fun x6 => 
  bV (bInt .sub x6 x1) fun x8 => 
  bR (noPan (f221 D n [x0, x8] H)) fun x9 H => 
  some (.ret (.tuple []), H))
def h198 : Hint := .o
theorem f198_eq (D : Dyn) (n : Nat) : f198 D n = funKp (s198 D n) D n 198 Tryz.f198 h198 := by kernel_rfl
theorem f198_ok {D : Dyn} (hD : DP D) (n : Nat) : FP 198 (f198 D n) := fun_okP X_ok hD (SP.cons (f221_ok hD n) (SP.nil)) Tryz.func198 (by kernel_rfl) (by kernel_rfl) (f198_eq D n)

def s126 (D : Dyn) (n : Nat) : Tb := ⟨X, [(198, f198 D n)]⟩
/-- slices.Insert[[]string,string] -/
def f126 (D : Dyn) (n : Nat) (vs : List AV) (H : AH) : Option (AV × AH) :=
  outR (hd vs fun x0 vs => hd vs fun x1 vs => hd vs fun x2 vs => nl vs <|
  bV (slSlp 1 x0 (some x1) none none H) fun x12 => 
  bV (lnSl x2) fun x14 => 
  bV (bInt .eql x14 (.int .i64 (.ofNat 0))) fun x16 => 
  cnd x16 (bV (some x0) fun x6 => some (.ret x6, H))
  (bV (lnSl x0) fun x19 => 
  bV (bInt .eql x1 x19) fun x22 => 
  cnd x22 (bR (apPp 9 1 16 x0 x2 H) fun x25 H => 
  bV (some x25) fun x6_2 => some (.ret x6_2, H))
  (bV (bInt .add x19 x14) fun x28 => 
  bV (acap X 43 x0) fun x30 => 
  bV (bInt .gtr x28 x30) fun x31 => 
  cnd x31 (bV (slSlp 1 x0 none (some x1) none H) fun x34 => 
  bV (bInt .add x19 x14) fun x37 => 
  bV (bInt .sub x37 x1) fun x39 => 
  bR (apZp 9 1 16 [(.str 0 0)] x34 x39 H) fun x40 H => 
  bV (slSlp 1 x40 (some x1) none none H) fun x43 => 
  bR (cpyp 1 x43 x2 H) fun x45 H => 
  bV (bInt .add x1 x14) fun x49 => 
  bV (slSlp 1 x40 (some x49) none none H) fun x50 => 
  bV (slSlp 1 x0 (some x1) none none H) fun x53 => 
  bR (cpyp 1 x50 x53 H) fun x54 H => 
  bV (some x40) fun x6_3 => some (.ret x6_3, H))
  (bV (bInt .add x19 x14) fun x59 => 
  bV (slSlp 1 x0 none (some x59) none H) fun x60 => 
  bV (bInt .add x1 x14) fun x65 => 
  bV (slSlp 1 x60 (some x65) none none H) fun x66 => 
  bR (noPan (D.fn 197 [x2, x66] H)) fun x67 H => 
  bV (aun .not x67) fun x68 => 
  cnd x68 (bV (bInt .add x1 x14) fun x72 => 
  bV (slSlp 1 x60 (some x72) none none H) fun x73 => 
  bV (slSlp 1 x60 (some x1) none none H) fun x76 => 
  bR (cpyp 1 x73 x76 H) fun x77 H => 
  bV (slSlp 1 x60 (some x1) none none H) fun x80 => 
  bR (cpyp 1 x80 x2 H) fun x82 H => 
  bV (some x60) fun x6_4 => some (.ret x6_4, H))
  (bV (slSlp 1 x60 (some x19) none none H) fun x86 => 
  bR (cpyp 1 x86 x2 H) fun x88 H => 
  bV (slSlp 1 x60 (some x1) none none H) fun x91 => 
  bR (noPan (f198 D n [x91, x14] H)) fun x93 H => 
  bV (some x60) fun x6_5 => some (.ret x6_5, H))))))
def h126 : Hint := (.s .o (.s .o (.s .o (.s (.s .o (.cl (.s .o .o) .o)) (.s .o (.s (.s .o (.cl (.s .o .o) .o)) (.s (.s .o (.cl (.s .o (.s .o (.s .o (.s .o .o)))) .o)) (.s .o (.s (.s .o (.cl (.s .o (.s .o (.s .o .o))) .o)) (.s .o (.s .o (.s .o .o))))))))))))
theorem f126_eq (D : Dyn) (n : Nat) : f126 D n = funKp (s126 D n) D n 126 Tryz.f126 h126 := by kernel_rfl
theorem f126_ok {D : Dyn} (hD : DP D) (n : Nat) : FP 126 (f126 D n) := fun_okP X_ok hD (SP.cons (f198_ok hD n) (SP.nil)) Tryz.func126 (by kernel_rfl) (by kernel_rfl) (f126_eq D n)
def m126 (D : Dyn) (n : Nat) (vs : List AV) (H : AH) : Option (AV × AH) := insKp (f126 D n) vs H
theorem m126_ok {D : Dyn} (hD : DP D) (n : Nat) : FP 126 (m126 D n) := insKp_ok (by kernel_rfl) (f126_ok hD n)

def s56 (D : Dyn) (n : Nat) : Tb := ⟨X, [(124, f124 D n), (125, f125 D n), (48, f48 D n), (46, f46 D n), (126, m126 D n)]⟩
/-- jetty/node.Put -/
def f56 (D : Dyn) (n : Nat) (vs : List AV) (H : AH) : Option (AV × AH) :=
  outR (hd vs fun x0 vs => hd vs fun x1 vs => hd vs fun x2 vs => nl vs <|
  bA (bxV 46 x0) H fun x3 H => 
  bA (bxV 46 (.agg [(.bool false), .nilSlice, .nilSlice, .nilSlice])) H fun x6 H => 
  bV (ldNp 4 x3 H) fun x10 => 
  bR (noPan (f124 D n [x10] H)) fun x11 H => 
  bV (aun .not x11) fun x12 => 
  jn (wnt x12 false (bV (fAd 0 x3) fun x14 => 
  bV (ld1p x14 H) fun x15 => 
  bV (aun .not x15) fun x16 => 
  some (.norm [x16], H)) (some (.norm [undefA], H))) fun vs H => hd vs fun x16_2 vs => 
  bV (pk3 (some x12) (some (.bool true)) (some x16_2)) fun x17 => 
  jn (wnt x17 false (bR (noPan (f125 D n [x1] H)) fun x20 H => 
  bV (aun .not x20) fun x21 => 
  some (.norm [x21], H)) (some (.norm [undefA], H))) fun vs H => hd vs fun x21_2 vs => 
  bV (pk3 (some x17) (some (.bool true)) (some x21_2)) fun x22 => 
  jn (wnt x22 false (bV (lnStr x2) fun x25 => 
  bV (bInt .gtr x25 (.int .i64 (.ofNat 200))) fun x26 => 
  some (.norm [x26], H)) (some (.norm [undefA], H))) fun vs H => hd vs fun x26_2 vs => 
  bV (pk3 (some x22) (some (.bool true)) (some x26_2)) fun x27 => 
  cnd x27 (bV (bldSp [(0, 1), (1, 1), (2, 1), (3, 1)] [(.bool false), .nilSlice, .nilSlice, .nilSlice] []) fun x28 => 
  bR (stNp 4 x6 x28 H) fun x9999 H => 
  bV (ldNp 4 x6 H) fun x9006 => bV (some (.int .i64 (.ofNat 1))) fun x7 => some (.ret (.tuple [x9006, x7]), H))
  (bV (fAd 1 x3) fun x29 => 
  bV (ld1p x29 H) fun x30 => 
  bV (fAd 2 x3) fun x32 => 
  bV (ld1p x32 H) fun x33 => 
  bA (bxV 46 (.agg [(.bool false), .nilSlice, .nilSlice, .nilSlice])) H fun x8 H => 
  bR (noPan (f48 D n [x30] H)) fun x31 H => chk (ld1p x32 H) x33 <| 
  bR (noPan (f48 D n [x33] H)) fun x34 H => 
  bV (bldSp [(0, 1), (1, 1), (2, 1), (3, 1)] [(.bool false), .nilSlice, .nilSlice, .nilSlice] [(0, (.bool true)), (1, x31), (2, x34)]) fun x35 => 
  bR (stNp 4 x8 x35 H) fun x9999_2 H => 
  bV (ldNp 4 x3 H) fun x36 => 
  bR (noPan (f46 D n [x36, x1] H)) fun x38 H => 
  bV (fAd 1 x3) fun x40 => 
  bV (ld1p x40 H) fun x41 => 
  bV (lnSl x41) fun x42 => 
  bV (bInt .lss x38 x42) fun x43 => 
  jn (wnt x43 true (bV (fAd 1 x3) fun x45 => 
  bV (ld1p x45 H) fun x46 => 
  bV (ixSl 1 x46 x38) fun x48 => 
  bV (ld1p x48 H) fun x49 => 
  bV (bStr .eql x49 x1) fun x51 => 
  some (.norm [x51], H)) (some (.norm [undefA], H))) fun vs H => hd vs fun x51_2 vs => 
  bV (pk3 (some x43) (some x51_2) (some (.bool false))) fun x52 => 
  cnd x52 (bV (fAd 2 x8) fun x53 => 
  bV (ld1p x53 H) fun x54 => 
  bV (ixSl 1 x54 x38) fun x57 => 
  bR (stNp 1 x57 x2 H) fun x9999_3 H => 
  bV (ldNp 4 x8 H) fun x58 => 
  bR (stNp 4 x6 x58 H) fun x9999_4 H => 
  bV (ldNp 4 x6 H) fun x9006_2 => bV (some (.int .i64 (.ofNat 0))) fun x7_2 => some (.ret (.tuple [x9006_2, x7_2]), H))
  (bV (fAd 1 x8) fun x59 => 
  bV (ld1p x59 H) fun x60 => 
  bA (bldLp 9 1 1 [(.str 0 0)] [(0, x1)]) H fun x63 H => 
  bR (noPan (m126 D n [x60, x38, x63] H)) fun x64 H => 
  bV (fAd 1 x8) fun x65 => 
  bR (stNp 1 x65 x64 H) fun x9999_5 H => 
  bV (fAd 2 x8) fun x66 => 
  bV (ld1p x66 H) fun x67 => 
  bA (bldLp 9 1 1 [(.str 0 0)] [(0, x2)]) H fun x70 H => 
  bR (noPan (m126 D n [x67, x38, x70] H)) fun x71 H => 
  bV (fAd 2 x8) fun x72 => 
  bR (stNp 1 x72 x71 H) fun x9999_6 H => 
  bV (ldNp 4 x8 H) fun x73 => 
  bR (stNp 4 x6 x73 H) fun x9999_7 H => 
  bV (ldNp 4 x6 H) fun x9006_3 => bV (some (.int .i64 (.ofNat 0))) fun x7_3 => some (.ret (.tuple [x9006_3, x7_3]), H))))
def h56 : Hint := (.s .o (.s (.s .o (.cl (.s .o .o) .o)) (.s .o (.s .o (.s (.s .o (.cl (.s .o (.s .o .o)) .o)) (.s .o (.s .o (.s .o .o))))))))
theorem f56_eq (D : Dyn) (n : Nat) : f56 D n = funKp (s56 D n) D n 56 Tryz.f56 h56 := by kernel_rfl
theorem f56_ok {D : Dyn} (hD : DP D) (n : Nat) : FP 56 (f56 D n) := fun_okP X_ok hD (SP.cons (f124_ok hD n) (SP.cons (f125_ok hD n) (SP.cons (f48_ok hD n) (SP.cons (f46_ok hD n) (SP.cons (m126_ok hD n) (SP.nil)))))) Tryz.func56 (by kernel_rfl) (by kernel_rfl) (f56_eq D n)

def s55 (D : Dyn) (n : Nat) : Tb := ⟨X, [(56, f56 D n)]⟩
/-- (*jetty/tree.Tree).Put$1 -/
def f55 (D : Dyn) (n : Nat) (vs : List AV) (H : AH) : Option (AV × AH) :=
  outR (hd vs fun x0 vs => hd vs fun x1 vs => hd vs fun x2 vs => nl vs <|
  bA (bxV 46 x0) H fun x3 H => 
  bA (bxV 46 (.agg [(.bool false), .nilSlice, .nilSlice, .nilSlice])) H fun x4 H => 
  bV (ldNp 4 x3 H) fun x6 => 
  bV (ld1p x1 H) fun x7 => 
  bV (ld1p x2 H) fun x8 => 
  bR (noPan (f56 D n [x6, x7, x8] H)) fun x9 H => 
  bV (pExtract x9 0) fun x10 => 
  bV (pExtract x9 1) fun x11 => 
  bR (stNp 4 x4 x10 H) fun x9999 H => 
  bV (ldNp 4 x4 H) fun x9004 => bV (some x11) fun x5 => some (.ret (.tuple [x9004, x5]), H))
def h55 : Hint := (.s .o (.s .o .o))
theorem f55_eq (D : Dyn) (n : Nat) : f55 D n = funKp (s55 D n) D n 55 Tryz.f55 h55 := by kernel_rfl
theorem f55_ok {D : Dyn} (hD : DP D) (n : Nat) : FP 55 (f55 D n) := fun_okP X_ok hD (SP.cons (f56_ok hD n) (SP.nil)) Tryz.func55 (by kernel_rfl) (by kernel_rfl) (f55_eq D n)

def s14 (D : Dyn) (n : Nat) : Tb := ⟨X, [(42, f42 D n), (54, f54 D n)]⟩
/-- (*jetty/tree.Tree).Put -/
def f14 (D : Dyn) (n : Nat) (vs : List AV) (H : AH) : Option (AV × AH) :=
  outR (hd vs fun x0 vs => hd vs fun x1 vs => hd vs fun x2 vs => nl vs <|
  bA (bxV 9 x1) H fun x4 H => 
  bA (bxV 9 x2) H fun x5 H => 
  bR (noPan (f42 D n [x0] H)) fun x8 H => 
  cnd x8 (bV (some (.int .i64 (.ofNat 2))) fun x6 => some (.ret x6, H))
  (bV (ld1p x4 H) fun x9 => 
  bV (lnStr x9) fun x10 => 
  bV (bInt .lss x10 (.int .i64 (.ofNat 1))) fun x11 => 
  jn (wnt x11 false (bV (ld1p x4 H) fun x13 => 
  bV (lnStr x13) fun x14 => 
  bV (bInt .gtr x14 (.int .i64 (.ofNat 40))) fun x15 => 
  some (.norm [x15], H)) (some (.norm [undefA], H))) fun vs H => hd vs fun x15_2 vs => 
  bV (pk3 (some x11) (some (.bool true)) (some x15_2)) fun x16 => 
  jn (wnt x16 false (bV (ld1p x5 H) fun x18 => 
  bV (lnStr x18) fun x19 => 
  bV (bInt .gtr x19 (.int .i64 (.ofNat 200))) fun x20 => 
  some (.norm [x20], H)) (some (.norm [undefA], H))) fun vs H => hd vs fun x20_2 vs => 
  bV (pk3 (some x16) (some (.bool true)) (some x20_2)) fun x21 => 
  cnd x21 (bV (some (.int .i64 (.ofNat 1))) fun x6_2 => some (.ret x6_2, H))
  (bV (ld1p x4 H) fun x23 => 
  bR (noPan (f54 D n [x0, x23, (.func 55 [] [x4, x5])] H)) fun x25 H => 
  bV (some x25) fun x6_3 => some (.ret x6_3, H))))
def h14 : Hint := (.s .o (.s (.s .o (.cl (.s .o .o) .o)) (.s (.s .o (.cl (.s .o .o) .o)) (.s .o .o))))
theorem f14_eq (D : Dyn) (n : Nat) : f14 D n = funKp (s14 D n) D n 14 Tryz.f14 h14 := by kernel_rfl
theorem f14_ok {D : Dyn} (hD : DP D) (n : Nat) : FP 14 (f14 D n) := fun_okP X_ok hD (SP.cons (f42_ok hD n) (SP.cons (f54_ok hD n) (SP.nil))) Tryz.func14 (by kernel_rfl) (by kernel_rfl) (f14_eq D n)

def s162 (D : Dyn) (n : Nat) : Tb := ⟨X, []⟩
def f162l0 (D : Dyn) (n : Nat) (vs : List AV) (H : AH) : Rs :=
  hd vs fun x0_2 vs => hd vs fun x1_2 vs => hd vs fun x7_2 vs => hd vs fun x8 vs => 
  bV (bInt .lss x8 x7_2) fun x9 => 
  cnd x9 (bV (ixSl 7 x0_2 x8) fun x14 => 
  bV (ldNp 7 x14 H) fun x15 => 
  bR (noPan (callV (s162 D n).S D x1_2 [x15] H)) fun x16 H => 
  cnd x16 (bV (some x8) fun x4 => some (.ret x4, H))
  (bV (bInt .add x8 (.int .i64 (.ofNat 1))) fun x18 => 
  some (.norm [x0_2, x1_2, x7_2, x18], H)))
  (some (.exit 0 [], H))
def f162b1 (D : Dyn) (n : Nat) (vs : List AV) (H : AH) : Rs :=
  
  bV (some (.int .i64 (.negSucc 0))) fun x4_2 => some (.ret x4_2, H)
/-- slices.IndexFunc[[]jetty/snap.held,jetty/snap.held] -/
def f162 (D : Dyn) (n : Nat) (vs : List AV) (H : AH) : Option (AV × AH) :=
  outR (hd vs fun x0 vs => hd vs fun x1 vs => nl vs <|
  bV (lnSl x0) fun x7 => 
  jb 0 (loopK n (f162l0 D n) [x0, x1, x7, (.int .i64 (.ofNat 0))] H) (f162b1 D n))
def h162 : Hint := (.s .o (.s (.s .o (.b [] (.l [0, 1, 7, 8] (.s .o (.s (.cr .o .o) (.s (.b0 (.s .o (.s .o (.cl (.s .o .o) .o)))) .o)))))) (.s .o .o)))
theorem f162_eq (D : Dyn) (n : Nat) : f162 D n = funKp (s162 D n) D n 162 Tryz.f162 h162 := by kernel_rfl
theorem f162_ok {D : Dyn} (hD : DP D) (n : Nat) : FP 162 (f162 D n) := fun_okP X_ok hD (SP.nil) Tryz.func162 (by kernel_rfl) (by kernel_rfl) (f162_eq D n)

def s163 (D : Dyn) (n : Nat) : Tb := ⟨X, []⟩
/-- (*jetty/snap.Volume).place$1 -/
def f163 (D : Dyn) (n : Nat) (vs : List AV) (H : AH) : Option (AV × AH) :=
  outR (hd vs fun x0 vs => hd vs fun x1 vs => nl vs <|
  bA (bxV 138 x0) H fun x2 H => 
  bV (ld1p x1 H) fun x4 => 
  bV (fAd 0 x2) fun x5 => 
  bV (ldNp 6 x5 H) fun x6 => 
  bR (noPan (callV (s163 D n).S D x4 [x6] H)) fun x7 H => 
  bV (some x7) fun x3 => some (.ret x3, H))
def h163 : Hint := (.s .o (.s .o .o))
theorem f163_eq (D : Dyn) (n : Nat) : f163 D n = funKp (s163 D n) D n 163 Tryz.f163 h163 := by kernel_rfl
theorem f163_ok {D : Dyn} (hD : DP D) (n : Nat) : FP 163 (f163 D n) := fun_okP X_ok hD (SP.nil) Tryz.func163 (by kernel_rfl) (by kernel_rfl) (f163_eq D n)

def s92 (D : Dyn) (n : Nat) : Tb := ⟨X, [(162, f162 D n)]⟩
/-- (*jetty/snap.Volume).place -/
def f92 (D : Dyn) (n : Nat) (vs : List AV) (H : AH) : Option (AV × AH) :=
  outR (hd vs fun x0 vs => hd vs fun x1 vs => nl vs <|
  bA (bxV 144 x1) H fun x3 H => 
  bV (pNil x0) fun x6 => 
  bV (fAd 2 x6) fun x7 => 
  bV (ld1p x7 H) fun x8 => 
  bR (noPan (f162 D n [x8, (.func 163 [] [x3])] H)) fun x10 H => 
  bV (some x10) fun x4 => some (.ret x4, H))
def h92 : Hint := (.s .o (.s .o .o))
theorem f92_eq (D : Dyn) (n : Nat) : f92 D n = funKp (s92 D n) D n 92 Tryz.f92 h92 := by kernel_rfl
theorem f92_ok {D : Dyn} (hD : DP D) (n : Nat) : FP 92 (f92 D n) := fun_okP X_ok hD (SP.cons (f162_ok hD n) (SP.nil)) Tryz.func92 (by kernel_rfl) (by kernel_rfl) (f92_eq D n)

def s152 (D : Dyn) (n : Nat) : Tb := ⟨X, []⟩
/-- (*jetty/snap.Volume).named$1 -/
def f152 (D : Dyn) (n : Nat) (vs : List AV) (H : AH) : Option (AV × AH) :=
  outR (hd vs fun x0 vs => hd vs fun x1 vs => nl vs <|
  bA (bxV 59 x0) H fun x2 H => 
  bV (fAd 1 x2) fun x4 => 
  bV (ld1p x4 H) fun x5 => 
  bV (ld1p x1 H) fun x6 => 
  bV (bStr .eql x5 x6) fun x7 => 
  bV (some x7) fun x3 => some (.ret x3, H))
def h152 : Hint := (.s .o (.s .o .o))
theorem f152_eq (D : Dyn) (n : Nat) : f152 D n = funKp (s152 D n) D n 152 Tryz.f152 h152 := by kernel_rfl
theorem f152_ok {D : Dyn} (hD : DP D) (n : Nat) : FP 152 (f152 D n) := fun_okP X_ok hD (SP.nil) Tryz.func152 (by kernel_rfl) (by kernel_rfl) (f152_eq D n)

def s88 (D : Dyn) (n : Nat) : Tb := ⟨X, [(92, f92 D n)]⟩
/-- (*jetty/snap.Volume).named -/
def f88 (D : Dyn) (n : Nat) (vs : List AV) (H : AH) : Option (AV × AH) :=
  outR (hd vs fun x0 vs => hd vs fun x1 vs => nl vs <|
  bA (bxV 9 x1) H fun x3 H => 
  bR (noPan (f92 D n [x0, (.func 152 [] [x3])] H)) fun x7 H => 
  bV (some x7) fun x4 => some (.ret x4, H))
def h88 : Hint := (.s .o (.s .o .o))
theorem f88_eq (D : Dyn) (n : Nat) : f88 D n = funKp (s88 D n) D n 88 Tryz.f88 h88 := by kernel_rfl
theorem f88_ok {D : Dyn} (hD : DP D) (n : Nat) : FP 88 (f88 D n) := fun_okP X_ok hD (SP.cons (f92_ok hD n) (SP.nil)) Tryz.func88 (by kernel_rfl) (by kernel_rfl) (f88_eq D n)

def s212 (D : Dyn) (n : Nat) : Tb := ⟨X, []⟩
/-- jetty/snap.number -/
def f212 (D : Dyn) (n : Nat) (vs : List AV) (H : AH) : Option (AV × AH) :=
  outR (hd vs fun x0 vs => hd vs fun x1 vs => nl vs <|
  bV (bInt .shr x1 (.int .u64 (.ofNat 24))) fun x7 => 
  bV (cvI .u8 x7) fun x8 => 
  bV (bInt .shr x1 (.int .u64 (.ofNat 16))) fun x10 => 
  bV (cvI .u8 x10) fun x11 => 
  bV (bInt .shr x1 (.int .u64 (.ofNat 8))) fun x13 => 
  bV (cvI .u8 x13) fun x14 => 
  bV (cvI .u8 x1) fun x16 => 
  bA (bldLp 5 1 4 [(.int .u8 (.ofNat 0))] [(0, x8), (1, x11), (2, x14), (3, x16)]) H fun x17 H => 
  bR (apPp 5 1 1 x0 x17 H) fun x18 H => 
  bV (some x18) fun x4 => some (.ret x4, H))
def h212 : Hint := (.s .o (.s .o .o))
theorem f212_eq (D : Dyn) (n : Nat) : f212 D n = funKp (s212 D n) D n 212 Tryz.f212 h212 := by kernel_rfl
theorem f212_ok {D : Dyn} (hD : DP D) (n : Nat) : FP 212 (f212 D n) := fun_okP X_ok hD (SP.nil) Tryz.func212 (by kernel_rfl) (by kernel_rfl) (f212_eq D n)

def s160 (D : Dyn) (n : Nat) : Tb := ⟨X, [(212, f212 D n), (41, f41 D n)]⟩
def f160l0 (D : Dyn) (n : Nat) (vs : List AV) (H : AH) : Rs :=
  hd vs fun x4 vs => hd vs fun x26_2 vs => hd vs fun x27_2 vs => hd vs fun x28 vs => 
  bV (bInt .lss x28 x27_2) fun x29 => 
  cnd x29 (bV (ixSl 7 x26_2 x28) fun x30 => 
  bV (ldNp 7 x30 H) fun x31 => 
  bA (bxV 138 (.agg [(.int .i64 (.ofNat 0)), (.str 0 0), (.int .i64 (.ofNat 0)), (.int .i64 (.ofNat 0)), (.int .i64 (.ofNat 0)), (.int .u64 (.ofNat 0)), (.int .i64 (.ofNat 0))])) H fun x6 H => 
  bR (stNp 7 x6 x31 H) fun x9999 H => 
  bV (fAd 0 x6) fun x33 => 
  bV (fAd 0 x33) fun x34 => 
  bV (ld1p x34 H) fun x35 => 
  bR (noPan (f212 D n [x4, x35] H)) fun x36 H => 
  bV (fAd 0 x6) fun x38 => 
  bV (fAd 2 x38) fun x39 => 
  bV (ld1p x39 H) fun x40 => 
  bR (noPan (f212 D n [x36, x40] H)) fun x41 H => 
  bV (fAd 0 x6) fun x43 => 
  bV (fAd 3 x43) fun x44 => 
  bV (ldNp 3 x44 H) fun x45 => 
  bR (noPan (f41 D n [x45] H)) fun x46 H => 
  bV (pExtract x46 0) fun x47 => 
  bV (pExtract x46 1) fun x48 => 
  bV (bInt .neq x48 (.int .i64 (.ofNat 0))) fun x50 => 
  cnd x50 (bV (some (.str 0 0)) fun x2 => bV (some x48) fun x3 => some (.ret (.tuple [x2, x3]), H))
  (bR (apPp 5 1 1 x41 x47 H) fun x54 H => 
  bV (fAd 0 x6) fun x56 => 
  bV (fAd 1 x56) fun x57 => 
  bV (ld1p x57 H) fun x58 => 
  bV (lnStr x58) fun x59 => 
  bV (cvI .u8 x59) fun x60 => 
  bA (bldLp 5 1 1 [(.int .u8 (.ofNat 0))] [(0, x60)]) H fun x61 H => 
  bR (apPp 5 1 1 x54 x61 H) fun x62 H => 
  bV (fAd 0 x6) fun x64 => 
  bV (fAd 1 x64) fun x65 => 
  bV (ld1p x65 H) fun x66 => 
  bR (apPp 5 1 1 x62 x66 H) fun x67 H => 
  bV (bInt .add x28 (.int .i64 (.ofNat 1))) fun x68 => 
  some (.norm [x67, x26_2, x27_2, x68], H)))
  (some (.exit 0 [x4], H))
def f160b1 (D : Dyn) (n : Nat) (vs : List AV) (H : AH) : Rs :=
  hd vs fun x4_2 vs => 
  bV (cvBSp x4_2 H) fun x70 => 
  bV (some x70) fun x2_2 => bV (some (.int .i64 (.ofNat 0))) fun x3_2 => some (.ret (.tuple [x2_2, x3_2]), H)
/-- (*jetty/snap.Volume).extra -/
def f160 (D : Dyn) (n : Nat) (vs : List AV) (H : AH) : Option (AV × AH) :=
  outR (hd vs fun x0 vs => nl vs <|
  bV (pNil x0) fun x10 => 
  bV (fAd 1 x10) fun x11 => 
  bV (ld1p x11 H) fun x12 => 
  bR (noPan (f212 D n [.nilSlice, x12] H)) fun x13 H => 
  bV (pNil x0) fun x16 => 
  bV (fAd 2 x16) fun x17 => 
  bV (ld1p x17 H) fun x18 => 
  bV (lnSl x18) fun x19 => 
  bV (cvI .u8 x19) fun x20 => 
  bA (bldLp 5 1 1 [(.int .u8 (.ofNat 0))] [(0, x20)]) H fun x21 H => 
  bR (apPp 5 1 1 x13 x21 H) fun x22 H => 
  bV (pNil x0) fun x24 => 
  bV (fAd 2 x24) fun x25 => 
  bV (ld1p x25 H) fun x26 => 
  bV (lnSl x26) fun x27 => 
  jb 0 (loopK n (f160l0 D n) [x22, x26, x27, (.int .i64 (.ofNat 0))] H) (f160b1 D n))
def h160 : Hint := (.s .o (.s .o (.s .o (.s (.s .o (.b [4] (.l [4, 26, 27, 28] (.s .o (.s (.cr .o .o) (.s (.b0 (.s .o (.s .o (.s .o (.s .o (.s (.s .o (.cl (.s .o .o) .o)) (.s .o (.s .o .o)))))))) .o)))))) (.s .o .o)))))
theorem f160_eq (D : Dyn) (n : Nat) : f160 D n = funKp (s160 D n) D n 160 Tryz.f160 h160 := by kernel_rfl
theorem f160_ok {D : Dyn} (hD : DP D) (n : Nat) : FP 160 (f160 D n) := fun_okP X_ok hD (SP.cons (f212_ok hD n) (SP.cons (f41_ok hD n) (SP.nil))) Tryz.func160 (by kernel_rfl) (by kernel_rfl) (f160_eq D n)

def s161 (D : Dyn) (n : Nat) : Tb := ⟨X, [(140, f140 D n)]⟩
/-- (*jetty/txg.Store).SetExtra -/
def f161 (D : Dyn) (n : Nat) (vs : List AV) (H : AH) : Option (AV × AH) :=
  outR (hd vs fun x0 vs => hd vs fun x1 vs => nl vs <|
  bR (noPan (f140 D n [x0] H)) fun x6 H => 
  cnd x6 (bV (some (.int .i64 (.ofNat 2))) fun x4 => some (.ret x4, H))
  (bV (lnStr x1) fun x8 => 
  bV (bInt .gtr x8 (.int .i64 (.ofNat 476))) fun x9 => 
  cnd x9 (bV (some (.int .i64 (.ofNat 40))) fun x4_2 => some (.ret x4_2, H))
  (bV (pNil x0) fun x12 => 
  bV (fAd 3 x12) fun x13 => 
  bR (stNp 1 x13 x1 H) fun x9999 H => 
  bV (some (.int .i64 (.ofNat 0))) fun x4_3 => some (.ret x4_3, H))))
def h161 : Hint := (.s .o (.s (.s .o (.cl (.s .o .o) .o)) (.s (.s .o (.cl (.s .o .o) .o)) (.s .o (.s .o .o)))))
theorem f161_eq (D : Dyn) (n : Nat) : f161 D n = funKp (s161 D n) D n 161 Tryz.f161 h161 := by kernel_rfl
theorem f161_ok {D : Dyn} (hD : DP D) (n : Nat) : FP 161 (f161 D n) := fun_okP X_ok hD (SP.cons (f140_ok hD n) (SP.nil)) Tryz.func161 (by kernel_rfl) (by kernel_rfl) (f161_eq D n)

def s91 (D : Dyn) (n : Nat) : Tb := ⟨X, [(160, f160 D n), (161, f161 D n)]⟩
/-- (*jetty/snap.Volume).keep -/
def f91 (D : Dyn) (n : Nat) (vs : List AV) (H : AH) : Option (AV × AH) :=
  outR (hd vs fun x0 vs => nl vs <|
  bR (noPan (f160 D n [x0] H)) fun x7 H => 
  bV (pExtract x7 0) fun x8 => 
  bV (pExtract x7 1) fun x9 => 
  bV (bInt .neq x9 (.int .i64 (.ofNat 0))) fun x11 => 
  cnd x11 (bV (some x9) fun x2 => some (.ret x2, H))
  (bV (pNil x0) fun x14 => 
  bV (fAd 0 x14) fun x15 => 
  bV (ld1p x15 H) fun x16 => 
  bR (noPan (f161 D n [x16, x8] H)) fun x18 H => 
  bV (some x18) fun x2_2 => some (.ret x2_2, H)))
def h91 : Hint := (.s .o (.s .o (.s (.s .o (.cl (.s .o .o) .o)) (.s .o .o))))
theorem f91_eq (D : Dyn) (n : Nat) : f91 D n = funKp (s91 D n) D n 91 Tryz.f91 h91 := by kernel_rfl
theorem f91_ok {D : Dyn} (hD : DP D) (n : Nat) : FP 91 (f91 D n) := fun_okP X_ok hD (SP.cons (f160_ok hD n) (SP.cons (f161_ok hD n) (SP.nil))) Tryz.func91 (by kernel_rfl) (by kernel_rfl) (f91_eq D n)

def s128 (D : Dyn) (n : Nat) : Tb := ⟨X, []⟩
/-- maps.Clone[map[uint64]jetty/node.Node,uint64,jetty/node.Node] -/
def f128 (D : Dyn) (n : Nat) (vs : List AV) (H : AH) : Option (AV × AH) :=
  outR (hd vs fun x0 vs => nl vs <|
  bV (cmpO .eql (eqM x0 .nilMap)) fun x4 => 
  cnd x4 (bV (some .nilMap) fun x2 => some (.ret x2, H))
  (none))
def h128 : Hint := (.s .o (.s (.s .o (.cl (.s .o .o) .o)) (.s .o .o)))
theorem f128_eq (D : Dyn) (n : Nat) : f128 D n = funKp (s128 D n) D n 128 Tryz.f128 h128 := by kernel_rfl
theorem f128_ok {D : Dyn} (hD : DP D) (n : Nat) : FP 128 (f128 D n) := fun_okP X_ok hD (SP.nil) Tryz.func128 (by kernel_rfl) (by kernel_rfl) (f128_eq D n)
def m128 (D : Dyn) (n : Nat) (vs : List AV) (H : AH) : Option (AV × AH) := clnK (f128 D n) vs H
theorem m128_ok {D : Dyn} (hD : DP D) (n : Nat) : FP 128 (m128 D n) := clnK_okP ⟨_, Tryz.func128, rfl⟩ (AnyW.maps_Clone Tryz.clone128) (f128_ok hD n)

def s61 (D : Dyn) (n : Nat) : Tb := ⟨X, [(128, m128 D n), (49, f49 D n)]⟩
/-- (*jetty/tree.Tree).Copy -/
def f61 (D : Dyn) (n : Nat) (vs : List AV) (H : AH) : Option (AV × AH) :=
  outR (hd vs fun x0 vs => nl vs <|
  bV (cmpO .eql (eqP x0 .nilPtr)) fun x5 => 
  cnd x5 (bV (some .nilPtr) fun x2 => some (.ret x2, H))
  (bV (pNil x0) fun x7 => 
  bV (ldNp 8 x7 H) fun x8 => 
  bA (bxV 81 (.agg [.nilPtr, .nilPtr, (.int .i64 (.ofNat 0)), (.int .i64 (.ofNat 0)), (.int .u64 (.ofNat 0)), .nilMap, (.int .u64 (.ofNat 0)), .nilSlice])) H fun x3 H => 
  bR (stNp 8 x3 x8 H) fun x9999 H => 
  bV (pNil x0) fun x10 => 
  bV (fAd 5 x10) fun x11 => 
  bV (ld1p x11 H) fun x12 => 
  bR (noPan (m128 D n [x12] H)) fun x13 H => 
  bV (fAd 5 x3) fun x14 => 
  bR (stNp 1 x14 x13 H) fun x9999_2 H => 
  bV (pNil x0) fun x16 => 
  bV (fAd 7 x16) fun x17 => 
  bV (ld1p x17 H) fun x18 => 
  bR (noPan (f49 D n [x18] H)) fun x19 H => 
  bV (fAd 7 x3) fun x20 => 
  bR (stNp 1 x20 x19 H) fun x9999_3 H => 
  bV (some x3) fun x2_2 => some (.ret x2_2, H)))
def h61 : Hint := (.s .o (.s (.s .o (.cl (.s .o .o) .o)) (.s .o (.s .o (.s .o (.s .o .o))))))
theorem f61_eq (D : Dyn) (n : Nat) : f61 D n = funKp (s61 D n) D n 61 Tryz.f61 h61 := by kernel_rfl
theorem f61_ok {D : Dyn} (hD : DP D) (n : Nat) : FP 61 (f61 D n) := fun_okP X_ok hD (SP.cons (m128_ok hD n) (SP.cons (f49_ok hD n) (SP.nil))) Tryz.func61 (by kernel_rfl) (by kernel_rfl) (f61_eq D n)

def s62 (D : Dyn) (n : Nat) : Tb := ⟨X, []⟩
/-- (*jetty/space.Space).Copy -/
def f62 (D : Dyn) (n : Nat) (vs : List AV) (H : AH) : Option (AV × AH) :=
  outR (hd vs fun x0 vs => nl vs <|
  bV (cmpO .eql (eqP x0 .nilPtr)) fun x5 => 
  cnd x5 (bV (some .nilPtr) fun x2 => some (.ret x2, H))
  (bV (pNil x0) fun x7 => 
  bV (ldNp 8198 x7 H) fun x8 => 
  bA (bxV 75 (.agg [(.int .i64 (.ofNat 0)), (.int .i64 (.ofNat 0)), .pk 8192 0, (.int .i64 (.ofNat 0)), (.int .i64 (.ofNat 0)), (.int .i64 (.ofNat 0)), (.int .i64 (.ofNat 0))])) H fun x3 H => 
  bR (stNp 8198 x3 x8 H) fun x9999 H => 
  bV (some x3) fun x2_2 => some (.ret x2_2, H)))
def h62 : Hint := (.s .o (.s (.s .o (.cl (.s .o .o) .o)) (.s .o (.s .o .o))))
theorem f62_eq (D : Dyn) (n : Nat) : f62 D n = funKp (s62 D n) D n 62 Tryz.f62 h62 := by kernel_rfl
theorem f62_ok {D : Dyn} (hD : DP D) (n : Nat) : FP 62 (f62 D n) := fun_okP X_ok hD (SP.nil) Tryz.func62 (by kernel_rfl) (by kernel_rfl) (f62_eq D n)

def s50 (D : Dyn) (n : Nat) : Tb := ⟨X, []⟩
/-- (*jetty/space.Space).Free -/
def f50 (D : Dyn) (n : Nat) (vs : List AV) (H : AH) : Option (AV × AH) :=
  outR (hd vs fun x0 vs => nl vs <|
  bV (cmpO .eql (eqP x0 .nilPtr)) fun x4 => 
  cnd x4 (bV (some (.int .i64 (.ofNat 0))) fun x2 => some (.ret x2, H))
  (bV (pNil x0) fun x6 => 
  bV (fAd 8194 x6) fun x7 => 
  bV (ixArr 4 1 x7 (.int .u8 (.ofNat 0))) fun x8 => 
  bV (ld1p x8 H) fun x9 => 
  bV (some x9) fun x2_2 => some (.ret x2_2, H)))
def h50 : Hint := (.s .o (.s (.s .o (.cl (.s .o .o) .o)) (.s .o .o)))
theorem f50_eq (D : Dyn) (n : Nat) : f50 D n = funKp (s50 D n) D n 50 Tryz.f50 h50 := by kernel_rfl
theorem f50_ok {D : Dyn} (hD : DP D) (n : Nat) : FP 50 (f50 D n) := fun_okP X_ok hD (SP.nil) Tryz.func50 (by kernel_rfl) (by kernel_rfl) (f50_eq D n)

def s186 (D : Dyn) (n : Nat) : Tb := ⟨X, []⟩
/-- jetty/node.Encode$1 -/
def f186 (D : Dyn) (n : Nat) (vs : List AV) (H : AH) : Option (AV × AH) :=
  outR (hd vs fun x0 vs => hd vs fun x1 vs => nl vs <|
  bV (ld1p x1 H) fun x3 => 
  bV (lnStr x0) fun x5 => 
  bV (cvI .u8 x5) fun x6 => 
  bA (bldLp 5 1 1 [(.int .u8 (.ofNat 0))] [(0, x6)]) H fun x7 H => 
  bR (apPp 5 1 1 x3 x7 H) fun x8 H => 
  bR (stNp 1 x1 x8 H) fun x9999 H => 
  bV (ld1p x1 H) fun x9 => 
  bR (apPp 5 1 1 x9 x0 H) fun x11 H => 
  bR (stNp 1 x1 x11 H) fun x9999_2 H => 
  some (.ret (.tuple []), H))
def h186 : Hint := (.s .o .o)
theorem f186_eq (D : Dyn) (n : Nat) : f186 D n = funKp (s186 D n) D n 186 Tryz.f186 h186 := by kernel_rfl
theorem f186_ok {D : Dyn} (hD : DP D) (n : Nat) : FP 186 (f186 D n) := fun_okP X_ok hD (SP.nil) Tryz.func186 (by kernel_rfl) (by kernel_rfl) (f186_eq D n)

def s187 (D : Dyn) (n : Nat) : Tb := ⟨X, [(41, f41 D n)]⟩
def f187j0 (D : Dyn) (n : Nat) (vs : List AV) (H : AH) : Rs :=
  hd vs fun x2_2 vs => hd vs fun x4 vs => 
  bV (ld1p x2_2 H) fun x13 => 
  bR (apPp 5 1 1 x13 x4 H) fun x15 H => 
  bR (stNp 1 x2_2 x15 H) fun x9999_2 H => 
  some (.ret (.tuple []), H)
/-- jetty/node.Encode$2 -/
def f187 (D : Dyn) (n : Nat) (vs : List AV) (H : AH) : Option (AV × AH) :=
  outR (hd vs fun x0 vs => hd vs fun x1 vs => hd vs fun x2 vs => nl vs <|
  bA (bxV 35 x0) H fun x3 H => 
  bV (ldNp 3 x3 H) fun x7 => 
  bR (noPan (f41 D n [x7] H)) fun x8 H => 
  bV (pExtract x8 0) fun x9 => 
  bV (pExtract x8 1) fun x10 => 
  bV (bInt .neq x10 (.int .i64 (.ofNat 0))) fun x12 => 
  jn (cnd x12 (bR (stNp 1 x1 (.int .i64 (.ofNat 4)) H) fun x9999 H => 
  some (.norm [x2, x9], H))
  (some (.norm [x2, x9], H))) (f187j0 D n))
def h187 : Hint := (.s .o (.s .o (.s (.s .o (.c [2, 4] .o .o)) .o)))
theorem f187_eq (D : Dyn) (n : Nat) : f187 D n = funKp (s187 D n) D n 187 Tryz.f187 h187 := by kernel_rfl
theorem f187_ok {D : Dyn} (hD : DP D) (n : Nat) : FP 187 (f187 D n) := fun_okP X_ok hD (SP.cons (f41_ok hD n) (SP.nil)) Tryz.func187 (by kernel_rfl) (by kernel_rfl) (f187_eq D n)

def s113 (D : Dyn) (n : Nat) : Tb := ⟨X, [(124, f124 D n), (185, f185 D n)]⟩
def f113j0 (D : Dyn) (n : Nat) (vs : List AV) (H : AH) : Rs :=
  hd vs fun x1_4 vs => hd vs fun x4_4 vs => hd vs fun x5_4 vs => hd vs fun x6_3 vs => hd vs fun x7_3 vs => hd vs fun x38_3 vs => hd vs fun x39_3 vs => hd vs fun x40_2 vs => 
  bV (bInt .add x40_2 (.int .i64 (.ofNat 1))) fun x65 => 
  some (.norm [x1_4, x4_4, x5_4, x6_3, x7_3, x38_3, x39_3, x65], H)
def f113l1 (D : Dyn) (n : Nat) (vs : List AV) (H : AH) : Rs :=
  hd vs fun x1_3 vs => hd vs fun x4_3 vs => hd vs fun x5_3 vs => hd vs fun x6_2 vs => hd vs fun x7_2 vs => hd vs fun x38_2 vs => hd vs fun x39_2 vs => hd vs fun x40 vs => 
  bV (bInt .lss x40 x39_2) fun x41 => 
  cnd x41 (bV (ixSl 1 x38_2 x40) fun x43 => 
  bV (ld1p x43 H) fun x44 => 
  bR (noPan (callV (s113 D n).S D x6_2 [x44] H)) fun x47 H => 
  bV (fAd 0 x1_3) fun x48 => 
  bV (ld1p x48 H) fun x49 => 
  jn (cnd x49 (bV (fAd 2 x1_3) fun x51 => 
  bV (ld1p x51 H) fun x52 => 
  bV (ixSl 1 x52 x40) fun x54 => 
  bV (ld1p x54 H) fun x55 => 
  bR (noPan (callV (s113 D n).S D x6_2 [x55] H)) fun x56 H => 
  some (.norm [x1_3, x4_3, x5_3, x6_2, x7_2, x38_2, x39_2, x40], H))
  (bV (fAd 3 x1_3) fun x58 => 
  bV (ld1p x58 H) fun x59 => 
  bV (bInt .add x40 (.int .i64 (.ofNat 1))) fun x61 => 
  bV (ixSl 3 x59 x61) fun x62 => 
  bV (ldNp 3 x62 H) fun x63 => 
  bR (noPan (callV (s113 D n).S D x7_2 [x63] H)) fun x64 H => 
  some (.norm [x1_3, x4_3, x5_3, x6_2, x7_2, x38_2, x39_2, x40], H))) (f113j0 D n))
  (some (.exit 0 [x4_3, x5_3], H))
def f113b2 (D : Dyn) (n : Nat) (vs : List AV) (H : AH) : Rs :=
  hd vs fun x4_5 vs => hd vs fun x5_5 vs => 
  bV (ld1p x5_5 H) fun x66 => 
  bV (bInt .neq x66 (.int .i64 (.ofNat 0))) fun x67 => 
  cnd x67 (bV (ld1p x5_5 H) fun x68 => 
  bV (some (.str 0 0)) fun x2_3 => bV (some x68) fun x3_3 => some (.ret (.tuple [x2_3, x3_3]), H))
  (bV (ld1p x4_5 H) fun x69 => 
  bV (cvBSp x69 H) fun x70 => 
  bV (some x70) fun x2_4 => bV (some (.int .i64 (.ofNat 0))) fun x3_4 => some (.ret (.tuple [x2_4, x3_4]), H))
def f113j3 (D : Dyn) (n : Nat) (vs : List AV) (H : AH) : Rs :=
  hd vs fun x1_2 vs => hd vs fun x4_2 vs => hd vs fun x5_2 vs => hd vs fun x6 vs => hd vs fun x7 vs => 
  bV (fAd 1 x1_2) fun x37 => 
  bV (ld1p x37 H) fun x38 => 
  bV (lnSl x38) fun x39 => 
  jb 0 (loopK n (f113l1 D n) [x1_2, x4_2, x5_2, x6, x7, x38, x39, (.int .i64 (.ofNat 0))] H) (f113b2 D n)
/-- jetty/node.Encode -/
def f113 (D : Dyn) (n : Nat) (vs : List AV) (H : AH) : Option (AV × AH) :=
  outR (hd vs fun x0 vs => nl vs <|
  bA (bxV 46 x0) H fun x1 H => 
  bV (ldNp 4 x1 H) fun x10 => 
  bR (noPan (f124 D n [x10] H)) fun x11 H => 
  bV (aun .not x11) fun x12 => 
  cnd x12 (bV (some (.str 0 0)) fun x2 => bV (some (.int .i64 (.ofNat 4))) fun x3 => some (.ret (.tuple [x2, x3]), H))
  (bV (ldNp 4 x1 H) fun x13 => 
  bR (noPan (f185 D n [x13] H)) fun x14 H => 
  bV (bInt .gtr x14 (.int .i64 (.ofNat 500))) fun x15 => 
  cnd x15 (bV (some (.str 0 0)) fun x2_2 => bV (some (.int .i64 (.ofNat 40))) fun x3_2 => some (.ret (.tuple [x2_2, x3_2]), H))
  (bV (fAd 1 x1) fun x16 => 
  bV (ld1p x16 H) fun x17 => 
  bV (lnSl x17) fun x18 => 
  bV (bInt .shr x18 (.int .u64 (.ofNat 8))) fun x19 => 
  bV (cvI .u8 x19) fun x20 => 
  bV (fAd 1 x1) fun x21 => 
  bV (ld1p x21 H) fun x22 => 
  bV (lnSl x22) fun x23 => 
  bV (cvI .u8 x23) fun x24 => 
  bA (bldLp 5 1 2 [(.int .u8 (.ofNat 0))] [(0, x20), (1, x24)]) H fun x25 H => 
  bA (bxV 85 .nilSlice) H fun x4 H => 
  bR (stNp 1 x4 x25 H) fun x9999 H => 
  bA (bxV 24 (.int .i64 (.ofNat 0))) H fun x5 H => 
  bR (stNp 1 x5 (.int .i64 (.ofNat 0)) H) fun x9999_2 H => 
  bV (fAd 0 x1) fun x28 => 
  bV (ld1p x28 H) fun x29 => 
  bV (aun .not x29) fun x30 => 
  jn (cnd x30 (bV (fAd 3 x1) fun x32 => 
  bV (ld1p x32 H) fun x33 => 
  bV (ixSl 3 x33 (.int .i64 (.ofNat 0))) fun x34 => 
  bV (ldNp 3 x34 H) fun x35 => 
  bR (noPan (callV (s113 D n).S D (.func 187 [] [x5, x4]) [x35] H)) fun x36 H => 
  some (.norm [x1, x4, x5, (.func 186 [] [x4]), (.func 187 [] [x5, x4])], H))
  (some (.norm [x1, x4, x5, (.func 186 [] [x4]), (.func 187 [] [x5, x4])], H))) (f113j3 D n))))
def h113 : Hint := (.s .o (.s (.s .o (.cl (.s .o .o) .o)) (.s (.s .o (.cl (.s .o .o) .o)) (.s .o (.s .o (.s .o (.s .o (.s (.s .o (.c [1, 4, 5, 6, 7] .o .o)) (.s (.s .o (.b [4, 5] (.l [1, 4, 5, 6, 7, 38, 39, 40] (.s .o (.s (.cr .o .o) (.s (.b0 (.s .o (.s .o (.s .o (.c [1, 4, 5, 6, 7, 38, 39, 40] .o .o))))) .o)))))) (.s (.s .o (.cl (.s .o .o) .o)) (.s .o .o)))))))))))
theorem f113_eq (D : Dyn) (n : Nat) : f113 D n = funKp (s113 D n) D n 113 Tryz.f113 h113 := by kernel_rfl
theorem f113_ok {D : Dyn} (hD : DP D) (n : Nat) : FP 113 (f113 D n) := fun_okP X_ok hD (SP.cons (f124_ok hD n) (SP.cons (f185_ok hD n) (SP.nil))) Tryz.func113 (by kernel_rfl) (by kernel_rfl) (f113_eq D n)

def s201 (D : Dyn) (n : Nat) : Tb := ⟨X, []⟩
def f201l0 (D : Dyn) (n : Nat) (vs : List AV) (H : AH) : Rs :=
  hd vs fun x0_2 vs => hd vs fun x1_2 vs => hd vs fun x2_2 vs => hd vs fun x5 vs => 
  bV (ld1p x1_2 H) fun x17 => 
  bV (pNil x17) fun x18 => 
  bV (fAd 0 x18) fun x19 => 
  bV (ld1p x19 H) fun x20 => 
  bV (bInt .lss x5 x20) fun x21 => 
  cnd x21 (bV (ld1p x1_2 H) fun x24 => 
  bV (pNil x24) fun x26 => 
  bV (fAd 2 x26) fun x27 => 
  bV (ixArr 8192 1 x27 x5) fun x28 => 
  bV (ld1p x28 H) fun x29 => 
  bV (ld1p x2_2 H) fun x30 => 
  bV (bInt .eql x29 x30) fun x31 => 
  jn (wnt x31 true (bR (noPan (callV (s201 D n).S D x0_2 [x5] H)) fun x35 H => 
  bV (aun .not x35) fun x36 => 
  some (.norm [x36], H)) (some (.norm [undefA], H))) fun vs H => hd vs fun x36_2 vs => 
  bV (pk3 (some x31) (some x36_2) (some (.bool false))) fun x37 => 
  cnd x37 (some (.ret (.tuple []), H))
  (bV (bInt .add x5 (.int .i64 (.ofNat 1))) fun x23 => 
  some (.norm [x0_2, x1_2, x2_2, x23], H)))
  (some (.exit 0 [], H))
def f201b1 (D : Dyn) (n : Nat) (vs : List AV) (H : AH) : Rs :=
  
  some (.ret (.tuple []), H)
/-- (*jetty/space.Space).of$1 -/
def f201 (D : Dyn) (n : Nat) (vs : List AV) (H : AH) : Option (AV × AH) :=
  outR (hd vs fun x0 vs => hd vs fun x1 vs => hd vs fun x2 vs => hd vs fun x3 vs => nl vs <|
  bV (ld1p x1 H) fun x6 => 
  bV (ld1p x2 H) fun x7 => 
  bV (pNil x6) fun x8 => 
  bV (fAd 8194 x8) fun x9 => 
  bV (ixArr 4 1 x9 x7) fun x10 => 
  bV (ld1p x10 H) fun x11 => 
  bV (bInt .eql x11 (.int .i64 (.ofNat 0))) fun x12 => 
  cnd x12 (some (.ret (.tuple []), H))
  (bV (ld1p x3 H) fun x13 => 
  bV (bInt .add x13 (.int .i64 (.ofNat 1))) fun x14 => 
  bV (mx2 x14 (.int .i64 (.ofNat 2))) fun x15 => 
  jb 0 (loopK n (f201l0 D n) [x0, x1, x2, x15] H) (f201b1 D n)))
def h201 : Hint := (.s (.s .o (.cl .o .o)) (.s .o (.b [] (.l [0, 1, 2, 5] (.s (.s .o (.cr .o .o)) (.s (.b0 (.s .o (.cl .o .o))) .o))))))
theorem f201_eq (D : Dyn) (n : Nat) : f201 D n = funKp (s201 D n) D n 201 Tryz.f201 h201 := by kernel_rfl
theorem f201_ok {D : Dyn} (hD : DP D) (n : Nat) : FP 201 (f201 D n) := fun_okP X_ok hD (SP.nil) Tryz.func201 (by kernel_rfl) (by kernel_rfl) (f201_eq D n)

def s129 (D : Dyn) (n : Nat) : Tb := ⟨X, []⟩
/-- (*jetty/space.Space).of -/
def f129 (D : Dyn) (n : Nat) (vs : List AV) (H : AH) : Option (AV × AH) :=
  outR (hd vs fun x0 vs => hd vs fun x1 vs => hd vs fun x2 vs => nl vs <|
  bA (bxV 27 x0) H fun x3 H => 
  bA (bxV 71 x1) H fun x4 H => 
  bA (bxV 3 x2) H fun x5 H => 
  bV (some (.func 201 [] [x3, x4, x5])) fun x6 => some (.ret x6, H))
def h129 : Hint := (.s .o (.s .o .o))
theorem f129_eq (D : Dyn) (n : Nat) : f129 D n = funKp (s129 D n) D n 129 Tryz.f129 h129 := by kernel_rfl
theorem f129_ok {D : Dyn} (hD : DP D) (n : Nat) : FP 129 (f129 D n) := fun_okP X_ok hD (SP.nil) Tryz.func129 (by kernel_rfl) (by kernel_rfl) (f129_eq D n)

def s63 (D : Dyn) (n : Nat) : Tb := ⟨X, [(129, f129 D n), (40, f40 D n)]⟩
def f63l0 (D : Dyn) (n : Nat) (vs : List AV) (H : AH) : Rs :=
  hd vs fun x1_2 vs => hd vs fun x2_2 vs => hd vs fun x3_2 vs => hd vs fun x13_2 vs => hd vs fun x14 vs => 
  bV (bInt .lss x14 (.int .i64 (.ofNat 2))) fun x15 => 
  cnd x15 (bV (ixAg1p 2 1 x13_2 x14) fun x16 => 
  bV (ld1p x1_2 H) fun x17 => 
  bR (noPan (f129 D n [x17, (.int .u8 (.ofNat 0)), x16] H)) fun x19 H => 
  newB H (.loop ⟨.ready, none, 63, 0, [1, 2, 3], [x1_2, x2_2, x3_2]⟩) fun A H => bR (rfC (s63 D n).S D x19 A H) fun _ H => endLp A H fun j H => jmpK j (
  bV (bInt .add x14 (.int .i64 (.ofNat 1))) fun x29 => 
  some (.norm [x1_2, x2_2, x3_2, x13_2, x29], H))
  (fun id => cond (Nat.beq 0 id) (some (.exit id [x2_2, x3_2], H)) (none)) (bV (ld1p x2_2 H) fun x9002_2 => bV (ld1p x3_2 H) fun x9003_2 => some (.ret (.tuple [x9002_2, x9003_2]), H)))
  (some (.exit 0 [x2_2, x3_2], H))
def f63b1 (D : Dyn) (n : Nat) (vs : List AV) (H : AH) : Rs :=
  hd vs fun x2_3 vs => hd vs fun x3_3 vs => 
  bR (stNp 1 x2_3 (.int .i64 (.ofNat 0)) H) fun x9999_3 H => 
  bR (stNp 1 x3_3 (.int .i64 (.ofNat 3)) H) fun x9999_4 H => 
  bV (ld1p x2_3 H) fun x9002_3 => bV (ld1p x3_3 H) fun x9003_3 => some (.ret (.tuple [x9002_3, x9003_3]), H)
/-- (*jetty/space.Space).Take -/
def f63 (D : Dyn) (n : Nat) (vs : List AV) (H : AH) : Option (AV × AH) :=
  outR (hd vs fun x0 vs => nl vs <|
  bA (bxV 27 x0) H fun x1 H => 
  bA (bxV 3 (.int .i64 (.ofNat 0))) H fun x2 H => 
  bA (bxV 24 (.int .i64 (.ofNat 0))) H fun x3 H => 
  bV (ld1p x1 H) fun x7 => 
  bV (cmpO .eql (eqP x7 .nilPtr)) fun x8 => 
  cnd x8 (bR (stNp 1 x2 (.int .i64 (.ofNat 0)) H) fun x9999 H => 
  bR (stNp 1 x3 (.int .i64 (.ofNat 2)) H) fun x9999_2 H => 
  bV (ld1p x2 H) fun x9002 => bV (ld1p x3 H) fun x9003 => some (.ret (.tuple [x9002, x9003]), H))
  (bV (ld1p x1 H) fun x9 => 
  bV (pNil x9) fun x10 => 
  bV (fAd 1 x10) fun x11 => 
  bV (ld1p x11 H) fun x12 => 
  bV (bldAp 1 [(.int .i64 (.ofNat 0)), (.int .i64 (.ofNat 0))] [(0, x12), (1, (.int .i64 (.ofNat 0)))]) fun x13 => 
  jb 0 (loopK n (f63l0 D n) [x1, x2, x3, x13, (.int .i64 (.ofNat 0))] H) (f63b1 D n)))
def h63 : Hint := (.s .o (.s (.s .o (.cl (.s .o .o) .o)) (.s (.s .o (.b [2, 3] (.l [1, 2, 3, 13, 14] (.s .o (.s (.cr .o .o) (.s (.b0 (.s .o (.s .o (.b0 (.rf 0 [1, 2, 3]))))) .o)))))) (.s .o .o))))
theorem f63_eq (D : Dyn) (n : Nat) : f63 D n = funKp (s63 D n) D n 63 Tryz.f63 h63 := by kernel_rfl
theorem f63_ok {D : Dyn} (hD : DP D) (n : Nat) : FP 63 (f63 D n) := fun_okP X_ok hD (SP.cons (f129_ok hD n) (SP.cons (f40_ok hD n) (SP.nil))) Tryz.func63 (by kernel_rfl) (by kernel_rfl) (f63_eq D n)
def r63_0 (D : Dyn) (n : Nat) (A : Nat) (l : ALoop) (az : List AV) (H : AH) : Option (AV × AH) :=
  bif eqNL [1, 2, 3] l.live then endQ A (hd l.vals fun x1 vs => hd vs fun x2 vs => hd vs fun x3 vs => hd az fun x20 az => nl az <|
  beginK A H fun H => 
  bV (ld1p x1 H) fun x21 => 
  bR (noPan (f40 D n [x21, x20, (.int .u8 (.ofNat 2))] H)) fun x23 H => 
  bV (ld1p x1 H) fun x24 => 
  bV (pNil x24) fun x26 => 
  bV (fAd 1 x26) fun x27 => 
  bR (stNp 1 x27 x20 H) fun x9999 H => 
  bR (stNp 1 x2 x20 H) fun x9999_2 H => 
  bR (stNp 1 x3 (.int .i64 (.ofNat 0)) H) fun x9999_3 H => 
  some (.ret (.tuple []), H)) else none
def r63_0a : Hint := .o
def r63_0b : Hint := (.b0 (.s .o (.s .o (.s .o .o))))
theorem r63_0_eq (D : Dyn) (n : Nat) : r63_0 D n = rndKp (s63 D n) D n 63 0 [1, 2, 3] [0] r63_0a r63_0b := by kernel_rfl
theorem r63_0_ok {D : Dyn} (hD : DP D) (n : Nat) : RdP 63 0 (r63_0 D n) := round_okP X_ok hD (SP.cons (f129_ok hD n) (SP.cons (f40_ok hD n) (SP.nil))) (by kernel_rfl) (r63_0_eq D n)

def s70 (D : Dyn) (n : Nat) : Tb := ⟨X, [(138, f138 D n), (139, f139 D n)]⟩
/-- jetty/block.To -/
def f70 (D : Dyn) (n : Nat) (vs : List AV) (H : AH) : Option (AV × AH) :=
  outR (hd vs fun x0 vs => hd vs fun x1 vs => nl vs <|
  bA (bxV 100 x1) H fun x3 H => 
  bA (bxV 35 (.agg [(.int .i64 (.ofNat 0)), (.int .i64 (.ofNat 0)), (.int .u64 (.ofNat 0))])) H fun x4 H => 
  bV (ldNp 512 x3 H) fun x11 => 
  bR (noPan (f138 D n [x11] H)) fun x12 H => 
  bV (pExtract x12 0) fun x13 => 
  bV (pExtract x12 1) fun x14 => 
  bV (pExtract x12 2) fun x15 => 
  bV (pExtract x12 3) fun x16 => 
  bV (bInt .neq x16 (.int .i64 (.ofNat 0))) fun x18 => 
  cnd x18 (bV (bldSp [(0, 1), (1, 1), (2, 1)] [(.int .i64 (.ofNat 0)), (.int .i64 (.ofNat 0)), (.int .u64 (.ofNat 0))] []) fun x19 => 
  bR (stNp 3 x4 x19 H) fun x9999 H => 
  bV (ldNp 3 x4 H) fun x9004 => bV (some x16) fun x5 => some (.ret (.tuple [x9004, x5]), H))
  (bV (bInt .lss x0 (.int .i64 (.ofNat 1))) fun x22 => 
  jn (wnt x22 false (bV (bInt .geq x0 (.int .i64 (.ofNat 8192))) fun x25 => 
  some (.norm [x25], H)) (some (.norm [undefA], H))) fun vs H => hd vs fun x25_2 vs => 
  bV (pk3 (some x22) (some (.bool true)) (some x25_2)) fun x26 => 
  cnd x26 (bV (bldSp [(0, 1), (1, 1), (2, 1)] [(.int .i64 (.ofNat 0)), (.int .i64 (.ofNat 0)), (.int .u64 (.ofNat 0))] []) fun x27 => 
  bR (stNp 3 x4 x27 H) fun x9999_2 H => 
  bV (ldNp 3 x4 H) fun x9004_2 => bV (some (.int .i64 (.ofNat 1))) fun x5_2 => some (.ret (.tuple [x9004_2, x5_2]), H))
  (bV (ldNp 512 x3 H) fun x30 => 
  bR (noPan (f139 D n [x30] H)) fun x31 H => 
  bV (bldSp [(0, 1), (1, 1), (2, 1)] [(.int .i64 (.ofNat 0)), (.int .i64 (.ofNat 0)), (.int .u64 (.ofNat 0))] [(0, x0), (1, x14), (2, x31)]) fun x32 => 
  bR (stNp 3 x4 x32 H) fun x9999_3 H => 
  bV (ldNp 3 x4 H) fun x9004_3 => bV (some (.int .i64 (.ofNat 0))) fun x5_3 => some (.ret (.tuple [x9004_3, x5_3]), H))))
def h70 : Hint := (.s .o (.s .o (.s (.s .o (.cl (.s .o .o) .o)) (.s (.s .o (.cl (.s .o .o) .o)) (.s .o .o)))))
theorem f70_eq (D : Dyn) (n : Nat) : f70 D n = funKp (s70 D n) D n 70 Tryz.f70 h70 := by kernel_rfl
theorem f70_ok {D : Dyn} (hD : DP D) (n : Nat) : FP 70 (f70 D n) := fun_okP X_ok hD (SP.cons (f138_ok hD n) (SP.cons (f139_ok hD n) (SP.nil))) Tryz.func70 (by kernel_rfl) (by kernel_rfl) (f70_eq D n)

def s114 (D : Dyn) (n : Nat) : Tb := ⟨X, [(63, f63 D n), (66, f66 D n), (70, f70 D n)]⟩
/-- (*jetty/tree.writer).put -/
def f114 (D : Dyn) (n : Nat) (vs : List AV) (H : AH) : Option (AV × AH) :=
  outR (hd vs fun x0 vs => hd vs fun x1 vs => nl vs <|
  bA (bxV 100 x1) H fun x3 H => 
  bA (bxV 35 (.agg [(.int .i64 (.ofNat 0)), (.int .i64 (.ofNat 0)), (.int .u64 (.ofNat 0))])) H fun x4 H => 
  bV (pNil x0) fun x11 => 
  bV (fAd 1 x11) fun x12 => 
  bV (ld1p x12 H) fun x13 => 
  bR (noPan (f63 D n [x13] H)) fun x14 H => 
  bV (pExtract x14 0) fun x15 => 
  bV (pExtract x14 1) fun x16 => 
  bV (bInt .neq x16 (.int .i64 (.ofNat 0))) fun x18 => 
  cnd x18 (bV (bldSp [(0, 1), (1, 1), (2, 1)] [(.int .i64 (.ofNat 0)), (.int .i64 (.ofNat 0)), (.int .u64 (.ofNat 0))] []) fun x19 => 
  bR (stNp 3 x4 x19 H) fun x9999 H => 
  bV (ldNp 3 x4 H) fun x9004 => bV (some x16) fun x5 => some (.ret (.tuple [x9004, x5]), H))
  (bV (pNil x0) fun x23 => 
  bV (fAd 4 x23) fun x24 => 
  bV (ld1p x24 H) fun x25 => 
  bA (bldLp 3 1 1 [(.int .i64 (.ofNat 0))] [(0, x15)]) H fun x27 H => 
  bR (apPp 3 1 8 x25 x27 H) fun x28 H => 
  bV (pNil x0) fun x29 => 
  bV (fAd 4 x29) fun x30 => 
  bR (stNp 1 x30 x28 H) fun x9999_2 H => 
  bV (pNil x0) fun x32 => 
  bV (fAd 0 x32) fun x33 => 
  bV (ld1p x33 H) fun x34 => 
  bV (pNil x34) fun x35 => 
  bV (fAd 0 x35) fun x36 => 
  bV (ld1p x36 H) fun x37 => 
  bV (ldNp 512 x3 H) fun x39 => 
  bR (noPan (f66 D n [x37, x15, x39] H)) fun x40 H => 
  bV (bInt .neq x40 (.int .i64 (.ofNat 0))) fun x42 => 
  cnd x42 (bV (bldSp [(0, 1), (1, 1), (2, 1)] [(.int .i64 (.ofNat 0)), (.int .i64 (.ofNat 0)), (.int .u64 (.ofNat 0))] []) fun x43 => 
  bR (stNp 3 x4 x43 H) fun x9999_3 H => 
  bV (ldNp 3 x4 H) fun x9004_2 => bV (some x40) fun x5_2 => some (.ret (.tuple [x9004_2, x5_2]), H))
  (bV (pNil x0) fun x47 => 
  bV (fAd 5 x47) fun x48 => 
  bV (ld1p x48 H) fun x49 => 
  bV (ldNp 512 x3 H) fun x51 => 
  bV (bldSp [(0, 1), (1, 512)] [(.int .i64 (.ofNat 0)), .pk 512 0] [(0, x15), (1, x51)]) fun x52 => 
  bA (bldLp 102 513 1 [(.int .i64 (.ofNat 0)), .pk 512 0] [(0, x52)]) H fun x53 H => 
  bR (apPp 102 513 520 x49 x53 H) fun x54 H => 
  bV (pNil x0) fun x55 => 
  bV (fAd 5 x55) fun x56 => 
  bR (stNp 1 x56 x54 H) fun x9999_4 H => 
  bV (ldNp 512 x3 H) fun x58 => 
  bR (noPan (f70 D n [x15, x58] H)) fun x59 H => 
  bV (pExtract x59 0) fun x60 => 
  bV (pExtract x59 1) fun x61 => 
  bR (stNp 3 x4 x60 H) fun x9999_5 H => 
  bV (ldNp 3 x4 H) fun x9004_3 => bV (some x61) fun x5_3 => some (.ret (.tuple [x9004_3, x5_3]), H))))
def h114 : Hint := (.s .o (.s .o (.s (.s .o (.cl (.s .o .o) .o)) (.s .o (.s (.s .o (.s .o (.cl (.s .o .o) .o))) (.s .o (.s .o .o)))))))
theorem f114_eq (D : Dyn) (n : Nat) : f114 D n = funKp (s114 D n) D n 114 Tryz.f114 h114 := by kernel_rfl
theorem f114_ok {D : Dyn} (hD : DP D) (n : Nat) : FP 114 (f114 D n) := fun_okP X_ok hD (SP.cons (f63_ok hD n) (SP.cons (f66_ok hD n) (SP.cons (f70_ok hD n) (SP.nil)))) Tryz.func114 (by kernel_rfl) (by kernel_rfl) (f114_eq D n)
end Go.Eng.Sh
