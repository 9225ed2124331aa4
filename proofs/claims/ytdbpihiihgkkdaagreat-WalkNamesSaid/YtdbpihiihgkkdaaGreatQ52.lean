/- Shallow functions, by program (gen.py). -/
import Derived.Test.YtdbpihiihgkkdaaGreatQ51
import Derived.Test.YtdbpihiihgkkdaaGreatProg
import Derived.KernelRfl
noncomputable section
namespace Go.Eng.Sh
open Go.Proofs
set_option maxRecDepth 100000
set_option linter.all false
def s263 (D : Dyn) (n : Nat) : Tb := ⟨X, [(264, f264 D n), (288, f288 D n), (265, f265 D n), (267, f267 D n)]⟩
def f263j0 (D : Dyn) (n : Nat) (vs : List AV) (H : AH) : Rs :=
  hd vs fun x0_2 vs => hd vs fun x1_2 vs => hd vs fun x2_2 vs => 
  some (.norm [x0_2, x1_2, x2_2], H)
def f263j1 (D : Dyn) (n : Nat) (vs : List AV) (H : AH) : Rs :=
  hd vs fun x0_3 vs => hd vs fun x1_3 vs => hd vs fun x2_3 vs => 
  bR (f265 D n [x0_3, (.bool false)] H) fun x79 H => 
  some (.norm [x0_3, x1_3, x2_3], H)
def f263j2 (D : Dyn) (n : Nat) (vs : List AV) (H : AH) : Rs :=
  hd vs fun x0_4 vs => hd vs fun x1_4 vs => hd vs fun x2_4 vs => 
  some (.norm [x0_4, x1_4, x2_4], H)
def f263j3 (D : Dyn) (n : Nat) (vs : List AV) (H : AH) : Rs :=
  hd vs fun x0_5 vs => hd vs fun x1_5 vs => hd vs fun x2_5 vs => 
  bV (bldS [(0, 1), (1, 1), (2, 1), (3, 1), (4, 1)] [(.int .i64 (.ofNat 0)), (.int .i64 (.ofNat 0)), .nilPtr, .nilPtr, .nilPtr] [(0, x1_5), (2, x2_5)]) fun x82 => 
  bA (bxV 350 x82) H fun x83 H => 
  bV (pNil x0_5) fun x85 => 
  bV (fAd 0 x85) fun x86 => 
  bV (fAd 12 x86) fun x87 => 
  bV (ld1 x87 H) fun x88 => 
  bR (upM [6] x88 x1_5 x83 H) fun x9999 H => 
  bV (pNil x0_5) fun x92 => 
  bV (fAd 0 x92) fun x93 => 
  bR (f267 D n [x93, (.int .i64 (.ofNat 0)), x83] H) fun x95 H => 
  some (.ret (.tuple []), H)
/-- (*jetty/arc.Cache).meet -/
def f263 (D : Dyn) (n : Nat) (vs : List AV) (H : AH) : Option (AV × AH) :=
  outR (hd vs fun x0 vs => hd vs fun x1 vs => hd vs fun x2 vs => nl vs <|
  bV (pNil x0) fun x13 => 
  bV (fAd 0 x13) fun x14 => 
  bV (pNil x0) fun x17 => 
  bV (fAd 0 x17) fun x18 => 
  bR (f264 D n [x14, (.int .i64 (.ofNat 0))] H) fun x15 H => 
  bR (f264 D n [x18, (.int .i64 (.ofNat 1))] H) fun x19 H => 
  bV (pNil x0) fun x21 => 
  bV (fAd 0 x21) fun x22 => 
  bV (pNil x0) fun x25 => 
  bV (fAd 0 x25) fun x26 => 
  bR (f264 D n [x22, (.int .i64 (.ofNat 2))] H) fun x23 H => 
  bR (f264 D n [x26, (.int .i64 (.ofNat 3))] H) fun x27 H => 
  bV (bInt .add x15 x19) fun x30 => 
  bV (bInt .add x30 x23) fun x32 => 
  bV (bInt .add x32 x27) fun x34 => 
  bV (bInt .add x15 x23) fun x38 => 
  bV (pNil x0) fun x40 => 
  bV (fAd 13 x40) fun x41 => 
  bV (ld1 x41 H) fun x42 => 
  bV (bInt .geq x38 x42) fun x43 => 
  jn (cnd x43 (bV (pNil x0) fun x46 => 
  bV (fAd 13 x46) fun x47 => 
  bV (ld1 x47 H) fun x48 => 
  bV (bInt .lss x15 x48) fun x49 => 
  jn (cnd x49 (bV (pNil x0) fun x51 => 
  bV (fAd 0 x51) fun x52 => 
  bR (f288 D n [x52, (.int .i64 (.ofNat 2))] H) fun x53 H => 
  bR (f265 D n [x0, (.bool false)] H) fun x55 H => 
  some (.norm [x0, x1, x2], H))
  (bV (pNil x0) fun x57 => 
  bV (fAd 0 x57) fun x58 => 
  bR (f288 D n [x58, (.int .i64 (.ofNat 0))] H) fun x59 H => 
  some (.norm [x0, x1, x2], H))) (f263j0 D n))
  (bV (pNil x0) fun x63 => 
  bV (fAd 13 x63) fun x64 => 
  bV (ld1 x64 H) fun x65 => 
  bV (bInt .geq x34 x65) fun x66 => 
  jn (cnd x66 (bV (pNil x0) fun x69 => 
  bV (fAd 13 x69) fun x70 => 
  bV (ld1 x70 H) fun x71 => 
  bV (bInt .mul (.int .i64 (.ofNat 2)) x71) fun x72 => 
  bV (bInt .geq x34 x72) fun x73 => 
  jn (cnd x73 (bV (pNil x0) fun x75 => 
  bV (fAd 0 x75) fun x76 => 
  bR (f288 D n [x76, (.int .i64 (.ofNat 3))] H) fun x77 H => 
  some (.norm [x0, x1, x2], H))
  (some (.norm [x0, x1, x2], H))) (f263j1 D n))
  (some (.norm [x0, x1, x2], H))) (f263j2 D n))) (f263j3 D n))
def h263 : Hint := (.s .o (.s .o (.s (.s .o (.b0 (.s .o (.c [0, 1, 2] (.s .o (.c [0, 1, 2] (.s .o .o) .o)) (.s .o (.c [0, 1, 2] (.s (.s .o (.c [0, 1, 2] .o .o)) .o) .o)))))) (.s .o (.s .o .o)))))
theorem f263_eq (D : Dyn) (n : Nat) : f263 D n = funK (s263 D n) D n 263 Tryz.f263 h263 := by kernel_rfl
theorem f263_ok {D : Dyn} (hD : DG D) (n : Nat) : FI 263 (f263 D n) := fun_ok X_ok hD (SOk.cons (f264_ok hD n).fs (SOk.cons (f288_ok hD n).fs (SOk.cons (f265_ok hD n).fs (SOk.cons (f267_ok hD n).fs (SOk.nil))))) Tryz.func263 (by kernel_rfl) (f263_eq D n)

def s200 (D : Dyn) (n : Nat) : Tb := ⟨X, [(263, f263 D n), (264, f264 D n), (265, f265 D n), (266, f266 D n), (267, f267 D n)]⟩
def f200j0 (D : Dyn) (n : Nat) (vs : List AV) (H : AH) : Rs :=
  hd vs fun x0_2 vs => hd vs fun x2_2 vs => hd vs fun x6 vs => 
  some (.norm [x0_2, x2_2, x6], H)
def f200j1 (D : Dyn) (n : Nat) (vs : List AV) (H : AH) : Rs :=
  hd vs fun x0_3 vs => hd vs fun x2_3 vs => hd vs fun x6_2 vs => 
  bV (pNil x0_3) fun x79 => 
  bV (fAd 0 x79) fun x80 => 
  bR (f266 D n [x80, x6_2] H) fun x82 H => 
  bV (pNil x6_2) fun x85 => 
  bV (fAd 2 x85) fun x86 => 
  bR (stN 1 x86 x2_3 H) fun x9999_3 H => 
  bV (pNil x0_3) fun x88 => 
  bV (fAd 0 x88) fun x89 => 
  bR (f267 D n [x89, (.int .i64 (.ofNat 1)), x6_2] H) fun x91 H => 
  some (.ret (.tuple []), H)
/-- (*jetty/arc.Cache).have -/
def f200 (D : Dyn) (n : Nat) (vs : List AV) (H : AH) : Option (AV × AH) :=
  outR (hd vs fun x0 vs => hd vs fun x1 vs => hd vs fun x2 vs => nl vs <|
  bV (pNil x0) fun x10 => 
  bV (fAd 0 x10) fun x11 => 
  bV (fAd 12 x11) fun x12 => 
  bV (ld1 x12 H) fun x13 => 
  bV (lkM [6] .nilPtr false x13 x1 H) fun x15 => 
  bV (cmpO .eql (eqP x15 .nilPtr)) fun x17 => 
  cnd x17 (bR (f263 D n [x0, x1, x2] H) fun x21 H => 
  some (.ret (.tuple []), H))
  (bV (pNil x15) fun x23 => 
  bV (fAd 1 x23) fun x24 => 
  bV (ld1 x24 H) fun x25 => 
  bV (bInt .eql x25 (.int .i64 (.ofNat 2))) fun x27 => 
  jn (cnd x27 (bV (pNil x0) fun x29 => 
  bV (fAd 0 x29) fun x30 => 
  bV (pNil x0) fun x33 => 
  bV (fAd 0 x33) fun x34 => 
  bR (f264 D n [x30, (.int .i64 (.ofNat 3))] H) fun x31 H => 
  bR (f264 D n [x34, (.int .i64 (.ofNat 2))] H) fun x35 H => 
  bV (bInt .quo x31 x35) fun x36 => 
  bV (mx2 (.int .i64 (.ofNat 1)) x36) fun x37 => 
  bV (pNil x0) fun x40 => 
  bV (fAd 13 x40) fun x41 => 
  bV (ld1 x41 H) fun x42 => 
  bV (pNil x0) fun x44 => 
  bV (fAd 14 x44) fun x45 => 
  bV (ld1 x45 H) fun x46 => 
  bV (bInt .add x46 x37) fun x48 => 
  bV (mn2 x42 x48) fun x49 => 
  bV (pNil x0) fun x50 => 
  bV (fAd 14 x50) fun x51 => 
  bR (stN 1 x51 x49 H) fun x9999 H => 
  bR (f265 D n [x0, (.bool false)] H) fun x53 H => 
  some (.norm [x0, x2, x15], H))
  (bV (bInt .eql x25 (.int .i64 (.ofNat 3))) fun x55 => 
  jn (cnd x55 (bV (pNil x0) fun x57 => 
  bV (fAd 0 x57) fun x58 => 
  bV (pNil x0) fun x61 => 
  bV (fAd 0 x61) fun x62 => 
  bR (f264 D n [x58, (.int .i64 (.ofNat 2))] H) fun x59 H => 
  bR (f264 D n [x62, (.int .i64 (.ofNat 3))] H) fun x63 H => 
  bV (bInt .quo x59 x63) fun x64 => 
  bV (mx2 (.int .i64 (.ofNat 1)) x64) fun x65 => 
  bV (pNil x0) fun x68 => 
  bV (fAd 14 x68) fun x69 => 
  bV (ld1 x69 H) fun x70 => 
  bV (bInt .sub x70 x65) fun x72 => 
  bV (mx2 (.int .i64 (.ofNat 0)) x72) fun x73 => 
  bV (pNil x0) fun x74 => 
  bV (fAd 14 x74) fun x75 => 
  bR (stN 1 x75 x73 H) fun x9999_2 H => 
  bR (f265 D n [x0, (.bool true)] H) fun x77 H => 
  some (.norm [x0, x2, x15], H))
  (some (.norm [x0, x2, x15], H))) (f200j0 D n))) (f200j1 D n)))
def h200 : Hint := (.s .o (.s (.s .o (.cl (.s .o .o) .o)) (.s (.s .o (.b0 (.s .o (.c [0, 2, 6] (.s .o (.s .o .o)) (.s .o (.c [0, 2, 6] (.s .o (.s .o .o)) .o)))))) (.s .o (.s .o .o)))))
theorem f200_eq (D : Dyn) (n : Nat) : f200 D n = funK (s200 D n) D n 200 Tryz.f200 h200 := by kernel_rfl
theorem f200_ok {D : Dyn} (hD : DG D) (n : Nat) : FI 200 (f200 D n) := fun_ok X_ok hD (SOk.cons (f263_ok hD n).fs (SOk.cons (f264_ok hD n).fs (SOk.cons (f265_ok hD n).fs (SOk.cons (f266_ok hD n).fs (SOk.cons (f267_ok hD n).fs (SOk.nil)))))) Tryz.func200 (by kernel_rfl) (f200_eq D n)

def s247 (D : Dyn) (n : Nat) : Tb := ⟨X, [(199, f199 D n), (200, f200 D n)]⟩
/-- (*jetty/arc.Cache).Get -/
def f247 (D : Dyn) (n : Nat) (vs : List AV) (H : AH) : Option (AV × AH) :=
  outR (hd vs fun x0 vs => hd vs fun x1 vs => nl vs <|
  bA (bxV 164 (.agg (rep 512 [(.int .u8 (.ofNat 0))]))) H fun x4 H => 
  bR (f199 D n [x0] H) fun x8 H => 
  cnd x8 (bV (bldA 1 (rep 512 [(.int .u8 (.ofNat 0))]) []) fun x9 => 
  bR (stN 512 x4 x9 H) fun x9999 H => 
  bV (ldN 512 x4 H) fun x9004 => bV (some (.int .i64 (.ofNat 2))) fun x5 => some (.ret (.tuple [x9004, x5]), H))
  (bV (pNil x0) fun x11 => 
  bV (fAd 0 x11) fun x12 => 
  bV (fAd 12 x12) fun x13 => 
  bV (ld1 x13 H) fun x14 => 
  bV (lkM [6] .nilPtr false x14 x1 H) fun x16 => 
  bV (cmpO .eql (eqP x16 .nilPtr)) fun x18 => 
  jn (wnt x18 false (bV (pNil x16) fun x21 => 
  bV (fAd 2 x21) fun x22 => 
  bV (ld1 x22 H) fun x23 => 
  bV (cmpO .eql (eqP x23 .nilPtr)) fun x24 => 
  some (.norm [x24], H)) (some (.norm [undefA], H))) fun vs H => hd vs fun x24_2 vs => 
  bV (pk3 (some x18) (some (.bool true)) (some x24_2)) fun x25 => 
  cnd x25 (bV (bldA 1 (rep 512 [(.int .u8 (.ofNat 0))]) []) fun x26 => 
  bR (stN 512 x4 x26 H) fun x9999_2 H => 
  bV (ldN 512 x4 H) fun x9004_2 => bV (some (.int .i64 (.ofNat 5))) fun x5_2 => some (.ret (.tuple [x9004_2, x5_2]), H))
  (bV (pNil x16) fun x30 => 
  bV (fAd 2 x30) fun x31 => 
  bV (ld1 x31 H) fun x32 => 
  bR (f200 D n [x0, x1, x32] H) fun x33 H => 
  bV (pNil x16) fun x35 => 
  bV (fAd 2 x35) fun x36 => 
  bV (ld1 x36 H) fun x37 => 
  bV (pNil x37) fun x38 => 
  bV (ldN 512 x38 H) fun x39 => 
  bR (stN 512 x4 x39 H) fun x9999_3 H => 
  bV (ldN 512 x4 H) fun x9004_3 => bV (some (.int .i64 (.ofNat 0))) fun x5_3 => some (.ret (.tuple [x9004_3, x5_3]), H))))
def h247 : Hint := (.s .o (.s (.s .o (.cl (.s .o .o) .o)) (.s .o (.s (.s .o (.cl (.s .o .o) .o)) (.s .o (.s .o .o))))))
theorem f247_eq (D : Dyn) (n : Nat) : f247 D n = funK (s247 D n) D n 247 Tryz.f247 h247 := by kernel_rfl
theorem f247_ok {D : Dyn} (hD : DG D) (n : Nat) : FI 247 (f247 D n) := fun_ok X_ok hD (SOk.cons (f199_ok hD n).fs (SOk.cons (f200_ok hD n).fs (SOk.nil))) Tryz.func247 (by kernel_rfl) (f247_eq D n)

def s193 (D : Dyn) (n : Nat) : Tb := ⟨X, []⟩
def f193l0 (D : Dyn) (n : Nat) (vs : List AV) (H : AH) : Rs :=
  hd vs fun x0_2 vs => hd vs fun x1_2 vs => hd vs fun x7_2 vs => hd vs fun x8 vs => 
  bV (bInt .lss x8 x7_2) fun x9 => 
  cnd x9 (bV (ixStr x1_2 x8) fun x14 => 
  bV (cvI .u64 x14) fun x15 => 
  bV (bInt .xor x0_2 x15) fun x16 => 
  bV (bInt .mul x16 (.int .u64 (.ofNat 1099511628211))) fun x17 => 
  bV (bInt .add x8 (.int .i64 (.ofNat 1))) fun x18 => 
  some (.norm [x17, x1_2, x7_2, x18], H))
  (some (.exit 0 [x0_2], H))
def f193b1 (D : Dyn) (n : Nat) (vs : List AV) (H : AH) : Rs :=
  hd vs fun x0_3 vs => 
  bV (some x0_3) fun x4 => some (.ret x4, H)
/-- jetty/digest.sum[string] -/
def f193 (D : Dyn) (n : Nat) (vs : List AV) (H : AH) : Option (AV × AH) :=
  outR (hd vs fun x0 vs => hd vs fun x1 vs => nl vs <|
  bV (lnStr x1) fun x7 => 
  jb 0 (loopK n (f193l0 D n) [x0, x1, x7, (.int .i64 (.ofNat 0))] H) (f193b1 D n))
def h193 : Hint := (.s .o (.s (.s .o (.b [0] (.l [0, 1, 7, 8] (.s .o (.s (.cr .o .o) (.s (.b0 (.s .o .o)) .o)))))) (.s .o .o)))
theorem f193_eq (D : Dyn) (n : Nat) : f193 D n = funK (s193 D n) D n 193 Tryz.f193 h193 := by kernel_rfl
theorem f193_ok {D : Dyn} (hD : DG D) (n : Nat) : FI 193 (f193 D n) := fun_ok X_ok hD (SOk.nil) Tryz.func193 (by kernel_rfl) (f193_eq D n)

def s224 (D : Dyn) (n : Nat) : Tb := ⟨X, [(193, f193 D n)]⟩
/-- jetty/digest.Sum -/
def f224 (D : Dyn) (n : Nat) (vs : List AV) (H : AH) : Option (AV × AH) :=
  outR (hd vs fun x0 vs => nl vs <|
  bR (f193 D n [(.int .u64 (.ofNat 14695981039346656037)), x0] H) fun x4 H => 
  bV (some x4) fun x2 => some (.ret x2, H))
def h224 : Hint := (.s .o (.s .o .o))
theorem f224_eq (D : Dyn) (n : Nat) : f224 D n = funK (s224 D n) D n 224 Tryz.f224 h224 := by kernel_rfl
theorem f224_ok {D : Dyn} (hD : DG D) (n : Nat) : FI 224 (f224 D n) := fun_ok X_ok hD (SOk.cons (f193_ok hD n).fs (SOk.nil)) Tryz.func224 (by kernel_rfl) (f224_eq D n)

def s211 (D : Dyn) (n : Nat) : Tb := ⟨X, [(224, f224 D n)]⟩
/-- jetty/block.Sum -/
def f211 (D : Dyn) (n : Nat) (vs : List AV) (H : AH) : Option (AV × AH) :=
  outR (hd vs fun x0 vs => nl vs <|
  bA (bxV 164 x0) H fun x1 H => 
  bV (slArr 512 1 x1 none none none) fun x3 => 
  bV (cvBS x3 H) fun x4 => 
  bR (f224 D n [x4] H) fun x5 H => 
  bV (some x5) fun x2 => some (.ret x2, H))
def h211 : Hint := (.s .o (.s .o .o))
theorem f211_eq (D : Dyn) (n : Nat) : f211 D n = funK (s211 D n) D n 211 Tryz.f211 h211 := by kernel_rfl
theorem f211_ok {D : Dyn} (hD : DG D) (n : Nat) : FI 211 (f211 D n) := fun_ok X_ok hD (SOk.cons (f224_ok hD n).fs (SOk.nil)) Tryz.func211 (by kernel_rfl) (f211_eq D n)

def s219 (D : Dyn) (n : Nat) : Tb := ⟨X, []⟩
def f219l0 (D : Dyn) (n : Nat) (vs : List AV) (H : AH) : Rs :=
  hd vs fun x3 vs => hd vs fun x6 vs => hd vs fun x7_2 vs => hd vs fun x8 vs => 
  bV (bInt .lss x8 x7_2) fun x9 => 
  cnd x9 (bV (ixSl 1 x6 x8) fun x10 => 
  bV (ld1 x10 H) fun x11 => 
  bV (bInt .shl x3 (.int .u64 (.ofNat 8))) fun x13 => 
  bV (cvI .u64 x11) fun x15 => 
  bV (bInt .or x13 x15) fun x16 => 
  bV (bInt .add x8 (.int .i64 (.ofNat 1))) fun x17 => 
  some (.norm [x16, x6, x7_2, x17], H))
  (some (.exit 0 [x3], H))
def f219b1 (D : Dyn) (n : Nat) (vs : List AV) (H : AH) : Rs :=
  hd vs fun x3_2 vs => 
  bV (some x3_2) fun x2 => some (.ret x2, H)
/-- jetty/block.get -/
def f219 (D : Dyn) (n : Nat) (vs : List AV) (H : AH) : Option (AV × AH) :=
  outR (hd vs fun x0 vs => nl vs <|
  bV (lnSl x0) fun x7 => 
  jb 0 (loopK n (f219l0 D n) [(.int .u64 (.ofNat 0)), x0, x7, (.int .i64 (.ofNat 0))] H) (f219b1 D n))
def h219 : Hint := (.s .o (.s .o (.s (.s .o (.b [3] (.l [3, 6, 7, 8] (.s .o (.s (.cr .o .o) (.s (.b0 (.s .o .o)) .o)))))) (.s .o .o))))
theorem f219_eq (D : Dyn) (n : Nat) : f219 D n = funK (s219 D n) D n 219 Tryz.f219 h219 := by kernel_rfl
theorem f219_ok {D : Dyn} (hD : DG D) (n : Nat) : FI 219 (f219 D n) := fun_ok X_ok hD (SOk.nil) Tryz.func219 (by kernel_rfl) (f219_eq D n)

def s120 (D : Dyn) (n : Nat) : Tb := ⟨X, [(151, f151 D n)]⟩
/-- jetty/block.Seal -/
def f120 (D : Dyn) (n : Nat) (vs : List AV) (H : AH) : Option (AV × AH) :=
  outR (hd vs fun x0 vs => hd vs fun x1 vs => hd vs fun x2 vs => nl vs <|
  bA (bxV 164 (.agg (rep 512 [(.int .u8 (.ofNat 0))]))) H fun x6 H => 
  bV (bInt .lss x1 (.int .i64 (.ofNat 0))) fun x10 => 
  jn (wnt x10 false (bV (bInt .gtr x1 (.int .i64 (.ofNat 2147483647))) fun x13 => 
  some (.norm [x13], H)) (some (.norm [undefA], H))) fun vs H => hd vs fun x13_2 vs => 
  bV (pk3 (some x10) (some (.bool true)) (some x13_2)) fun x14 => 
  cnd x14 (bV (bldA 1 (rep 512 [(.int .u8 (.ofNat 0))]) []) fun x15 => 
  bR (stN 512 x6 x15 H) fun x9999 H => 
  bV (ldN 512 x6 H) fun x9006 => bV (some (.int .i64 (.ofNat 1))) fun x7 => some (.ret (.tuple [x9006, x7]), H))
  (bV (lnStr x2) fun x17 => 
  bV (bInt .gtr x17 (.int .i64 (.ofNat 500))) fun x18 => 
  cnd x18 (bV (bldA 1 (rep 512 [(.int .u8 (.ofNat 0))]) []) fun x19 => 
  bR (stN 512 x6 x19 H) fun x9999_2 H => 
  bV (ldN 512 x6 H) fun x9006_2 => bV (some (.int .i64 (.ofNat 40))) fun x7_2 => some (.ret (.tuple [x9006_2, x7_2]), H))
  (bA (bxV 164 (.agg (rep 512 [(.int .u8 (.ofNat 0))]))) H fun x8 H => 
  bV (slArr 512 1 x8 none none none) fun x20 => 
  bR (cpy 1 x20 (.str 4 2037675114) H) fun x21 H => 
  bV (ixArr 512 1 x8 (.int .i64 (.ofNat 4))) fun x23 => 
  bR (stN 1 x23 x0 H) fun x9999_3 H => 
  bV (slArr 512 1 x8 (some (.int .i64 (.ofNat 6))) (some (.int .i64 (.ofNat 8))) none) fun x24 => 
  bV (lnStr x2) fun x26 => 
  bV (cvI .u64 x26) fun x27 => 
  bR (f151 D n [x24, x27] H) fun x28 H => 
  bV (slArr 512 1 x8 (some (.int .i64 (.ofNat 8))) (some (.int .i64 (.ofNat 12))) none) fun x29 => 
  bV (cvI .u64 x1) fun x31 => 
  bR (f151 D n [x29, x31] H) fun x32 H => 
  bV (slArr 512 1 x8 (some (.int .i64 (.ofNat 12))) none none) fun x33 => 
  bR (cpy 1 x33 x2 H) fun x35 H => 
  bV (ldN 512 x8 H) fun x36 => 
  bR (stN 512 x6 x36 H) fun x9999_4 H => 
  bV (ldN 512 x6 H) fun x9006_3 => bV (some (.int .i64 (.ofNat 0))) fun x7_3 => some (.ret (.tuple [x9006_3, x7_3]), H))))
def h120 : Hint := (.s .o (.s (.s .o (.cl (.s .o .o) .o)) (.s (.s .o (.cl (.s .o .o) .o)) (.s .o (.s .o (.s .o (.s .o (.s .o (.s .o (.s .o .o))))))))))
theorem f120_eq (D : Dyn) (n : Nat) : f120 D n = funK (s120 D n) D n 120 Tryz.f120 h120 := by kernel_rfl
theorem f120_ok {D : Dyn} (hD : DG D) (n : Nat) : FI 120 (f120 D n) := fun_ok X_ok hD (SOk.cons (f151_ok hD n).fs (SOk.nil)) Tryz.func120 (by kernel_rfl) (f120_eq D n)

def s210 (D : Dyn) (n : Nat) : Tb := ⟨X, [(219, f219 D n), (120, f120 D n)]⟩
/-- jetty/block.Open -/
def f210 (D : Dyn) (n : Nat) (vs : List AV) (H : AH) : Option (AV × AH) :=
  outR (hd vs fun x0 vs => nl vs <|
  bA (bxV 164 x0) H fun x1 H => 
  bV (slArr 512 1 x1 (some (.int .i64 (.ofNat 6))) (some (.int .i64 (.ofNat 8))) none) fun x8 => 
  bR (f219 D n [x8] H) fun x9 H => 
  bV (bInt .gtr x9 (.int .u64 (.ofNat 500))) fun x11 => 
  cnd x11 (bV (some (.int .u8 (.ofNat 0))) fun x2 => bV (some (.int .i64 (.ofNat 0))) fun x3 => bV (some (.str 0 0)) fun x4 => bV (some (.int .i64 (.ofNat 4))) fun x5 => some (.ret (.tuple [x2, x3, x4, x5]), H))
  (bV (ixArr 512 1 x1 (.int .i64 (.ofNat 4))) fun x12 => 
  bV (ld1 x12 H) fun x13 => 
  bV (slArr 512 1 x1 (some (.int .i64 (.ofNat 8))) (some (.int .i64 (.ofNat 12))) none) fun x14 => 
  bR (f219 D n [x14] H) fun x15 H => 
  bV (cvI .i64 x15) fun x16 => 
  bV (bInt .add (.int .u64 (.ofNat 12)) x9) fun x18 => 
  bV (slArr 512 1 x1 (some (.int .i64 (.ofNat 12))) (some x18) none) fun x19 => 
  bV (cvBS x19 H) fun x20 => 
  bR (f120 D n [x13, x16, x20] H) fun x25 H => 
  bV (pExtract x25 0) fun x26 => 
  bV (pExtract x25 1) fun x27 => 
  bA (bxV 164 (.agg (rep 512 [(.int .u8 (.ofNat 0))]))) H fun x7 H => 
  bR (stN 512 x7 x26 H) fun x9999 H => 
  bV (bInt .neq x27 (.int .i64 (.ofNat 0))) fun x29 => 
  jn (wnt x29 false (bV (ldN 512 x7 H) fun x31 => 
  bV (ldN 512 x1 H) fun x32 => 
  bV (cmpO .neq (eqA (List.replicate 512 7) x31 x32)) fun x33 => 
  some (.norm [x33], H)) (some (.norm [undefA], H))) fun vs H => hd vs fun x33_2 vs => 
  bV (pk3 (some x29) (some (.bool true)) (some x33_2)) fun x34 => 
  cnd x34 (bV (some (.int .u8 (.ofNat 0))) fun x2_2 => bV (some (.int .i64 (.ofNat 0))) fun x3_2 => bV (some (.str 0 0)) fun x4_2 => bV (some (.int .i64 (.ofNat 4))) fun x5_2 => some (.ret (.tuple [x2_2, x3_2, x4_2, x5_2]), H))
  (bV (some x13) fun x2_3 => bV (some x16) fun x3_3 => bV (some x20) fun x4_3 => bV (some (.int .i64 (.ofNat 0))) fun x5_3 => some (.ret (.tuple [x2_3, x3_3, x4_3, x5_3]), H))))
def h210 : Hint := (.s .o (.s .o (.s (.s .o (.cl (.s .o .o) .o)) (.s .o (.s .o (.s .o (.s .o (.s (.s .o (.cl (.s .o .o) .o)) (.s .o .o)))))))))
theorem f210_eq (D : Dyn) (n : Nat) : f210 D n = funK (s210 D n) D n 210 Tryz.f210 h210 := by kernel_rfl
theorem f210_ok {D : Dyn} (hD : DG D) (n : Nat) : FI 210 (f210 D n) := fun_ok X_ok hD (SOk.cons (f219_ok hD n).fs (SOk.cons (f120_ok hD n).fs (SOk.nil))) Tryz.func210 (by kernel_rfl) (f210_eq D n)

def s248 (D : Dyn) (n : Nat) : Tb := ⟨X, [(211, f211 D n), (210, f210 D n)]⟩
/-- jetty/block.Check -/
def f248 (D : Dyn) (n : Nat) (vs : List AV) (H : AH) : Option (AV × AH) :=
  outR (hd vs fun x0 vs => hd vs fun x1 vs => nl vs <|
  bA (bxV 52 x0) H fun x2 H => 
  bA (bxV 164 x1) H fun x3 H => 
  bV (fAd 0 x2) fun x8 => 
  bV (ld1 x8 H) fun x9 => 
  bV (bInt .eql x9 (.int .i64 (.ofNat 0))) fun x10 => 
  jn (wnt x10 false (bV (ldN 512 x3 H) fun x12 => 
  bV (fAd 2 x2) fun x14 => 
  bV (ld1 x14 H) fun x15 => 
  bR (f211 D n [x12] H) fun x13 H => chk (ld1 x14 H) x15 <| 
  bV (bInt .neq x13 x15) fun x16 => 
  some (.norm [x16], H)) (some (.norm [undefA], H))) fun vs H => hd vs fun x16_2 vs => 
  bV (pk3 (some x10) (some (.bool true)) (some x16_2)) fun x17 => 
  cnd x17 (bV (some (.int .u8 (.ofNat 0))) fun x4 => bV (some (.str 0 0)) fun x5 => bV (some (.int .i64 (.ofNat 52))) fun x6 => some (.ret (.tuple [x4, x5, x6]), H))
  (bV (ldN 512 x3 H) fun x19 => 
  bR (f210 D n [x19] H) fun x20 H => 
  bV (pExtract x20 0) fun x21 => 
  bV (pExtract x20 1) fun x22 => 
  bV (pExtract x20 2) fun x23 => 
  bV (pExtract x20 3) fun x24 => 
  bV (bInt .neq x24 (.int .i64 (.ofNat 0))) fun x26 => 
  cnd x26 (bV (some (.int .u8 (.ofNat 0))) fun x4_2 => bV (some (.str 0 0)) fun x5_2 => bV (some x24) fun x6_2 => some (.ret (.tuple [x4_2, x5_2, x6_2]), H))
  (bV (fAd 1 x2) fun x29 => 
  bV (ld1 x29 H) fun x30 => 
  bV (bInt .neq x22 x30) fun x31 => 
  cnd x31 (bV (some (.int .u8 (.ofNat 0))) fun x4_3 => bV (some (.str 0 0)) fun x5_3 => bV (some (.int .i64 (.ofNat 52))) fun x6_3 => some (.ret (.tuple [x4_3, x5_3, x6_3]), H))
  (bV (some x21) fun x4_4 => bV (some x23) fun x5_4 => bV (some (.int .i64 (.ofNat 0))) fun x6_4 => some (.ret (.tuple [x4_4, x5_4, x6_4]), H)))))
def h248 : Hint := (.s .o (.s (.s .o (.cl (.s .o .o) .o)) (.s .o (.s (.s .o (.cl (.s .o .o) .o)) (.s (.s .o (.cl (.s .o .o) .o)) (.s .o .o))))))
theorem f248_eq (D : Dyn) (n : Nat) : f248 D n = funK (s248 D n) D n 248 Tryz.f248 h248 := by kernel_rfl
theorem f248_ok {D : Dyn} (hD : DG D) (n : Nat) : FI 248 (f248 D n) := fun_ok X_ok hD (SOk.cons (f211_ok hD n).fs (SOk.cons (f210_ok hD n).fs (SOk.nil))) Tryz.func248 (by kernel_rfl) (f248_eq D n)

def s152 (D : Dyn) (n : Nat) : Tb := ⟨X, []⟩
/-- (*jetty/disk.Disk).ask -/
def f152 (D : Dyn) (n : Nat) (vs : List AV) (H : AH) : Option (AV × AH) :=
  outR (hd vs fun x0 vs => nl vs <|
  bV (cmpO .eql (eqP x0 .nilPtr)) fun x4 => 
  cnd x4 (bV (some (.int .i64 (.ofNat 2))) fun x2 => some (.ret x2, H))
  (bV (pNil x0) fun x6 => 
  bV (fAd 6 x6) fun x7 => 
  bV (ld1 x7 H) fun x8 => 
  cnd x8 (bV (some (.int .i64 (.ofNat 51))) fun x2_2 => some (.ret x2_2, H))
  (bV (some (.int .i64 (.ofNat 0))) fun x2_3 => some (.ret x2_3, H))))
def h152 : Hint := (.s .o (.s (.s .o (.cl (.s .o .o) .o)) (.s (.s .o (.cl (.s .o .o) .o)) (.s .o .o))))
theorem f152_eq (D : Dyn) (n : Nat) : f152 D n = funK (s152 D n) D n 152 Tryz.f152 h152 := by kernel_rfl
theorem f152_ok {D : Dyn} (hD : DG D) (n : Nat) : FI 152 (f152 D n) := fun_ok X_ok hD (SOk.nil) Tryz.func152 (by kernel_rfl) (f152_eq D n)

def s208 (D : Dyn) (n : Nat) : Tb := ⟨X, [(152, f152 D n)]⟩
/-- (*jetty/disk.Disk).askAt -/
def f208 (D : Dyn) (n : Nat) (vs : List AV) (H : AH) : Option (AV × AH) :=
  outR (hd vs fun x0 vs => hd vs fun x1 vs => nl vs <|
  bR (f152 D n [x0] H) fun x7 H => 
  bV (bInt .neq x7 (.int .i64 (.ofNat 0))) fun x9 => 
  cnd x9 (bV (some x7) fun x4 => some (.ret x4, H))
  (bV (bInt .lss x1 (.int .i64 (.ofNat 0))) fun x12 => 
  jn (wnt x12 false (bV (pNil x0) fun x16 => 
  bV (fAd 0 x16) fun x17 => 
  bV (ld1 x17 H) fun x18 => 
  bV (bInt .geq x1 x18) fun x19 => 
  some (.norm [x19], H)) (some (.norm [undefA], H))) fun vs H => hd vs fun x19_2 vs => 
  bV (pk3 (some x12) (some (.bool true)) (some x19_2)) fun x20 => 
  cnd x20 (bV (some (.int .i64 (.ofNat 1))) fun x4_2 => some (.ret x4_2, H))
  (bV (some (.int .i64 (.ofNat 0))) fun x4_3 => some (.ret x4_3, H))))
def h208 : Hint := (.s .o (.s (.s .o (.s .o (.cl (.s .o .o) .o))) (.s (.s .o (.cl (.s .o .o) .o)) (.s .o .o))))
theorem f208_eq (D : Dyn) (n : Nat) : f208 D n = funK (s208 D n) D n 208 Tryz.f208 h208 := by kernel_rfl
theorem f208_ok {D : Dyn} (hD : DG D) (n : Nat) : FI 208 (f208 D n) := fun_ok X_ok hD (SOk.cons (f152_ok hD n).fs (SOk.nil)) Tryz.func208 (by kernel_rfl) (f208_eq D n)

def s117 (D : Dyn) (n : Nat) : Tb := ⟨X, [(208, f208 D n)]⟩
/-- (*jetty/disk.Disk).Read -/
def f117 (D : Dyn) (n : Nat) (vs : List AV) (H : AH) : Option (AV × AH) :=
  outR (hd vs fun x0 vs => hd vs fun x1 vs => nl vs <|
  bA (bxV 164 (.agg (rep 512 [(.int .u8 (.ofNat 0))]))) H fun x4 H => 
  bR (f208 D n [x0, x1] H) fun x11 H => 
  bV (bInt .neq x11 (.int .i64 (.ofNat 0))) fun x13 => 
  cnd x13 (bV (bldA 1 (rep 512 [(.int .u8 (.ofNat 0))]) []) fun x14 => 
  bR (stN 512 x4 x14 H) fun x9999 H => 
  bV (ldN 512 x4 H) fun x9004 => bV (some x11) fun x5 => some (.ret (.tuple [x9004, x5]), H))
  (bV (pNil x0) fun x18 => 
  bV (fAd 3 x18) fun x19 => 
  bV (ld1 x19 H) fun x20 => 
  bV (lkM [6] (.int .i64 (.ofNat 0)) true x20 x1 H) fun x22 => 
  bV (pExtract x22 0) fun x23 => 
  bV (pExtract x22 1) fun x24 => 
  cnd x24 (bV (pNil x0) fun x27 => 
  bV (fAd 2 x27) fun x28 => 
  bV (ld1 x28 H) fun x29 => 
  bV (ixSl 513 x29 x23) fun x31 => 
  bV (fAd 1 x31) fun x32 => 
  bV (ldN 512 x32 H) fun x33 => 
  bR (stN 512 x4 x33 H) fun x9999_2 H => 
  bV (ldN 512 x4 H) fun x9004_2 => bV (some (.int .i64 (.ofNat 0))) fun x5_2 => some (.ret (.tuple [x9004_2, x5_2]), H))
  (bV (pNil x0) fun x35 => 
  bV (fAd 1 x35) fun x36 => 
  bV (ld1 x36 H) fun x37 => 
  bV (lkM [6] (.agg (rep 512 [(.int .u8 (.ofNat 0))])) false x37 x1 H) fun x39 => 
  bR (stN 512 x4 x39 H) fun x9999_3 H => 
  bV (ldN 512 x4 H) fun x9004_3 => bV (some (.int .i64 (.ofNat 0))) fun x5_3 => some (.ret (.tuple [x9004_3, x5_3]), H))))
def h117 : Hint := (.s .o (.s (.s .o (.s .o (.cl (.s .o .o) .o))) (.s (.s .o (.s .o (.cl (.s .o .o) .o))) (.s .o .o))))
theorem f117_eq (D : Dyn) (n : Nat) : f117 D n = funK (s117 D n) D n 117 Tryz.f117 h117 := by kernel_rfl
theorem f117_ok {D : Dyn} (hD : DG D) (n : Nat) : FI 117 (f117 D n) := fun_ok X_ok hD (SOk.cons (f208_ok hD n).fs (SOk.nil)) Tryz.func117 (by kernel_rfl) (f117_eq D n)

def s108 (D : Dyn) (n : Nat) : Tb := ⟨X, [(199, f199 D n), (200, f200 D n)]⟩
/-- (*jetty/arc.Cache).Put -/
def f108 (D : Dyn) (n : Nat) (vs : List AV) (H : AH) : Option (AV × AH) :=
  outR (hd vs fun x0 vs => hd vs fun x1 vs => hd vs fun x2 vs => nl vs <|
  bA (bxV 164 x2) H fun x5 H => 
  bR (f199 D n [x0] H) fun x8 H => 
  cnd x8 (bV (some (.int .i64 (.ofNat 2))) fun x6 => some (.ret x6, H))
  (bR (f200 D n [x0, x1, x5] H) fun x11 H => 
  bV (some (.int .i64 (.ofNat 0))) fun x6_2 => some (.ret x6_2, H)))
def h108 : Hint := (.s .o (.s (.s .o (.cl (.s .o .o) .o)) (.s .o (.s .o .o))))
theorem f108_eq (D : Dyn) (n : Nat) : f108 D n = funK (s108 D n) D n 108 Tryz.f108 h108 := by kernel_rfl
theorem f108_ok {D : Dyn} (hD : DG D) (n : Nat) : FI 108 (f108 D n) := fun_ok X_ok hD (SOk.cons (f199_ok hD n).fs (SOk.cons (f200_ok hD n).fs (SOk.nil))) Tryz.func108 (by kernel_rfl) (f108_eq D n)

def s181 (D : Dyn) (n : Nat) : Tb := ⟨X, [(247, f247 D n), (248, f248 D n), (117, f117 D n), (108, f108 D n)]⟩
def f181j0 (D : Dyn) (n : Nat) (vs : List AV) (H : AH) : Rs :=
  hd vs fun x0_2 vs => hd vs fun x3_2 vs => 
  some (.norm [x0_2, x3_2], H)
def f181j1 (D : Dyn) (n : Nat) (vs : List AV) (H : AH) : Rs :=
  hd vs fun x14 vs => hd vs fun x15 vs => 
  bV (some x14) fun x4_4 => bV (some x15) fun x5_4 => bV (some (.int .i64 (.ofNat 0))) fun x6_4 => some (.ret (.tuple [x4_4, x5_4, x6_4]), H)
def f181j2 (D : Dyn) (n : Nat) (vs : List AV) (H : AH) : Rs :=
  hd vs fun x0_3 vs => hd vs fun x3_3 vs => 
  bV (pNil x0_3) fun x46 => 
  bV (fAd 0 x46) fun x47 => 
  bV (ld1 x47 H) fun x48 => 
  bV (fAd 0 x3_3) fun x49 => 
  bV (ld1 x49 H) fun x50 => 
  bA (bxV 164 (.agg (rep 512 [(.int .u8 (.ofNat 0))]))) H fun x12 H => 
  bR (f117 D n [x48, x50] H) fun x51 H => 
  bV (pExtract x51 0) fun x52 => 
  bV (pExtract x51 1) fun x53 => 
  bR (stN 512 x12 x52 H) fun x9999_2 H => 
  bV (bInt .neq x53 (.int .i64 (.ofNat 0))) fun x55 => 
  cnd x55 (bV (some (.int .u8 (.ofNat 0))) fun x4_2 => bV (some (.str 0 0)) fun x5_2 => bV (some x53) fun x6_2 => some (.ret (.tuple [x4_2, x5_2, x6_2]), H))
  (bV (ldN 3 x3_3 H) fun x58 => 
  bV (ldN 512 x12 H) fun x59 => 
  bR (f248 D n [x58, x59] H) fun x60 H => 
  bV (pExtract x60 0) fun x61 => 
  bV (pExtract x60 1) fun x62 => 
  bV (pExtract x60 2) fun x63 => 
  bV (bInt .neq x63 (.int .i64 (.ofNat 0))) fun x65 => 
  cnd x65 (bV (some (.int .u8 (.ofNat 0))) fun x4_3 => bV (some (.str 0 0)) fun x5_3 => bV (some x63) fun x6_3 => some (.ret (.tuple [x4_3, x5_3, x6_3]), H))
  (bV (pNil x0_3) fun x68 => 
  bV (fAd 1 x68) fun x69 => 
  bV (ld1 x69 H) fun x70 => 
  bV (cmpO .neq (eqP x70 .nilPtr)) fun x71 => 
  jn (cnd x71 (bV (pNil x0_3) fun x73 => 
  bV (fAd 1 x73) fun x74 => 
  bV (ld1 x74 H) fun x75 => 
  bV (fAd 0 x3_3) fun x76 => 
  bV (ld1 x76 H) fun x77 => 
  bV (ldN 512 x12 H) fun x78 => 
  bR (f108 D n [x75, x77, x78] H) fun x79 H => 
  some (.norm [x61, x62], H))
  (some (.norm [x61, x62], H))) (f181j1 D n)))
/-- (*jetty/tree.Tree).body -/
def f181 (D : Dyn) (n : Nat) (vs : List AV) (H : AH) : Option (AV × AH) :=
  outR (hd vs fun x0 vs => hd vs fun x1 vs => nl vs <|
  bA (bxV 52 x1) H fun x3 H => 
  bV (pNil x0) fun x17 => 
  bV (fAd 1 x17) fun x18 => 
  bV (ld1 x18 H) fun x19 => 
  bV (cmpO .neq (eqP x19 .nilPtr)) fun x20 => 
  jn (cnd x20 (bV (pNil x0) fun x23 => 
  bV (fAd 1 x23) fun x24 => 
  bV (ld1 x24 H) fun x25 => 
  bV (fAd 0 x3) fun x26 => 
  bV (ld1 x26 H) fun x27 => 
  bA (bxV 164 (.agg (rep 512 [(.int .u8 (.ofNat 0))]))) H fun x7 H => 
  bR (f247 D n [x25, x27] H) fun x28 H => 
  bV (pExtract x28 0) fun x29 => 
  bV (pExtract x28 1) fun x30 => 
  bR (stN 512 x7 x29 H) fun x9999 H => 
  bV (bInt .eql x30 (.int .i64 (.ofNat 0))) fun x32 => 
  jn (cnd x32 (bV (ldN 3 x3 H) fun x34 => 
  bV (ldN 512 x7 H) fun x35 => 
  bR (f248 D n [x34, x35] H) fun x36 H => 
  bV (pExtract x36 0) fun x37 => 
  bV (pExtract x36 1) fun x38 => 
  bV (pExtract x36 2) fun x39 => 
  bV (bInt .eql x39 (.int .i64 (.ofNat 0))) fun x41 => 
  cnd x41 (bV (some x37) fun x4 => bV (some x38) fun x5 => bV (some (.int .i64 (.ofNat 0))) fun x6 => some (.ret (.tuple [x4, x5, x6]), H))
  (some (.norm [x0, x3], H)))
  (some (.norm [x0, x3], H))) (f181j0 D n))
  (some (.norm [x0, x3], H))) (f181j2 D n))
def h181 : Hint := (.s .o (.s (.s .o (.c [0, 3] (.s .o (.s .o (.c [0, 3] (.s .o (.s .o (.cl (.s .o .o) .o))) .o))) .o)) (.s .o (.s (.s .o (.cl (.s .o .o) .o)) (.s .o (.s (.s .o (.cl (.s .o .o) .o)) (.s (.s .o (.c [14, 15] .o .o)) (.s .o .o))))))))
theorem f181_eq (D : Dyn) (n : Nat) : f181 D n = funK (s181 D n) D n 181 Tryz.f181 h181 := by kernel_rfl
theorem f181_ok {D : Dyn} (hD : DG D) (n : Nat) : FI 181 (f181 D n) := fun_ok X_ok hD (SOk.cons (f247_ok hD n).fs (SOk.cons (f248_ok hD n).fs (SOk.cons (f117_ok hD n).fs (SOk.cons (f108_ok hD n).fs (SOk.nil))))) Tryz.func181 (by kernel_rfl) (f181_eq D n)

def s249 (D : Dyn) (n : Nat) : Tb := ⟨X, []⟩
/-- (*jetty/node.reader).take -/
def f249 (D : Dyn) (n : Nat) (vs : List AV) (H : AH) : Option (AV × AH) :=
  outR (hd vs fun x0 vs => hd vs fun x1 vs => nl vs <|
  bV (pNil x0) fun x7 => 
  bV (fAd 1 x7) fun x8 => 
  bV (ld1 x8 H) fun x9 => 
  jn (wnt x9 false (bV (pNil x0) fun x12 => 
  bV (fAd 0 x12) fun x13 => 
  bV (ld1 x13 H) fun x14 => 
  bV (lnStr x14) fun x15 => 
  bV (bInt .lss x15 x1) fun x17 => 
  some (.norm [x17], H)) (some (.norm [undefA], H))) fun vs H => hd vs fun x17_2 vs => 
  bV (pk3 (some x9) (some (.bool true)) (some x17_2)) fun x18 => 
  cnd x18 (bV (pNil x0) fun x20 => 
  bV (fAd 1 x20) fun x21 => 
  bR (stN 1 x21 (.bool true) H) fun x9999 H => 
  bV (some (.str 0 0)) fun x4 => some (.ret x4, H))
  (bV (pNil x0) fun x23 => 
  bV (fAd 0 x23) fun x24 => 
  bV (ld1 x24 H) fun x25 => 
  bV (slStr x25 none (some x1)) fun x27 => 
  bV (pNil x0) fun x30 => 
  bV (fAd 0 x30) fun x31 => 
  bV (ld1 x31 H) fun x32 => 
  bV (slStr x32 (some x1) none) fun x34 => 
  bV (pNil x0) fun x35 => 
  bV (fAd 0 x35) fun x36 => 
  bR (stN 1 x36 x34 H) fun x9999_2 H => 
  bV (some x27) fun x4_2 => some (.ret x4_2, H)))
def h249 : Hint := (.s .o (.s (.s .o (.cl (.s .o (.s .o .o)) .o)) (.s .o (.s .o (.s .o .o)))))
theorem f249_eq (D : Dyn) (n : Nat) : f249 D n = funK (s249 D n) D n 249 Tryz.f249 h249 := by kernel_rfl
theorem f249_ok {D : Dyn} (hD : DG D) (n : Nat) : FI 249 (f249 D n) := fun_ok X_ok hD (SOk.nil) Tryz.func249 (by kernel_rfl) (f249_eq D n)

def s135 (D : Dyn) (n : Nat) : Tb := ⟨X, [(219, f219 D n), (150, f150 D n)]⟩
/-- jetty/block.Decode -/
def f135 (D : Dyn) (n : Nat) (vs : List AV) (H : AH) : Option (AV × AH) :=
  outR (hd vs fun x0 vs => nl vs <|
  bA (bxV 52 (.agg [(.int .i64 (.ofNat 0)), (.int .i64 (.ofNat 0)), (.int .u64 (.ofNat 0))])) H fun x2 H => 
  bV (lnStr x0) fun x7 => 
  bV (bInt .neq x7 (.int .i64 (.ofNat 16))) fun x8 => 
  cnd x8 (bV (bldS [(0, 1), (1, 1), (2, 1)] [(.int .i64 (.ofNat 0)), (.int .i64 (.ofNat 0)), (.int .u64 (.ofNat 0))] []) fun x9 => 
  bR (stN 3 x2 x9 H) fun x9999 H => 
  bV (ldN 3 x2 H) fun x9002 => bV (some (.int .i64 (.ofNat 4))) fun x3 => some (.ret (.tuple [x9002, x3]), H))
  (bA (cvSB 5 x0) H fun x11 H => 
  bV (s2a 16 x11) fun x12 => 
  bV (ldN 16 x12 H) fun x13 => 
  bA (bxV 217 (.agg (rep 16 [(.int .u8 (.ofNat 0))]))) H fun x4 H => 
  bR (stN 16 x4 x13 H) fun x9999_2 H => 
  bV (slArr 16 1 x4 none (some (.int .i64 (.ofNat 4))) none) fun x14 => 
  bV (slArr 16 1 x4 (some (.int .i64 (.ofNat 4))) (some (.int .i64 (.ofNat 8))) none) fun x17 => 
  bV (slArr 16 1 x4 (some (.int .i64 (.ofNat 8))) none none) fun x20 => 
  bA (bxV 52 (.agg [(.int .i64 (.ofNat 0)), (.int .i64 (.ofNat 0)), (.int .u64 (.ofNat 0))])) H fun x5 H => 
  bR (f219 D n [x14] H) fun x15 H => 
  bV (cvI .i64 x15) fun x16 => 
  bR (f219 D n [x17] H) fun x18 H => 
  bV (cvI .i64 x18) fun x19 => 
  bR (f219 D n [x20] H) fun x21 H => 
  bV (bldS [(0, 1), (1, 1), (2, 1)] [(.int .i64 (.ofNat 0)), (.int .i64 (.ofNat 0)), (.int .u64 (.ofNat 0))] [(0, x16), (1, x19), (2, x21)]) fun x22 => 
  bR (stN 3 x5 x22 H) fun x9999_3 H => 
  bV (ldN 3 x5 H) fun x23 => 
  bR (f150 D n [x23] H) fun x24 H => 
  bV (aun .not x24) fun x25 => 
  cnd x25 (bV (bldS [(0, 1), (1, 1), (2, 1)] [(.int .i64 (.ofNat 0)), (.int .i64 (.ofNat 0)), (.int .u64 (.ofNat 0))] []) fun x26 => 
  bR (stN 3 x2 x26 H) fun x9999_4 H => 
  bV (ldN 3 x2 H) fun x9002_2 => bV (some (.int .i64 (.ofNat 4))) fun x3_2 => some (.ret (.tuple [x9002_2, x3_2]), H))
  (bV (ldN 3 x5 H) fun x27 => 
  bR (stN 3 x2 x27 H) fun x9999_5 H => 
  bV (ldN 3 x2 H) fun x9002_3 => bV (some (.int .i64 (.ofNat 0))) fun x3_3 => some (.ret (.tuple [x9002_3, x3_3]), H))))
def h135 : Hint := (.s .o (.s (.s .o (.cl (.s .o .o) .o)) (.s .o (.s .o (.s (.s .o (.cl (.s .o .o) .o)) (.s .o .o))))))
theorem f135_eq (D : Dyn) (n : Nat) : f135 D n = funK (s135 D n) D n 135 Tryz.f135 h135 := by kernel_rfl
theorem f135_ok {D : Dyn} (hD : DG D) (n : Nat) : FI 135 (f135 D n) := fun_ok X_ok hD (SOk.cons (f219_ok hD n).fs (SOk.cons (f150_ok hD n).fs (SOk.nil))) Tryz.func135 (by kernel_rfl) (f135_eq D n)

def s251 (D : Dyn) (n : Nat) : Tb := ⟨X, [(249, f249 D n), (135, f135 D n)]⟩
/-- (*jetty/node.reader).kid -/
def f251 (D : Dyn) (n : Nat) (vs : List AV) (H : AH) : Option (AV × AH) :=
  outR (hd vs fun x0 vs => nl vs <|
  bR (f249 D n [x0, (.int .i64 (.ofNat 16))] H) fun x6 H => 
  bV (pNil x0) fun x8 => 
  bV (fAd 1 x8) fun x9 => 
  bV (ld1 x9 H) fun x10 => 
  cnd x10 (some (.ret (.tuple []), H))
  (bR (f135 D n [x6] H) fun x13 H => 
  bV (pExtract x13 0) fun x14 => 
  bV (pExtract x13 1) fun x15 => 
  bA (bxV 52 (.agg [(.int .i64 (.ofNat 0)), (.int .i64 (.ofNat 0)), (.int .u64 (.ofNat 0))])) H fun x3 H => 
  bR (stN 3 x3 x14 H) fun x9999 H => 
  bV (bInt .neq x15 (.int .i64 (.ofNat 0))) fun x17 => 
  cnd x17 (bV (pNil x0) fun x19 => 
  bV (fAd 1 x19) fun x20 => 
  bR (stN 1 x20 (.bool true) H) fun x9999_2 H => 
  some (.ret (.tuple []), H))
  (bV (pNil x0) fun x23 => 
  bV (fAd 2 x23) fun x24 => 
  bV (fAd 3 x24) fun x25 => 
  bV (ld1 x25 H) fun x26 => 
  bV (ldN 3 x3 H) fun x27 => 
  bA (bldL 52 3 1 [(.int .i64 (.ofNat 0)), (.int .i64 (.ofNat 0)), (.int .u64 (.ofNat 0))] [(0, x27)]) H fun x28 H => 
  bR (apP 52 3 24 x26 x28 H) fun x29 H => 
  bV (pNil x0) fun x30 => 
  bV (fAd 2 x30) fun x31 => 
  bV (fAd 3 x31) fun x32 => 
  bR (stN 1 x32 x29 H) fun x9999_3 H => 
  some (.ret (.tuple []), H))))
def h251 : Hint := (.s .o (.s (.s .o (.cl .o .o)) (.s .o (.s (.s .o (.cl (.s .o .o) .o)) .o))))
theorem f251_eq (D : Dyn) (n : Nat) : f251 D n = funK (s251 D n) D n 251 Tryz.f251 h251 := by kernel_rfl
theorem f251_ok {D : Dyn} (hD : DG D) (n : Nat) : FI 251 (f251 D n) := fun_ok X_ok hD (SOk.cons (f249_ok hD n).fs (SOk.cons (f135_ok hD n).fs (SOk.nil))) Tryz.func251 (by kernel_rfl) (f251_eq D n)

def s253 (D : Dyn) (n : Nat) : Tb := ⟨X, [(190, f190 D n), (254, f254 D n)]⟩
/-- jetty/node.May -/
def f253 (D : Dyn) (n : Nat) (vs : List AV) (H : AH) : Option (AV × AH) :=
  outR (hd vs fun x0 vs => nl vs <|
  bA (bxV 57 x0) H fun x1 H => 
  bV (ldN 4 x1 H) fun x3 => 
  bR (f190 D n [x3] H) fun x4 H => 
  jn (wnt x4 true (bV (ldN 4 x1 H) fun x6 => 
  bR (f254 D n [x6] H) fun x7 H => 
  bV (bInt .leq x7 (.int .i64 (.ofNat 500))) fun x8 => 
  some (.norm [x8], H)) (some (.norm [undefA], H))) fun vs H => hd vs fun x8_2 vs => 
  bV (pk3 (some x4) (some x8_2) (some (.bool false))) fun x9 => 
  bV (some x9) fun x2 => some (.ret x2, H))
def h253 : Hint := (.s .o (.s .o .o))
theorem f253_eq (D : Dyn) (n : Nat) : f253 D n = funK (s253 D n) D n 253 Tryz.f253 h253 := by kernel_rfl
theorem f253_ok {D : Dyn} (hD : DG D) (n : Nat) : FI 253 (f253 D n) := fun_ok X_ok hD (SOk.cons (f190_ok hD n).fs (SOk.cons (f254_ok hD n).fs (SOk.nil))) Tryz.func253 (by kernel_rfl) (f253_eq D n)

def s283 (D : Dyn) (n : Nat) : Tb := ⟨X, [(249, f249 D n)]⟩
/-- (*jetty/node.reader).text -/
def f283 (D : Dyn) (n : Nat) (vs : List AV) (H : AH) : Option (AV × AH) :=
  outR (hd vs fun x0 vs => nl vs <|
  bR (f249 D n [x0, (.int .i64 (.ofNat 1))] H) fun x5 H => 
  bV (pNil x0) fun x7 => 
  bV (fAd 1 x7) fun x8 => 
  bV (ld1 x8 H) fun x9 => 
  cnd x9 (bV (some (.str 0 0)) fun x2 => some (.ret x2, H))
  (bV (ixStr x5 (.int .i64 (.ofNat 0))) fun x12 => 
  bV (cvI .i64 x12) fun x13 => 
  bR (f249 D n [x0, x13] H) fun x14 H => 
  bV (some x14) fun x2_2 => some (.ret x2_2, H)))
def h283 : Hint := (.s .o (.s .o (.s (.s .o (.cl (.s .o .o) .o)) (.s .o .o))))
theorem f283_eq (D : Dyn) (n : Nat) : f283 D n = funK (s283 D n) D n 283 Tryz.f283 h283 := by kernel_rfl
theorem f283_ok {D : Dyn} (hD : DG D) (n : Nat) : FI 283 (f283 D n) := fun_ok X_ok hD (SOk.cons (f249_ok hD n).fs (SOk.nil)) Tryz.func283 (by kernel_rfl) (f283_eq D n)

def s250 (D : Dyn) (n : Nat) : Tb := ⟨X, [(283, f283 D n)]⟩
/-- (*jetty/node.reader).key -/
def f250 (D : Dyn) (n : Nat) (vs : List AV) (H : AH) : Option (AV × AH) :=
  outR (hd vs fun x0 vs => nl vs <|
  bV (pNil x0) fun x4 => 
  bV (fAd 2 x4) fun x5 => 
  bV (fAd 1 x5) fun x6 => 
  bV (ld1 x6 H) fun x7 => 
  bR (f283 D n [x0] H) fun x9 H => chk (ld1 x6 H) x7 <| 
  bA (bldL 9 1 1 [(.str 0 0)] [(0, x9)]) H fun x10 H => 
  bR (apP 9 1 16 x7 x10 H) fun x11 H => 
  bV (pNil x0) fun x12 => 
  bV (fAd 2 x12) fun x13 => 
  bV (fAd 1 x13) fun x14 => 
  bR (stN 1 x14 x11 H) fun x9999 H => 
  some (.ret (.tuple []), H))
def h250 : Hint := .o
theorem f250_eq (D : Dyn) (n : Nat) : f250 D n = funK (s250 D n) D n 250 Tryz.f250 h250 := by kernel_rfl
theorem f250_ok {D : Dyn} (hD : DG D) (n : Nat) : FI 250 (f250 D n) := fun_ok X_ok hD (SOk.cons (f283_ok hD n).fs (SOk.nil)) Tryz.func250 (by kernel_rfl) (f250_eq D n)

def s252 (D : Dyn) (n : Nat) : Tb := ⟨X, [(283, f283 D n)]⟩
/-- (*jetty/node.reader).value -/
def f252 (D : Dyn) (n : Nat) (vs : List AV) (H : AH) : Option (AV × AH) :=
  outR (hd vs fun x0 vs => nl vs <|
  bV (pNil x0) fun x4 => 
  bV (fAd 2 x4) fun x5 => 
  bV (fAd 2 x5) fun x6 => 
  bV (ld1 x6 H) fun x7 => 
  bR (f283 D n [x0] H) fun x9 H => chk (ld1 x6 H) x7 <| 
  bA (bldL 9 1 1 [(.str 0 0)] [(0, x9)]) H fun x10 H => 
  bR (apP 9 1 16 x7 x10 H) fun x11 H => 
  bV (pNil x0) fun x12 => 
  bV (fAd 2 x12) fun x13 => 
  bV (fAd 2 x13) fun x14 => 
  bR (stN 1 x14 x11 H) fun x9999 H => 
  some (.ret (.tuple []), H))
def h252 : Hint := .o
theorem f252_eq (D : Dyn) (n : Nat) : f252 D n = funK (s252 D n) D n 252 Tryz.f252 h252 := by kernel_rfl
theorem f252_ok {D : Dyn} (hD : DG D) (n : Nat) : FI 252 (f252 D n) := fun_ok X_ok hD (SOk.cons (f283_ok hD n).fs (SOk.nil)) Tryz.func252 (by kernel_rfl) (f252_eq D n)

def s182 (D : Dyn) (n : Nat) : Tb := ⟨X, [(249, f249 D n), (251, f251 D n), (253, f253 D n)]⟩
def f182l0 (D : Dyn) (n : Nat) (vs : List AV) (H : AH) : Rs :=
  hd vs fun x4_4 vs => hd vs fun x6_3 vs => hd vs fun x8_3 vs => hd vs fun x47_3 vs => hd vs fun x48_2 vs => hd vs fun x50 vs => hd vs fun x51_2 vs => hd vs fun x52 vs => 
  bV (bInt .lss x52 x51_2) fun x53 => 
  cnd x53 (bV (ixSl 1 x50 x52) fun x54 => 
  bV (ld1 x54 H) fun x55 => 
  bR (callV (s182 D n).S D x55 [] H) fun x57 H => 
  bV (bInt .add x52 (.int .i64 (.ofNat 1))) fun x58 => 
  some (.norm [x4_4, x6_3, x8_3, x47_3, x48_2, x50, x51_2, x58], H))
  (some (.exit 2 [x4_4, x6_3, x8_3, x47_3, x48_2], H))
def f182b1 (D : Dyn) (n : Nat) (vs : List AV) (H : AH) : Rs :=
  hd vs fun x4_5 vs => hd vs fun x6_4 vs => hd vs fun x8_4 vs => hd vs fun x47_4 vs => hd vs fun x48_3 vs => 
  bV (pNil x6_4) fun x60 => 
  bV (fAd 1 x60) fun x61 => 
  bV (ld1 x61 H) fun x62 => 
  cnd x62 (some (.exit 0 [x4_5, x6_4], H))
  (bV (bInt .add x48_3 (.int .i64 (.ofNat 1))) fun x63 => 
  some (.norm [x4_5, x6_4, x8_4, x47_4, x63], H))
def f182l2 (D : Dyn) (n : Nat) (vs : List AV) (H : AH) : Rs :=
  hd vs fun x4_3 vs => hd vs fun x6_2 vs => hd vs fun x8_2 vs => hd vs fun x47_2 vs => hd vs fun x48 vs => 
  bV (bInt .lss x48 x47_2) fun x49 => 
  cnd x49 (bV (lnSl x8_2) fun x51 => 
  jb 2 (loopK n (f182l0 D n) [x4_3, x6_2, x8_2, x47_2, x48, x8_2, x51, (.int .i64 (.ofNat 0))] H) (f182b1 D n))
  (some (.exit 0 [x4_3, x6_2], H))
def f182b3 (D : Dyn) (n : Nat) (vs : List AV) (H : AH) : Rs :=
  hd vs fun x4_6 vs => hd vs fun x6_5 vs => 
  bV (pNil x6_5) fun x65 => 
  bV (fAd 1 x65) fun x66 => 
  bV (ld1 x66 H) fun x67 => 
  jn (wnt x67 false (bV (pNil x6_5) fun x70 => 
  bV (fAd 0 x70) fun x71 => 
  bV (ld1 x71 H) fun x72 => 
  bV (bStr .neq x72 (.str 0 0)) fun x73 => 
  some (.norm [x73], H)) (some (.norm [undefA], H))) fun vs H => hd vs fun x73_2 vs => 
  bV (pk3 (some x67) (some (.bool true)) (some x73_2)) fun x74 => 
  jn (wnt x74 false (bV (pNil x6_5) fun x77 => 
  bV (fAd 2 x77) fun x78 => 
  bV (ldN 4 x78 H) fun x79 => 
  bR (f253 D n [x79] H) fun x80 H => 
  bV (aun .not x80) fun x81 => 
  some (.norm [x81], H)) (some (.norm [undefA], H))) fun vs H => hd vs fun x81_2 vs => 
  bV (pk3 (some x74) (some (.bool true)) (some x81_2)) fun x82 => 
  cnd x82 (bV (bldS [(0, 1), (1, 1), (2, 1), (3, 1)] [(.bool false), .nilSlice, .nilSlice, .nilSlice] []) fun x83 => 
  bR (stN 4 x4_6 x83 H) fun x9999_3 H => 
  bV (ldN 4 x4_6 H) fun x9004_3 => bV (some (.int .i64 (.ofNat 4))) fun x5_3 => some (.ret (.tuple [x9004_3, x5_3]), H))
  (bV (pNil x6_5) fun x85 => 
  bV (fAd 2 x85) fun x86 => 
  bV (ldN 4 x86 H) fun x87 => 
  bR (stN 4 x4_6 x87 H) fun x9999_4 H => 
  bV (ldN 4 x4_6 H) fun x9004_4 => bV (some (.int .i64 (.ofNat 0))) fun x5_4 => some (.ret (.tuple [x9004_4, x5_4]), H))
def f182j4 (D : Dyn) (n : Nat) (vs : List AV) (H : AH) : Rs :=
  hd vs fun x4_2 vs => hd vs fun x6 vs => hd vs fun x7 vs => hd vs fun x8 vs => 
  bV (ixStr x7 (.int .i64 (.ofNat 0))) fun x41 => 
  bV (cvI .i64 x41) fun x42 => 
  bV (bInt .shl x42 (.int .u64 (.ofNat 8))) fun x43 => 
  bV (ixStr x7 (.int .i64 (.ofNat 1))) fun x45 => 
  bV (cvI .i64 x45) fun x46 => 
  bV (bInt .or x43 x46) fun x47 => 
  jb 0 (loopK n (f182l2 D n) [x4_2, x6, x8, x47, (.int .i64 (.ofNat 0))] H) (f182b3 D n)
/-- jetty/node.Decode -/
def f182 (D : Dyn) (n : Nat) (vs : List AV) (H : AH) : Option (AV × AH) :=
  outR (hd vs fun x0 vs => hd vs fun x1 vs => nl vs <|
  bA (bxV 57 (.agg [(.bool false), .nilSlice, .nilSlice, .nilSlice])) H fun x4 H => 
  bV (lnStr x1) fun x12 => 
  bV (bInt .gtr x12 (.int .i64 (.ofNat 500))) fun x13 => 
  cnd x13 (bV (bldS [(0, 1), (1, 1), (2, 1), (3, 1)] [(.bool false), .nilSlice, .nilSlice, .nilSlice] []) fun x14 => 
  bR (stN 4 x4 x14 H) fun x9999 H => 
  bV (ldN 4 x4 H) fun x9004 => bV (some (.int .i64 (.ofNat 4))) fun x5 => some (.ret (.tuple [x9004, x5]), H))
  (bV (bldS [(0, 1), (1, 1), (2, 1), (3, 1)] [(.bool false), .nilSlice, .nilSlice, .nilSlice] [(0, x0)]) fun x17 => 
  bV (bldS [(0, 1), (1, 1), (2, 4)] [(.str 0 0), (.bool false), (.bool false), .nilSlice, .nilSlice, .nilSlice] [(0, x1), (2, x17)]) fun x18 => 
  bA (bxV 336 x18) H fun x19 H => 
  bR (f249 D n [x19, (.int .i64 (.ofNat 2))] H) fun x21 H => 
  bV (pNil x19) fun x23 => 
  bV (fAd 1 x23) fun x24 => 
  bV (ld1 x24 H) fun x25 => 
  cnd x25 (bV (bldS [(0, 1), (1, 1), (2, 1), (3, 1)] [(.bool false), .nilSlice, .nilSlice, .nilSlice] []) fun x26 => 
  bR (stN 4 x4 x26 H) fun x9999_2 H => 
  bV (ldN 4 x4 H) fun x9004_2 => bV (some (.int .i64 (.ofNat 4))) fun x5_2 => some (.ret (.tuple [x9004_2, x5_2]), H))
  (bA (bldL 1 1 2 [.nilFunc] [(0, (.func 250 [x19] [])), (1, (.func 251 [x19] []))]) H fun x31 H => 
  jn (cnd x0 (bA (bldL 1 1 2 [.nilFunc] [(0, (.func 250 [x19] [])), (1, (.func 252 [x19] []))]) H fun x37 H => 
  some (.norm [x4, x19, x21, x37], H))
  (bR (f251 D n [x19] H) fun x39 H => 
  some (.norm [x4, x19, x21, x31], H))) (f182j4 D n))))
def h182 : Hint := (.s .o (.s (.s .o (.cl (.s .o .o) .o)) (.s .o (.s .o (.s (.s .o (.cl (.s .o .o) .o)) (.s .o (.s (.s .o (.c [4, 6, 7, 8] .o .o)) (.s (.s .o (.b [4, 6] (.l [4, 6, 8, 47, 48] (.s .o (.s (.cr .o .o) (.s (.b0 (.s (.s .o (.b [4, 6, 8, 47, 48] (.l [4, 6, 8, 47, 48, 50, 51, 52] (.s .o (.s (.cr .o .o) (.s (.b0 (.s .o .o)) .o)))))) (.s .o (.cl .o .o)))) .o)))))) (.s (.s .o (.cl (.s .o .o) .o)) (.s .o .o))))))))))
theorem f182_eq (D : Dyn) (n : Nat) : f182 D n = funK (s182 D n) D n 182 Tryz.f182 h182 := by kernel_rfl
theorem f182_ok {D : Dyn} (hD : DG D) (n : Nat) : FI 182 (f182 D n) := fun_ok X_ok hD (SOk.cons (f249_ok hD n).fs (SOk.cons (f251_ok hD n).fs (SOk.cons (f253_ok hD n).fs (SOk.nil)))) Tryz.func182 (by kernel_rfl) (f182_eq D n)

def s90 (D : Dyn) (n : Nat) : Tb := ⟨X, [(181, f181 D n), (182, f182 D n)]⟩
/-- (*jetty/tree.Tree).read -/
def f90 (D : Dyn) (n : Nat) (vs : List AV) (H : AH) : Option (AV × AH) :=
  outR (hd vs fun x0 vs => hd vs fun x1 vs => nl vs <|
  bA (bxV 52 x1) H fun x3 H => 
  bA (bxV 57 (.agg [(.bool false), .nilSlice, .nilSlice, .nilSlice])) H fun x4 H => 
  bV (fAd 0 x3) fun x11 => 
  bV (ld1 x11 H) fun x12 => 
  bV (bInt .eql x12 (.int .i64 (.ofNat 1))) fun x13 => 
  cnd x13 (bV (pNil x0) fun x16 => 
  bV (fAd 5 x16) fun x17 => 
  bV (ld1 x17 H) fun x18 => 
  bV (fAd 2 x3) fun x19 => 
  bV (ld1 x19 H) fun x20 => 
  bV (lkM [10] (.agg [(.bool false), .nilSlice, .nilSlice, .nilSlice]) true x18 x20 H) fun x21 => 
  bV (pExtract x21 0) fun x22 => 
  bV (pExtract x21 1) fun x23 => 
  bA (bxV 57 (.agg [(.bool false), .nilSlice, .nilSlice, .nilSlice])) H fun x6 H => 
  bR (stN 4 x6 x22 H) fun x9999 H => 
  bV (aun .not x23) fun x25 => 
  jn (wnt x25 false (bV (fAd 1 x3) fun x27 => 
  bV (ld1 x27 H) fun x28 => 
  bV (bInt .neq x28 (.int .i64 (.ofNat 0))) fun x29 => 
  some (.norm [x29], H)) (some (.norm [undefA], H))) fun vs H => hd vs fun x29_2 vs => 
  bV (pk3 (some x25) (some (.bool true)) (some x29_2)) fun x30 => 
  cnd x30 (bV (bldS [(0, 1), (1, 1), (2, 1), (3, 1)] [(.bool false), .nilSlice, .nilSlice, .nilSlice] []) fun x31 => 
  bR (stN 4 x4 x31 H) fun x9999_2 H => 
  bV (ldN 4 x4 H) fun x9004 => bV (some (.int .i64 (.ofNat 1))) fun x5 => some (.ret (.tuple [x9004, x5]), H))
  (bV (ldN 4 x6 H) fun x32 => 
  bR (stN 4 x4 x32 H) fun x9999_3 H => 
  bV (ldN 4 x4 H) fun x9004_2 => bV (some (.int .i64 (.ofNat 0))) fun x5_2 => some (.ret (.tuple [x9004_2, x5_2]), H)))
  (bV (ldN 3 x3 H) fun x35 => 
  bR (f181 D n [x0, x35] H) fun x36 H => 
  bV (pExtract x36 0) fun x37 => 
  bV (pExtract x36 1) fun x38 => 
  bV (pExtract x36 2) fun x39 => 
  bV (bInt .neq x39 (.int .i64 (.ofNat 0))) fun x41 => 
  cnd x41 (bV (bldS [(0, 1), (1, 1), (2, 1), (3, 1)] [(.bool false), .nilSlice, .nilSlice, .nilSlice] []) fun x42 => 
  bR (stN 4 x4 x42 H) fun x9999_4 H => 
  bV (ldN 4 x4 H) fun x9004_3 => bV (some x39) fun x5_3 => some (.ret (.tuple [x9004_3, x5_3]), H))
  (bV (bInt .neq x37 (.int .u8 (.ofNat 1))) fun x45 => 
  jn (wnt x45 true (bV (bInt .neq x37 (.int .u8 (.ofNat 2))) fun x48 => 
  some (.norm [x48], H)) (some (.norm [undefA], H))) fun vs H => hd vs fun x48_2 vs => 
  bV (pk3 (some x45) (some x48_2) (some (.bool false))) fun x49 => 
  cnd x49 (bV (bldS [(0, 1), (1, 1), (2, 1), (3, 1)] [(.bool false), .nilSlice, .nilSlice, .nilSlice] []) fun x50 => 
  bR (stN 4 x4 x50 H) fun x9999_5 H => 
  bV (ldN 4 x4 H) fun x9004_4 => bV (some (.int .i64 (.ofNat 4))) fun x5_4 => some (.ret (.tuple [x9004_4, x5_4]), H))
  (bV (bInt .eql x37 (.int .u8 (.ofNat 1))) fun x52 => 
  bR (f182 D n [x52, x38] H) fun x54 H => 
  bV (pExtract x54 0) fun x55 => 
  bV (pExtract x54 1) fun x56 => 
  bR (stN 4 x4 x55 H) fun x9999_6 H => 
  bV (ldN 4 x4 H) fun x9004_5 => bV (some x56) fun x5_5 => some (.ret (.tuple [x9004_5, x5_5]), H)))))
def h90 : Hint := (.s .o (.s (.s .o (.cl (.s .o (.s (.s .o (.cl (.s .o .o) .o)) (.s .o .o))) .o)) (.s .o (.s (.s .o (.cl (.s .o .o) .o)) (.s (.s .o (.cl (.s .o .o) .o)) (.s .o .o))))))
theorem f90_eq (D : Dyn) (n : Nat) : f90 D n = funK (s90 D n) D n 90 Tryz.f90 h90 := by kernel_rfl
theorem f90_ok {D : Dyn} (hD : DG D) (n : Nat) : FI 90 (f90 D n) := fun_ok X_ok hD (SOk.cons (f181_ok hD n).fs (SOk.cons (f182_ok hD n).fs (SOk.nil))) Tryz.func90 (by kernel_rfl) (f90_eq D n)

def s91 (D : Dyn) (n : Nat) : Tb := ⟨X, []⟩
def f91j0 (D : Dyn) (n : Nat) (vs : List AV) (H : AH) : Rs :=
  hd vs fun x1_3 vs => hd vs fun x2_3 vs => hd vs fun x5_2 vs => hd vs fun x9_3 vs => hd vs fun x10_3 vs => hd vs fun x11_2 vs => 
  bV (bInt .add x11_2 (.int .i64 (.ofNat 1))) fun x30 => 
  some (.norm [x1_3, x2_3, x5_2, x9_3, x10_3, x30], H)
def f91l1 (D : Dyn) (n : Nat) (vs : List AV) (H : AH) : Rs :=
  hd vs fun x1_2 vs => hd vs fun x2_2 vs => hd vs fun x5 vs => hd vs fun x9_2 vs => hd vs fun x10_2 vs => hd vs fun x11 vs => 
  bV (bInt .lss x11 x10_2) fun x12 => 
  cnd x12 (bV (ixSl 1 x9_2 x11) fun x13 => 
  bV (ld1 x13 H) fun x14 => 
  bV (bStr .lss x14 x1_2) fun x17 => 
  jn (wnt x17 false (bV (fAd 0 x2_2) fun x19 => 
  bV (ld1 x19 H) fun x20 => 
  bV (aun .not x20) fun x21 => 
  some (.norm [x21], H)) (some (.norm [undefA], H))) fun vs H => hd vs fun x22 vs => 
  jn (wnt x22 true (bV (bStr .eql x14 x1_2) fun x25 => 
  some (.norm [x25], H)) (some (.norm [undefA], H))) fun vs H => hd vs fun x25_2 vs => 
  jn (wnt x17 false (bV (pk3 (some x22) (some x25_2) (some (.bool false))) fun x26 => 
  some (.norm [x26], H)) (some (.norm [undefA], H))) fun vs H => hd vs fun x26_2 vs => 
  bV (pk3 (some x17) (some (.bool true)) (some x26_2)) fun x27 => 
  jn (cnd x27 (bV (bInt .add x5 (.int .i64 (.ofNat 1))) fun x29 => 
  some (.norm [x1_2, x2_2, x29, x9_2, x10_2, x11], H))
  (some (.norm [x1_2, x2_2, x5, x9_2, x10_2, x11], H))) (f91j0 D n))
  (some (.exit 0 [x5], H))
def f91b2 (D : Dyn) (n : Nat) (vs : List AV) (H : AH) : Rs :=
  hd vs fun x5_3 vs => 
  bV (some x5_3) fun x4 => some (.ret x4, H)
/-- jetty/node.Where -/
def f91 (D : Dyn) (n : Nat) (vs : List AV) (H : AH) : Option (AV × AH) :=
  outR (hd vs fun x0 vs => hd vs fun x1 vs => nl vs <|
  bA (bxV 57 x0) H fun x2 H => 
  bV (fAd 1 x2) fun x8 => 
  bV (ld1 x8 H) fun x9 => 
  bV (lnSl x9) fun x10 => 
  jb 0 (loopK n (f91l1 D n) [x1, x2, (.int .i64 (.ofNat 0)), x9, x10, (.int .i64 (.ofNat 0))] H) (f91b2 D n))
def h91 : Hint := (.s .o (.s .o (.s (.s .o (.b [5] (.l [1, 2, 5, 9, 10, 11] (.s .o (.s (.cr .o .o) (.s (.b0 (.s .o (.s .o (.c [1, 2, 5, 9, 10, 11] .o .o)))) .o)))))) (.s .o .o))))
theorem f91_eq (D : Dyn) (n : Nat) : f91 D n = funK (s91 D n) D n 91 Tryz.f91 h91 := by kernel_rfl
theorem f91_ok {D : Dyn} (hD : DG D) (n : Nat) : FI 91 (f91 D n) := fun_ok X_ok hD (SOk.nil) Tryz.func91 (by kernel_rfl) (f91_eq D n)

def s188 (D : Dyn) (n : Nat) : Tb := ⟨X, []⟩
/-- (*jetty/tree.change).goes -/
def f188 (D : Dyn) (n : Nat) (vs : List AV) (H : AH) : Option (AV × AH) :=
  outR (hd vs fun x0 vs => hd vs fun x1 vs => nl vs <|
  bA (bxV 52 x1) H fun x3 H => 
  bV (pNil x0) fun x6 => 
  bV (fAd 3 x6) fun x7 => 
  bV (ld1 x7 H) fun x8 => 
  bV (ldN 3 x3 H) fun x9 => 
  bA (bldL 52 3 1 [(.int .i64 (.ofNat 0)), (.int .i64 (.ofNat 0)), (.int .u64 (.ofNat 0))] [(0, x9)]) H fun x10 H => 
  bR (apP 52 3 24 x8 x10 H) fun x11 H => 
  bV (pNil x0) fun x12 => 
  bV (fAd 3 x12) fun x13 => 
  bR (stN 1 x13 x11 H) fun x9999 H => 
  some (.ret (.tuple []), H))
def h188 : Hint := (.s .o .o)
theorem f188_eq (D : Dyn) (n : Nat) : f188 D n = funK (s188 D n) D n 188 Tryz.f188 h188 := by kernel_rfl
theorem f188_ok {D : Dyn} (hD : DG D) (n : Nat) : FI 188 (f188 D n) := fun_ok X_ok hD (SOk.nil) Tryz.func188 (by kernel_rfl) (f188_eq D n)

def s284 (D : Dyn) (n : Nat) : Tb := ⟨X, [(191, f191 D n)]⟩
/-- jetty/node.parted -/
def f284 (D : Dyn) (n : Nat) (vs : List AV) (H : AH) : Option (AV × AH) :=
  outR (hd vs fun x0 vs => hd vs fun x1 vs => hd vs fun x2 vs => nl vs <|
  bA (bxV 57 x0) H fun x3 H => 
  bA (bxV 57 x2) H fun x5 H => 
  bR (f191 D n [x1] H) fun x9 H => 
  bV (aun .not x9) fun x10 => 
  jn (wnt x10 false (bV (fAd 0 x3) fun x12 => 
  bV (ld1 x12 H) fun x13 => 
  bV (fAd 0 x5) fun x14 => 
  bV (ld1 x14 H) fun x15 => 
  bV (bBool .neq x13 x15) fun x16 => 
  some (.norm [x16], H)) (some (.norm [undefA], H))) fun vs H => hd vs fun x16_2 vs => 
  bV (pk3 (some x10) (some (.bool true)) (some x16_2)) fun x17 => 
  cnd x17 (bV (some (.bool false)) fun x6 => some (.ret x6, H))
  (bV (fAd 1 x3) fun x18 => 
  bV (ld1 x18 H) fun x19 => 
  bV (lnSl x19) fun x20 => 
  bV (bInt .gtr x20 (.int .i64 (.ofNat 0))) fun x22 => 
  jn (wnt x22 true (bV (fAd 1 x3) fun x24 => 
  bV (ld1 x24 H) fun x25 => 
  bV (bInt .sub x20 (.int .i64 (.ofNat 1))) fun x27 => 
  bV (ixSl 1 x25 x27) fun x28 => 
  bV (ld1 x28 H) fun x29 => 
  bV (bStr .geq x29 x1) fun x31 => 
  some (.norm [x31], H)) (some (.norm [undefA], H))) fun vs H => hd vs fun x31_2 vs => 
  bV (pk3 (some x22) (some x31_2) (some (.bool false))) fun x32 => 
  cnd x32 (bV (some (.bool false)) fun x6_2 => some (.ret x6_2, H))
  (bV (fAd 1 x5) fun x33 => 
  bV (ld1 x33 H) fun x34 => 
  bV (lnSl x34) fun x35 => 
  bV (bInt .eql x35 (.int .i64 (.ofNat 0))) fun x36 => 
  cnd x36 (bV (some (.bool true)) fun x6_3 => some (.ret x6_3, H))
  (bV (fAd 1 x5) fun x38 => 
  bV (ld1 x38 H) fun x39 => 
  bV (ixSl 1 x39 (.int .i64 (.ofNat 0))) fun x40 => 
  bV (ld1 x40 H) fun x41 => 
  bV (bStr .lss x1 x41) fun x42 => 
  jn (wnt x42 false (bV (fAd 0 x3) fun x44 => 
  bV (ld1 x44 H) fun x45 => 
  some (.norm [x45], H)) (some (.norm [undefA], H))) fun vs H => hd vs fun x46 vs => 
  jn (wnt x46 true (bV (fAd 1 x5) fun x48 => 
  bV (ld1 x48 H) fun x49 => 
  bV (ixSl 1 x49 (.int .i64 (.ofNat 0))) fun x50 => 
  bV (ld1 x50 H) fun x51 => 
  bV (bStr .eql x1 x51) fun x52 => 
  some (.norm [x52], H)) (some (.norm [undefA], H))) fun vs H => hd vs fun x52_2 vs => 
  jn (wnt x42 false (bV (pk3 (some x46) (some x52_2) (some (.bool false))) fun x53 => 
  some (.norm [x53], H)) (some (.norm [undefA], H))) fun vs H => hd vs fun x53_2 vs => 
  bV (pk3 (some x42) (some (.bool true)) (some x53_2)) fun x54 => 
  bV (some x54) fun x6_4 => some (.ret x6_4, H)))))
def h284 : Hint := (.s .o (.s (.s .o (.cl (.s .o .o) .o)) (.s (.s .o (.s .o (.cl (.s .o .o) .o))) (.s (.s .o (.cl (.s .o .o) .o)) (.s .o .o)))))
theorem f284_eq (D : Dyn) (n : Nat) : f284 D n = funK (s284 D n) D n 284 Tryz.f284 h284 := by kernel_rfl
theorem f284_ok {D : Dyn} (hD : DG D) (n : Nat) : FI 284 (f284 D n) := fun_ok X_ok hD (SOk.cons (f191_ok hD n).fs (SOk.nil)) Tryz.func284 (by kernel_rfl) (f284_eq D n)

def s268 (D : Dyn) (n : Nat) : Tb := ⟨X, []⟩
def f268j0 (D : Dyn) (n : Nat) (vs : List AV) (H : AH) : Rs :=
  hd vs fun x0_3 vs => 
  bV (some x0_3) fun x4 => some (.ret x4, H)
def f268j1 (D : Dyn) (n : Nat) (vs : List AV) (H : AH) : Rs :=
  hd vs fun x0_2 vs => hd vs fun x1_2 vs => 
  bV (acap X 54 x0_2) fun x10 => 
  bV (lnSl x0_2) fun x12 => 
  bV (bInt .sub x10 x12) fun x13 => 
  bV (bInt .sub x1_2 x13) fun x14 => 
  bV (bInt .gtr x14 (.int .i64 (.ofNat 0))) fun x16 => 
  jn (cnd x16 (bV (acap X 54 x0_2) fun x19 => 
  bV (slSl 1 x0_2 none (some x19) none H) fun x20 => 
  bR (apZ 9 1 16 [(.str 0 0)] x20 x14 H) fun x22 H => 
  bV (lnSl x0_2) fun x24 => 
  bV (slSl 1 x22 none (some x24) none H) fun x25 => 
  some (.norm [x25], H))
  (some (.norm [x0_2], H))) (f268j0 D n)
/-- slices.Grow[[]string,string] -/
def f268 (D : Dyn) (n : Nat) (vs : List AV) (H : AH) : Option (AV × AH) :=
  outR (hd vs fun x0 vs => hd vs fun x1 vs => nl vs <|
  bV (bInt .lss x1 (.int .i64 (.ofNat 0))) fun x6 => 
  jn (cnd x6 (none)
  (some (.norm [x0, x1], H))) (f268j1 D n))
def h268 : Hint := (.s .o (.s (.s .o (.c [0, 1] .o .o)) (.s (.s .o (.s .o (.c [0] .o .o))) (.s .o .o))))
theorem f268_eq (D : Dyn) (n : Nat) : f268 D n = funK (s268 D n) D n 268 Tryz.f268 h268 := by kernel_rfl
theorem f268_ok {D : Dyn} (hD : DG D) (n : Nat) : FI 268 (f268 D n) := fun_ok X_ok hD (SOk.nil) Tryz.func268 (by kernel_rfl) (f268_eq D n)

def s201 (D : Dyn) (n : Nat) : Tb := ⟨X, [(268, f268 D n)]⟩
def f201j0 (D : Dyn) (n : Nat) (vs : List AV) (H : AH) : Rs :=
  hd vs fun x0_3 vs => hd vs fun x3_2 vs => hd vs fun x9_2 vs => hd vs fun x10_3 vs => hd vs fun x11_2 vs => 
  bV (bInt .add x11_2 (.int .i64 (.ofNat 1))) fun x22 => 
  some (.norm [x0_3, x3_2, x9_2, x10_3, x22], H)
def f201l1 (D : Dyn) (n : Nat) (vs : List AV) (H : AH) : Rs :=
  hd vs fun x0_2 vs => hd vs fun x3 vs => hd vs fun x9 vs => hd vs fun x10_2 vs => hd vs fun x11 vs => 
  bV (bInt .lss x11 x10_2) fun x12 => 
  cnd x12 (bV (ixSl 1 x9 x11) fun x13 => 
  bV (ld1 x13 H) fun x14 => 
  bV (lnSl x14) fun x17 => 
  bV (bInt .add x3 x17) fun x18 => 
  bV (bInt .lss x18 (.int .i64 (.ofNat 0))) fun x20 => 
  jn (cnd x20 (none)
  (some (.norm [x0_2, x18, x9, x10_2, x11], H))) (f201j0 D n))
  (some (.exit 0 [x0_2, x3], H))
def f201l2 (D : Dyn) (n : Nat) (vs : List AV) (H : AH) : Rs :=
  hd vs fun x6 vs => hd vs fun x25 vs => hd vs fun x26_2 vs => hd vs fun x27 vs => 
  bV (bInt .lss x27 x26_2) fun x28 => 
  cnd x28 (bV (ixSl 1 x25 x27) fun x29 => 
  bV (ld1 x29 H) fun x30 => 
  bR (apP 9 1 16 x6 x30 H) fun x33 H => 
  bV (bInt .add x27 (.int .i64 (.ofNat 1))) fun x34 => 
  some (.norm [x33, x25, x26_2, x34], H))
  (some (.exit 2 [x6], H))
def f201b3 (D : Dyn) (n : Nat) (vs : List AV) (H : AH) : Rs :=
  hd vs fun x6_2 vs => 
  bV (some x6_2) fun x2 => some (.ret x2, H)
def f201b4 (D : Dyn) (n : Nat) (vs : List AV) (H : AH) : Rs :=
  hd vs fun x0_4 vs => hd vs fun x3_3 vs => 
  bR (f268 D n [.nilSlice, x3_3] H) fun x24 H => 
  bV (lnSl x0_4) fun x26 => 
  jb 2 (loopK n (f201l2 D n) [x24, x0_4, x26, (.int .i64 (.ofNat 0))] H) (f201b3 D n)
/-- slices.Concat[[]string,string] -/
def f201 (D : Dyn) (n : Nat) (vs : List AV) (H : AH) : Option (AV × AH) :=
  outR (hd vs fun x0 vs => nl vs <|
  bV (lnSl x0) fun x10 => 
  jb 0 (loopK n (f201l1 D n) [x0, (.int .i64 (.ofNat 0)), x0, x10, (.int .i64 (.ofNat 0))] H) (f201b4 D n))
def h201 : Hint := (.s .o (.s .o (.s (.s .o (.b [0, 3] (.l [0, 3, 9, 10, 11] (.s .o (.s (.cr .o .o) (.s (.b0 (.s .o (.s .o (.s .o (.c [0, 3, 9, 10, 11] .o .o))))) .o)))))) (.s .o (.s (.s .o (.b [6] (.l [6, 25, 26, 27] (.s .o (.s (.cr .o .o) (.s (.b0 (.s .o .o)) .o)))))) (.s .o .o))))))
theorem f201_eq (D : Dyn) (n : Nat) : f201 D n = funK (s201 D n) D n 201 Tryz.f201 h201 := by kernel_rfl
theorem f201_ok {D : Dyn} (hD : DG D) (n : Nat) : FI 201 (f201 D n) := fun_ok X_ok hD (SOk.cons (f268_ok hD n).fs (SOk.nil)) Tryz.func201 (by kernel_rfl) (f201_eq D n)
end Go.Eng.Sh
