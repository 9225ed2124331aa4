/- Shallow functions, by program (gen.py). -/
import Derived.Test.YtdbpihiihgkkdaaGreatR61
import Derived.Test.YtdbpihiihgkkdaaGreatProg
import Derived.KernelRfl
noncomputable section
namespace Go.Eng.Sh
open Go.Proofs
set_option maxRecDepth 100000
set_option linter.all false
def s263 (D : Dyn) (n : Nat) : Tb := ⟨X, [(264, f264 D n), (288, f288 D n), (265, f265 D n), (267, f267 D n)]⟩
def f263j0 (D : Dyn) (n : Nat) (vs : List AV) (H : AH) : Rs :=
  hd vs fun x0_2 vs => hd vs fun x1_2 vs => hd vs fun x2_2 vs => 
  some (.norm [x0_2, x1_2, x2_2], H)
def f263j1 (D : Dyn) (n : Nat) (vs : List AV) (H : AH) : Rs :=
  hd vs fun x0_3 vs => hd vs fun x1_3 vs => hd vs fun x2_3 vs => 
  bR (f265 D n [x0_3, (.bool false)] H) fun x79 H => 
  some (.norm [x0_3, x1_3, x2_3], H)
def f263j2 (D : Dyn) (n : Nat) (vs : List AV) (H : AH) : Rs :=
  hd vs fun x0_4 vs => hd vs fun x1_4 vs => hd vs fun x2_4 vs => 
  some (.norm [x0_4, x1_4, x2_4], H)
def f263j3 (D : Dyn) (n : Nat) (vs : List AV) (H : AH) : Rs :=
  hd vs fun x0_5 vs => hd vs fun x1_5 vs => hd vs fun x2_5 vs => 
  bV (bldSp [(0, 1), (1, 1), (2, 1), (3, 1), (4, 1)] [(.int .i64 (.ofNat 0)), (.int .i64 (.ofNat 0)), .nilPtr, .nilPtr, .nilPtr] [(0, x1_5), (2, x2_5)]) fun x82 => 
  bA (bxV 350 x82) H fun x83 H => 
  bV (pNil x0_5) fun x85 => 
  bV (fAd 0 x85) fun x86 => 
  bV (fAd 12 x86) fun x87 => 
  bV (ld1p x87 H) fun x88 => 
  bR (upM [6] x88 x1_5 x83 H) fun x9999 H => 
  bV (pNil x0_5) fun x92 => 
  bV (fAd 0 x92) fun x93 => 
  bR (f267 D n [x93, (.int .i64 (.ofNat 0)), x83] H) fun x95 H => 
  some (.ret (.tuple []), H)
/-- (*jetty/arc.Cache).meet -/
def f263 (D : Dyn) (n : Nat) (vs : List AV) (H : AH) : Option (AV × AH) :=
  outR (hd vs fun x0 vs => hd vs fun x1 vs => hd vs fun x2 vs => nl vs <|
  bV (pNil x0) fun x13 => 
  bV (fAd 0 x13) fun x14 => 
  bV (pNil x0) fun x17 => 
  bV (fAd 0 x17) fun x18 => 
  bR (f264 D n [x14, (.int .i64 (.ofNat 0))] H) fun x15 H => 
  bR (f264 D n [x18, (.int .i64 (.ofNat 1))] H) fun x19 H => 
  bV (pNil x0) fun x21 => 
  bV (fAd 0 x21) fun x22 => 
  bV (pNil x0) fun x25 => 
  bV (fAd 0 x25) fun x26 => 
  bR (f264 D n [x22, (.int .i64 (.ofNat 2))] H) fun x23 H => 
  bR (f264 D n [x26, (.int .i64 (.ofNat 3))] H) fun x27 H => 
  bV (bInt .add x15 x19) fun x30 => 
  bV (bInt .add x30 x23) fun x32 => 
  bV (bInt .add x32 x27) fun x34 => 
  bV (bInt .add x15 x23) fun x38 => 
  bV (pNil x0) fun x40 => 
  bV (fAd 13 x40) fun x41 => 
  bV (ld1p x41 H) fun x42 => 
  bV (bInt .geq x38 x42) fun x43 => 
  jn (cnd x43 (bV (pNil x0) fun x46 => 
  bV (fAd 13 x46) fun x47 => 
  bV (ld1p x47 H) fun x48 => 
  bV (bInt .lss x15 x48) fun x49 => 
  jn (cnd x49 (bV (pNil x0) fun x51 => 
  bV (fAd 0 x51) fun x52 => 
  bR (f288 D n [x52, (.int .i64 (.ofNat 2))] H) fun x53 H => 
  bR (f265 D n [x0, (.bool false)] H) fun x55 H => 
  some (.norm [x0, x1, x2], H))
  (bV (pNil x0) fun x57 => 
  bV (fAd 0 x57) fun x58 => 
  bR (f288 D n [x58, (.int .i64 (.ofNat 0))] H) fun x59 H => 
  some (.norm [x0, x1, x2], H))) (f263j0 D n))
  (bV (pNil x0) fun x63 => 
  bV (fAd 13 x63) fun x64 => 
  bV (ld1p x64 H) fun x65 => 
  bV (bInt .geq x34 x65) fun x66 => 
  jn (cnd x66 (bV (pNil x0) fun x69 => 
  bV (fAd 13 x69) fun x70 => 
  bV (ld1p x70 H) fun x71 => 
  bV (bInt .mul (.int .i64 (.ofNat 2)) x71) fun x72 => 
  bV (bInt .geq x34 x72) fun x73 => 
  jn (cnd x73 (bV (pNil x0) fun x75 => 
  bV (fAd 0 x75) fun x76 => 
  bR (f288 D n [x76, (.int .i64 (.ofNat 3))] H) fun x77 H => 
  some (.norm [x0, x1, x2], H))
  (some (.norm [x0, x1, x2], H))) (f263j1 D n))
  (some (.norm [x0, x1, x2], H))) (f263j2 D n))) (f263j3 D n))
def h263 : Hint := (.s .o (.s .o (.s (.s .o (.b0 (.s .o (.c [0, 1, 2] (.s .o (.c [0, 1, 2] (.s .o .o) .o)) (.s .o (.c [0, 1, 2] (.s (.s .o (.c [0, 1, 2] .o .o)) .o) .o)))))) (.s .o (.s .o .o)))))
theorem f263_eq (D : Dyn) (n : Nat) : f263 D n = funKp (s263 D n) D n 263 Tryz.f263 h263 := by kernel_rfl
theorem f263_ok {D : Dyn} (hD : DP D) (n : Nat) : FP 263 (f263 D n) := fun_okP X_ok hD (SP.cons (f264_ok hD n) (SP.cons (f288_ok hD n) (SP.cons (f265_ok hD n) (SP.cons (f267_ok hD n) (SP.nil))))) Tryz.func263 (by kernel_rfl) (by kernel_rfl) (f263_eq D n)

def s200 (D : Dyn) (n : Nat) : Tb := ⟨X, [(263, f263 D n), (264, f264 D n), (265, f265 D n), (266, f266 D n), (267, f267 D n)]⟩
def f200j0 (D : Dyn) (n : Nat) (vs : List AV) (H : AH) : Rs :=
  hd vs fun x0_2 vs => hd vs fun x2_2 vs => hd vs fun x6 vs => 
  some (.norm [x0_2, x2_2, x6], H)
def f200j1 (D : Dyn) (n : Nat) (vs : List AV) (H : AH) : Rs :=
  hd vs fun x0_3 vs => hd vs fun x2_3 vs => hd vs fun x6_2 vs => 
  bV (pNil x0_3) fun x79 => 
  bV (fAd 0 x79) fun x80 => 
  bR (f266 D n [x80, x6_2] H) fun x82 H => 
  bV (pNil x6_2) fun x85 => 
  bV (fAd 2 x85) fun x86 => 
  bR (stNp 1 x86 x2_3 H) fun x9999_3 H => 
  bV (pNil x0_3) fun x88 => 
  bV (fAd 0 x88) fun x89 => 
  bR (f267 D n [x89, (.int .i64 (.ofNat 1)), x6_2] H) fun x91 H => 
  some (.ret (.tuple []), H)
/-- (*jetty/arc.Cache).have -/
def f200 (D : Dyn) (n : Nat) (vs : List AV) (H : AH) : Option (AV × AH) :=
  outR (hd vs fun x0 vs => hd vs fun x1 vs => hd vs fun x2 vs => nl vs <|
  bV (pNil x0) fun x10 => 
  bV (fAd 0 x10) fun x11 => 
  bV (fAd 12 x11) fun x12 => 
  bV (ld1p x12 H) fun x13 => 
  bV (lkM [6] .nilPtr false x13 x1 H) fun x15 => 
  bV (cmpO .eql (eqP x15 .nilPtr)) fun x17 => 
  cnd x17 (bR (f263 D n [x0, x1, x2] H) fun x21 H => 
  some (.ret (.tuple []), H))
  (bV (pNil x15) fun x23 => 
  bV (fAd 1 x23) fun x24 => 
  bV (ld1p x24 H) fun x25 => 
  bV (bInt .eql x25 (.int .i64 (.ofNat 2))) fun x27 => 
  jn (cnd x27 (bV (pNil x0) fun x29 => 
  bV (fAd 0 x29) fun x30 => 
  bV (pNil x0) fun x33 => 
  bV (fAd 0 x33) fun x34 => 
  bR (f264 D n [x30, (.int .i64 (.ofNat 3))] H) fun x31 H => 
  bR (f264 D n [x34, (.int .i64 (.ofNat 2))] H) fun x35 H => 
  bV (bInt .quo x31 x35) fun x36 => 
  bV (mx2 (.int .i64 (.ofNat 1)) x36) fun x37 => 
  bV (pNil x0) fun x40 => 
  bV (fAd 13 x40) fun x41 => 
  bV (ld1p x41 H) fun x42 => 
  bV (pNil x0) fun x44 => 
  bV (fAd 14 x44) fun x45 => 
  bV (ld1p x45 H) fun x46 => 
  bV (bInt .add x46 x37) fun x48 => 
  bV (mn2 x42 x48) fun x49 => 
  bV (pNil x0) fun x50 => 
  bV (fAd 14 x50) fun x51 => 
  bR (stNp 1 x51 x49 H) fun x9999 H => 
  bR (f265 D n [x0, (.bool false)] H) fun x53 H => 
  some (.norm [x0, x2, x15], H))
  (bV (bInt .eql x25 (.int .i64 (.ofNat 3))) fun x55 => 
  jn (cnd x55 (bV (pNil x0) fun x57 => 
  bV (fAd 0 x57) fun x58 => 
  bV (pNil x0) fun x61 => 
  bV (fAd 0 x61) fun x62 => 
  bR (f264 D n [x58, (.int .i64 (.ofNat 2))] H) fun x59 H => 
  bR (f264 D n [x62, (.int .i64 (.ofNat 3))] H) fun x63 H => 
  bV (bInt .quo x59 x63) fun x64 => 
  bV (mx2 (.int .i64 (.ofNat 1)) x64) fun x65 => 
  bV (pNil x0) fun x68 => 
  bV (fAd 14 x68) fun x69 => 
  bV (ld1p x69 H) fun x70 => 
  bV (bInt .sub x70 x65) fun x72 => 
  bV (mx2 (.int .i64 (.ofNat 0)) x72) fun x73 => 
  bV (pNil x0) fun x74 => 
  bV (fAd 14 x74) fun x75 => 
  bR (stNp 1 x75 x73 H) fun x9999_2 H => 
  bR (f265 D n [x0, (.bool true)] H) fun x77 H => 
  some (.norm [x0, x2, x15], H))
  (some (.norm [x0, x2, x15], H))) (f200j0 D n))) (f200j1 D n)))
def h200 : Hint := (.s .o (.s (.s .o (.cl (.s .o .o) .o)) (.s (.s .o (.b0 (.s .o (.c [0, 2, 6] (.s .o (.s .o .o)) (.s .o (.c [0, 2, 6] (.s .o (.s .o .o)) .o)))))) (.s .o (.s .o .o)))))
theorem f200_eq (D : Dyn) (n : Nat) : f200 D n = funKp (s200 D n) D n 200 Tryz.f200 h200 := by kernel_rfl
theorem f200_ok {D : Dyn} (hD : DP D) (n : Nat) : FP 200 (f200 D n) := fun_okP X_ok hD (SP.cons (f263_ok hD n) (SP.cons (f264_ok hD n) (SP.cons (f265_ok hD n) (SP.cons (f266_ok hD n) (SP.cons (f267_ok hD n) (SP.nil)))))) Tryz.func200 (by kernel_rfl) (by kernel_rfl) (f200_eq D n)

def s247 (D : Dyn) (n : Nat) : Tb := ⟨X, [(199, f199 D n), (200, f200 D n)]⟩
/-- (*jetty/arc.Cache).Get -/
def f247 (D : Dyn) (n : Nat) (vs : List AV) (H : AH) : Option (AV × AH) :=
  outR (hd vs fun x0 vs => hd vs fun x1 vs => nl vs <|
  bA (bxV 164 (.agg [.pk 512 0])) H fun x4 H => 
  bR (f199 D n [x0] H) fun x8 H => 
  cnd x8 (bV (bldAp 1 [.pk 512 0] []) fun x9 => 
  bR (stNp 512 x4 x9 H) fun x9999 H => 
  bV (ldNp 512 x4 H) fun x9004 => bV (some (.int .i64 (.ofNat 2))) fun x5 => some (.ret (.tuple [x9004, x5]), H))
  (bV (pNil x0) fun x11 => 
  bV (fAd 0 x11) fun x12 => 
  bV (fAd 12 x12) fun x13 => 
  bV (ld1p x13 H) fun x14 => 
  bV (lkM [6] .nilPtr false x14 x1 H) fun x16 => 
  bV (cmpO .eql (eqP x16 .nilPtr)) fun x18 => 
  jn (wnt x18 false (bV (pNil x16) fun x21 => 
  bV (fAd 2 x21) fun x22 => 
  bV (ld1p x22 H) fun x23 => 
  bV (cmpO .eql (eqP x23 .nilPtr)) fun x24 => 
  some (.norm [x24], H)) (some (.norm [undefA], H))) fun vs H => hd vs fun x24_2 vs => 
  bV (pk3 (some x18) (some (.bool true)) (some x24_2)) fun x25 => 
  cnd x25 (bV (bldAp 1 [.pk 512 0] []) fun x26 => 
  bR (stNp 512 x4 x26 H) fun x9999_2 H => 
  bV (ldNp 512 x4 H) fun x9004_2 => bV (some (.int .i64 (.ofNat 5))) fun x5_2 => some (.ret (.tuple [x9004_2, x5_2]), H))
  (bV (pNil x16) fun x30 => 
  bV (fAd 2 x30) fun x31 => 
  bV (ld1p x31 H) fun x32 => 
  bR (f200 D n [x0, x1, x32] H) fun x33 H => 
  bV (pNil x16) fun x35 => 
  bV (fAd 2 x35) fun x36 => 
  bV (ld1p x36 H) fun x37 => 
  bV (pNil x37) fun x38 => 
  bV (ldNp 512 x38 H) fun x39 => 
  bR (stNp 512 x4 x39 H) fun x9999_3 H => 
  bV (ldNp 512 x4 H) fun x9004_3 => bV (some (.int .i64 (.ofNat 0))) fun x5_3 => some (.ret (.tuple [x9004_3, x5_3]), H))))
def h247 : Hint := (.s .o (.s (.s .o (.cl (.s .o .o) .o)) (.s .o (.s (.s .o (.cl (.s .o .o) .o)) (.s .o (.s .o .o))))))
theorem f247_eq (D : Dyn) (n : Nat) : f247 D n = funKp (s247 D n) D n 247 Tryz.f247 h247 := by kernel_rfl
theorem f247_ok {D : Dyn} (hD : DP D) (n : Nat) : FP 247 (f247 D n) := fun_okP X_ok hD (SP.cons (f199_ok hD n) (SP.cons (f200_ok hD n) (SP.nil))) Tryz.func247 (by kernel_rfl) (by kernel_rfl) (f247_eq D n)

def s211 (D : Dyn) (n : Nat) : Tb := ⟨X, [(224, f224 D n)]⟩
/-- jetty/block.Sum -/
def f211 (D : Dyn) (n : Nat) (vs : List AV) (H : AH) : Option (AV × AH) :=
  outR (hd vs fun x0 vs => nl vs <|
  bA (bxV 164 x0) H fun x1 H => 
  bV (slArr 512 1 x1 none none none) fun x3 => 
  bV (cvBSp x3 H) fun x4 => 
  bR (f224 D n [x4] H) fun x5 H => 
  bV (some x5) fun x2 => some (.ret x2, H))
def h211 : Hint := (.s .o (.s .o .o))
theorem f211_eq (D : Dyn) (n : Nat) : f211 D n = funKp (s211 D n) D n 211 Tryz.f211 h211 := by kernel_rfl
theorem f211_ok {D : Dyn} (hD : DP D) (n : Nat) : FP 211 (f211 D n) := fun_okP X_ok hD (SP.cons (f224_ok hD n) (SP.nil)) Tryz.func211 (by kernel_rfl) (by kernel_rfl) (f211_eq D n)

def s248 (D : Dyn) (n : Nat) : Tb := ⟨X, [(211, f211 D n), (210, f210 D n)]⟩
/-- jetty/block.Check -/
def f248 (D : Dyn) (n : Nat) (vs : List AV) (H : AH) : Option (AV × AH) :=
  outR (hd vs fun x0 vs => hd vs fun x1 vs => nl vs <|
  bA (bxV 52 x0) H fun x2 H => 
  bA (bxV 164 x1) H fun x3 H => 
  bV (fAd 0 x2) fun x8 => 
  bV (ld1p x8 H) fun x9 => 
  bV (bInt .eql x9 (.int .i64 (.ofNat 0))) fun x10 => 
  jn (wnt x10 false (bV (ldNp 512 x3 H) fun x12 => 
  bV (fAd 2 x2) fun x14 => 
  bV (ld1p x14 H) fun x15 => 
  bR (f211 D n [x12] H) fun x13 H => chk (ld1p x14 H) x15 <| 
  bV (bInt .neq x13 x15) fun x16 => 
  some (.norm [x16], H)) (some (.norm [undefA], H))) fun vs H => hd vs fun x16_2 vs => 
  bV (pk3 (some x10) (some (.bool true)) (some x16_2)) fun x17 => 
  cnd x17 (bV (some (.int .u8 (.ofNat 0))) fun x4 => bV (some (.str 0 0)) fun x5 => bV (some (.int .i64 (.ofNat 52))) fun x6 => some (.ret (.tuple [x4, x5, x6]), H))
  (bV (ldNp 512 x3 H) fun x19 => 
  bR (f210 D n [x19] H) fun x20 H => 
  bV (pExtract x20 0) fun x21 => 
  bV (pExtract x20 1) fun x22 => 
  bV (pExtract x20 2) fun x23 => 
  bV (pExtract x20 3) fun x24 => 
  bV (bInt .neq x24 (.int .i64 (.ofNat 0))) fun x26 => 
  cnd x26 (bV (some (.int .u8 (.ofNat 0))) fun x4_2 => bV (some (.str 0 0)) fun x5_2 => bV (some x24) fun x6_2 => some (.ret (.tuple [x4_2, x5_2, x6_2]), H))
  (bV (fAd 1 x2) fun x29 => 
  bV (ld1p x29 H) fun x30 => 
  bV (bInt .neq x22 x30) fun x31 => 
  cnd x31 (bV (some (.int .u8 (.ofNat 0))) fun x4_3 => bV (some (.str 0 0)) fun x5_3 => bV (some (.int .i64 (.ofNat 52))) fun x6_3 => some (.ret (.tuple [x4_3, x5_3, x6_3]), H))
  (bV (some x21) fun x4_4 => bV (some x23) fun x5_4 => bV (some (.int .i64 (.ofNat 0))) fun x6_4 => some (.ret (.tuple [x4_4, x5_4, x6_4]), H)))))
def h248 : Hint := (.s .o (.s (.s .o (.cl (.s .o .o) .o)) (.s .o (.s (.s .o (.cl (.s .o .o) .o)) (.s (.s .o (.cl (.s .o .o) .o)) (.s .o .o))))))
theorem f248_eq (D : Dyn) (n : Nat) : f248 D n = funKp (s248 D n) D n 248 Tryz.f248 h248 := by kernel_rfl
theorem f248_ok {D : Dyn} (hD : DP D) (n : Nat) : FP 248 (f248 D n) := fun_okP X_ok hD (SP.cons (f211_ok hD n) (SP.cons (f210_ok hD n) (SP.nil))) Tryz.func248 (by kernel_rfl) (by kernel_rfl) (f248_eq D n)

def s108 (D : Dyn) (n : Nat) : Tb := ⟨X, [(199, f199 D n), (200, f200 D n)]⟩
/-- (*jetty/arc.Cache).Put -/
def f108 (D : Dyn) (n : Nat) (vs : List AV) (H : AH) : Option (AV × AH) :=
  outR (hd vs fun x0 vs => hd vs fun x1 vs => hd vs fun x2 vs => nl vs <|
  bA (bxV 164 x2) H fun x5 H => 
  bR (f199 D n [x0] H) fun x8 H => 
  cnd x8 (bV (some (.int .i64 (.ofNat 2))) fun x6 => some (.ret x6, H))
  (bR (f200 D n [x0, x1, x5] H) fun x11 H => 
  bV (some (.int .i64 (.ofNat 0))) fun x6_2 => some (.ret x6_2, H)))
def h108 : Hint := (.s .o (.s (.s .o (.cl (.s .o .o) .o)) (.s .o (.s .o .o))))
theorem f108_eq (D : Dyn) (n : Nat) : f108 D n = funKp (s108 D n) D n 108 Tryz.f108 h108 := by kernel_rfl
theorem f108_ok {D : Dyn} (hD : DP D) (n : Nat) : FP 108 (f108 D n) := fun_okP X_ok hD (SP.cons (f199_ok hD n) (SP.cons (f200_ok hD n) (SP.nil))) Tryz.func108 (by kernel_rfl) (by kernel_rfl) (f108_eq D n)

def s181 (D : Dyn) (n : Nat) : Tb := ⟨X, [(247, f247 D n), (248, f248 D n), (117, f117 D n), (108, f108 D n)]⟩
def f181j0 (D : Dyn) (n : Nat) (vs : List AV) (H : AH) : Rs :=
  hd vs fun x0_2 vs => hd vs fun x3_2 vs => 
  some (.norm [x0_2, x3_2], H)
def f181j1 (D : Dyn) (n : Nat) (vs : List AV) (H : AH) : Rs :=
  hd vs fun x14 vs => hd vs fun x15 vs => 
  bV (some x14) fun x4_4 => bV (some x15) fun x5_4 => bV (some (.int .i64 (.ofNat 0))) fun x6_4 => some (.ret (.tuple [x4_4, x5_4, x6_4]), H)
def f181j2 (D : Dyn) (n : Nat) (vs : List AV) (H : AH) : Rs :=
  hd vs fun x0_3 vs => hd vs fun x3_3 vs => 
  bV (pNil x0_3) fun x46 => 
  bV (fAd 0 x46) fun x47 => 
  bV (ld1p x47 H) fun x48 => 
  bV (fAd 0 x3_3) fun x49 => 
  bV (ld1p x49 H) fun x50 => 
  bA (bxV 164 (.agg [.pk 512 0])) H fun x12 H => 
  bR (f117 D n [x48, x50] H) fun x51 H => 
  bV (pExtract x51 0) fun x52 => 
  bV (pExtract x51 1) fun x53 => 
  bR (stNp 512 x12 x52 H) fun x9999_2 H => 
  bV (bInt .neq x53 (.int .i64 (.ofNat 0))) fun x55 => 
  cnd x55 (bV (some (.int .u8 (.ofNat 0))) fun x4_2 => bV (some (.str 0 0)) fun x5_2 => bV (some x53) fun x6_2 => some (.ret (.tuple [x4_2, x5_2, x6_2]), H))
  (bV (ldNp 3 x3_3 H) fun x58 => 
  bV (ldNp 512 x12 H) fun x59 => 
  bR (f248 D n [x58, x59] H) fun x60 H => 
  bV (pExtract x60 0) fun x61 => 
  bV (pExtract x60 1) fun x62 => 
  bV (pExtract x60 2) fun x63 => 
  bV (bInt .neq x63 (.int .i64 (.ofNat 0))) fun x65 => 
  cnd x65 (bV (some (.int .u8 (.ofNat 0))) fun x4_3 => bV (some (.str 0 0)) fun x5_3 => bV (some x63) fun x6_3 => some (.ret (.tuple [x4_3, x5_3, x6_3]), H))
  (bV (pNil x0_3) fun x68 => 
  bV (fAd 1 x68) fun x69 => 
  bV (ld1p x69 H) fun x70 => 
  bV (cmpO .neq (eqP x70 .nilPtr)) fun x71 => 
  jn (cnd x71 (bV (pNil x0_3) fun x73 => 
  bV (fAd 1 x73) fun x74 => 
  bV (ld1p x74 H) fun x75 => 
  bV (fAd 0 x3_3) fun x76 => 
  bV (ld1p x76 H) fun x77 => 
  bV (ldNp 512 x12 H) fun x78 => 
  bR (f108 D n [x75, x77, x78] H) fun x79 H => 
  some (.norm [x61, x62], H))
  (some (.norm [x61, x62], H))) (f181j1 D n)))
/-- (*jetty/tree.Tree).body -/
def f181 (D : Dyn) (n : Nat) (vs : List AV) (H : AH) : Option (AV × AH) :=
  outR (hd vs fun x0 vs => hd vs fun x1 vs => nl vs <|
  bA (bxV 52 x1) H fun x3 H => 
  bV (pNil x0) fun x17 => 
  bV (fAd 1 x17) fun x18 => 
  bV (ld1p x18 H) fun x19 => 
  bV (cmpO .neq (eqP x19 .nilPtr)) fun x20 => 
  jn (cnd x20 (bV (pNil x0) fun x23 => 
  bV (fAd 1 x23) fun x24 => 
  bV (ld1p x24 H) fun x25 => 
  bV (fAd 0 x3) fun x26 => 
  bV (ld1p x26 H) fun x27 => 
  bA (bxV 164 (.agg [.pk 512 0])) H fun x7 H => 
  bR (f247 D n [x25, x27] H) fun x28 H => 
  bV (pExtract x28 0) fun x29 => 
  bV (pExtract x28 1) fun x30 => 
  bR (stNp 512 x7 x29 H) fun x9999 H => 
  bV (bInt .eql x30 (.int .i64 (.ofNat 0))) fun x32 => 
  jn (cnd x32 (bV (ldNp 3 x3 H) fun x34 => 
  bV (ldNp 512 x7 H) fun x35 => 
  bR (f248 D n [x34, x35] H) fun x36 H => 
  bV (pExtract x36 0) fun x37 => 
  bV (pExtract x36 1) fun x38 => 
  bV (pExtract x36 2) fun x39 => 
  bV (bInt .eql x39 (.int .i64 (.ofNat 0))) fun x41 => 
  cnd x41 (bV (some x37) fun x4 => bV (some x38) fun x5 => bV (some (.int .i64 (.ofNat 0))) fun x6 => some (.ret (.tuple [x4, x5, x6]), H))
  (some (.norm [x0, x3], H)))
  (some (.norm [x0, x3], H))) (f181j0 D n))
  (some (.norm [x0, x3], H))) (f181j2 D n))
def h181 : Hint := (.s .o (.s (.s .o (.c [0, 3] (.s .o (.s .o (.c [0, 3] (.s .o (.s .o (.cl (.s .o .o) .o))) .o))) .o)) (.s .o (.s (.s .o (.cl (.s .o .o) .o)) (.s .o (.s (.s .o (.cl (.s .o .o) .o)) (.s (.s .o (.c [14, 15] .o .o)) (.s .o .o))))))))
theorem f181_eq (D : Dyn) (n : Nat) : f181 D n = funKp (s181 D n) D n 181 Tryz.f181 h181 := by kernel_rfl
theorem f181_ok {D : Dyn} (hD : DP D) (n : Nat) : FP 181 (f181 D n) := fun_okP X_ok hD (SP.cons (f247_ok hD n) (SP.cons (f248_ok hD n) (SP.cons (f117_ok hD n) (SP.cons (f108_ok hD n) (SP.nil))))) Tryz.func181 (by kernel_rfl) (by kernel_rfl) (f181_eq D n)

def s249 (D : Dyn) (n : Nat) : Tb := ⟨X, []⟩
/-- (*jetty/node.reader).take -/
def f249 (D : Dyn) (n : Nat) (vs : List AV) (H : AH) : Option (AV × AH) :=
  outR (hd vs fun x0 vs => hd vs fun x1 vs => nl vs <|
  bV (pNil x0) fun x7 => 
  bV (fAd 1 x7) fun x8 => 
  bV (ld1p x8 H) fun x9 => 
  jn (wnt x9 false (bV (pNil x0) fun x12 => 
  bV (fAd 0 x12) fun x13 => 
  bV (ld1p x13 H) fun x14 => 
  bV (lnStr x14) fun x15 => 
  bV (bInt .lss x15 x1) fun x17 => 
  some (.norm [x17], H)) (some (.norm [undefA], H))) fun vs H => hd vs fun x17_2 vs => 
  bV (pk3 (some x9) (some (.bool true)) (some x17_2)) fun x18 => 
  cnd x18 (bV (pNil x0) fun x20 => 
  bV (fAd 1 x20) fun x21 => 
  bR (stNp 1 x21 (.bool true) H) fun x9999 H => 
  bV (some (.str 0 0)) fun x4 => some (.ret x4, H))
  (bV (pNil x0) fun x23 => 
  bV (fAd 0 x23) fun x24 => 
  bV (ld1p x24 H) fun x25 => 
  bV (slStr x25 none (some x1)) fun x27 => 
  bV (pNil x0) fun x30 => 
  bV (fAd 0 x30) fun x31 => 
  bV (ld1p x31 H) fun x32 => 
  bV (slStr x32 (some x1) none) fun x34 => 
  bV (pNil x0) fun x35 => 
  bV (fAd 0 x35) fun x36 => 
  bR (stNp 1 x36 x34 H) fun x9999_2 H => 
  bV (some x27) fun x4_2 => some (.ret x4_2, H)))
def h249 : Hint := (.s .o (.s (.s .o (.cl (.s .o (.s .o .o)) .o)) (.s .o (.s .o (.s .o .o)))))
theorem f249_eq (D : Dyn) (n : Nat) : f249 D n = funKp (s249 D n) D n 249 Tryz.f249 h249 := by kernel_rfl
theorem f249_ok {D : Dyn} (hD : DP D) (n : Nat) : FP 249 (f249 D n) := fun_okP X_ok hD (SP.nil) Tryz.func249 (by kernel_rfl) (by kernel_rfl) (f249_eq D n)

def s251 (D : Dyn) (n : Nat) : Tb := ⟨X, [(249, f249 D n), (135, f135 D n)]⟩
/-- (*jetty/node.reader).kid -/
def f251 (D : Dyn) (n : Nat) (vs : List AV) (H : AH) : Option (AV × AH) :=
  outR (hd vs fun x0 vs => nl vs <|
  bR (f249 D n [x0, (.int .i64 (.ofNat 16))] H) fun x6 H => 
  bV (pNil x0) fun x8 => 
  bV (fAd 1 x8) fun x9 => 
  bV (ld1p x9 H) fun x10 => 
  cnd x10 (some (.ret (.tuple []), H))
  (bR (f135 D n [x6] H) fun x13 H => 
  bV (pExtract x13 0) fun x14 => 
  bV (pExtract x13 1) fun x15 => 
  bA (bxV 52 (.agg [(.int .i64 (.ofNat 0)), (.int .i64 (.ofNat 0)), (.int .u64 (.ofNat 0))])) H fun x3 H => 
  bR (stNp 3 x3 x14 H) fun x9999 H => 
  bV (bInt .neq x15 (.int .i64 (.ofNat 0))) fun x17 => 
  cnd x17 (bV (pNil x0) fun x19 => 
  bV (fAd 1 x19) fun x20 => 
  bR (stNp 1 x20 (.bool true) H) fun x9999_2 H => 
  some (.ret (.tuple []), H))
  (bV (pNil x0) fun x23 => 
  bV (fAd 2 x23) fun x24 => 
  bV (fAd 3 x24) fun x25 => 
  bV (ld1p x25 H) fun x26 => 
  bV (ldNp 3 x3 H) fun x27 => 
  bA (bldLp 52 3 1 [(.int .i64 (.ofNat 0)), (.int .i64 (.ofNat 0)), (.int .u64 (.ofNat 0))] [(0, x27)]) H fun x28 H => 
  bR (apPp 52 3 24 x26 x28 H) fun x29 H => 
  bV (pNil x0) fun x30 => 
  bV (fAd 2 x30) fun x31 => 
  bV (fAd 3 x31) fun x32 => 
  bR (stNp 1 x32 x29 H) fun x9999_3 H => 
  some (.ret (.tuple []), H))))
def h251 : Hint := (.s .o (.s (.s .o (.cl .o .o)) (.s .o (.s (.s .o (.cl (.s .o .o) .o)) .o))))
theorem f251_eq (D : Dyn) (n : Nat) : f251 D n = funKp (s251 D n) D n 251 Tryz.f251 h251 := by kernel_rfl
theorem f251_ok {D : Dyn} (hD : DP D) (n : Nat) : FP 251 (f251 D n) := fun_okP X_ok hD (SP.cons (f249_ok hD n) (SP.cons (f135_ok hD n) (SP.nil))) Tryz.func251 (by kernel_rfl) (by kernel_rfl) (f251_eq D n)

def s191 (D : Dyn) (n : Nat) : Tb := ⟨X, []⟩
/-- jetty/node.mayKey -/
def f191 (D : Dyn) (n : Nat) (vs : List AV) (H : AH) : Option (AV × AH) :=
  outR (hd vs fun x0 vs => nl vs <|
  bV (lnStr x0) fun x4 => 
  bV (bInt .geq x4 (.int .i64 (.ofNat 1))) fun x5 => 
  jn (wnt x5 true (bV (lnStr x0) fun x8 => 
  bV (bInt .leq x8 (.int .i64 (.ofNat 40))) fun x9 => 
  some (.norm [x9], H)) (some (.norm [undefA], H))) fun vs H => hd vs fun x9_2 vs => 
  bV (pk3 (some x5) (some x9_2) (some (.bool false))) fun x10 => 
  bV (some x10) fun x2 => some (.ret x2, H))
def h191 : Hint := (.s .o (.s .o .o))
theorem f191_eq (D : Dyn) (n : Nat) : f191 D n = funKp (s191 D n) D n 191 Tryz.f191 h191 := by kernel_rfl
theorem f191_ok {D : Dyn} (hD : DP D) (n : Nat) : FP 191 (f191 D n) := fun_okP X_ok hD (SP.nil) Tryz.func191 (by kernel_rfl) (by kernel_rfl) (f191_eq D n)

def s190 (D : Dyn) (n : Nat) : Tb := ⟨X, [(191, f191 D n)]⟩
def f190l0 (D : Dyn) (n : Nat) (vs : List AV) (H : AH) : Rs :=
  hd vs fun x1_2 vs => hd vs fun x10_2 vs => hd vs fun x11_2 vs => hd vs fun x12 vs => 
  bV (bInt .lss x12 x11_2) fun x13 => 
  cnd x13 (bV (ixSl 1 x10_2 x12) fun x15 => 
  bV (ld1p x15 H) fun x16 => 
  bR (f191 D n [x16] H) fun x18 H => 
  bV (aun .not x18) fun x19 => 
  jn (wnt x19 false (bV (bInt .gtr x12 (.int .i64 (.ofNat 0))) fun x22 => 
  some (.norm [x22], H)) (some (.norm [undefA], H))) fun vs H => hd vs fun x23 vs => 
  jn (wnt x23 true (bV (fAd 1 x1_2) fun x24 => 
  bV (ld1p x24 H) fun x25 => 
  bV (bInt .sub x12 (.int .i64 (.ofNat 1))) fun x27 => 
  bV (ixSl 1 x25 x27) fun x28 => 
  bV (ld1p x28 H) fun x29 => 
  bV (bStr .geq x29 x16) fun x31 => 
  some (.norm [x31], H)) (some (.norm [undefA], H))) fun vs H => hd vs fun x31_2 vs => 
  jn (wnt x19 false (bV (pk3 (some x23) (some x31_2) (some (.bool false))) fun x32 => 
  some (.norm [x32], H)) (some (.norm [undefA], H))) fun vs H => hd vs fun x32_2 vs => 
  bV (pk3 (some x19) (some (.bool true)) (some x32_2)) fun x33 => 
  cnd x33 (bV (some (.bool false)) fun x2 => some (.ret x2, H))
  (bV (bInt .add x12 (.int .i64 (.ofNat 1))) fun x34 => 
  some (.norm [x1_2, x10_2, x11_2, x34], H)))
  (some (.exit 0 [x1_2], H))
def f190l1 (D : Dyn) (n : Nat) (vs : List AV) (H : AH) : Rs :=
  hd vs fun x51_2 vs => hd vs fun x52_2 vs => hd vs fun x53 vs => 
  bV (bInt .lss x53 x52_2) fun x54 => 
  cnd x54 (bV (ixSl 1 x51_2 x53) fun x55 => 
  bV (ld1p x55 H) fun x56 => 
  bV (lnStr x56) fun x58 => 
  bV (bInt .gtr x58 (.int .i64 (.ofNat 200))) fun x59 => 
  cnd x59 (bV (some (.bool false)) fun x2_3 => some (.ret x2_3, H))
  (bV (bInt .add x53 (.int .i64 (.ofNat 1))) fun x60 => 
  some (.norm [x51_2, x52_2, x60], H)))
  (some (.exit 2 [], H))
def f190b2 (D : Dyn) (n : Nat) (vs : List AV) (H : AH) : Rs :=
  
  bV (some (.bool true)) fun x2_4 => some (.ret x2_4, H)
def f190l3 (D : Dyn) (n : Nat) (vs : List AV) (H : AH) : Rs :=
  hd vs fun x82_2 vs => hd vs fun x83_2 vs => hd vs fun x84 vs => 
  bV (bInt .lss x84 x83_2) fun x85 => 
  cnd x85 (bV (ixSl 3 x82_2 x84) fun x86 => 
  bV (ldNp 3 x86 H) fun x87 => 
  bA (bxV 52 (.agg [(.int .i64 (.ofNat 0)), (.int .i64 (.ofNat 0)), (.int .u64 (.ofNat 0))])) H fun x8 H => 
  bR (stNp 3 x8 x87 H) fun x9999 H => 
  bV (fAd 0 x8) fun x88 => 
  bV (ld1p x88 H) fun x89 => 
  bV (bInt .lss x89 (.int .i64 (.ofNat 1))) fun x90 => 
  jn (wnt x90 false (bV (fAd 0 x8) fun x92 => 
  bV (ld1p x92 H) fun x93 => 
  bV (bInt .geq x93 (.int .i64 (.ofNat 8192))) fun x94 => 
  some (.norm [x94], H)) (some (.norm [undefA], H))) fun vs H => hd vs fun x94_2 vs => 
  bV (pk3 (some x90) (some (.bool true)) (some x94_2)) fun x95 => 
  jn (wnt x95 false (bV (fAd 1 x8) fun x97 => 
  bV (ld1p x97 H) fun x98 => 
  bV (bInt .lss x98 (.int .i64 (.ofNat 0))) fun x99 => 
  some (.norm [x99], H)) (some (.norm [undefA], H))) fun vs H => hd vs fun x99_2 vs => 
  bV (pk3 (some x95) (some (.bool true)) (some x99_2)) fun x100 => 
  jn (wnt x100 false (bV (fAd 1 x8) fun x102 => 
  bV (ld1p x102 H) fun x103 => 
  bV (bInt .gtr x103 (.int .i64 (.ofNat 2147483647))) fun x104 => 
  some (.norm [x104], H)) (some (.norm [undefA], H))) fun vs H => hd vs fun x104_2 vs => 
  bV (pk3 (some x100) (some (.bool true)) (some x104_2)) fun x105 => 
  cnd x105 (bV (some (.bool false)) fun x2_6 => some (.ret x2_6, H))
  (bV (bInt .add x84 (.int .i64 (.ofNat 1))) fun x106 => 
  some (.norm [x82_2, x83_2, x106], H)))
  (some (.exit 4 [], H))
def f190b4 (D : Dyn) (n : Nat) (vs : List AV) (H : AH) : Rs :=
  
  bV (some (.bool true)) fun x2_7 => some (.ret x2_7, H)
def f190b5 (D : Dyn) (n : Nat) (vs : List AV) (H : AH) : Rs :=
  hd vs fun x1_3 vs => 
  bV (fAd 0 x1_3) fun x35 => 
  bV (ld1p x35 H) fun x36 => 
  cnd x36 (bV (fAd 2 x1_3) fun x37 => 
  bV (ld1p x37 H) fun x38 => 
  bV (lnSl x38) fun x39 => 
  bV (fAd 1 x1_3) fun x40 => 
  bV (ld1p x40 H) fun x41 => 
  bV (lnSl x41) fun x42 => 
  bV (bInt .neq x39 x42) fun x43 => 
  jn (wnt x43 false (bV (fAd 3 x1_3) fun x45 => 
  bV (ld1p x45 H) fun x46 => 
  bV (lnSl x46) fun x47 => 
  bV (bInt .neq x47 (.int .i64 (.ofNat 0))) fun x48 => 
  some (.norm [x48], H)) (some (.norm [undefA], H))) fun vs H => hd vs fun x48_2 vs => 
  bV (pk3 (some x43) (some (.bool true)) (some x48_2)) fun x49 => 
  cnd x49 (bV (some (.bool false)) fun x2_2 => some (.ret x2_2, H))
  (bV (fAd 2 x1_3) fun x50 => 
  bV (ld1p x50 H) fun x51 => 
  bV (lnSl x51) fun x52 => 
  jb 2 (loopK n (f190l1 D n) [x51, x52, (.int .i64 (.ofNat 0))] H) (f190b2 D n)))
  (bV (fAd 1 x1_3) fun x61 => 
  bV (ld1p x61 H) fun x62 => 
  bV (lnSl x62) fun x63 => 
  bV (bInt .eql x63 (.int .i64 (.ofNat 0))) fun x64 => 
  jn (wnt x64 false (bV (fAd 2 x1_3) fun x66 => 
  bV (ld1p x66 H) fun x67 => 
  bV (lnSl x67) fun x68 => 
  bV (bInt .neq x68 (.int .i64 (.ofNat 0))) fun x69 => 
  some (.norm [x69], H)) (some (.norm [undefA], H))) fun vs H => hd vs fun x69_2 vs => 
  bV (pk3 (some x64) (some (.bool true)) (some x69_2)) fun x70 => 
  jn (wnt x70 false (bV (fAd 3 x1_3) fun x72 => 
  bV (ld1p x72 H) fun x73 => 
  bV (lnSl x73) fun x74 => 
  bV (fAd 1 x1_3) fun x75 => 
  bV (ld1p x75 H) fun x76 => 
  bV (lnSl x76) fun x77 => 
  bV (bInt .add x77 (.int .i64 (.ofNat 1))) fun x78 => 
  bV (bInt .neq x74 x78) fun x79 => 
  some (.norm [x79], H)) (some (.norm [undefA], H))) fun vs H => hd vs fun x79_2 vs => 
  bV (pk3 (some x70) (some (.bool true)) (some x79_2)) fun x80 => 
  cnd x80 (bV (some (.bool false)) fun x2_5 => some (.ret x2_5, H))
  (bV (fAd 3 x1_3) fun x81 => 
  bV (ld1p x81 H) fun x82 => 
  bV (lnSl x82) fun x83 => 
  jb 4 (loopK n (f190l3 D n) [x82, x83, (.int .i64 (.ofNat 0))] H) (f190b4 D n)))
/-- jetty/node.shaped -/
def f190 (D : Dyn) (n : Nat) (vs : List AV) (H : AH) : Option (AV × AH) :=
  outR (hd vs fun x0 vs => nl vs <|
  bA (bxV 57 x0) H fun x1 H => 
  bV (fAd 1 x1) fun x9 => 
  bV (ld1p x9 H) fun x10 => 
  bV (lnSl x10) fun x11 => 
  jb 0 (loopK n (f190l0 D n) [x1, x10, x11, (.int .i64 (.ofNat 0))] H) (f190b5 D n))
def h190 : Hint := (.s .o (.s (.s .o (.b [1] (.l [1, 10, 11, 12] (.s .o (.s (.cr .o .o) (.s (.b0 (.s .o (.s .o (.cl (.s .o .o) .o)))) .o)))))) (.s (.s .o (.cl (.s (.s .o (.cl (.s .o .o) .o)) (.s (.s .o (.b [] (.l [51, 52, 53] (.s .o (.s (.cr .o .o) (.s (.b0 (.s .o (.s .o (.cl (.s .o .o) .o)))) .o)))))) (.s .o .o))) .o)) (.s (.s .o (.cl (.s .o .o) .o)) (.s (.s .o (.b [] (.l [82, 83, 84] (.s .o (.s (.cr .o .o) (.s (.b0 (.s .o (.s .o (.cl (.s .o .o) .o)))) .o)))))) (.s .o .o))))))
theorem f190_eq (D : Dyn) (n : Nat) : f190 D n = funKp (s190 D n) D n 190 Tryz.f190 h190 := by kernel_rfl
theorem f190_ok {D : Dyn} (hD : DP D) (n : Nat) : FP 190 (f190 D n) := fun_okP X_ok hD (SP.cons (f191_ok hD n) (SP.nil)) Tryz.func190 (by kernel_rfl) (by kernel_rfl) (f190_eq D n)

def s254 (D : Dyn) (n : Nat) : Tb := ⟨X, []⟩
def f254l0 (D : Dyn) (n : Nat) (vs : List AV) (H : AH) : Rs :=
  hd vs fun x1_2 vs => hd vs fun x3 vs => hd vs fun x14_2 vs => hd vs fun x15_2 vs => hd vs fun x16 vs => 
  bV (bInt .lss x16 x15_2) fun x17 => 
  cnd x17 (bV (ixSl 1 x14_2 x16) fun x18 => 
  bV (ld1p x18 H) fun x19 => 
  bV (lnStr x19) fun x22 => 
  bV (bInt .add (.int .i64 (.ofNat 1)) x22) fun x23 => 
  bV (bInt .add x3 x23) fun x24 => 
  bV (bInt .add x16 (.int .i64 (.ofNat 1))) fun x25 => 
  some (.norm [x1_2, x24, x14_2, x15_2, x25], H))
  (some (.exit 0 [x1_2, x3], H))
def f254l1 (D : Dyn) (n : Nat) (vs : List AV) (H : AH) : Rs :=
  hd vs fun x3_3 vs => hd vs fun x27_2 vs => hd vs fun x28_2 vs => hd vs fun x29 vs => 
  bV (bInt .lss x29 x28_2) fun x30 => 
  cnd x30 (bV (ixSl 1 x27_2 x29) fun x31 => 
  bV (ld1p x31 H) fun x32 => 
  bV (lnStr x32) fun x35 => 
  bV (bInt .add (.int .i64 (.ofNat 1)) x35) fun x36 => 
  bV (bInt .add x3_3 x36) fun x37 => 
  bV (bInt .add x29 (.int .i64 (.ofNat 1))) fun x38 => 
  some (.norm [x37, x27_2, x28_2, x38], H))
  (some (.exit 2 [x3_3], H))
def f254b2 (D : Dyn) (n : Nat) (vs : List AV) (H : AH) : Rs :=
  hd vs fun x3_4 vs => 
  bV (some x3_4) fun x2 => some (.ret x2, H)
def f254b3 (D : Dyn) (n : Nat) (vs : List AV) (H : AH) : Rs :=
  hd vs fun x1_3 vs => hd vs fun x3_2 vs => 
  bV (fAd 2 x1_3) fun x26 => 
  bV (ld1p x26 H) fun x27 => 
  bV (lnSl x27) fun x28 => 
  jb 2 (loopK n (f254l1 D n) [x3_2, x27, x28, (.int .i64 (.ofNat 0))] H) (f254b2 D n)
/-- jetty/node.Size -/
def f254 (D : Dyn) (n : Nat) (vs : List AV) (H : AH) : Option (AV × AH) :=
  outR (hd vs fun x0 vs => nl vs <|
  bA (bxV 57 x0) H fun x1 H => 
  bV (fAd 3 x1) fun x8 => 
  bV (ld1p x8 H) fun x9 => 
  bV (lnSl x9) fun x10 => 
  bV (bInt .mul (.int .i64 (.ofNat 16)) x10) fun x11 => 
  bV (bInt .add (.int .i64 (.ofNat 2)) x11) fun x12 => 
  bV (fAd 1 x1) fun x13 => 
  bV (ld1p x13 H) fun x14 => 
  bV (lnSl x14) fun x15 => 
  jb 0 (loopK n (f254l0 D n) [x1, x12, x14, x15, (.int .i64 (.ofNat 0))] H) (f254b3 D n))
def h254 : Hint := (.s .o (.s .o (.s (.s .o (.b [1, 3] (.l [1, 3, 14, 15, 16] (.s .o (.s (.cr .o .o) (.s (.b0 (.s .o .o)) .o)))))) (.s (.s .o (.b [3] (.l [3, 27, 28, 29] (.s .o (.s (.cr .o .o) (.s (.b0 (.s .o .o)) .o)))))) (.s .o .o)))))
theorem f254_eq (D : Dyn) (n : Nat) : f254 D n = funKp (s254 D n) D n 254 Tryz.f254 h254 := by kernel_rfl
theorem f254_ok {D : Dyn} (hD : DP D) (n : Nat) : FP 254 (f254 D n) := fun_okP X_ok hD (SP.nil) Tryz.func254 (by kernel_rfl) (by kernel_rfl) (f254_eq D n)

def s253 (D : Dyn) (n : Nat) : Tb := ⟨X, [(190, f190 D n), (254, f254 D n)]⟩
/-- jetty/node.May -/
def f253 (D : Dyn) (n : Nat) (vs : List AV) (H : AH) : Option (AV × AH) :=
  outR (hd vs fun x0 vs => nl vs <|
  bA (bxV 57 x0) H fun x1 H => 
  bV (ldNp 4 x1 H) fun x3 => 
  bR (f190 D n [x3] H) fun x4 H => 
  jn (wnt x4 true (bV (ldNp 4 x1 H) fun x6 => 
  bR (f254 D n [x6] H) fun x7 H => 
  bV (bInt .leq x7 (.int .i64 (.ofNat 500))) fun x8 => 
  some (.norm [x8], H)) (some (.norm [undefA], H))) fun vs H => hd vs fun x8_2 vs => 
  bV (pk3 (some x4) (some x8_2) (some (.bool false))) fun x9 => 
  bV (some x9) fun x2 => some (.ret x2, H))
def h253 : Hint := (.s .o (.s .o .o))
theorem f253_eq (D : Dyn) (n : Nat) : f253 D n = funKp (s253 D n) D n 253 Tryz.f253 h253 := by kernel_rfl
theorem f253_ok {D : Dyn} (hD : DP D) (n : Nat) : FP 253 (f253 D n) := fun_okP X_ok hD (SP.cons (f190_ok hD n) (SP.cons (f254_ok hD n) (SP.nil))) Tryz.func253 (by kernel_rfl) (by kernel_rfl) (f253_eq D n)

def s283 (D : Dyn) (n : Nat) : Tb := ⟨X, [(249, f249 D n)]⟩
/-- (*jetty/node.reader).text -/
def f283 (D : Dyn) (n : Nat) (vs : List AV) (H : AH) : Option (AV × AH) :=
  outR (hd vs fun x0 vs => nl vs <|
  bR (f249 D n [x0, (.int .i64 (.ofNat 1))] H) fun x5 H => 
  bV (pNil x0) fun x7 => 
  bV (fAd 1 x7) fun x8 => 
  bV (ld1p x8 H) fun x9 => 
  cnd x9 (bV (some (.str 0 0)) fun x2 => some (.ret x2, H))
  (bV (ixStr x5 (.int .i64 (.ofNat 0))) fun x12 => 
  bV (cvI .i64 x12) fun x13 => 
  bR (f249 D n [x0, x13] H) fun x14 H => 
  bV (some x14) fun x2_2 => some (.ret x2_2, H)))
def h283 : Hint := (.s .o (.s .o (.s (.s .o (.cl (.s .o .o) .o)) (.s .o .o))))
theorem f283_eq (D : Dyn) (n : Nat) : f283 D n = funKp (s283 D n) D n 283 Tryz.f283 h283 := by kernel_rfl
theorem f283_ok {D : Dyn} (hD : DP D) (n : Nat) : FP 283 (f283 D n) := fun_okP X_ok hD (SP.cons (f249_ok hD n) (SP.nil)) Tryz.func283 (by kernel_rfl) (by kernel_rfl) (f283_eq D n)

def s250 (D : Dyn) (n : Nat) : Tb := ⟨X, [(283, f283 D n)]⟩
/-- (*jetty/node.reader).key -/
def f250 (D : Dyn) (n : Nat) (vs : List AV) (H : AH) : Option (AV × AH) :=
  outR (hd vs fun x0 vs => nl vs <|
  bV (pNil x0) fun x4 => 
  bV (fAd 2 x4) fun x5 => 
  bV (fAd 1 x5) fun x6 => 
  bV (ld1p x6 H) fun x7 => 
  bR (f283 D n [x0] H) fun x9 H => chk (ld1p x6 H) x7 <| 
  bA (bldLp 9 1 1 [(.str 0 0)] [(0, x9)]) H fun x10 H => 
  bR (apPp 9 1 16 x7 x10 H) fun x11 H => 
  bV (pNil x0) fun x12 => 
  bV (fAd 2 x12) fun x13 => 
  bV (fAd 1 x13) fun x14 => 
  bR (stNp 1 x14 x11 H) fun x9999 H => 
  some (.ret (.tuple []), H))
def h250 : Hint := .o
theorem f250_eq (D : Dyn) (n : Nat) : f250 D n = funKp (s250 D n) D n 250 Tryz.f250 h250 := by kernel_rfl
theorem f250_ok {D : Dyn} (hD : DP D) (n : Nat) : FP 250 (f250 D n) := fun_okP X_ok hD (SP.cons (f283_ok hD n) (SP.nil)) Tryz.func250 (by kernel_rfl) (by kernel_rfl) (f250_eq D n)

def s252 (D : Dyn) (n : Nat) : Tb := ⟨X, [(283, f283 D n)]⟩
/-- (*jetty/node.reader).value -/
def f252 (D : Dyn) (n : Nat) (vs : List AV) (H : AH) : Option (AV × AH) :=
  outR (hd vs fun x0 vs => nl vs <|
  bV (pNil x0) fun x4 => 
  bV (fAd 2 x4) fun x5 => 
  bV (fAd 2 x5) fun x6 => 
  bV (ld1p x6 H) fun x7 => 
  bR (f283 D n [x0] H) fun x9 H => chk (ld1p x6 H) x7 <| 
  bA (bldLp 9 1 1 [(.str 0 0)] [(0, x9)]) H fun x10 H => 
  bR (apPp 9 1 16 x7 x10 H) fun x11 H => 
  bV (pNil x0) fun x12 => 
  bV (fAd 2 x12) fun x13 => 
  bV (fAd 2 x13) fun x14 => 
  bR (stNp 1 x14 x11 H) fun x9999 H => 
  some (.ret (.tuple []), H))
def h252 : Hint := .o
theorem f252_eq (D : Dyn) (n : Nat) : f252 D n = funKp (s252 D n) D n 252 Tryz.f252 h252 := by kernel_rfl
theorem f252_ok {D : Dyn} (hD : DP D) (n : Nat) : FP 252 (f252 D n) := fun_okP X_ok hD (SP.cons (f283_ok hD n) (SP.nil)) Tryz.func252 (by kernel_rfl) (by kernel_rfl) (f252_eq D n)

def s182 (D : Dyn) (n : Nat) : Tb := ⟨X, [(249, f249 D n), (251, f251 D n), (253, f253 D n)]⟩
def f182l0 (D : Dyn) (n : Nat) (vs : List AV) (H : AH) : Rs :=
  hd vs fun x4_4 vs => hd vs fun x6_3 vs => hd vs fun x8_3 vs => hd vs fun x47_3 vs => hd vs fun x48_2 vs => hd vs fun x50 vs => hd vs fun x51_2 vs => hd vs fun x52 vs => 
  bV (bInt .lss x52 x51_2) fun x53 => 
  cnd x53 (bV (ixSl 1 x50 x52) fun x54 => 
  bV (ld1p x54 H) fun x55 => 
  bR (callV (s182 D n).S D x55 [] H) fun x57 H => 
  bV (bInt .add x52 (.int .i64 (.ofNat 1))) fun x58 => 
  some (.norm [x4_4, x6_3, x8_3, x47_3, x48_2, x50, x51_2, x58], H))
  (some (.exit 2 [x4_4, x6_3, x8_3, x47_3, x48_2], H))
def f182b1 (D : Dyn) (n : Nat) (vs : List AV) (H : AH) : Rs :=
  hd vs fun x4_5 vs => hd vs fun x6_4 vs => hd vs fun x8_4 vs => hd vs fun x47_4 vs => hd vs fun x48_3 vs => 
  bV (pNil x6_4) fun x60 => 
  bV (fAd 1 x60) fun x61 => 
  bV (ld1p x61 H) fun x62 => 
  cnd x62 (some (.exit 0 [x4_5, x6_4], H))
  (bV (bInt .add x48_3 (.int .i64 (.ofNat 1))) fun x63 => 
  some (.norm [x4_5, x6_4, x8_4, x47_4, x63], H))
def f182l2 (D : Dyn) (n : Nat) (vs : List AV) (H : AH) : Rs :=
  hd vs fun x4_3 vs => hd vs fun x6_2 vs => hd vs fun x8_2 vs => hd vs fun x47_2 vs => hd vs fun x48 vs => 
  bV (bInt .lss x48 x47_2) fun x49 => 
  cnd x49 (bV (lnSl x8_2) fun x51 => 
  jb 2 (loopK n (f182l0 D n) [x4_3, x6_2, x8_2, x47_2, x48, x8_2, x51, (.int .i64 (.ofNat 0))] H) (f182b1 D n))
  (some (.exit 0 [x4_3, x6_2], H))
def f182b3 (D : Dyn) (n : Nat) (vs : List AV) (H : AH) : Rs :=
  hd vs fun x4_6 vs => hd vs fun x6_5 vs => 
  bV (pNil x6_5) fun x65 => 
  bV (fAd 1 x65) fun x66 => 
  bV (ld1p x66 H) fun x67 => 
  jn (wnt x67 false (bV (pNil x6_5) fun x70 => 
  bV (fAd 0 x70) fun x71 => 
  bV (ld1p x71 H) fun x72 => 
  bV (bStr .neq x72 (.str 0 0)) fun x73 => 
  some (.norm [x73], H)) (some (.norm [undefA], H))) fun vs H => hd vs fun x73_2 vs => 
  bV (pk3 (some x67) (some (.bool true)) (some x73_2)) fun x74 => 
  jn (wnt x74 false (bV (pNil x6_5) fun x77 => 
  bV (fAd 2 x77) fun x78 => 
  bV (ldNp 4 x78 H) fun x79 => 
  bR (f253 D n [x79] H) fun x80 H => 
  bV (aun .not x80) fun x81 => 
  some (.norm [x81], H)) (some (.norm [undefA], H))) fun vs H => hd vs fun x81_2 vs => 
  bV (pk3 (some x74) (some (.bool true)) (some x81_2)) fun x82 => 
  cnd x82 (bV (bldSp [(0, 1), (1, 1), (2, 1), (3, 1)] [(.bool false), .nilSlice, .nilSlice, .nilSlice] []) fun x83 => 
  bR (stNp 4 x4_6 x83 H) fun x9999_3 H => 
  bV (ldNp 4 x4_6 H) fun x9004_3 => bV (some (.int .i64 (.ofNat 4))) fun x5_3 => some (.ret (.tuple [x9004_3, x5_3]), H))
  (bV (pNil x6_5) fun x85 => 
  bV (fAd 2 x85) fun x86 => 
  bV (ldNp 4 x86 H) fun x87 => 
  bR (stNp 4 x4_6 x87 H) fun x9999_4 H => 
  bV (ldNp 4 x4_6 H) fun x9004_4 => bV (some (.int .i64 (.ofNat 0))) fun x5_4 => some (.ret (.tuple [x9004_4, x5_4]), H))
def f182j4 (D : Dyn) (n : Nat) (vs : List AV) (H : AH) : Rs :=
  hd vs fun x4_2 vs => hd vs fun x6 vs => hd vs fun x7 vs => hd vs fun x8 vs => 
  bV (ixStr x7 (.int .i64 (.ofNat 0))) fun x41 => 
  bV (cvI .i64 x41) fun x42 => 
  bV (bInt .shl x42 (.int .u64 (.ofNat 8))) fun x43 => 
  bV (ixStr x7 (.int .i64 (.ofNat 1))) fun x45 => 
  bV (cvI .i64 x45) fun x46 => 
  bV (bInt .or x43 x46) fun x47 => 
  jb 0 (loopK n (f182l2 D n) [x4_2, x6, x8, x47, (.int .i64 (.ofNat 0))] H) (f182b3 D n)
/-- jetty/node.Decode -/
def f182 (D : Dyn) (n : Nat) (vs : List AV) (H : AH) : Option (AV × AH) :=
  outR (hd vs fun x0 vs => hd vs fun x1 vs => nl vs <|
  bA (bxV 57 (.agg [(.bool false), .nilSlice, .nilSlice, .nilSlice])) H fun x4 H => 
  bV (lnStr x1) fun x12 => 
  bV (bInt .gtr x12 (.int .i64 (.ofNat 500))) fun x13 => 
  cnd x13 (bV (bldSp [(0, 1), (1, 1), (2, 1), (3, 1)] [(.bool false), .nilSlice, .nilSlice, .nilSlice] []) fun x14 => 
  bR (stNp 4 x4 x14 H) fun x9999 H => 
  bV (ldNp 4 x4 H) fun x9004 => bV (some (.int .i64 (.ofNat 4))) fun x5 => some (.ret (.tuple [x9004, x5]), H))
  (bV (bldSp [(0, 1), (1, 1), (2, 1), (3, 1)] [(.bool false), .nilSlice, .nilSlice, .nilSlice] [(0, x0)]) fun x17 => 
  bV (bldSp [(0, 1), (1, 1), (2, 4)] [(.str 0 0), (.bool false), (.bool false), .nilSlice, .nilSlice, .nilSlice] [(0, x1), (2, x17)]) fun x18 => 
  bA (bxV 336 x18) H fun x19 H => 
  bR (f249 D n [x19, (.int .i64 (.ofNat 2))] H) fun x21 H => 
  bV (pNil x19) fun x23 => 
  bV (fAd 1 x23) fun x24 => 
  bV (ld1p x24 H) fun x25 => 
  cnd x25 (bV (bldSp [(0, 1), (1, 1), (2, 1), (3, 1)] [(.bool false), .nilSlice, .nilSlice, .nilSlice] []) fun x26 => 
  bR (stNp 4 x4 x26 H) fun x9999_2 H => 
  bV (ldNp 4 x4 H) fun x9004_2 => bV (some (.int .i64 (.ofNat 4))) fun x5_2 => some (.ret (.tuple [x9004_2, x5_2]), H))
  (bA (bldLp 1 1 2 [.nilFunc] [(0, (.func 250 [x19] [])), (1, (.func 251 [x19] []))]) H fun x31 H => 
  jn (cnd x0 (bA (bldLp 1 1 2 [.nilFunc] [(0, (.func 250 [x19] [])), (1, (.func 252 [x19] []))]) H fun x37 H => 
  some (.norm [x4, x19, x21, x37], H))
  (bR (f251 D n [x19] H) fun x39 H => 
  some (.norm [x4, x19, x21, x31], H))) (f182j4 D n))))
def h182 : Hint := (.s .o (.s (.s .o (.cl (.s .o .o) .o)) (.s .o (.s .o (.s (.s .o (.cl (.s .o .o) .o)) (.s .o (.s (.s .o (.c [4, 6, 7, 8] .o .o)) (.s (.s .o (.b [4, 6] (.l [4, 6, 8, 47, 48] (.s .o (.s (.cr .o .o) (.s (.b0 (.s (.s .o (.b [4, 6, 8, 47, 48] (.l [4, 6, 8, 47, 48, 50, 51, 52] (.s .o (.s (.cr .o .o) (.s (.b0 (.s .o .o)) .o)))))) (.s .o (.cl .o .o)))) .o)))))) (.s (.s .o (.cl (.s .o .o) .o)) (.s .o .o))))))))))
theorem f182_eq (D : Dyn) (n : Nat) : f182 D n = funKp (s182 D n) D n 182 Tryz.f182 h182 := by kernel_rfl
theorem f182_ok {D : Dyn} (hD : DP D) (n : Nat) : FP 182 (f182 D n) := fun_okP X_ok hD (SP.cons (f249_ok hD n) (SP.cons (f251_ok hD n) (SP.cons (f253_ok hD n) (SP.nil)))) Tryz.func182 (by kernel_rfl) (by kernel_rfl) (f182_eq D n)

def s90 (D : Dyn) (n : Nat) : Tb := ⟨X, [(181, f181 D n), (182, f182 D n)]⟩
/-- (*jetty/tree.Tree).read -/
def f90 (D : Dyn) (n : Nat) (vs : List AV) (H : AH) : Option (AV × AH) :=
  outR (hd vs fun x0 vs => hd vs fun x1 vs => nl vs <|
  bA (bxV 52 x1) H fun x3 H => 
  bA (bxV 57 (.agg [(.bool false), .nilSlice, .nilSlice, .nilSlice])) H fun x4 H => 
  bV (fAd 0 x3) fun x11 => 
  bV (ld1p x11 H) fun x12 => 
  bV (bInt .eql x12 (.int .i64 (.ofNat 1))) fun x13 => 
  cnd x13 (bV (pNil x0) fun x16 => 
  bV (fAd 5 x16) fun x17 => 
  bV (ld1p x17 H) fun x18 => 
  bV (fAd 2 x3) fun x19 => 
  bV (ld1p x19 H) fun x20 => 
  bV (lkM [10] (.agg [(.bool false), .nilSlice, .nilSlice, .nilSlice]) true x18 x20 H) fun x21 => 
  bV (pExtract x21 0) fun x22 => 
  bV (pExtract x21 1) fun x23 => 
  bA (bxV 57 (.agg [(.bool false), .nilSlice, .nilSlice, .nilSlice])) H fun x6 H => 
  bR (stNp 4 x6 x22 H) fun x9999 H => 
  bV (aun .not x23) fun x25 => 
  jn (wnt x25 false (bV (fAd 1 x3) fun x27 => 
  bV (ld1p x27 H) fun x28 => 
  bV (bInt .neq x28 (.int .i64 (.ofNat 0))) fun x29 => 
  some (.norm [x29], H)) (some (.norm [undefA], H))) fun vs H => hd vs fun x29_2 vs => 
  bV (pk3 (some x25) (some (.bool true)) (some x29_2)) fun x30 => 
  cnd x30 (bV (bldSp [(0, 1), (1, 1), (2, 1), (3, 1)] [(.bool false), .nilSlice, .nilSlice, .nilSlice] []) fun x31 => 
  bR (stNp 4 x4 x31 H) fun x9999_2 H => 
  bV (ldNp 4 x4 H) fun x9004 => bV (some (.int .i64 (.ofNat 1))) fun x5 => some (.ret (.tuple [x9004, x5]), H))
  (bV (ldNp 4 x6 H) fun x32 => 
  bR (stNp 4 x4 x32 H) fun x9999_3 H => 
  bV (ldNp 4 x4 H) fun x9004_2 => bV (some (.int .i64 (.ofNat 0))) fun x5_2 => some (.ret (.tuple [x9004_2, x5_2]), H)))
  (bV (ldNp 3 x3 H) fun x35 => 
  bR (f181 D n [x0, x35] H) fun x36 H => 
  bV (pExtract x36 0) fun x37 => 
  bV (pExtract x36 1) fun x38 => 
  bV (pExtract x36 2) fun x39 => 
  bV (bInt .neq x39 (.int .i64 (.ofNat 0))) fun x41 => 
  cnd x41 (bV (bldSp [(0, 1), (1, 1), (2, 1), (3, 1)] [(.bool false), .nilSlice, .nilSlice, .nilSlice] []) fun x42 => 
  bR (stNp 4 x4 x42 H) fun x9999_4 H => 
  bV (ldNp 4 x4 H) fun x9004_3 => bV (some x39) fun x5_3 => some (.ret (.tuple [x9004_3, x5_3]), H))
  (bV (bInt .neq x37 (.int .u8 (.ofNat 1))) fun x45 => 
  jn (wnt x45 true (bV (bInt .neq x37 (.int .u8 (.ofNat 2))) fun x48 => 
  some (.norm [x48], H)) (some (.norm [undefA], H))) fun vs H => hd vs fun x48_2 vs => 
  bV (pk3 (some x45) (some x48_2) (some (.bool false))) fun x49 => 
  cnd x49 (bV (bldSp [(0, 1), (1, 1), (2, 1), (3, 1)] [(.bool false), .nilSlice, .nilSlice, .nilSlice] []) fun x50 => 
  bR (stNp 4 x4 x50 H) fun x9999_5 H => 
  bV (ldNp 4 x4 H) fun x9004_4 => bV (some (.int .i64 (.ofNat 4))) fun x5_4 => some (.ret (.tuple [x9004_4, x5_4]), H))
  (bV (bInt .eql x37 (.int .u8 (.ofNat 1))) fun x52 => 
  bR (f182 D n [x52, x38] H) fun x54 H => 
  bV (pExtract x54 0) fun x55 => 
  bV (pExtract x54 1) fun x56 => 
  bR (stNp 4 x4 x55 H) fun x9999_6 H => 
  bV (ldNp 4 x4 H) fun x9004_5 => bV (some x56) fun x5_5 => some (.ret (.tuple [x9004_5, x5_5]), H)))))
def h90 : Hint := (.s .o (.s (.s .o (.cl (.s .o (.s (.s .o (.cl (.s .o .o) .o)) (.s .o .o))) .o)) (.s .o (.s (.s .o (.cl (.s .o .o) .o)) (.s (.s .o (.cl (.s .o .o) .o)) (.s .o .o))))))
theorem f90_eq (D : Dyn) (n : Nat) : f90 D n = funKp (s90 D n) D n 90 Tryz.f90 h90 := by kernel_rfl
theorem f90_ok {D : Dyn} (hD : DP D) (n : Nat) : FP 90 (f90 D n) := fun_okP X_ok hD (SP.cons (f181_ok hD n) (SP.cons (f182_ok hD n) (SP.nil))) Tryz.func90 (by kernel_rfl) (by kernel_rfl) (f90_eq D n)

def s103 (D : Dyn) (n : Nat) : Tb := ⟨X, []⟩
/-- slices.Clone[[]string,string] -/
def f103 (D : Dyn) (n : Nat) (vs : List AV) (H : AH) : Option (AV × AH) :=
  outR (hd vs fun x0 vs => nl vs <|
  bV (cmpO .eql (eqS x0 .nilSlice)) fun x4 => 
  cnd x4 (bV (some .nilSlice) fun x2 => some (.ret x2, H))
  (bA (bldLp 9 1 0 [(.str 0 0)] []) H fun x5 H => 
  bR (apPp 9 1 16 x5 x0 H) fun x7 H => 
  bV (some x7) fun x2_2 => some (.ret x2_2, H)))
def h103 : Hint := (.s .o (.s (.s .o (.cl (.s .o .o) .o)) (.s .o .o)))
theorem f103_eq (D : Dyn) (n : Nat) : f103 D n = funKp (s103 D n) D n 103 Tryz.f103 h103 := by kernel_rfl
theorem f103_ok {D : Dyn} (hD : DP D) (n : Nat) : FP 103 (f103 D n) := fun_okP X_ok hD (SP.nil) Tryz.func103 (by kernel_rfl) (by kernel_rfl) (f103_eq D n)

def s104 (D : Dyn) (n : Nat) : Tb := ⟨X, []⟩
/-- slices.Clone[[]jetty/api.Ptr,jetty/api.Ptr] -/
def f104 (D : Dyn) (n : Nat) (vs : List AV) (H : AH) : Option (AV × AH) :=
  outR (hd vs fun x0 vs => nl vs <|
  bV (cmpO .eql (eqS x0 .nilSlice)) fun x4 => 
  cnd x4 (bV (some .nilSlice) fun x2 => some (.ret x2, H))
  (bA (bldLp 52 3 0 [(.int .i64 (.ofNat 0)), (.int .i64 (.ofNat 0)), (.int .u64 (.ofNat 0))] []) H fun x5 H => 
  bR (apPp 52 3 24 x5 x0 H) fun x7 H => 
  bV (some x7) fun x2_2 => some (.ret x2_2, H)))
def h104 : Hint := (.s .o (.s (.s .o (.cl (.s .o .o) .o)) (.s .o .o)))
theorem f104_eq (D : Dyn) (n : Nat) : f104 D n = funKp (s104 D n) D n 104 Tryz.f104 h104 := by kernel_rfl
theorem f104_ok {D : Dyn} (hD : DP D) (n : Nat) : FP 104 (f104 D n) := fun_okP X_ok hD (SP.nil) Tryz.func104 (by kernel_rfl) (by kernel_rfl) (f104_eq D n)

def s25 (D : Dyn) (n : Nat) : Tb := ⟨X, [(88, f88 D n), (90, f90 D n), (103, f103 D n), (104, f104 D n)]⟩
/-- (*jetty/tree.Tree).Load -/
def f25 (D : Dyn) (n : Nat) (vs : List AV) (H : AH) : Option (AV × AH) :=
  outR (hd vs fun x0 vs => hd vs fun x1 vs => nl vs <|
  bA (bxV 52 x1) H fun x3 H => 
  bA (bxV 57 (.agg [(.bool false), .nilSlice, .nilSlice, .nilSlice])) H fun x4 H => 
  bR (f88 D n [x0] H) fun x9 H => 
  cnd x9 (bV (bldSp [(0, 1), (1, 1), (2, 1), (3, 1)] [(.bool false), .nilSlice, .nilSlice, .nilSlice] []) fun x10 => 
  bR (stNp 4 x4 x10 H) fun x9999 H => 
  bV (ldNp 4 x4 H) fun x9004 => bV (some (.int .i64 (.ofNat 2))) fun x5 => some (.ret (.tuple [x9004, x5]), H))
  (bV (fAd 0 x3) fun x11 => 
  bV (ld1p x11 H) fun x12 => 
  bV (bInt .eql x12 (.int .i64 (.ofNat 0))) fun x13 => 
  cnd x13 (bV (bldSp [(0, 1), (1, 1), (2, 1), (3, 1)] [(.bool false), .nilSlice, .nilSlice, .nilSlice] []) fun x14 => 
  bR (stNp 4 x4 x14 H) fun x9999_2 H => 
  bV (ldNp 4 x4 H) fun x9004_2 => bV (some (.int .i64 (.ofNat 1))) fun x5_2 => some (.ret (.tuple [x9004_2, x5_2]), H))
  (bV (ldNp 3 x3 H) fun x17 => 
  bR (f90 D n [x0, x17] H) fun x18 H => 
  bV (pExtract x18 0) fun x19 => 
  bV (pExtract x18 1) fun x20 => 
  bA (bxV 57 (.agg [(.bool false), .nilSlice, .nilSlice, .nilSlice])) H fun x6 H => 
  bR (stNp 4 x6 x19 H) fun x9999_3 H => 
  bV (bInt .neq x20 (.int .i64 (.ofNat 0))) fun x22 => 
  cnd x22 (bV (bldSp [(0, 1), (1, 1), (2, 1), (3, 1)] [(.bool false), .nilSlice, .nilSlice, .nilSlice] []) fun x23 => 
  bR (stNp 4 x4 x23 H) fun x9999_4 H => 
  bV (ldNp 4 x4 H) fun x9004_3 => bV (some x20) fun x5_3 => some (.ret (.tuple [x9004_3, x5_3]), H))
  (bV (fAd 0 x6) fun x25 => 
  bV (ld1p x25 H) fun x26 => 
  bV (fAd 1 x6) fun x27 => 
  bV (ld1p x27 H) fun x28 => 
  bV (fAd 2 x6) fun x30 => 
  bV (ld1p x30 H) fun x31 => 
  bV (fAd 3 x6) fun x33 => 
  bV (ld1p x33 H) fun x34 => 
  bR (f103 D n [x28] H) fun x29 H => chk (ld1p x25 H) x26 <| chk (ld1p x30 H) x31 <| chk (ld1p x33 H) x34 <| 
  bR (f103 D n [x31] H) fun x32 H => chk (ld1p x25 H) x26 <| chk (ld1p x33 H) x34 <| 
  bR (f104 D n [x34] H) fun x35 H => chk (ld1p x25 H) x26 <| 
  bV (bldSp [(0, 1), (1, 1), (2, 1), (3, 1)] [(.bool false), .nilSlice, .nilSlice, .nilSlice] [(0, x26), (1, x29), (2, x32), (3, x35)]) fun x36 => 
  bR (stNp 4 x4 x36 H) fun x9999_5 H => 
  bV (ldNp 4 x4 H) fun x9004_4 => bV (some (.int .i64 (.ofNat 0))) fun x5_4 => some (.ret (.tuple [x9004_4, x5_4]), H)))))
def h25 : Hint := (.s .o (.s (.s .o (.cl (.s .o .o) .o)) (.s (.s .o (.cl (.s .o .o) .o)) (.s .o (.s (.s .o (.cl (.s .o .o) .o)) (.s .o .o))))))
theorem f25_eq (D : Dyn) (n : Nat) : f25 D n = funKp (s25 D n) D n 25 Tryz.f25 h25 := by kernel_rfl
theorem f25_ok {D : Dyn} (hD : DP D) (n : Nat) : FP 25 (f25 D n) := fun_okP X_ok hD (SP.cons (f88_ok hD n) (SP.cons (f90_ok hD n) (SP.cons (f103_ok hD n) (SP.cons (f104_ok hD n) (SP.nil))))) Tryz.func25 (by kernel_rfl) (by kernel_rfl) (f25_eq D n)

def s277 (D : Dyn) (n : Nat) : Tb := ⟨X, [(25, f25 D n)]⟩
def f277l0 (D : Dyn) (n : Nat) (vs : List AV) (H : AH) : Rs :=
  hd vs fun x2_2 vs => hd vs fun x3_2 vs => hd vs fun x4_2 vs => hd vs fun x30_2 vs => hd vs fun x31_2 vs => hd vs fun x32 vs => 
  bV (bInt .lss x32 x31_2) fun x33 => 
  cnd x33 (bV (ixSl 3 x30_2 x32) fun x34 => 
  bV (ldNp 3 x34 H) fun x35 => 
  bA (bxV 52 (.agg [(.int .i64 (.ofNat 0)), (.int .i64 (.ofNat 0)), (.int .u64 (.ofNat 0))])) H fun x8 H => 
  bR (stNp 3 x8 x35 H) fun x9999_3 H => 
  bV (ld1p x2_2 H) fun x36 => 
  bV (ldNp 3 x8 H) fun x37 => 
  bV (ld1p x3_2 H) fun x38 => 
  bR (D.fn 220 [x36, x37, x38] H) fun x39 H => 
  newB H (.loop ⟨.ready, none, 277, 0, [4], [x4_2]⟩) fun A H => bR (rfC (s277 D n).S D x39 A H) fun _ H => endLp A H fun j H => jmpK j (
  bV (ld1p x3_2 H) fun x45 => 
  bV (pNil x45) fun x46 => 
  bV (ld1p x46 H) fun x47 => 
  bV (bInt .neq x47 (.int .i64 (.ofNat 0))) fun x48 => 
  cnd x48 (some (.ret (.tuple []), H))
  (bV (bInt .add x32 (.int .i64 (.ofNat 1))) fun x49 => 
  some (.norm [x2_2, x3_2, x4_2, x30_2, x31_2, x49], H)))
  (fun id => cond (Nat.beq 0 id) (some (.exit id [], H)) (none)) (some (.ret (.tuple []), H)))
  (some (.exit 0 [], H))
def f277b1 (D : Dyn) (n : Nat) (vs : List AV) (H : AH) : Rs :=
  
  some (.ret (.tuple []), H)
/-- jetty/txg.blocks$1 -/
def f277 (D : Dyn) (n : Nat) (vs : List AV) (H : AH) : Option (AV × AH) :=
  outR (hd vs fun x0 vs => hd vs fun x1 vs => hd vs fun x2 vs => hd vs fun x3 vs => nl vs <|
  bA (bxV 98 x0) H fun x4 H => 
  bV (fAd 0 x1) fun x10 => 
  bV (ld1p x10 H) fun x11 => 
  bV (bInt .eql x11 (.int .i64 (.ofNat 0))) fun x12 => 
  cnd x12 (some (.ret (.tuple []), H))
  (bV (ld1p x2 H) fun x14 => 
  bV (ldNp 3 x1 H) fun x15 => 
  bR (f25 D n [x14, x15] H) fun x16 H => 
  bV (pExtract x16 0) fun x17 => 
  bV (pExtract x16 1) fun x18 => 
  bA (bxV 57 (.agg [(.bool false), .nilSlice, .nilSlice, .nilSlice])) H fun x5 H => 
  bR (stNp 4 x5 x17 H) fun x9999 H => 
  bV (bInt .neq x18 (.int .i64 (.ofNat 0))) fun x20 => 
  cnd x20 (bV (ld1p x3 H) fun x21 => 
  bV (pNil x21) fun x23 => 
  bR (stNp 1 x23 x18 H) fun x9999_2 H => 
  some (.ret (.tuple []), H))
  (bV (ld1p x4 H) fun x24 => 
  bV (fAd 0 x1) fun x25 => 
  bV (ld1p x25 H) fun x26 => 
  bR (callV (s277 D n).S D x24 [x26] H) fun x27 H => 
  bV (aun .not x27) fun x28 => 
  cnd x28 (some (.ret (.tuple []), H))
  (bV (fAd 3 x5) fun x29 => 
  bV (ld1p x29 H) fun x30 => 
  bV (lnSl x30) fun x31 => 
  jb 0 (loopK n (f277l0 D n) [x2, x3, x4, x30, x31, (.int .i64 (.ofNat 0))] H) (f277b1 D n)))))
def h277 : Hint := (.s .o (.s (.s .o (.cl .o .o)) (.s .o (.s (.s .o (.cl (.s .o .o) .o)) (.s (.s .o (.cl .o .o)) (.s .o (.b [] (.l [2, 3, 4, 30, 31, 32] (.s .o (.s (.cr .o .o) (.s (.b0 (.s .o (.s (.s .o (.b0 (.rf 0 [4]))) (.s .o (.cl .o .o))))) .o)))))))))))
theorem f277_eq (D : Dyn) (n : Nat) : f277 D n = funKp (s277 D n) D n 277 Tryz.f277 h277 := by kernel_rfl
theorem f277_ok {D : Dyn} (hD : DP D) (n : Nat) : FP 277 (f277 D n) := fun_okP X_ok hD (SP.cons (f25_ok hD n) (SP.nil)) Tryz.func277 (by kernel_rfl) (by kernel_rfl) (f277_eq D n)
def r277_0 (D : Dyn) (n : Nat) (A : Nat) (l : ALoop) (az : List AV) (H : AH) : Option (AV × AH) :=
  bif eqNL [4] l.live then endQ A (hd l.vals fun x4 vs => hd az fun x40 az => nl az <|
  beginK A H fun H => 
  bV (ld1p x4 H) fun x41 => 
  bR (callV (s277 D n).S D x41 [x40] H) fun x43 H => 
  bV (aun .not x43) fun x44 => 
  cnd x44 (some (.ret (.tuple []), H))
  (some (.norm [], H))) else none
def r277_0a : Hint := .o
def r277_0b : Hint := (.b0 (.s .o (.cl .o .o)))
theorem r277_0_eq (D : Dyn) (n : Nat) : r277_0 D n = rndKp (s277 D n) D n 277 0 [4] [0] r277_0a r277_0b := by kernel_rfl
theorem r277_0_ok {D : Dyn} (hD : DP D) (n : Nat) : RdP 277 0 (r277_0 D n) := round_okP X_ok hD (SP.cons (f25_ok hD n) (SP.nil)) (by kernel_rfl) (r277_0_eq D n)

def s220 (D : Dyn) (n : Nat) : Tb := ⟨X, []⟩
/-- jetty/txg.blocks -/
def f220 (D : Dyn) (n : Nat) (vs : List AV) (H : AH) : Option (AV × AH) :=
  outR (hd vs fun x0 vs => hd vs fun x1 vs => hd vs fun x2 vs => nl vs <|
  bA (bxV 23 x0) H fun x3 H => 
  bA (bxV 52 x1) H fun x4 H => 
  bA (bxV 309 x2) H fun x5 H => 
  bV (some (.func 277 [] [x4, x3, x5])) fun x6 => some (.ret x6, H))
def h220 : Hint := (.s .o (.s .o .o))
theorem f220_eq (D : Dyn) (n : Nat) : f220 D n = funKp (s220 D n) D n 220 Tryz.f220 h220 := by kernel_rfl
theorem f220_ok {D : Dyn} (hD : DP D) (n : Nat) : FP 220 (f220 D n) := fun_okP X_ok hD (SP.nil) Tryz.func220 (by kernel_rfl) (by kernel_rfl) (f220_eq D n)

def s198 (D : Dyn) (n : Nat) : Tb := ⟨X, []⟩
/-- (*jetty/space.Space).ask -/
def f198 (D : Dyn) (n : Nat) (vs : List AV) (H : AH) : Option (AV × AH) :=
  outR (hd vs fun x0 vs => hd vs fun x1 vs => nl vs <|
  bV (cmpO .eql (eqP x0 .nilPtr)) fun x6 => 
  cnd x6 (bV (some (.int .i64 (.ofNat 2))) fun x4 => some (.ret x4, H))
  (bV (bInt .lss x1 (.int .i64 (.ofNat 2))) fun x8 => 
  jn (wnt x8 false (bV (pNil x0) fun x12 => 
  bV (fAd 0 x12) fun x13 => 
  bV (ld1p x13 H) fun x14 => 
  bV (bInt .geq x1 x14) fun x15 => 
  some (.norm [x15], H)) (some (.norm [undefA], H))) fun vs H => hd vs fun x15_2 vs => 
  bV (pk3 (some x8) (some (.bool true)) (some x15_2)) fun x16 => 
  cnd x16 (bV (some (.int .i64 (.ofNat 1))) fun x4_2 => some (.ret x4_2, H))
  (bV (some (.int .i64 (.ofNat 0))) fun x4_3 => some (.ret x4_3, H))))
def h198 : Hint := (.s .o (.s (.s .o (.cl (.s .o .o) .o)) (.s (.s .o (.cl (.s .o .o) .o)) (.s .o .o))))
theorem f198_eq (D : Dyn) (n : Nat) : f198 D n = funKp (s198 D n) D n 198 Tryz.f198 h198 := by kernel_rfl
theorem f198_ok {D : Dyn} (hD : DP D) (n : Nat) : FP 198 (f198 D n) := fun_okP X_ok hD (SP.nil) Tryz.func198 (by kernel_rfl) (by kernel_rfl) (f198_eq D n)

def s147 (D : Dyn) (n : Nat) : Tb := ⟨X, [(198, f198 D n), (101, f101 D n)]⟩
/-- (*jetty/space.Space).Mark -/
def f147 (D : Dyn) (n : Nat) (vs : List AV) (H : AH) : Option (AV × AH) :=
  outR (hd vs fun x0 vs => hd vs fun x1 vs => nl vs <|
  bR (f198 D n [x0, x1] H) fun x8 H => 
  bV (bInt .neq x8 (.int .i64 (.ofNat 0))) fun x10 => 
  cnd x10 (bV (some x8) fun x4 => some (.ret x4, H))
  (bV (pNil x0) fun x14 => 
  bV (fAd 2 x14) fun x15 => 
  bV (ixArr 8192 1 x15 x1) fun x16 => 
  bV (ld1p x16 H) fun x17 => 
  bV (bInt .neq x17 (.int .u8 (.ofNat 0))) fun x18 => 
  cnd x18 (bV (some (.int .i64 (.ofNat 6))) fun x4_2 => some (.ret x4_2, H))
  (bR (f101 D n [x0, x1, (.int .u8 (.ofNat 1))] H) fun x21 H => 
  bV (some (.int .i64 (.ofNat 0))) fun x4_3 => some (.ret x4_3, H))))
def h147 : Hint := (.s .o (.s (.s .o (.s .o (.cl (.s .o .o) .o))) (.s (.s .o (.cl (.s .o .o) .o)) (.s .o (.s .o .o)))))
theorem f147_eq (D : Dyn) (n : Nat) : f147 D n = funKp (s147 D n) D n 147 Tryz.f147 h147 := by kernel_rfl
theorem f147_ok {D : Dyn} (hD : DP D) (n : Nat) : FP 147 (f147 D n) := fun_okP X_ok hD (SP.cons (f198_ok hD n) (SP.cons (f101_ok hD n) (SP.nil))) Tryz.func147 (by kernel_rfl) (by kernel_rfl) (f147_eq D n)

def s137 (D : Dyn) (n : Nat) : Tb := ⟨X, [(220, f220 D n), (147, f147 D n)]⟩
/-- (*jetty/txg.Store).mark -/
def f137 (D : Dyn) (n : Nat) (vs : List AV) (H : AH) : Option (AV × AH) :=
  outR (hd vs fun x0 vs => nl vs <|
  bA (bxV 82 x0) H fun x1 H => 
  bA (bxV 26 (.int .i64 (.ofNat 0))) H fun x2 H => 
  bA (bxV 26 (.int .i64 (.ofNat 0))) H fun x3 H => 
  bR (stNp 1 x3 (.int .i64 (.ofNat 0)) H) fun x9999 H => 
  bV (ld1p x1 H) fun x6 => 
  bV (pNil x6) fun x7 => 
  bV (fAd 2 x7) fun x8 => 
  bV (ld1p x8 H) fun x9 => 
  bV (ld1p x1 H) fun x10 => 
  bV (pNil x10) fun x11 => 
  bV (fAd 6 x11) fun x12 => 
  bV (ldNp 3 x12 H) fun x13 => 
  bR (f220 D n [x9, x13, x3] H) fun x14 H => 
  newB H (.loop ⟨.ready, none, 137, 0, [1, 2], [x1, x2]⟩) fun A H => bR (rfC (s137 D n).S D x14 A H) fun _ H => endLp A H fun j H => jmpK j (
  bV (ld1p x3 H) fun x31 => 
  bR (stNp 1 x2 x31 H) fun x9999_2 H => 
  bV (ld1p x2 H) fun x9002_2 => some (.ret x9002_2, H))
  (fun id => none) (bV (ld1p x2 H) fun x9002 => some (.ret x9002, H)))
def h137 : Hint := (.s .o (.s .o (.s (.s .o (.b0 (.rf 0 [1, 2]))) (.s .o .o))))
theorem f137_eq (D : Dyn) (n : Nat) : f137 D n = funKp (s137 D n) D n 137 Tryz.f137 h137 := by kernel_rfl
theorem f137_ok {D : Dyn} (hD : DP D) (n : Nat) : FP 137 (f137 D n) := fun_okP X_ok hD (SP.cons (f220_ok hD n) (SP.cons (f147_ok hD n) (SP.nil))) Tryz.func137 (by kernel_rfl) (by kernel_rfl) (f137_eq D n)
def r137_0 (D : Dyn) (n : Nat) (A : Nat) (l : ALoop) (az : List AV) (H : AH) : Option (AV × AH) :=
  bif eqNL [1, 2] l.live then endQ A (hd l.vals fun x1 vs => hd vs fun x2 vs => hd az fun x15 az => nl az <|
  beginK A H fun H => 
  bV (ld1p x1 H) fun x16 => 
  bV (pNil x16) fun x17 => 
  bV (fAd 4 x17) fun x18 => 
  bV (ld1p x18 H) fun x19 => 
  bR (f147 D n [x19, x15] H) fun x21 H => 
  bV (bInt .neq x21 (.int .i64 (.ofNat 0))) fun x23 => 
  cnd x23 (bR (stNp 1 x2 x21 H) fun x9999 H => 
  some (.ret (.tuple []), H))
  (bV (ld1p x1 H) fun x25 => 
  bV (pNil x25) fun x26 => 
  bV (fAd 9 x26) fun x27 => 
  bV (ld1p x27 H) fun x28 => 
  bV (bldSp [] [] []) fun x30 => 
  bR (upM [6] x28 x15 x30 H) fun x9999_2 H => 
  some (.norm [], H))) else none
def r137_0a : Hint := .o
def r137_0b : Hint := (.b0 (.s (.s .o (.s .o (.cl (.s .o .o) .o))) .o))
theorem r137_0_eq (D : Dyn) (n : Nat) : r137_0 D n = rndKp (s137 D n) D n 137 0 [1, 2] [] r137_0a r137_0b := by kernel_rfl
theorem r137_0_ok {D : Dyn} (hD : DP D) (n : Nat) : RdP 137 0 (r137_0 D n) := round_okP X_ok hD (SP.cons (f220_ok hD n) (SP.cons (f147_ok hD n) (SP.nil))) (by kernel_rfl) (r137_0_eq D n)
end Go.Eng.Sh
