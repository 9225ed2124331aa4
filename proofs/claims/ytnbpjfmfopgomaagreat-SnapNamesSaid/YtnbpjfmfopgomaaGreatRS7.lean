/- Shallow functions, by program (gen.py). -/
import Derived.Test.YtnbpjfmfopgomaaGreatRS6
import Derived.Test.YtnbpjfmfopgomaaGreatProg
import Derived.KernelRfl
noncomputable section
namespace Go.Eng.Sh
open Go.Proofs
set_option maxRecDepth 100000
set_option linter.all false
def s249 (D : Dyn) (n : Nat) : Tb := ⟨X, []⟩
/-- (*slices.xorshift).Next -/
def f249 (D : Dyn) (n : Nat) (vs : List AV) (H : AH) : Option (AV × AH) :=
  outR (hd vs fun x0 vs => nl vs <|
  bV (pNil x0) fun x4 => 
  bV (ld1p x4 H) fun x5 => 
  bV (pNil x0) fun x7 => 
  bV (ld1p x7 H) fun x8 => 
  bV (bInt .shl x8 (.int .u64 (.ofNat 13))) fun x9 => 
  bV (bInt .xor x5 x9) fun x10 => 
  bV (pNil x0) fun x11 => 
  bR (stNp 1 x11 x10 H) fun x9999 H => 
  bV (pNil x0) fun x13 => 
  bV (ld1p x13 H) fun x14 => 
  bV (pNil x0) fun x16 => 
  bV (ld1p x16 H) fun x17 => 
  bV (bInt .shr x17 (.int .u64 (.ofNat 7))) fun x18 => 
  bV (bInt .xor x14 x18) fun x19 => 
  bV (pNil x0) fun x20 => 
  bR (stNp 1 x20 x19 H) fun x9999_2 H => 
  bV (pNil x0) fun x22 => 
  bV (ld1p x22 H) fun x23 => 
  bV (pNil x0) fun x25 => 
  bV (ld1p x25 H) fun x26 => 
  bV (bInt .shl x26 (.int .u64 (.ofNat 17))) fun x27 => 
  bV (bInt .xor x23 x27) fun x28 => 
  bV (pNil x0) fun x29 => 
  bR (stNp 1 x29 x28 H) fun x9999_3 H => 
  bV (pNil x0) fun x31 => 
  bV (ld1p x31 H) fun x32 => 
  bV (some x32) fun x2 => some (.ret x2, H))
def h249 : Hint := (.s .o (.s .o (.s .o (.s .o (.s .o .o)))))
theorem f249_eq (D : Dyn) (n : Nat) : f249 D n = funKp (s249 D n) D n 249 Tryz.f249 h249 := by kernel_rfl
theorem f249_ok {D : Dyn} (hD : DP D) (n : Nat) : FP 249 (f249 D n) := fun_okP X_ok hD (SP.nil) Tryz.func249 (by kernel_rfl) (by kernel_rfl) (f249_eq D n)

def s237 (D : Dyn) (n : Nat) : Tb := ⟨X, [(248, f248 D n), (249, f249 D n)]⟩
def f237j0 (D : Dyn) (n : Nat) (vs : List AV) (H : AH) : Rs :=
  hd vs fun x0_3 vs => hd vs fun x1_3 vs => hd vs fun x6_2 vs => hd vs fun x7_3 vs => hd vs fun x8_2 vs => hd vs fun x9_2 vs => hd vs fun x10 vs => 
  bV (bInt .add x1_3 x10) fun x52 => 
  bV (bInt .add x1_3 x10) fun x56 => 
  bV (ixSl 1 x0_3 x56) fun x57 => 
  bV (ld1p x57 H) fun x58 => 
  bV (ixSl 1 x0_3 x9_2) fun x61 => 
  bV (ld1p x61 H) fun x62 => 
  bV (ixSl 1 x0_3 x9_2) fun x63 => 
  bR (stNp 1 x63 x58 H) fun x9999_2 H => 
  bV (ixSl 1 x0_3 x52) fun x64 => 
  bR (stNp 1 x64 x62 H) fun x9999_3 H => 
  bV (bInt .add x9_2 (.int .i64 (.ofNat 1))) fun x35 => 
  some (.norm [x0_3, x1_3, x6_2, x7_3, x8_2, x35], H)
def f237l1 (D : Dyn) (n : Nat) (vs : List AV) (H : AH) : Rs :=
  hd vs fun x0_2 vs => hd vs fun x1_2 vs => hd vs fun x6 vs => hd vs fun x7_2 vs => hd vs fun x8 vs => hd vs fun x9 vs => 
  bV (bInt .quo x6 (.int .i64 (.ofNat 4))) fun x29 => 
  bV (bInt .mul x29 (.int .i64 (.ofNat 2))) fun x30 => 
  bV (bInt .add x1_2 x30) fun x31 => 
  bV (bInt .add x31 (.int .i64 (.ofNat 1))) fun x32 => 
  bV (bInt .leq x9 x32) fun x33 => 
  cnd x33 (bR (noPan (f249 D n [x7_2] H)) fun x36 H => 
  bV (bInt .sub x8 (.int .u64 (.ofNat 1))) fun x38 => 
  bV (bInt .and x36 x38) fun x39 => 
  bV (cvI .i64 x39) fun x40 => 
  bV (bInt .geq x40 x6) fun x43 => 
  jn (cnd x43 (bV (bInt .sub x40 x6) fun x46 => 
  some (.norm [x0_2, x1_2, x6, x7_2, x8, x9, x46], H))
  (some (.norm [x0_2, x1_2, x6, x7_2, x8, x9, x40], H))) (f237j0 D n))
  (some (.exit 0 [], H))
def f237b2 (D : Dyn) (n : Nat) (vs : List AV) (H : AH) : Rs :=
  
  some (.norm [], H)
def f237j3 (D : Dyn) (n : Nat) (vs : List AV) (H : AH) : Rs :=
  
  some (.ret (.tuple []), H)
/-- slices.breakPatternsOrdered[int] -/
def f237 (D : Dyn) (n : Nat) (vs : List AV) (H : AH) : Option (AV × AH) :=
  outR (hd vs fun x0 vs => hd vs fun x1 vs => hd vs fun x2 vs => nl vs <|
  bV (bInt .sub x2 x1) fun x13 => 
  bV (bInt .geq x13 (.int .i64 (.ofNat 8))) fun x15 => 
  jn (cnd x15 (bV (cvI .u64 x13) fun x17 => 
  bA (bxV 314 (.int .u64 (.ofNat 0))) H fun x7 H => 
  bR (stNp 1 x7 x17 H) fun x9999 H => 
  bR (noPan (f248 D n [x13] H)) fun x19 H => 
  bV (bInt .quo x13 (.int .i64 (.ofNat 4))) fun x22 => 
  bV (bInt .mul x22 (.int .i64 (.ofNat 2))) fun x23 => 
  bV (bInt .add x1 x23) fun x24 => 
  bV (bInt .sub x24 (.int .i64 (.ofNat 1))) fun x25 => 
  jb 0 (loopK n (f237l1 D n) [x0, x1, x13, x7, x19, x25] H) (f237b2 D n))
  (some (.norm [], H))) (f237j3 D n))
def h237 : Hint := (.s .o (.s .o (.c [] (.s .o (.s .o (.s .o (.b [] (.l [0, 1, 6, 7, 8, 9] (.s (.s .o (.cr .o .o)) (.s (.b0 (.s .o (.s (.s .o (.c [0, 1, 6, 7, 8, 9, 10] .o .o)) .o))) .o))))))) .o)))
theorem f237_eq (D : Dyn) (n : Nat) : f237 D n = funKp (s237 D n) D n 237 Tryz.f237 h237 := by kernel_rfl
theorem f237_ok {D : Dyn} (hD : DP D) (n : Nat) : FP 237 (f237 D n) := fun_okP X_ok hD (SP.cons (f248_ok hD n) (SP.cons (f249_ok hD n) (SP.nil))) Tryz.func237 (by kernel_rfl) (by kernel_rfl) (f237_eq D n)

def s253 (D : Dyn) (n : Nat) : Tb := ⟨X, [(241, f241 D n)]⟩
/-- slices.order2Ordered[int] -/
def f253 (D : Dyn) (n : Nat) (vs : List AV) (H : AH) : Option (AV × AH) :=
  outR (hd vs fun x0 vs => hd vs fun x1 vs => hd vs fun x2 vs => hd vs fun x3 vs => nl vs <|
  bV (ixSl 1 x0 x2) fun x12 => 
  bV (ld1p x12 H) fun x13 => 
  bV (ixSl 1 x0 x1) fun x16 => 
  bV (ld1p x16 H) fun x17 => 
  bR (noPan (f241 D n [x13, x17] H)) fun x18 H => 
  cnd x18 (bV (pNil x3) fun x20 => 
  bV (ld1p x20 H) fun x21 => 
  bV (bInt .add x21 (.int .i64 (.ofNat 1))) fun x22 => 
  bV (pNil x3) fun x23 => 
  bR (stNp 1 x23 x22 H) fun x9999 H => 
  bV (some x2) fun x8 => bV (some x1) fun x9 => some (.ret (.tuple [x8, x9]), H))
  (bV (some x1) fun x8_2 => bV (some x2) fun x9_2 => some (.ret (.tuple [x8_2, x9_2]), H)))
def h253 : Hint := (.s .o (.s (.s .o (.cl (.s .o (.s .o .o)) .o)) (.s .o .o)))
theorem f253_eq (D : Dyn) (n : Nat) : f253 D n = funKp (s253 D n) D n 253 Tryz.f253 h253 := by kernel_rfl
theorem f253_ok {D : Dyn} (hD : DP D) (n : Nat) : FP 253 (f253 D n) := fun_okP X_ok hD (SP.cons (f241_ok hD n) (SP.nil)) Tryz.func253 (by kernel_rfl) (by kernel_rfl) (f253_eq D n)

def s251 (D : Dyn) (n : Nat) : Tb := ⟨X, [(253, f253 D n)]⟩
/-- slices.medianOrdered[int] -/
def f251 (D : Dyn) (n : Nat) (vs : List AV) (H : AH) : Option (AV × AH) :=
  outR (hd vs fun x0 vs => hd vs fun x1 vs => hd vs fun x2 vs => hd vs fun x3 vs => hd vs fun x4 vs => nl vs <|
  bR (noPan (f253 D n [x0, x1, x2, x4] H)) fun x16 H => 
  bV (pExtract x16 0) fun x17 => 
  bV (pExtract x16 1) fun x18 => 
  bR (noPan (f253 D n [x0, x18, x3, x4] H)) fun x24 H => 
  bV (pExtract x24 0) fun x25 => 
  bV (pExtract x24 1) fun x26 => 
  bR (noPan (f253 D n [x0, x17, x25, x4] H)) fun x32 H => 
  bV (pExtract x32 0) fun x33 => 
  bV (pExtract x32 1) fun x34 => 
  bV (some x34) fun x10 => some (.ret x10, H))
def h251 : Hint := (.s .o (.s .o (.s .o (.s .o (.s .o .o)))))
theorem f251_eq (D : Dyn) (n : Nat) : f251 D n = funKp (s251 D n) D n 251 Tryz.f251 h251 := by kernel_rfl
theorem f251_ok {D : Dyn} (hD : DP D) (n : Nat) : FP 251 (f251 D n) := fun_okP X_ok hD (SP.cons (f253_ok hD n) (SP.nil)) Tryz.func251 (by kernel_rfl) (by kernel_rfl) (f251_eq D n)

def s250 (D : Dyn) (n : Nat) : Tb := ⟨X, [(251, f251 D n)]⟩
/-- slices.medianAdjacentOrdered[int] -/
def f250 (D : Dyn) (n : Nat) (vs : List AV) (H : AH) : Option (AV × AH) :=
  outR (hd vs fun x0 vs => hd vs fun x1 vs => hd vs fun x2 vs => nl vs <|
  bV (bInt .sub x1 (.int .i64 (.ofNat 1))) fun x9 => 
  bV (bInt .add x1 (.int .i64 (.ofNat 1))) fun x12 => 
  bR (noPan (f251 D n [x0, x9, x1, x12, x2] H)) fun x14 H => 
  bV (some x14) fun x6 => some (.ret x6, H))
def h250 : Hint := (.s .o (.s .o .o))
theorem f250_eq (D : Dyn) (n : Nat) : f250 D n = funKp (s250 D n) D n 250 Tryz.f250 h250 := by kernel_rfl
theorem f250_ok {D : Dyn} (hD : DP D) (n : Nat) : FP 250 (f250 D n) := fun_okP X_ok hD (SP.cons (f251_ok hD n) (SP.nil)) Tryz.func250 (by kernel_rfl) (by kernel_rfl) (f250_eq D n)

def s238 (D : Dyn) (n : Nat) : Tb := ⟨X, [(250, f250 D n), (251, f251 D n)]⟩
def f238j0 (D : Dyn) (n : Nat) (vs : List AV) (H : AH) : Rs :=
  hd vs fun x0_2 vs => hd vs fun x9_2 vs => hd vs fun x10 vs => hd vs fun x11 vs => hd vs fun x12 vs => 
  bR (noPan (f251 D n [x0_2, x10, x11, x12, x9_2] H)) fun x48 H => 
  some (.norm [x9_2, x48], H)
def f238j1 (D : Dyn) (n : Nat) (vs : List AV) (H : AH) : Rs :=
  hd vs fun x9_3 vs => hd vs fun x11_2 vs => 
  bV (ld1p x9_3 H) fun x49 => 
  bV (bInt .eql x49 (.int .i64 (.ofNat 0))) fun x52 => 
  cnd x52 (bV (some x11_2) fun x6 => bV (some (.int .i64 (.ofNat 1))) fun x7 => some (.ret (.tuple [x6, x7]), H))
  (bV (bInt .eql x49 (.int .i64 (.ofNat 12))) fun x55 => 
  cnd x55 (bV (some x11_2) fun x6_2 => bV (some (.int .i64 (.ofNat 2))) fun x7_2 => some (.ret (.tuple [x6_2, x7_2]), H))
  (bV (some x11_2) fun x6_3 => bV (some (.int .i64 (.ofNat 0))) fun x7_3 => some (.ret (.tuple [x6_3, x7_3]), H)))
/-- slices.choosePivotOrdered[int] -/
def f238 (D : Dyn) (n : Nat) (vs : List AV) (H : AH) : Option (AV × AH) :=
  outR (hd vs fun x0 vs => hd vs fun x1 vs => hd vs fun x2 vs => nl vs <|
  bV (bInt .sub x2 x1) fun x15 => 
  bA (bxV 3 (.int .i64 (.ofNat 0))) H fun x9 H => 
  bV (bInt .quo x15 (.int .i64 (.ofNat 4))) fun x18 => 
  bV (bInt .mul x18 (.int .i64 (.ofNat 1))) fun x19 => 
  bV (bInt .add x1 x19) fun x20 => 
  bV (bInt .quo x15 (.int .i64 (.ofNat 4))) fun x23 => 
  bV (bInt .mul x23 (.int .i64 (.ofNat 2))) fun x24 => 
  bV (bInt .add x1 x24) fun x25 => 
  bV (bInt .quo x15 (.int .i64 (.ofNat 4))) fun x28 => 
  bV (bInt .mul x28 (.int .i64 (.ofNat 3))) fun x29 => 
  bV (bInt .add x1 x29) fun x30 => 
  bV (bInt .geq x15 (.int .i64 (.ofNat 8))) fun x32 => 
  jn (cnd x32 (bV (bInt .geq x15 (.int .i64 (.ofNat 50))) fun x34 => 
  jn (cnd x34 (bR (noPan (f250 D n [x0, x20, x9] H)) fun x37 H => 
  bR (noPan (f250 D n [x0, x25, x9] H)) fun x40 H => 
  bR (noPan (f250 D n [x0, x30, x9] H)) fun x43 H => 
  some (.norm [x0, x9, x37, x40, x43], H))
  (some (.norm [x0, x9, x20, x25, x30], H))) (f238j0 D n))
  (some (.norm [x9, x25], H))) (f238j1 D n))
def h238 : Hint := (.s .o (.s .o (.s .o (.s .o (.s .o (.s .o (.s (.s .o (.c [9, 11] (.s (.s .o (.c [0, 9, 10, 11, 12] (.s .o (.s .o .o)) .o)) .o) .o)) (.s .o (.b0 (.s .o (.cl (.s .o .o) (.s .o (.cl (.s .o .o) (.s .o .o))))))))))))))
theorem f238_eq (D : Dyn) (n : Nat) : f238 D n = funKp (s238 D n) D n 238 Tryz.f238 h238 := by kernel_rfl
theorem f238_ok {D : Dyn} (hD : DP D) (n : Nat) : FP 238 (f238 D n) := fun_okP X_ok hD (SP.cons (f250_ok hD n) (SP.cons (f251_ok hD n) (SP.nil))) Tryz.func238 (by kernel_rfl) (by kernel_rfl) (f238_eq D n)

def s239 (D : Dyn) (n : Nat) : Tb := ⟨X, []⟩
def f239l0 (D : Dyn) (n : Nat) (vs : List AV) (H : AH) : Rs :=
  hd vs fun x0_2 vs => hd vs fun x6 vs => hd vs fun x7 vs => 
  bV (bInt .lss x6 x7) fun x13 => 
  cnd x13 (bV (ixSl 1 x0_2 x7) fun x20 => 
  bV (ld1p x20 H) fun x21 => 
  bV (ixSl 1 x0_2 x6) fun x24 => 
  bV (ld1p x24 H) fun x25 => 
  bV (ixSl 1 x0_2 x6) fun x26 => 
  bR (stNp 1 x26 x21 H) fun x9999 H => 
  bV (ixSl 1 x0_2 x7) fun x27 => 
  bR (stNp 1 x27 x25 H) fun x9999_2 H => 
  bV (bInt .add x6 (.int .i64 (.ofNat 1))) fun x29 => 
  bV (bInt .sub x7 (.int .i64 (.ofNat 1))) fun x31 => 
  some (.norm [x0_2, x29, x31], H))
  (some (.exit 0 [], H))
def f239b1 (D : Dyn) (n : Nat) (vs : List AV) (H : AH) : Rs :=
  
  some (.ret (.tuple []), H)
/-- slices.reverseRangeOrdered[int] -/
def f239 (D : Dyn) (n : Nat) (vs : List AV) (H : AH) : Option (AV × AH) :=
  outR (hd vs fun x0 vs => hd vs fun x1 vs => hd vs fun x2 vs => nl vs <|
  bV (bInt .sub x2 (.int .i64 (.ofNat 1))) fun x10 => 
  jb 0 (loopK n (f239l0 D n) [x0, x1, x10] H) (f239b1 D n))
def h239 : Hint := (.s .o (.s .o (.b [] (.l [0, 6, 7] (.s (.s .o (.cr .o .o)) (.b0 (.s .o (.s .o .o))))))))
theorem f239_eq (D : Dyn) (n : Nat) : f239 D n = funKp (s239 D n) D n 239 Tryz.f239 h239 := by kernel_rfl
theorem f239_ok {D : Dyn} (hD : DP D) (n : Nat) : FP 239 (f239 D n) := fun_okP X_ok hD (SP.nil) Tryz.func239 (by kernel_rfl) (by kernel_rfl) (f239_eq D n)

def s240 (D : Dyn) (n : Nat) : Tb := ⟨X, [(241, f241 D n)]⟩
def f240l0 (D : Dyn) (n : Nat) (vs : List AV) (H : AH) : Rs :=
  hd vs fun x0_3 vs => hd vs fun x1_3 vs => hd vs fun x2_3 vs => hd vs fun x7_2 vs => hd vs fun x8_2 vs => 
  bV (bInt .lss x7_2 x2_3) fun x19 => 
  jn (wnt x19 true (bV (ixSl 1 x0_3 x7_2) fun x23 => 
  bV (ld1p x23 H) fun x24 => 
  bV (bInt .sub x7_2 (.int .i64 (.ofNat 1))) fun x27 => 
  bV (ixSl 1 x0_3 x27) fun x28 => 
  bV (ld1p x28 H) fun x29 => 
  bR (noPan (f241 D n [x24, x29] H)) fun x30 H => 
  bV (aun .not x30) fun x31 => 
  some (.norm [x31], H)) (some (.norm [undefA], H))) fun vs H => hd vs fun x31_2 vs => 
  bV (pk3 (some x19) (some x31_2) (some (.bool false))) fun x32 => 
  cnd x32 (bV (bInt .add x7_2 (.int .i64 (.ofNat 1))) fun x34 => 
  some (.norm [x0_3, x1_3, x2_3, x34, x8_2], H))
  (some (.exit 2 [x0_3, x1_3, x2_3, x7_2, x8_2], H))
def f240l1 (D : Dyn) (n : Nat) (vs : List AV) (H : AH) : Rs :=
  hd vs fun x0_5 vs => hd vs fun x1_5 vs => hd vs fun x2_5 vs => hd vs fun x7_4 vs => hd vs fun x8_4 vs => hd vs fun x9 vs => 
  bV (bInt .geq x9 (.int .i64 (.ofNat 1))) fun x65 => 
  cnd x65 (bV (ixSl 1 x0_5 x9) fun x70 => 
  bV (ld1p x70 H) fun x71 => 
  bV (bInt .sub x9 (.int .i64 (.ofNat 1))) fun x74 => 
  bV (ixSl 1 x0_5 x74) fun x75 => 
  bV (ld1p x75 H) fun x76 => 
  bR (noPan (f241 D n [x71, x76] H)) fun x77 H => 
  bV (aun .not x77) fun x78 => 
  cnd x78 (some (.exit 4 [x0_5, x1_5, x2_5, x7_4, x8_4], H))
  (bV (bInt .sub x9 (.int .i64 (.ofNat 1))) fun x83 => 
  bV (bInt .sub x9 (.int .i64 (.ofNat 1))) fun x86 => 
  bV (ixSl 1 x0_5 x86) fun x87 => 
  bV (ld1p x87 H) fun x88 => 
  bV (ixSl 1 x0_5 x9) fun x91 => 
  bV (ld1p x91 H) fun x92 => 
  bV (ixSl 1 x0_5 x9) fun x93 => 
  bR (stNp 1 x93 x88 H) fun x9999_3 H => 
  bV (ixSl 1 x0_5 x83) fun x94 => 
  bR (stNp 1 x94 x92 H) fun x9999_4 H => 
  bV (bInt .sub x9 (.int .i64 (.ofNat 1))) fun x67 => 
  some (.norm [x0_5, x1_5, x2_5, x7_4, x8_4, x67], H)))
  (some (.exit 4 [x0_5, x1_5, x2_5, x7_4, x8_4], H))
def f240b2 (D : Dyn) (n : Nat) (vs : List AV) (H : AH) : Rs :=
  hd vs fun x0_6 vs => hd vs fun x1_6 vs => hd vs fun x2_6 vs => hd vs fun x7_5 vs => hd vs fun x8_5 vs => 
  some (.norm [x0_6, x1_6, x2_6, x7_5, x8_5], H)
def f240l3 (D : Dyn) (n : Nat) (vs : List AV) (H : AH) : Rs :=
  hd vs fun x0_8 vs => hd vs fun x1_8 vs => hd vs fun x2_8 vs => hd vs fun x7_7 vs => hd vs fun x8_7 vs => hd vs fun x10 vs => 
  bV (bInt .lss x10 x2_8) fun x103 => 
  cnd x103 (bV (ixSl 1 x0_8 x10) fun x108 => 
  bV (ld1p x108 H) fun x109 => 
  bV (bInt .sub x10 (.int .i64 (.ofNat 1))) fun x112 => 
  bV (ixSl 1 x0_8 x112) fun x113 => 
  bV (ld1p x113 H) fun x114 => 
  bR (noPan (f241 D n [x109, x114] H)) fun x115 H => 
  bV (aun .not x115) fun x116 => 
  cnd x116 (some (.exit 6 [x0_8, x1_8, x2_8, x7_7, x8_7], H))
  (bV (bInt .sub x10 (.int .i64 (.ofNat 1))) fun x121 => 
  bV (bInt .sub x10 (.int .i64 (.ofNat 1))) fun x124 => 
  bV (ixSl 1 x0_8 x124) fun x125 => 
  bV (ld1p x125 H) fun x126 => 
  bV (ixSl 1 x0_8 x10) fun x129 => 
  bV (ld1p x129 H) fun x130 => 
  bV (ixSl 1 x0_8 x10) fun x131 => 
  bR (stNp 1 x131 x126 H) fun x9999_5 H => 
  bV (ixSl 1 x0_8 x121) fun x132 => 
  bR (stNp 1 x132 x130 H) fun x9999_6 H => 
  bV (bInt .add x10 (.int .i64 (.ofNat 1))) fun x105 => 
  some (.norm [x0_8, x1_8, x2_8, x7_7, x8_7, x105], H)))
  (some (.exit 6 [x0_8, x1_8, x2_8, x7_7, x8_7], H))
def f240b4 (D : Dyn) (n : Nat) (vs : List AV) (H : AH) : Rs :=
  hd vs fun x0_9 vs => hd vs fun x1_9 vs => hd vs fun x2_9 vs => hd vs fun x7_8 vs => hd vs fun x8_8 vs => 
  some (.norm [x0_9, x1_9, x2_9, x7_8, x8_8], H)
def f240j5 (D : Dyn) (n : Nat) (vs : List AV) (H : AH) : Rs :=
  hd vs fun x0_10 vs => hd vs fun x1_10 vs => hd vs fun x2_10 vs => hd vs fun x7_9 vs => hd vs fun x8_9 vs => 
  bV (bInt .add x8_9 (.int .i64 (.ofNat 1))) fun x16 => 
  some (.norm [x0_10, x1_10, x2_10, x7_9, x16], H)
def f240j6 (D : Dyn) (n : Nat) (vs : List AV) (H : AH) : Rs :=
  hd vs fun x0_7 vs => hd vs fun x1_7 vs => hd vs fun x2_7 vs => hd vs fun x7_6 vs => hd vs fun x8_6 vs => 
  bV (bInt .sub x2_7 x7_6) fun x97 => 
  bV (bInt .geq x97 (.int .i64 (.ofNat 2))) fun x98 => 
  jn (cnd x98 (bV (bInt .add x7_6 (.int .i64 (.ofNat 1))) fun x100 => 
  jb 6 (loopK n (f240l3 D n) [x0_7, x1_7, x2_7, x7_6, x8_6, x100] H) (f240b4 D n))
  (some (.norm [x0_7, x1_7, x2_7, x7_6, x8_6], H))) (f240j5 D n)
def f240b7 (D : Dyn) (n : Nat) (vs : List AV) (H : AH) : Rs :=
  hd vs fun x0_4 vs => hd vs fun x1_4 vs => hd vs fun x2_4 vs => hd vs fun x7_3 vs => hd vs fun x8_3 vs => 
  bV (bInt .eql x7_3 x2_4) fun x37 => 
  cnd x37 (bV (some (.bool true)) fun x6 => some (.ret x6, H))
  (bV (bInt .sub x2_4 x1_4) fun x40 => 
  bV (bInt .lss x40 (.int .i64 (.ofNat 50))) fun x41 => 
  cnd x41 (bV (some (.bool false)) fun x6_2 => some (.ret x6_2, H))
  (bV (bInt .sub x7_3 (.int .i64 (.ofNat 1))) fun x46 => 
  bV (bInt .sub x7_3 (.int .i64 (.ofNat 1))) fun x49 => 
  bV (ixSl 1 x0_4 x49) fun x50 => 
  bV (ld1p x50 H) fun x51 => 
  bV (ixSl 1 x0_4 x7_3) fun x54 => 
  bV (ld1p x54 H) fun x55 => 
  bV (ixSl 1 x0_4 x7_3) fun x56 => 
  bR (stNp 1 x56 x51 H) fun x9999 H => 
  bV (ixSl 1 x0_4 x46) fun x57 => 
  bR (stNp 1 x57 x55 H) fun x9999_2 H => 
  bV (bInt .sub x7_3 x1_4) fun x60 => 
  bV (bInt .geq x60 (.int .i64 (.ofNat 2))) fun x61 => 
  jn (cnd x61 (bV (bInt .sub x7_3 (.int .i64 (.ofNat 1))) fun x63 => 
  jb 4 (loopK n (f240l1 D n) [x0_4, x1_4, x2_4, x7_3, x8_3, x63] H) (f240b2 D n))
  (some (.norm [x0_4, x1_4, x2_4, x7_3, x8_3], H))) (f240j6 D n)))
def f240l8 (D : Dyn) (n : Nat) (vs : List AV) (H : AH) : Rs :=
  hd vs fun x0_2 vs => hd vs fun x1_2 vs => hd vs fun x2_2 vs => hd vs fun x7 vs => hd vs fun x8 vs => 
  bV (bInt .lss x8 (.int .i64 (.ofNat 5))) fun x14 => 
  cnd x14 (jb 2 (loopK n (f240l0 D n) [x0_2, x1_2, x2_2, x7, x8] H) (f240b7 D n))
  (some (.exit 0 [], H))
def f240b9 (D : Dyn) (n : Nat) (vs : List AV) (H : AH) : Rs :=
  
  bV (some (.bool false)) fun x6_3 => some (.ret x6_3, H)
/-- slices.partialInsertionSortOrdered[int] -/
def f240 (D : Dyn) (n : Nat) (vs : List AV) (H : AH) : Option (AV × AH) :=
  outR (hd vs fun x0 vs => hd vs fun x1 vs => hd vs fun x2 vs => nl vs <|
  bV (bInt .add x1 (.int .i64 (.ofNat 1))) fun x12 => 
  jb 0 (loopK n (f240l8 D n) [x0, x1, x2, x12, (.int .i64 (.ofNat 0))] H) (f240b9 D n))
def h240 : Hint := (.s .o (.s .o (.s (.s .o (.b [] (.l [0, 1, 2, 7, 8] (.s (.s .o (.cr .o .o)) (.s (.b0 (.s (.b [0, 1, 2, 7, 8] (.l [0, 1, 2, 7, 8] (.s (.s .o (.cr .o .o)) (.b0 .o)))) (.s (.s .o (.cl (.s .o .o) .o)) (.s (.s .o (.cl (.s .o .o) .o)) (.s .o (.s (.s .o (.c [0, 1, 2, 7, 8] (.s .o (.b [0, 1, 2, 7, 8] (.l [0, 1, 2, 7, 8, 9] (.s (.s .o (.cr .o .o)) (.s (.b0 (.s (.s .o (.cl .o .o)) .o)) .o))))) .o)) (.s .o (.c [0, 1, 2, 7, 8] (.s .o (.b [0, 1, 2, 7, 8] (.l [0, 1, 2, 7, 8, 10] (.s (.s .o (.cr .o .o)) (.s (.b0 (.s (.s .o (.cl .o .o)) .o)) .o))))) .o)))))))) .o))))) (.s .o .o))))
theorem f240_eq (D : Dyn) (n : Nat) : f240 D n = funKp (s240 D n) D n 240 Tryz.f240 h240 := by kernel_rfl
theorem f240_ok {D : Dyn} (hD : DP D) (n : Nat) : FP 240 (f240 D n) := fun_okP X_ok hD (SP.cons (f241_ok hD n) (SP.nil)) Tryz.func240 (by kernel_rfl) (by kernel_rfl) (f240_eq D n)

def s242 (D : Dyn) (n : Nat) : Tb := ⟨X, [(241, f241 D n)]⟩
def f242l0 (D : Dyn) (n : Nat) (vs : List AV) (H : AH) : Rs :=
  hd vs fun x0_3 vs => hd vs fun x1_3 vs => hd vs fun x9_2 vs => hd vs fun x10_2 vs => 
  bV (bInt .leq x9_2 x10_2) fun x31 => 
  jn (wnt x31 true (bV (ixSl 1 x0_3 x1_3) fun x35 => 
  bV (ld1p x35 H) fun x36 => 
  bV (ixSl 1 x0_3 x9_2) fun x39 => 
  bV (ld1p x39 H) fun x40 => 
  bR (noPan (f241 D n [x36, x40] H)) fun x41 H => 
  bV (aun .not x41) fun x42 => 
  some (.norm [x42], H)) (some (.norm [undefA], H))) fun vs H => hd vs fun x42_2 vs => 
  bV (pk3 (some x31) (some x42_2) (some (.bool false))) fun x43 => 
  cnd x43 (bV (bInt .add x9_2 (.int .i64 (.ofNat 1))) fun x45 => 
  some (.norm [x0_3, x1_3, x45, x10_2], H))
  (some (.exit 2 [x0_3, x1_3, x9_2, x10_2], H))
def f242l1 (D : Dyn) (n : Nat) (vs : List AV) (H : AH) : Rs :=
  hd vs fun x0_5 vs => hd vs fun x1_5 vs => hd vs fun x9_4 vs => hd vs fun x10_4 vs => 
  bV (bInt .leq x9_4 x10_4) fun x48 => 
  jn (wnt x48 true (bV (ixSl 1 x0_5 x1_5) fun x52 => 
  bV (ld1p x52 H) fun x53 => 
  bV (ixSl 1 x0_5 x10_4) fun x56 => 
  bV (ld1p x56 H) fun x57 => 
  bR (noPan (f241 D n [x53, x57] H)) fun x58 H => 
  some (.norm [x58], H)) (some (.norm [undefA], H))) fun vs H => hd vs fun x58_2 vs => 
  bV (pk3 (some x48) (some x58_2) (some (.bool false))) fun x59 => 
  cnd x59 (bV (bInt .sub x10_4 (.int .i64 (.ofNat 1))) fun x61 => 
  some (.norm [x0_5, x1_5, x9_4, x61], H))
  (some (.exit 4 [x0_5, x1_5, x9_4, x10_4], H))
def f242b2 (D : Dyn) (n : Nat) (vs : List AV) (H : AH) : Rs :=
  hd vs fun x0_6 vs => hd vs fun x1_6 vs => hd vs fun x9_5 vs => hd vs fun x10_5 vs => 
  bV (bInt .gtr x9_5 x10_5) fun x64 => 
  cnd x64 (some (.exit 0 [x9_5], H))
  (bV (ixSl 1 x0_6 x10_5) fun x71 => 
  bV (ld1p x71 H) fun x72 => 
  bV (ixSl 1 x0_6 x9_5) fun x75 => 
  bV (ld1p x75 H) fun x76 => 
  bV (ixSl 1 x0_6 x9_5) fun x77 => 
  bR (stNp 1 x77 x72 H) fun x9999_3 H => 
  bV (ixSl 1 x0_6 x10_5) fun x78 => 
  bR (stNp 1 x78 x76 H) fun x9999_4 H => 
  bV (bInt .add x9_5 (.int .i64 (.ofNat 1))) fun x80 => 
  bV (bInt .sub x10_5 (.int .i64 (.ofNat 1))) fun x82 => 
  some (.norm [x0_6, x1_6, x80, x82], H))
def f242b3 (D : Dyn) (n : Nat) (vs : List AV) (H : AH) : Rs :=
  hd vs fun x0_4 vs => hd vs fun x1_4 vs => hd vs fun x9_3 vs => hd vs fun x10_3 vs => 
  jb 4 (loopK n (f242l1 D n) [x0_4, x1_4, x9_3, x10_3] H) (f242b2 D n)
def f242l4 (D : Dyn) (n : Nat) (vs : List AV) (H : AH) : Rs :=
  hd vs fun x0_2 vs => hd vs fun x1_2 vs => hd vs fun x9 vs => hd vs fun x10 vs => 
  jb 2 (loopK n (f242l0 D n) [x0_2, x1_2, x9, x10] H) (f242b3 D n)
def f242b5 (D : Dyn) (n : Nat) (vs : List AV) (H : AH) : Rs :=
  hd vs fun x9_6 vs => 
  bV (some x9_6) fun x8 => some (.ret x8, H)
/-- slices.partitionEqualOrdered[int] -/
def f242 (D : Dyn) (n : Nat) (vs : List AV) (H : AH) : Option (AV × AH) :=
  outR (hd vs fun x0 vs => hd vs fun x1 vs => hd vs fun x2 vs => hd vs fun x3 vs => nl vs <|
  bV (ixSl 1 x0 x3) fun x17 => 
  bV (ld1p x17 H) fun x18 => 
  bV (ixSl 1 x0 x1) fun x21 => 
  bV (ld1p x21 H) fun x22 => 
  bV (ixSl 1 x0 x1) fun x23 => 
  bR (stNp 1 x23 x18 H) fun x9999 H => 
  bV (ixSl 1 x0 x3) fun x24 => 
  bR (stNp 1 x24 x22 H) fun x9999_2 H => 
  bV (bInt .add x1 (.int .i64 (.ofNat 1))) fun x26 => 
  bV (bInt .sub x2 (.int .i64 (.ofNat 1))) fun x28 => 
  jb 0 (loopK n (f242l4 D n) [x0, x1, x26, x28] H) (f242b5 D n))
def h242 : Hint := (.s .o (.s .o (.s .o (.s (.b [9] (.l [0, 1, 9, 10] (.b0 (.s (.b [0, 1, 9, 10] (.l [0, 1, 9, 10] (.s (.s .o (.cr .o .o)) (.b0 .o)))) (.s (.b [0, 1, 9, 10] (.l [0, 1, 9, 10] (.s (.s .o (.cr .o .o)) (.b0 .o)))) (.s (.s .o (.cl .o .o)) (.s .o (.s .o .o)))))))) (.s .o .o)))))
theorem f242_eq (D : Dyn) (n : Nat) : f242 D n = funKp (s242 D n) D n 242 Tryz.f242 h242 := by kernel_rfl
theorem f242_ok {D : Dyn} (hD : DP D) (n : Nat) : FP 242 (f242 D n) := fun_okP X_ok hD (SP.cons (f241_ok hD n) (SP.nil)) Tryz.func242 (by kernel_rfl) (by kernel_rfl) (f242_eq D n)

def s243 (D : Dyn) (n : Nat) : Tb := ⟨X, [(241, f241 D n)]⟩
def f243l0 (D : Dyn) (n : Nat) (vs : List AV) (H : AH) : Rs :=
  hd vs fun x0_2 vs => hd vs fun x1_2 vs => hd vs fun x10 vs => hd vs fun x11 vs => 
  bV (bInt .leq x10 x11) fun x32 => 
  jn (wnt x32 true (bV (ixSl 1 x0_2 x10) fun x36 => 
  bV (ld1p x36 H) fun x37 => 
  bV (ixSl 1 x0_2 x1_2) fun x40 => 
  bV (ld1p x40 H) fun x41 => 
  bR (noPan (f241 D n [x37, x41] H)) fun x42 H => 
  some (.norm [x42], H)) (some (.norm [undefA], H))) fun vs H => hd vs fun x42_2 vs => 
  bV (pk3 (some x32) (some x42_2) (some (.bool false))) fun x43 => 
  cnd x43 (bV (bInt .add x10 (.int .i64 (.ofNat 1))) fun x45 => 
  some (.norm [x0_2, x1_2, x45, x11], H))
  (some (.exit 0 [x0_2, x1_2, x10, x11], H))
def f243l1 (D : Dyn) (n : Nat) (vs : List AV) (H : AH) : Rs :=
  hd vs fun x0_4 vs => hd vs fun x1_4 vs => hd vs fun x10_3 vs => hd vs fun x11_3 vs => 
  bV (bInt .leq x10_3 x11_3) fun x48 => 
  jn (wnt x48 true (bV (ixSl 1 x0_4 x11_3) fun x52 => 
  bV (ld1p x52 H) fun x53 => 
  bV (ixSl 1 x0_4 x1_4) fun x56 => 
  bV (ld1p x56 H) fun x57 => 
  bR (noPan (f241 D n [x53, x57] H)) fun x58 H => 
  bV (aun .not x58) fun x59 => 
  some (.norm [x59], H)) (some (.norm [undefA], H))) fun vs H => hd vs fun x59_2 vs => 
  bV (pk3 (some x48) (some x59_2) (some (.bool false))) fun x60 => 
  cnd x60 (bV (bInt .sub x11_3 (.int .i64 (.ofNat 1))) fun x62 => 
  some (.norm [x0_4, x1_4, x10_3, x62], H))
  (some (.exit 2 [x0_4, x1_4, x10_3, x11_3], H))
def f243l2 (D : Dyn) (n : Nat) (vs : List AV) (H : AH) : Rs :=
  hd vs fun x0_7 vs => hd vs fun x1_7 vs => hd vs fun x10_6 vs => hd vs fun x11_6 vs => 
  bV (bInt .leq x10_6 x11_6) fun x101 => 
  jn (wnt x101 true (bV (ixSl 1 x0_7 x10_6) fun x105 => 
  bV (ld1p x105 H) fun x106 => 
  bV (ixSl 1 x0_7 x1_7) fun x109 => 
  bV (ld1p x109 H) fun x110 => 
  bR (noPan (f241 D n [x106, x110] H)) fun x111 H => 
  some (.norm [x111], H)) (some (.norm [undefA], H))) fun vs H => hd vs fun x111_2 vs => 
  bV (pk3 (some x101) (some x111_2) (some (.bool false))) fun x112 => 
  cnd x112 (bV (bInt .add x10_6 (.int .i64 (.ofNat 1))) fun x114 => 
  some (.norm [x0_7, x1_7, x114, x11_6], H))
  (some (.exit 6 [x0_7, x1_7, x10_6, x11_6], H))
def f243l3 (D : Dyn) (n : Nat) (vs : List AV) (H : AH) : Rs :=
  hd vs fun x0_9 vs => hd vs fun x1_9 vs => hd vs fun x10_8 vs => hd vs fun x11_8 vs => 
  bV (bInt .leq x10_8 x11_8) fun x117 => 
  jn (wnt x117 true (bV (ixSl 1 x0_9 x11_8) fun x121 => 
  bV (ld1p x121 H) fun x122 => 
  bV (ixSl 1 x0_9 x1_9) fun x125 => 
  bV (ld1p x125 H) fun x126 => 
  bR (noPan (f241 D n [x122, x126] H)) fun x127 H => 
  bV (aun .not x127) fun x128 => 
  some (.norm [x128], H)) (some (.norm [undefA], H))) fun vs H => hd vs fun x128_2 vs => 
  bV (pk3 (some x117) (some x128_2) (some (.bool false))) fun x129 => 
  cnd x129 (bV (bInt .sub x11_8 (.int .i64 (.ofNat 1))) fun x131 => 
  some (.norm [x0_9, x1_9, x10_8, x131], H))
  (some (.exit 8 [x0_9, x1_9, x10_8, x11_8], H))
def f243b4 (D : Dyn) (n : Nat) (vs : List AV) (H : AH) : Rs :=
  hd vs fun x0_10 vs => hd vs fun x1_10 vs => hd vs fun x10_9 vs => hd vs fun x11_9 vs => 
  bV (bInt .gtr x10_9 x11_9) fun x134 => 
  cnd x134 (some (.exit 4 [x0_10, x1_10, x11_9], H))
  (bV (ixSl 1 x0_10 x11_9) fun x141 => 
  bV (ld1p x141 H) fun x142 => 
  bV (ixSl 1 x0_10 x10_9) fun x145 => 
  bV (ld1p x145 H) fun x146 => 
  bV (ixSl 1 x0_10 x10_9) fun x147 => 
  bR (stNp 1 x147 x142 H) fun x9999_7 H => 
  bV (ixSl 1 x0_10 x11_9) fun x148 => 
  bR (stNp 1 x148 x146 H) fun x9999_8 H => 
  bV (bInt .add x10_9 (.int .i64 (.ofNat 1))) fun x150 => 
  bV (bInt .sub x11_9 (.int .i64 (.ofNat 1))) fun x152 => 
  some (.norm [x0_10, x1_10, x150, x152], H))
def f243b5 (D : Dyn) (n : Nat) (vs : List AV) (H : AH) : Rs :=
  hd vs fun x0_8 vs => hd vs fun x1_8 vs => hd vs fun x10_7 vs => hd vs fun x11_7 vs => 
  jb 8 (loopK n (f243l3 D n) [x0_8, x1_8, x10_7, x11_7] H) (f243b4 D n)
def f243l6 (D : Dyn) (n : Nat) (vs : List AV) (H : AH) : Rs :=
  hd vs fun x0_6 vs => hd vs fun x1_6 vs => hd vs fun x10_5 vs => hd vs fun x11_5 vs => 
  jb 6 (loopK n (f243l2 D n) [x0_6, x1_6, x10_5, x11_5] H) (f243b5 D n)
def f243b7 (D : Dyn) (n : Nat) (vs : List AV) (H : AH) : Rs :=
  hd vs fun x0_11 vs => hd vs fun x1_11 vs => hd vs fun x11_10 vs => 
  bV (ixSl 1 x0_11 x1_11) fun x159 => 
  bV (ld1p x159 H) fun x160 => 
  bV (ixSl 1 x0_11 x11_10) fun x163 => 
  bV (ld1p x163 H) fun x164 => 
  bV (ixSl 1 x0_11 x11_10) fun x165 => 
  bR (stNp 1 x165 x160 H) fun x9999_9 H => 
  bV (ixSl 1 x0_11 x1_11) fun x166 => 
  bR (stNp 1 x166 x164 H) fun x9999_10 H => 
  bV (some x11_10) fun x8_2 => bV (some (.bool false)) fun x9_2 => some (.ret (.tuple [x8_2, x9_2]), H)
def f243b8 (D : Dyn) (n : Nat) (vs : List AV) (H : AH) : Rs :=
  hd vs fun x0_5 vs => hd vs fun x1_5 vs => hd vs fun x10_4 vs => hd vs fun x11_4 vs => 
  bV (bInt .gtr x10_4 x11_4) fun x65 => 
  cnd x65 (bV (ixSl 1 x0_5 x1_5) fun x72 => 
  bV (ld1p x72 H) fun x73 => 
  bV (ixSl 1 x0_5 x11_4) fun x76 => 
  bV (ld1p x76 H) fun x77 => 
  bV (ixSl 1 x0_5 x11_4) fun x78 => 
  bR (stNp 1 x78 x73 H) fun x9999_3 H => 
  bV (ixSl 1 x0_5 x1_5) fun x79 => 
  bR (stNp 1 x79 x77 H) fun x9999_4 H => 
  bV (some x11_4) fun x8 => bV (some (.bool true)) fun x9 => some (.ret (.tuple [x8, x9]), H))
  (bV (ixSl 1 x0_5 x11_4) fun x87 => 
  bV (ld1p x87 H) fun x88 => 
  bV (ixSl 1 x0_5 x10_4) fun x91 => 
  bV (ld1p x91 H) fun x92 => 
  bV (ixSl 1 x0_5 x10_4) fun x93 => 
  bR (stNp 1 x93 x88 H) fun x9999_5 H => 
  bV (ixSl 1 x0_5 x11_4) fun x94 => 
  bR (stNp 1 x94 x92 H) fun x9999_6 H => 
  bV (bInt .add x10_4 (.int .i64 (.ofNat 1))) fun x96 => 
  bV (bInt .sub x11_4 (.int .i64 (.ofNat 1))) fun x98 => 
  jb 4 (loopK n (f243l6 D n) [x0_5, x1_5, x96, x98] H) (f243b7 D n))
def f243b9 (D : Dyn) (n : Nat) (vs : List AV) (H : AH) : Rs :=
  hd vs fun x0_3 vs => hd vs fun x1_3 vs => hd vs fun x10_2 vs => hd vs fun x11_2 vs => 
  jb 2 (loopK n (f243l1 D n) [x0_3, x1_3, x10_2, x11_2] H) (f243b8 D n)
/-- slices.partitionOrdered[int] -/
def f243 (D : Dyn) (n : Nat) (vs : List AV) (H : AH) : Option (AV × AH) :=
  outR (hd vs fun x0 vs => hd vs fun x1 vs => hd vs fun x2 vs => hd vs fun x3 vs => nl vs <|
  bV (ixSl 1 x0 x3) fun x18 => 
  bV (ld1p x18 H) fun x19 => 
  bV (ixSl 1 x0 x1) fun x22 => 
  bV (ld1p x22 H) fun x23 => 
  bV (ixSl 1 x0 x1) fun x24 => 
  bR (stNp 1 x24 x19 H) fun x9999 H => 
  bV (ixSl 1 x0 x3) fun x25 => 
  bR (stNp 1 x25 x23 H) fun x9999_2 H => 
  bV (bInt .add x1 (.int .i64 (.ofNat 1))) fun x27 => 
  bV (bInt .sub x2 (.int .i64 (.ofNat 1))) fun x29 => 
  jb 0 (loopK n (f243l0 D n) [x0, x1, x27, x29] H) (f243b9 D n))
def h243 : Hint := (.s .o (.s .o (.s .o (.s (.b [0, 1, 10, 11] (.l [0, 1, 10, 11] (.s (.s .o (.cr .o .o)) (.b0 .o)))) (.s (.b [0, 1, 10, 11] (.l [0, 1, 10, 11] (.s (.s .o (.cr .o .o)) (.b0 .o)))) (.s (.s .o (.cl (.s .o (.s .o .o)) .o)) (.s .o (.s .o (.s .o (.s (.b [0, 1, 11] (.l [0, 1, 10, 11] (.b0 (.s (.b [0, 1, 10, 11] (.l [0, 1, 10, 11] (.s (.s .o (.cr .o .o)) (.b0 .o)))) (.s (.b [0, 1, 10, 11] (.l [0, 1, 10, 11] (.s (.s .o (.cr .o .o)) (.b0 .o)))) (.s (.s .o (.cl .o .o)) (.s .o (.s .o .o)))))))) (.s .o (.s .o .o))))))))))))
theorem f243_eq (D : Dyn) (n : Nat) : f243 D n = funKp (s243 D n) D n 243 Tryz.f243 h243 := by kernel_rfl
theorem f243_ok {D : Dyn} (hD : DP D) (n : Nat) : FP 243 (f243 D n) := fun_okP X_ok hD (SP.cons (f241_ok hD n) (SP.nil)) Tryz.func243 (by kernel_rfl) (by kernel_rfl) (f243_eq D n)

def s232 (D : Dyn) (n : Nat) : Tb := ⟨X, [(235, f235 D n), (236, f236 D n), (237, f237 D n), (238, f238 D n), (239, f239 D n), (240, f240 D n), (241, f241 D n), (242, f242 D n), (243, f243 D n)]⟩
def f232j0 (D : Dyn) (n : Nat) (vs : List AV) (H : AH) : Rs :=
  hd vs fun x0_6 vs => hd vs fun x1_6 vs => hd vs fun x2_6 vs => hd vs fun x3_6 vs => hd vs fun x8_5 vs => hd vs fun x9_5 vs => 
  some (.norm [x0_6, x1_6, x2_6, x3_6, x8_5, x9_5], H)
def f232j1 (D : Dyn) (n : Nat) (vs : List AV) (H : AH) : Rs :=
  hd vs fun x0_5 vs => hd vs fun x1_5 vs => hd vs fun x2_5 vs => hd vs fun x3_5 vs => hd vs fun x8_4 vs => hd vs fun x9_4 vs => hd vs fun x10_3 vs => hd vs fun x11_2 vs => 
  bV (bInt .gtr x1_5 (.int .i64 (.ofNat 0))) fun x74 => 
  jn (wnt x74 true (bV (bInt .sub x1_5 (.int .i64 (.ofNat 1))) fun x78 => 
  bV (ixSl 1 x0_5 x78) fun x79 => 
  bV (ld1p x79 H) fun x80 => 
  bV (ixSl 1 x0_5 x11_2) fun x83 => 
  bV (ld1p x83 H) fun x84 => 
  bR (noPan (f241 D n [x80, x84] H)) fun x85 H => 
  bV (aun .not x85) fun x86 => 
  some (.norm [x86], H)) (some (.norm [undefA], H))) fun vs H => hd vs fun x86_2 vs => 
  bV (pk3 (some x74) (some x86_2) (some (.bool false))) fun x87 => 
  cnd x87 (bR (noPan (f242 D n [x0_5, x1_5, x2_5, x11_2] H)) fun x92 H => 
  some (.exit 1 [x0_5, x92, x2_5, x3_5, x8_4, x9_4], H))
  (bR (noPan (f243 D n [x0_5, x1_5, x2_5, x11_2] H)) fun x99 H => 
  bV (pExtract x99 0) fun x100 => 
  bV (pExtract x99 1) fun x101 => 
  bV (bInt .sub x100 x1_5) fun x105 => 
  bV (bInt .sub x2_5 x100) fun x108 => 
  bV (bInt .quo x10_3 (.int .i64 (.ofNat 8))) fun x110 => 
  bV (bInt .lss x105 x108) fun x113 => 
  jn (cnd x113 (bV (bInt .geq x105 x110) fun x116 => 
  bR (noPan (D.fn 232 [x0_5, x1_5, x100, x3_5] H)) fun x121 H => 
  bV (bInt .add x100 (.int .i64 (.ofNat 1))) fun x123 => 
  some (.norm [x0_5, x123, x2_5, x3_5, x116, x101], H))
  (bV (bInt .geq x108 x110) fun x126 => 
  bV (bInt .add x100 (.int .i64 (.ofNat 1))) fun x129 => 
  bR (noPan (D.fn 232 [x0_5, x129, x2_5, x3_5] H)) fun x132 H => 
  some (.norm [x0_5, x1_5, x100, x3_5, x126, x101], H))) (f232j0 D n))
def f232j2 (D : Dyn) (n : Nat) (vs : List AV) (H : AH) : Rs :=
  hd vs fun x0_4 vs => hd vs fun x1_4 vs => hd vs fun x2_4 vs => hd vs fun x3_4 vs => hd vs fun x8_3 vs => hd vs fun x9_3 vs => hd vs fun x10_2 vs => hd vs fun x11 vs => hd vs fun x12 vs => 
  jn (wnt x8_3 true (some (.norm [x9_3], H)) (some (.norm [undefA], H))) fun vs H => hd vs fun x63 vs => 
  bV (pk3 (some x8_3) (some x63) (some (.bool false))) fun x64 => 
  jn (wnt x64 true (bV (bInt .eql x12 (.int .i64 (.ofNat 1))) fun x67 => 
  some (.norm [x67], H)) (some (.norm [undefA], H))) fun vs H => hd vs fun x67_2 vs => 
  bV (pk3 (some x64) (some x67_2) (some (.bool false))) fun x68 => 
  jn (cnd x68 (bR (noPan (f240 D n [x0_4, x1_4, x2_4] H)) fun x72 H => 
  cnd x72 (some (.ret (.tuple []), H))
  (some (.norm [x0_4, x1_4, x2_4, x3_4, x8_3, x9_3, x10_2, x11], H)))
  (some (.norm [x0_4, x1_4, x2_4, x3_4, x8_3, x9_3, x10_2, x11], H))) (f232j1 D n)
def f232j3 (D : Dyn) (n : Nat) (vs : List AV) (H : AH) : Rs :=
  hd vs fun x0_3 vs => hd vs fun x1_3 vs => hd vs fun x2_3 vs => hd vs fun x3_3 vs => hd vs fun x8_2 vs => hd vs fun x9_2 vs => hd vs fun x10 vs => 
  bR (noPan (f238 D n [x0_3, x1_3, x2_3] H)) fun x46 H => 
  bV (pExtract x46 0) fun x47 => 
  bV (pExtract x46 1) fun x48 => 
  bV (bInt .eql x48 (.int .i64 (.ofNat 2))) fun x50 => 
  jn (cnd x50 (bR (noPan (f239 D n [x0_3, x1_3, x2_3] H)) fun x54 H => 
  bV (bInt .sub x2_3 (.int .i64 (.ofNat 1))) fun x56 => 
  bV (bInt .sub x47 x1_3) fun x59 => 
  bV (bInt .sub x56 x59) fun x60 => 
  some (.norm [x0_3, x1_3, x2_3, x3_3, x8_2, x9_2, x10, x60, (.int .i64 (.ofNat 1))], H))
  (some (.norm [x0_3, x1_3, x2_3, x3_3, x8_2, x9_2, x10, x47, x48], H))) (f232j2 D n)
def f232b4 (D : Dyn) (n : Nat) (vs : List AV) (H : AH) : Rs :=
  hd vs fun x0_7 vs => hd vs fun x1_7 vs => hd vs fun x2_7 vs => hd vs fun x3_7 vs => hd vs fun x8_6 vs => hd vs fun x9_6 vs => 
  some (.norm [x0_7, x1_7, x2_7, x3_7, x8_6, x9_6], H)
def f232l5 (D : Dyn) (n : Nat) (vs : List AV) (H : AH) : Rs :=
  hd vs fun x0_2 vs => hd vs fun x1_2 vs => hd vs fun x2_2 vs => hd vs fun x3_2 vs => hd vs fun x8 vs => hd vs fun x9 vs => 
  jb 1 (bV (bInt .sub x2_2 x1_2) fun x21 => 
  bV (bInt .leq x21 (.int .i64 (.ofNat 12))) fun x23 => 
  cnd x23 (bR (noPan (f235 D n [x0_2, x1_2, x2_2] H)) fun x27 H => 
  some (.ret (.tuple []), H))
  (bV (bInt .eql x3_2 (.int .i64 (.ofNat 0))) fun x29 => 
  cnd x29 (bR (noPan (f236 D n [x0_2, x1_2, x2_2] H)) fun x33 H => 
  some (.ret (.tuple []), H))
  (bV (aun .not x8) fun x35 => 
  jn (cnd x35 (bR (noPan (f237 D n [x0_2, x1_2, x2_2] H)) fun x39 H => 
  bV (bInt .sub x3_2 (.int .i64 (.ofNat 1))) fun x41 => 
  some (.norm [x0_2, x1_2, x2_2, x41, x8, x9, x21], H))
  (some (.norm [x0_2, x1_2, x2_2, x3_2, x8, x9, x21], H))) (f232j3 D n)))) (f232b4 D n)
/-- slices.pdqsortOrdered[int] -/
def f232 (D : Dyn) (n : Nat) (vs : List AV) (H : AH) : Option (AV × AH) :=
  outR (hd vs fun x0 vs => hd vs fun x1 vs => hd vs fun x2 vs => hd vs fun x3 vs => nl vs <|
  loopK n (f232l5 D n) [x0, x1, x2, x3, (.bool true), (.bool true)] H)
def h232 : Hint := (.s .o (.s .o (.b0 (.l [0, 1, 2, 3, 8, 9] (.b [0, 1, 2, 3, 8, 9] (.s .o (.s (.s .o (.cl (.s .o .o) .o)) (.s (.s .o (.cl (.s .o .o) .o)) (.s (.s .o (.c [0, 1, 2, 3, 8, 9, 10] (.s .o .o) .o)) (.s .o (.s (.s .o (.c [0, 1, 2, 3, 8, 9, 10, 11, 12] (.s .o (.s .o .o)) .o)) (.s (.s .o (.c [0, 1, 2, 3, 8, 9, 10, 11] (.s .o (.cl .o .o)) .o)) (.s (.s .o (.cl (.s .o (.s .o .o)) .o)) (.s .o (.s .o (.s .o (.s .o (.s .o (.c [0, 1, 2, 3, 8, 9] (.s .o (.s .o .o)) (.s .o (.s .o .o)))))))))))))))))))))
theorem f232_eq (D : Dyn) (n : Nat) : f232 D n = funKp (s232 D n) D n 232 Tryz.f232 h232 := by kernel_rfl
theorem f232_ok {D : Dyn} (hD : DP D) (n : Nat) : FP 232 (f232 D n) := fun_okP X_ok hD (SP.cons (f235_ok hD n) (SP.cons (f236_ok hD n) (SP.cons (f237_ok hD n) (SP.cons (f238_ok hD n) (SP.cons (f239_ok hD n) (SP.cons (f240_ok hD n) (SP.cons (f241_ok hD n) (SP.cons (f242_ok hD n) (SP.cons (f243_ok hD n) (SP.nil)))))))))) Tryz.func232 (by kernel_rfl) (by kernel_rfl) (f232_eq D n)

def s226 (D : Dyn) (n : Nat) : Tb := ⟨X, [(233, f233 D n), (232, f232 D n)]⟩
/-- slices.Sort[[]int,int] -/
def f226 (D : Dyn) (n : Nat) (vs : List AV) (H : AH) : Option (AV × AH) :=
  outR (hd vs fun x0 vs => nl vs <|
  bV (lnSl x0) fun x4 => 
  bV (cvI .u64 x4) fun x8 => 
  bR (noPan (f233 D n [x8] H)) fun x9 H => 
  bR (noPan (f232 D n [x0, (.int .i64 (.ofNat 0)), x4, x9] H)) fun x10 H => 
  some (.ret (.tuple []), H))
def h226 : Hint := (.s .o .o)
theorem f226_eq (D : Dyn) (n : Nat) : f226 D n = funKp (s226 D n) D n 226 Tryz.f226 h226 := by kernel_rfl
theorem f226_ok {D : Dyn} (hD : DP D) (n : Nat) : FP 226 (f226 D n) := fun_okP X_ok hD (SP.cons (f233_ok hD n) (SP.cons (f232_ok hD n) (SP.nil))) Tryz.func226 (by kernel_rfl) (by kernel_rfl) (f226_eq D n)

noncomputable def q210 : ML := mlOf (bodyAt Tryz.f210 [1, 1, 0])
theorem q210_fits : q210.Fits 28 := by constructor <;> first | kernel_rfl | exact of_decide_eq_true (by kernel_rfl)
noncomputable def hb210 : Hint := (.s .o (.c [0, 1, 5, 12] .o .o))
noncomputable def h7210 : Hint := (.s .o (.s .o .o))
noncomputable def o210_0 : Array Oper := match bodyAt Tryz.f210 [0] with | .region _ o _ => o | _ => #[]
noncomputable def o210_1 : Array Oper := match bodyAt Tryz.f210 [1, 0] with | .region _ o _ => o | _ => #[]
theorem S210_ok : SOk [(211, p211), (226, sortK)] := SOk.cons p211_ok.fs (SOk.cons (sortK_ok (by kernel_rfl)).fs SOk.nil)
noncomputable def pre210 (vs : List AV) (H : AH) : Rs := hd vs fun x0 vs => hd vs fun x1 vs => hd vs fun x5 vs => bV (pNil x0) fun x9 => bV (fAd 0 x9) fun x10 => bV (ld1 x10 H) fun x11 => some (.norm (x11 :: [x0, x1, x5]), H)
theorem pre210_eq : q210.preK ⟨X, [(211, p211), (226, sortK)]⟩ dNone 28 [0, 1, 5] = pre210 := by kernel_rfl
noncomputable def rd210 (I : Nat) (vs : List AV) (k v : AV) (H : AH) : Rs := hd vs fun x0 vs => hd vs fun x1 vs => hd vs fun x5 vs =>
  bV (pExtract (.tuple [k, v]) 0) fun x16 => bV (pExtract (.tuple [k, v]) 1) fun x17 =>
  bR (noPan (callV [(211, p211), (226, sortK)] dNone x1 [x17] H)) fun x20 H =>
  jn (cnd x20 (bA (bldL 3 1 1 [.int .i64 (.ofNat 0)] [(0, x16)]) H fun x23 H => bR (apP 3 1 8 x5 x23 H) fun x24 H => some (.norm [x0, x1, x24, .ptr I 0], H)) (some (.norm [x0, x1, x5, .ptr I 0], H)))
    fun vs H => hd vs fun x0 vs => hd vs fun x1 vs => hd vs fun x5 vs => hd vs fun x12 vs => some (.norm [x12, x0, x1, x5], H)
theorem rd210_eq : q210.roundK ⟨X, [(211, p211), (226, sortK)]⟩ dNone 0 28 hb210 [0, 1, 5] = rd210 := by kernel_rfl
noncomputable def tl210 (vs : List AV) (H : AH) : Rs := hd vs fun x0 vs => hd vs fun x1 vs => hd vs fun x5 vs => bR (noPan (sortK [x5] H)) fun _ H => bV (some x5) fun x => some (.ret x, H)
theorem tl210_eq : (fun vs H => unp [0, 1, 5] vs env0 fun e => codeK ⟨X, [(211, p211), (226, sortK)]⟩ dNone 0 28 Tryz.f210.results.toList 210 false (bodyAt Tryz.f210 [1, 1, 1]) h7210 [] (fun _ _ => none) e H) = tl210 := by kernel_rfl
theorem those210 : FI 210 (thoseK 211 3) := by
  refine those_ok X_ok S210_ok (pg := p211) (q := q210) (hb := hb210) (h7 := h7210) (n := 0) (L := [0, 1, 5]) (i0 := 0) (i1 := 1) (o0 := o210_0) (o1 := o210_1) (c7 := bodyAt Tryz.f210 [1, 1, 1]) (fn := Tryz.f210) (kt := 3) (vt := 235) Tryz.func210 (by kernel_rfl) (by decide +kernel) q210_fits (by decide +kernel) (by decide +kernel) (by kernel_rfl) (by kernel_rfl) (by kernel_rfl) (fun a b H => by kernel_rfl) (fun A o b M H h => ?_) (fun I a b sl k v Hk r h => ?_) (fun v t C H r h h2 => ?_) (fun vs H => rfl) (by kernel_rfl) (fun a b sl H => ?_)
  · have e : q210.preK ⟨X, [(211, p211), (226, sortK)]⟩ dNone Tryz.f210.ntmps [0, 1, 5] = pre210 := pre210_eq
    rw [e]; simp only [pre210, hd, bV, pNil, fAd, fN_eq, Nat.add_zero, h]
  · have e : q210.roundK ⟨X, [(211, p211), (226, sortK)]⟩ dNone 0 Tryz.f210.ntmps hb210 [0, 1, 5] = rd210 := rd210_eq
    rw [e]; simp only [rd210, hd, bV, pExtract, nth, h, noPan, bR]
    cases r with
    | false => rfl
    | true =>
      simp only [cnd, cond_true]
      cases hb : bldL 3 1 1 [AV.int IntKind.i64 (Int.ofNat 0)] [(0, k)] with
      | none => rfl
      | some p =>
        obtain ⟨ob, mk⟩ := p
        simp only [bA, newB]
        split
        · split
          · rw [fN_eq, fN_eq]
            cases apP 3 1 8 sl (mk Hk.next) _ with
            | none => rfl
            | some p => rfl
          · rfl
        · rfl
  · unfold hsK at h2
    split at h2
    · rename_i a ha
      split at h2
      · rename_i b hb
        split at h2
        · rename_i r' hr'
          simp only [Option.some.injEq] at h2; subst h2
          simp only [p170, p211, hd, nl, bV, bR, outR, h, ha, hb, hr', noPan]
        · simp at h2
      · simp at h2
    · simp at h2
  · exact congrFun (congrFun tl210_eq [a, b, sl]) H
def s210 (D : Dyn) (n : Nat) : Tb := ⟨X, []⟩
/-- (*jetty/dead.Table).those, told -/
def f210 (D : Dyn) (n : Nat) (vs : List AV) (H : AH) : Option (AV × AH) := thoseKp 211 3 vs H
theorem f210_ok {D : Dyn} (hD : DP D) (n : Nat) : FP 210 (f210 D n) := ⟨_, those210, thoseKp_s⟩


def s211 (D : Dyn) (n : Nat) : Tb := ⟨X, [(170, f170 D n)]⟩
/-- (*jetty/dead.Table).Of$1 -/
def f211 (D : Dyn) (n : Nat) (vs : List AV) (H : AH) : Option (AV × AH) :=
  outR (hd vs fun x0 vs => hd vs fun x1 vs => nl vs <|
  bV (ld1p x1 H) fun x5 => 
  bR (noPan (f170 D n [x0, x5] H)) fun x6 H => 
  bV (some x6) fun x3 => some (.ret x3, H))
def h211 : Hint := (.s .o (.s .o .o))
theorem f211_eq (D : Dyn) (n : Nat) : f211 D n = funKp (s211 D n) D n 211 Tryz.f211 h211 := by kernel_rfl
theorem f211_ok {D : Dyn} (hD : DP D) (n : Nat) : FP 211 (f211 D n) := fun_okP X_ok hD (SP.cons (f170_ok hD n) (SP.nil)) Tryz.func211 (by kernel_rfl) (by kernel_rfl) (f211_eq D n)

def s157 (D : Dyn) (n : Nat) : Tb := ⟨X, [(155, f155 D n), (156, f156 D n), (210, f210 D n)]⟩
/-- (*jetty/dead.Table).Of -/
def f157 (D : Dyn) (n : Nat) (vs : List AV) (H : AH) : Option (AV × AH) :=
  outR (hd vs fun x0 vs => hd vs fun x1 vs => nl vs <|
  bA (bxV 3 x1) H fun x3 H => 
  bR (noPan (f155 D n [x0] H)) fun x6 H => 
  jn (wnt x6 false (bV (ld1p x3 H) fun x8 => 
  bR (noPan (f156 D n [x8] H)) fun x9 H => 
  bV (aun .not x9) fun x10 => 
  some (.norm [x10], H)) (some (.norm [undefA], H))) fun vs H => hd vs fun x10_2 vs => 
  bV (pk3 (some x6) (some (.bool true)) (some x10_2)) fun x11 => 
  cnd x11 (bV (some .nilSlice) fun x4 => some (.ret x4, H))
  (bR (noPan (f210 D n [x0, (.func 211 [] [x3])] H)) fun x14 H => 
  bV (some x14) fun x4_2 => some (.ret x4_2, H)))
def h157 : Hint := (.s .o (.s (.s .o (.cl (.s .o .o) .o)) (.s .o .o)))
theorem f157_eq (D : Dyn) (n : Nat) : f157 D n = funKp (s157 D n) D n 157 Tryz.f157 h157 := by kernel_rfl
theorem f157_ok {D : Dyn} (hD : DP D) (n : Nat) : FP 157 (f157 D n) := fun_okP X_ok hD (SP.cons (f155_ok hD n) (SP.cons (f156_ok hD n) (SP.cons (f210_ok hD n) (SP.nil)))) Tryz.func157 (by kernel_rfl) (by kernel_rfl) (f157_eq D n)

def s90 (D : Dyn) (n : Nat) : Tb := ⟨X, [(155, f155 D n), (156, f156 D n), (157, f157 D n), (158, f158 D n)]⟩
def f90l0 (D : Dyn) (n : Nat) (vs : List AV) (H : AH) : Rs :=
  hd vs fun x0_2 vs => hd vs fun x2_2 vs => hd vs fun x31_2 vs => hd vs fun x32_2 vs => hd vs fun x33 vs => 
  bV (bInt .lss x33 x32_2) fun x34 => 
  cnd x34 (bV (ixSl 1 x31_2 x33) fun x35 => 
  bV (ld1p x35 H) fun x36 => 
  bV (pNil x0_2) fun x40 => 
  bV (fAd 0 x40) fun x41 => 
  bV (ld1p x41 H) fun x42 => 
  bV (lkM [6] (.int .u8 (.ofNat 0)) false x42 x36 H) fun x44 => 
  bR (noPan (f158 D n [x0_2, x36, (.func 159 [x44] []), x2_2] H)) fun x47 H => 
  bV (bInt .add x33 (.int .i64 (.ofNat 1))) fun x48 => 
  some (.norm [x0_2, x2_2, x31_2, x32_2, x48], H))
  (some (.exit 0 [], H))
def f90b1 (D : Dyn) (n : Nat) (vs : List AV) (H : AH) : Rs :=
  
  bV (some (.int .i64 (.ofNat 0))) fun x6_4 => some (.ret x6_4, H)
/-- (*jetty/dead.Table).Like -/
def f90 (D : Dyn) (n : Nat) (vs : List AV) (H : AH) : Option (AV × AH) :=
  outR (hd vs fun x0 vs => hd vs fun x1 vs => hd vs fun x2 vs => nl vs <|
  bR (noPan (f155 D n [x0] H)) fun x10 H => 
  cnd x10 (bV (some (.int .i64 (.ofNat 2))) fun x6 => some (.ret x6, H))
  (bR (noPan (f156 D n [x1] H)) fun x12 H => 
  bV (aun .not x12) fun x13 => 
  jn (wnt x13 false (bR (noPan (f156 D n [x2] H)) fun x16 H => 
  bV (aun .not x16) fun x17 => 
  some (.norm [x17], H)) (some (.norm [undefA], H))) fun vs H => hd vs fun x17_2 vs => 
  bV (pk3 (some x13) (some (.bool true)) (some x17_2)) fun x18 => 
  jn (wnt x18 false (bV (bInt .eql x1 x2) fun x22 => 
  some (.norm [x22], H)) (some (.norm [undefA], H))) fun vs H => hd vs fun x22_2 vs => 
  bV (pk3 (some x18) (some (.bool true)) (some x22_2)) fun x23 => 
  cnd x23 (bV (some (.int .i64 (.ofNat 1))) fun x6_2 => some (.ret x6_2, H))
  (bR (noPan (f157 D n [x0, x2] H)) fun x26 H => 
  bV (lnSl x26) fun x27 => 
  bV (bInt .gtr x27 (.int .i64 (.ofNat 0))) fun x28 => 
  cnd x28 (bV (some (.int .i64 (.ofNat 50))) fun x6_3 => some (.ret x6_3, H))
  (bR (noPan (f157 D n [x0, x1] H)) fun x31 H => 
  bV (lnSl x31) fun x32 => 
  jb 0 (loopK n (f90l0 D n) [x0, x2, x31, x32, (.int .i64 (.ofNat 0))] H) (f90b1 D n)))))
def h90 : Hint := (.s .o (.s (.s .o (.cl (.s .o .o) .o)) (.s (.s .o (.cl (.s .o .o) .o)) (.s (.s .o (.cl (.s .o .o) .o)) (.s (.s .o (.b [] (.l [0, 2, 31, 32, 33] (.s .o (.s (.cr .o .o) (.s (.b0 (.s .o .o)) .o)))))) (.s .o .o))))))
theorem f90_eq (D : Dyn) (n : Nat) : f90 D n = funKp (s90 D n) D n 90 Tryz.f90 h90 := by kernel_rfl
theorem f90_ok {D : Dyn} (hD : DP D) (n : Nat) : FP 90 (f90 D n) := fun_okP X_ok hD (SP.cons (f155_ok hD n) (SP.cons (f156_ok hD n) (SP.cons (f157_ok hD n) (SP.cons (f158_ok hD n) (SP.nil))))) Tryz.func90 (by kernel_rfl) (by kernel_rfl) (f90_eq D n)

def s73 (D : Dyn) (n : Nat) : Tb := ⟨X, [(140, f140 D n)]⟩
/-- (*jetty/txg.Store).Root -/
def f73 (D : Dyn) (n : Nat) (vs : List AV) (H : AH) : Option (AV × AH) :=
  outR (hd vs fun x0 vs => nl vs <|
  bA (bxV 35 (.agg [(.int .i64 (.ofNat 0)), (.int .i64 (.ofNat 0)), (.int .u64 (.ofNat 0))])) H fun x2 H => 
  bR (noPan (f140 D n [x0] H)) fun x4 H => 
  cnd x4 (bV (bldSp [(0, 1), (1, 1), (2, 1)] [(.int .i64 (.ofNat 0)), (.int .i64 (.ofNat 0)), (.int .u64 (.ofNat 0))] []) fun x5 => 
  bR (stNp 3 x2 x5 H) fun x9999 H => 
  bV (ldNp 3 x2 H) fun x9002 => some (.ret x9002, H))
  (bV (pNil x0) fun x7 => 
  bV (fAd 6 x7) fun x8 => 
  bV (ldNp 3 x8 H) fun x9 => 
  bR (stNp 3 x2 x9 H) fun x9999_2 H => 
  bV (ldNp 3 x2 H) fun x9002_2 => some (.ret x9002_2, H)))
def h73 : Hint := (.s .o (.s (.s .o (.cl (.s .o .o) .o)) (.s .o .o)))
theorem f73_eq (D : Dyn) (n : Nat) : f73 D n = funKp (s73 D n) D n 73 Tryz.f73 h73 := by kernel_rfl
theorem f73_ok {D : Dyn} (hD : DP D) (n : Nat) : FP 73 (f73 D n) := fun_okP X_ok hD (SP.cons (f140_ok hD n) (SP.nil)) Tryz.func73 (by kernel_rfl) (by kernel_rfl) (f73_eq D n)

def s25 (D : Dyn) (n : Nat) : Tb := ⟨X, [(86, f86 D n), (87, f87 D n), (88, f88 D n), (31, f31 D n), (89, f89 D n), (90, f90 D n), (81, f81 D n), (73, f73 D n), (91, f91 D n)]⟩
/-- (*jetty/snap.Volume).Make -/
def f25 (D : Dyn) (n : Nat) (vs : List AV) (H : AH) : Option (AV × AH) :=
  outR (hd vs fun x0 vs => hd vs fun x1 vs => nl vs <|
  bA (bxV 59 (.agg [(.int .i64 (.ofNat 0)), (.str 0 0), (.int .i64 (.ofNat 0)), (.int .i64 (.ofNat 0)), (.int .i64 (.ofNat 0)), (.int .u64 (.ofNat 0))])) H fun x4 H => 
  bR (noPan (f86 D n [x0] H)) fun x11 H => 
  cnd x11 (bV (bldSp [(0, 1), (1, 1), (2, 1), (3, 3)] [(.int .i64 (.ofNat 0)), (.str 0 0), (.int .i64 (.ofNat 0)), (.int .i64 (.ofNat 0)), (.int .i64 (.ofNat 0)), (.int .u64 (.ofNat 0))] []) fun x12 => 
  bR (stNp 6 x4 x12 H) fun x9999 H => 
  bV (ldNp 6 x4 H) fun x9004 => bV (some (.int .i64 (.ofNat 2))) fun x5 => some (.ret (.tuple [x9004, x5]), H))
  (bR (noPan (f87 D n [x1] H)) fun x14 H => 
  bV (aun .not x14) fun x15 => 
  cnd x15 (bV (bldSp [(0, 1), (1, 1), (2, 1), (3, 3)] [(.int .i64 (.ofNat 0)), (.str 0 0), (.int .i64 (.ofNat 0)), (.int .i64 (.ofNat 0)), (.int .i64 (.ofNat 0)), (.int .u64 (.ofNat 0))] []) fun x16 => 
  bR (stNp 6 x4 x16 H) fun x9999_2 H => 
  bV (ldNp 6 x4 H) fun x9004_2 => bV (some (.int .i64 (.ofNat 1))) fun x5_2 => some (.ret (.tuple [x9004_2, x5_2]), H))
  (bR (noPan (f88 D n [x0, x1] H)) fun x19 H => 
  bV (bInt .geq x19 (.int .i64 (.ofNat 0))) fun x20 => 
  cnd x20 (bV (bldSp [(0, 1), (1, 1), (2, 1), (3, 3)] [(.int .i64 (.ofNat 0)), (.str 0 0), (.int .i64 (.ofNat 0)), (.int .i64 (.ofNat 0)), (.int .i64 (.ofNat 0)), (.int .u64 (.ofNat 0))] []) fun x21 => 
  bR (stNp 6 x4 x21 H) fun x9999_3 H => 
  bV (ldNp 6 x4 H) fun x9004_3 => bV (some (.int .i64 (.ofNat 6))) fun x5_3 => some (.ret (.tuple [x9004_3, x5_3]), H))
  (bV (pNil x0) fun x23 => 
  bV (fAd 2 x23) fun x24 => 
  bV (ld1p x24 H) fun x25 => 
  bV (lnSl x25) fun x26 => 
  bV (bInt .geq x26 (.int .i64 (.ofNat 6))) fun x27 => 
  jn (wnt x27 false (bV (pNil x0) fun x30 => 
  bV (fAd 1 x30) fun x31 => 
  bV (ld1p x31 H) fun x32 => 
  bV (bInt .geq x32 (.int .i64 (.ofNat 2147483647))) fun x33 => 
  some (.norm [x33], H)) (some (.norm [undefA], H))) fun vs H => hd vs fun x33_2 vs => 
  bV (pk3 (some x27) (some (.bool true)) (some x33_2)) fun x34 => 
  cnd x34 (bV (bldSp [(0, 1), (1, 1), (2, 1), (3, 3)] [(.int .i64 (.ofNat 0)), (.str 0 0), (.int .i64 (.ofNat 0)), (.int .i64 (.ofNat 0)), (.int .i64 (.ofNat 0)), (.int .u64 (.ofNat 0))] []) fun x35 => 
  bR (stNp 6 x4 x35 H) fun x9999_4 H => 
  bV (ldNp 6 x4 H) fun x9004_4 => bV (some (.int .i64 (.ofNat 3))) fun x5_4 => some (.ret (.tuple [x9004_4, x5_4]), H))
  (bR (noPan (f31 D n [x0] H)) fun x37 H => 
  bV (bInt .neq x37 (.int .i64 (.ofNat 0))) fun x39 => 
  cnd x39 (bV (bldSp [(0, 1), (1, 1), (2, 1), (3, 3)] [(.int .i64 (.ofNat 0)), (.str 0 0), (.int .i64 (.ofNat 0)), (.int .i64 (.ofNat 0)), (.int .i64 (.ofNat 0)), (.int .u64 (.ofNat 0))] []) fun x40 => 
  bR (stNp 6 x4 x40 H) fun x9999_5 H => 
  bV (ldNp 6 x4 H) fun x9004_5 => bV (some x37) fun x5_5 => some (.ret (.tuple [x9004_5, x5_5]), H))
  (bR (noPan (f89 D n [x0] H)) fun x43 H => 
  bV (bldSp [(0, 6), (6, 1)] [(.int .i64 (.ofNat 0)), (.str 0 0), (.int .i64 (.ofNat 0)), (.int .i64 (.ofNat 0)), (.int .i64 (.ofNat 0)), (.int .u64 (.ofNat 0)), (.int .i64 (.ofNat 0))] [(1, x43)]) fun x44 => 
  bA (bxV 138 (.agg [(.int .i64 (.ofNat 0)), (.str 0 0), (.int .i64 (.ofNat 0)), (.int .i64 (.ofNat 0)), (.int .i64 (.ofNat 0)), (.int .u64 (.ofNat 0)), (.int .i64 (.ofNat 0))])) H fun x7 H => 
  bR (stNp 7 x7 x44 H) fun x9999_6 H => 
  bV (pNil x0) fun x46 => 
  bV (fAd 3 x46) fun x47 => 
  bV (ld1p x47 H) fun x48 => 
  bV (fAd 6 x7) fun x49 => 
  bV (ld1p x49 H) fun x50 => 
  bR (noPan (f90 D n [x48, (.int .i64 (.ofNat 0)), x50] H)) fun x51 H => 
  bV (bInt .neq x51 (.int .i64 (.ofNat 0))) fun x53 => 
  cnd x53 (bV (bldSp [(0, 1), (1, 1), (2, 1), (3, 3)] [(.int .i64 (.ofNat 0)), (.str 0 0), (.int .i64 (.ofNat 0)), (.int .i64 (.ofNat 0)), (.int .i64 (.ofNat 0)), (.int .u64 (.ofNat 0))] []) fun x54 => 
  bR (stNp 6 x4 x54 H) fun x9999_7 H => 
  bV (ldNp 6 x4 H) fun x9004_6 => bV (some x51) fun x5_6 => some (.ret (.tuple [x9004_6, x5_6]), H))
  (bV (pNil x0) fun x57 => 
  bV (fAd 1 x57) fun x58 => 
  bV (ld1p x58 H) fun x59 => 
  bV (bInt .add x59 (.int .i64 (.ofNat 1))) fun x60 => 
  bV (pNil x0) fun x61 => 
  bV (fAd 1 x61) fun x62 => 
  bR (stNp 1 x62 x60 H) fun x9999_8 H => 
  bV (pNil x0) fun x64 => 
  bV (fAd 1 x64) fun x65 => 
  bV (ld1p x65 H) fun x66 => 
  bV (pNil x0) fun x69 => 
  bV (fAd 0 x69) fun x70 => 
  bV (ld1p x70 H) fun x71 => 
  bV (pNil x0) fun x74 => 
  bV (fAd 0 x74) fun x75 => 
  bV (ld1p x75 H) fun x76 => 
  bR (noPan (f81 D n [x71] H)) fun x72 H => chk (ld1p x65 H) x66 <| chk (ld1p x75 H) x76 <| 
  bR (noPan (f73 D n [x76] H)) fun x77 H => chk (ld1p x65 H) x66 <| 
  bV (bldSp [(0, 1), (1, 1), (2, 1), (3, 3)] [(.int .i64 (.ofNat 0)), (.str 0 0), (.int .i64 (.ofNat 0)), (.int .i64 (.ofNat 0)), (.int .i64 (.ofNat 0)), (.int .u64 (.ofNat 0))] [(0, x66), (1, x1), (2, x72), (3, x77)]) fun x78 => 
  bV (fAd 0 x7) fun x79 => 
  bR (stNp 6 x79 x78 H) fun x9999_9 H => 
  bV (pNil x0) fun x82 => 
  bV (fAd 2 x82) fun x83 => 
  bV (ld1p x83 H) fun x84 => 
  bV (ldNp 7 x7 H) fun x85 => 
  bA (bldLp 138 7 1 [(.int .i64 (.ofNat 0)), (.str 0 0), (.int .i64 (.ofNat 0)), (.int .i64 (.ofNat 0)), (.int .i64 (.ofNat 0)), (.int .u64 (.ofNat 0)), (.int .i64 (.ofNat 0))] [(0, x85)]) H fun x86 H => 
  bR (apPp 138 7 64 x84 x86 H) fun x87 H => 
  bV (pNil x0) fun x88 => 
  bV (fAd 2 x88) fun x89 => 
  bR (stNp 1 x89 x87 H) fun x9999_10 H => 
  bR (noPan (f91 D n [x0] H)) fun x91 H => 
  bV (bInt .neq x91 (.int .i64 (.ofNat 0))) fun x93 => 
  cnd x93 (bV (bldSp [(0, 1), (1, 1), (2, 1), (3, 3)] [(.int .i64 (.ofNat 0)), (.str 0 0), (.int .i64 (.ofNat 0)), (.int .i64 (.ofNat 0)), (.int .i64 (.ofNat 0)), (.int .u64 (.ofNat 0))] []) fun x94 => 
  bR (stNp 6 x4 x94 H) fun x9999_11 H => 
  bV (ldNp 6 x4 H) fun x9004_7 => bV (some x91) fun x5_7 => some (.ret (.tuple [x9004_7, x5_7]), H))
  (bV (fAd 0 x7) fun x96 => 
  bV (ldNp 6 x96 H) fun x97 => 
  bR (stNp 6 x4 x97 H) fun x9999_12 H => 
  bV (ldNp 6 x4 H) fun x9004_8 => bV (some (.int .i64 (.ofNat 0))) fun x5_8 => some (.ret (.tuple [x9004_8, x5_8]), H)))))))))
def h25 : Hint := (.s .o (.s (.s .o (.cl (.s .o .o) .o)) (.s (.s .o (.cl (.s .o .o) .o)) (.s (.s .o (.cl (.s .o .o) .o)) (.s (.s .o (.cl (.s .o .o) .o)) (.s (.s .o (.s .o (.cl (.s .o .o) .o))) (.s .o (.s (.s .o (.s .o (.cl (.s .o .o) .o))) (.s .o (.s .o (.s .o (.s (.s .o (.s .o (.cl (.s .o .o) .o))) (.s .o .o)))))))))))))
theorem f25_eq (D : Dyn) (n : Nat) : f25 D n = funKp (s25 D n) D n 25 Tryz.f25 h25 := by kernel_rfl
theorem f25_ok {D : Dyn} (hD : DP D) (n : Nat) : FP 25 (f25 D n) := fun_okP X_ok hD (SP.cons (f86_ok hD n) (SP.cons (f87_ok hD n) (SP.cons (f88_ok hD n) (SP.cons (f31_ok hD n) (SP.cons (f89_ok hD n) (SP.cons (f90_ok hD n) (SP.cons (f81_ok hD n) (SP.cons (f73_ok hD n) (SP.cons (f91_ok hD n) (SP.nil)))))))))) Tryz.func25 (by kernel_rfl) (by kernel_rfl) (f25_eq D n)

def s93 (D : Dyn) (n : Nat) : Tb := ⟨X, []⟩
/-- (*jetty/snap.Volume).At$1 -/
def f93 (D : Dyn) (n : Nat) (vs : List AV) (H : AH) : Option (AV × AH) :=
  outR (hd vs fun x0 vs => hd vs fun x1 vs => nl vs <|
  bA (bxV 59 x0) H fun x2 H => 
  bV (fAd 0 x2) fun x4 => 
  bV (ld1p x4 H) fun x5 => 
  bV (ld1p x1 H) fun x6 => 
  bV (bInt .eql x5 x6) fun x7 => 
  bV (some x7) fun x3 => some (.ret x3, H))
def h93 : Hint := (.s .o (.s .o .o))
theorem f93_eq (D : Dyn) (n : Nat) : f93 D n = funKp (s93 D n) D n 93 Tryz.f93 h93 := by kernel_rfl
theorem f93_ok {D : Dyn} (hD : DP D) (n : Nat) : FP 93 (f93 D n) := fun_okP X_ok hD (SP.nil) Tryz.func93 (by kernel_rfl) (by kernel_rfl) (f93_eq D n)

def s27 (D : Dyn) (n : Nat) : Tb := ⟨X, [(86, f86 D n), (72, f72 D n), (92, f92 D n), (94, f94 D n)]⟩
/-- (*jetty/snap.Volume).At -/
def f27 (D : Dyn) (n : Nat) (vs : List AV) (H : AH) : Option (AV × AH) :=
  outR (hd vs fun x0 vs => hd vs fun x1 vs => nl vs <|
  bA (bxV 3 x1) H fun x3 H => 
  bR (noPan (f86 D n [x0] H)) fun x8 H => 
  cnd x8 (bV (some .nilPtr) fun x4 => bV (some (.int .i64 (.ofNat 2))) fun x5 => some (.ret (.tuple [x4, x5]), H))
  (bV (ld1p x3 H) fun x9 => 
  bV (bInt .eql x9 (.int .i64 (.ofNat 0))) fun x10 => 
  cnd x10 (bV (pNil x0) fun x12 => 
  bV (fAd 0 x12) fun x13 => 
  bV (ld1p x13 H) fun x14 => 
  bR (noPan (f72 D n [x14] H)) fun x15 H => 
  bV (some x15) fun x4_2 => bV (some (.int .i64 (.ofNat 0))) fun x5_2 => some (.ret (.tuple [x4_2, x5_2]), H))
  (bR (noPan (f92 D n [x0, (.func 93 [] [x3])] H)) fun x18 H => 
  bV (bInt .lss x18 (.int .i64 (.ofNat 0))) fun x20 => 
  cnd x20 (bV (some .nilPtr) fun x4_3 => bV (some (.int .i64 (.ofNat 5))) fun x5_3 => some (.ret (.tuple [x4_3, x5_3]), H))
  (bV (pNil x0) fun x22 => 
  bV (fAd 0 x22) fun x23 => 
  bV (ld1p x23 H) fun x24 => 
  bV (pNil x0) fun x26 => 
  bV (fAd 2 x26) fun x27 => 
  bV (ld1p x27 H) fun x28 => 
  bV (ixSl 7 x28 x18) fun x30 => 
  bV (fAd 0 x30) fun x31 => 
  bV (fAd 3 x31) fun x32 => 
  bV (ldNp 3 x32 H) fun x33 => 
  bR (noPan (f94 D n [x24, x33] H)) fun x34 H => 
  bV (pExtract x34 0) fun x35 => 
  bV (pExtract x34 1) fun x36 => 
  bV (some x35) fun x4_4 => bV (some x36) fun x5_4 => some (.ret (.tuple [x4_4, x5_4]), H)))))
def h27 : Hint := (.s .o (.s (.s .o (.cl (.s .o .o) .o)) (.s (.s .o (.cl (.s .o .o) .o)) (.s .o (.s (.s .o (.cl (.s .o .o) .o)) (.s .o .o))))))
theorem f27_eq (D : Dyn) (n : Nat) : f27 D n = funKp (s27 D n) D n 27 Tryz.f27 h27 := by kernel_rfl
theorem f27_ok {D : Dyn} (hD : DP D) (n : Nat) : FP 27 (f27 D n) := fun_okP X_ok hD (SP.cons (f86_ok hD n) (SP.cons (f72_ok hD n) (SP.cons (f92_ok hD n) (SP.cons (f94_ok hD n) (SP.nil))))) Tryz.func27 (by kernel_rfl) (by kernel_rfl) (f27_eq D n)

def s111 (D : Dyn) (n : Nat) : Tb := ⟨X, []⟩
def f111l0 (D : Dyn) (n : Nat) (vs : List AV) (H : AH) : Rs :=
  hd vs fun x0_2 vs => hd vs fun x1_2 vs => hd vs fun x7_2 vs => hd vs fun x8 vs => 
  bV (bInt .lss x8 x7_2) fun x9 => 
  cnd x9 (bV (ixSl 1 x0_2 x8) fun x14 => 
  bV (ld1p x14 H) fun x15 => 
  bV (bStr .eql x1_2 x15) fun x16 => 
  cnd x16 (bV (some x8) fun x4 => some (.ret x4, H))
  (bV (bInt .add x8 (.int .i64 (.ofNat 1))) fun x18 => 
  some (.norm [x0_2, x1_2, x7_2, x18], H)))
  (some (.exit 0 [], H))
def f111b1 (D : Dyn) (n : Nat) (vs : List AV) (H : AH) : Rs :=
  
  bV (some (.int .i64 (.negSucc 0))) fun x4_2 => some (.ret x4_2, H)
/-- slices.Index[[]string,string] -/
def f111 (D : Dyn) (n : Nat) (vs : List AV) (H : AH) : Option (AV × AH) :=
  outR (hd vs fun x0 vs => hd vs fun x1 vs => nl vs <|
  bV (lnSl x0) fun x7 => 
  jb 0 (loopK n (f111l0 D n) [x0, x1, x7, (.int .i64 (.ofNat 0))] H) (f111b1 D n))
def h111 : Hint := (.s .o (.s (.s .o (.b [] (.l [0, 1, 7, 8] (.s .o (.s (.cr .o .o) (.s (.b0 (.s .o (.s .o (.cl (.s .o .o) .o)))) .o)))))) (.s .o .o)))
theorem f111_eq (D : Dyn) (n : Nat) : f111 D n = funKp (s111 D n) D n 111 Tryz.f111 h111 := by kernel_rfl
theorem f111_ok {D : Dyn} (hD : DP D) (n : Nat) : FP 111 (f111 D n) := fun_okP X_ok hD (SP.nil) Tryz.func111 (by kernel_rfl) (by kernel_rfl) (f111_eq D n)

def s45 (D : Dyn) (n : Nat) : Tb := ⟨X, [(111, f111 D n)]⟩
/-- jetty/node.Get -/
def f45 (D : Dyn) (n : Nat) (vs : List AV) (H : AH) : Option (AV × AH) :=
  outR (hd vs fun x0 vs => hd vs fun x1 vs => nl vs <|
  bA (bxV 46 x0) H fun x2 H => 
  bV (fAd 0 x2) fun x7 => 
  bV (ld1p x7 H) fun x8 => 
  bV (aun .not x8) fun x9 => 
  cnd x9 (bV (some (.str 0 0)) fun x4 => bV (some (.bool false)) fun x5 => some (.ret (.tuple [x4, x5]), H))
  (bV (fAd 1 x2) fun x10 => 
  bV (ld1p x10 H) fun x11 => 
  bR (noPan (f111 D n [x11, x1] H)) fun x13 H => 
  bV (bInt .lss x13 (.int .i64 (.ofNat 0))) fun x15 => 
  jn (wnt x15 false (bV (fAd 2 x2) fun x18 => 
  bV (ld1p x18 H) fun x19 => 
  bV (lnSl x19) fun x20 => 
  bV (bInt .geq x13 x20) fun x21 => 
  some (.norm [x21], H)) (some (.norm [undefA], H))) fun vs H => hd vs fun x21_2 vs => 
  bV (pk3 (some x15) (some (.bool true)) (some x21_2)) fun x22 => 
  cnd x22 (bV (some (.str 0 0)) fun x4_2 => bV (some (.bool false)) fun x5_2 => some (.ret (.tuple [x4_2, x5_2]), H))
  (bV (fAd 2 x2) fun x23 => 
  bV (ld1p x23 H) fun x24 => 
  bV (ixSl 1 x24 x13) fun x26 => 
  bV (ld1p x26 H) fun x27 => 
  bV (some x27) fun x4_3 => bV (some (.bool true)) fun x5_3 => some (.ret (.tuple [x4_3, x5_3]), H))))
def h45 : Hint := (.s .o (.s (.s .o (.cl (.s .o .o) .o)) (.s .o (.s (.s .o (.cl (.s .o .o) .o)) (.s .o .o)))))
theorem f45_eq (D : Dyn) (n : Nat) : f45 D n = funKp (s45 D n) D n 45 Tryz.f45 h45 := by kernel_rfl
theorem f45_ok {D : Dyn} (hD : DP D) (n : Nat) : FP 45 (f45 D n) := fun_okP X_ok hD (SP.cons (f111_ok hD n) (SP.nil)) Tryz.func45 (by kernel_rfl) (by kernel_rfl) (f45_eq D n)
end Go.Eng.Sh
