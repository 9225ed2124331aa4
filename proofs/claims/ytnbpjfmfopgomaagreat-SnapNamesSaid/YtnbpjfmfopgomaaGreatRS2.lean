/- Shallow functions, by program (gen.py). -/
import Derived.Test.YtnbpjfmfopgomaaGreatRS1
import Derived.Test.YtnbpjfmfopgomaaGreatProg
import Derived.KernelRfl
noncomputable section
namespace Go.Eng.Sh
open Go.Proofs
set_option maxRecDepth 100000
set_option linter.all false
def s40 (D : Dyn) (n : Nat) : Tb := ⟨X, []⟩
/-- (*jetty/space.Space).put -/
def f40 (D : Dyn) (n : Nat) (vs : List AV) (H : AH) : Option (AV × AH) :=
  outR (hd vs fun x0 vs => hd vs fun x1 vs => hd vs fun x2 vs => nl vs <|
  bV (pNil x0) fun x9 => 
  bV (fAd 2 x9) fun x10 => 
  bV (ixArr 8192 1 x10 x1) fun x11 => 
  bV (ld1p x11 H) fun x12 => 
  bV (pNil x0) fun x13 => 
  bV (fAd 8194 x13) fun x14 => 
  bV (ixArr 4 1 x14 x12) fun x15 => 
  bV (ld1p x15 H) fun x16 => 
  bV (bInt .sub x16 (.int .i64 (.ofNat 1))) fun x17 => 
  bV (pNil x0) fun x18 => 
  bV (fAd 8194 x18) fun x19 => 
  bV (ixArr 4 1 x19 x12) fun x20 => 
  bR (stNp 1 x20 x17 H) fun x9999 H => 
  bV (pNil x0) fun x23 => 
  bV (fAd 8194 x23) fun x24 => 
  bV (ixArr 4 1 x24 x2) fun x25 => 
  bV (ld1p x25 H) fun x26 => 
  bV (bInt .add x26 (.int .i64 (.ofNat 1))) fun x27 => 
  bV (pNil x0) fun x28 => 
  bV (fAd 8194 x28) fun x29 => 
  bV (ixArr 4 1 x29 x2) fun x30 => 
  bR (stNp 1 x30 x27 H) fun x9999_2 H => 
  bV (pNil x0) fun x34 => 
  bV (fAd 2 x34) fun x35 => 
  bV (ixArr 8192 1 x35 x1) fun x36 => 
  bR (stNp 1 x36 x2 H) fun x9999_3 H => 
  some (.ret (.tuple []), H))
def h40 : Hint := (.s .o (.s .o .o))
theorem f40_eq (D : Dyn) (n : Nat) : f40 D n = funKp (s40 D n) D n 40 Tryz.f40 h40 := by kernel_rfl
theorem f40_ok {D : Dyn} (hD : DP D) (n : Nat) : FP 40 (f40 D n) := fun_okP X_ok hD (SP.nil) Tryz.func40 (by kernel_rfl) (by kernel_rfl) (f40_eq D n)

def s7 (D : Dyn) (n : Nat) : Tb := ⟨X, [(40, f40 D n)]⟩
def f7l0 (D : Dyn) (n : Nat) (vs : List AV) (H : AH) : Rs :=
  hd vs fun x4 vs => hd vs fun x20 vs => 
  bV (bInt .lss x20 (.int .i64 (.ofNat 2))) fun x21 => 
  cnd x21 (bR (noPan (f40 D n [x4, x20, (.int .u8 (.ofNat 1))] H)) fun x25 H => 
  bV (bInt .add x20 (.int .i64 (.ofNat 1))) fun x26 => 
  some (.norm [x4, x26], H))
  (some (.exit 0 [x4], H))
def f7b1 (D : Dyn) (n : Nat) (vs : List AV) (H : AH) : Rs :=
  hd vs fun x4_2 vs => 
  bV (some x4_2) fun x2_2 => bV (some (.int .i64 (.ofNat 0))) fun x3_2 => some (.ret (.tuple [x2_2, x3_2]), H)
/-- jetty/space.New -/
def f7 (D : Dyn) (n : Nat) (vs : List AV) (H : AH) : Option (AV × AH) :=
  outR (hd vs fun x0 vs => nl vs <|
  bV (bInt .lss x0 (.int .i64 (.ofNat 64))) fun x7 => 
  jn (wnt x7 false (bV (bInt .gtr x0 (.int .i64 (.ofNat 8192))) fun x10 => 
  some (.norm [x10], H)) (some (.norm [undefA], H))) fun vs H => hd vs fun x10_2 vs => 
  bV (pk3 (some x7) (some (.bool true)) (some x10_2)) fun x11 => 
  cnd x11 (bV (some .nilPtr) fun x2 => bV (some (.int .i64 (.ofNat 1))) fun x3 => some (.ret (.tuple [x2, x3]), H))
  (bV (bldSp [(0, 1), (1, 1), (2, 8192), (8194, 4)] [(.int .i64 (.ofNat 0)), (.int .i64 (.ofNat 0)), .pk 8192 0, (.int .i64 (.ofNat 0)), (.int .i64 (.ofNat 0)), (.int .i64 (.ofNat 0)), (.int .i64 (.ofNat 0))] [(0, x0)]) fun x13 => 
  bA (bxV 75 x13) H fun x14 H => 
  bV (pNil x14) fun x17 => 
  bV (fAd 8194 x17) fun x18 => 
  bV (ixArr 4 1 x18 (.int .u8 (.ofNat 0))) fun x19 => 
  bR (stNp 1 x19 x0 H) fun x9999 H => 
  jb 0 (loopK n (f7l0 D n) [x14, (.int .i64 (.ofNat 0))] H) (f7b1 D n)))
def h7 : Hint := (.s .o (.s (.s .o (.cl (.s .o .o) .o)) (.s .o (.s .o (.s (.s .o (.b [4] (.l [4, 20] (.s .o (.s (.cr .o .o) (.s (.b0 (.s .o .o)) .o)))))) (.s .o .o))))))
theorem f7_eq (D : Dyn) (n : Nat) : f7 D n = funKp (s7 D n) D n 7 Tryz.f7 h7 := by kernel_rfl
theorem f7_ok {D : Dyn} (hD : DP D) (n : Nat) : FP 7 (f7 D n) := fun_okP X_ok hD (SP.cons (f40_ok hD n) (SP.nil)) Tryz.func7 (by kernel_rfl) (by kernel_rfl) (f7_eq D n)

def s8 (D : Dyn) (n : Nat) : Tb := ⟨X, [(41, f41 D n)]⟩
/-- jetty/tree.Open -/
def f8 (D : Dyn) (n : Nat) (vs : List AV) (H : AH) : Option (AV × AH) :=
  outR (hd vs fun x0 vs => hd vs fun x1 vs => hd vs fun x2 vs => nl vs <|
  bA (bxV 35 x2) H fun x5 H => 
  bV (cmpO .eql (eqP x0 .nilPtr)) fun x11 => 
  cnd x11 (bV (some .nilPtr) fun x6 => bV (some (.int .i64 (.ofNat 2))) fun x7 => some (.ret (.tuple [x6, x7]), H))
  (bV (ldNp 3 x5 H) fun x13 => 
  bR (noPan (f41 D n [x13] H)) fun x14 H => 
  bV (pExtract x14 0) fun x15 => 
  bV (pExtract x14 1) fun x16 => 
  bV (bInt .neq x16 (.int .i64 (.ofNat 0))) fun x18 => 
  jn (wnt x18 false (bV (fAd 0 x5) fun x20 => 
  bV (ld1p x20 H) fun x21 => 
  bV (bInt .eql x21 (.int .i64 (.ofNat 1))) fun x22 => 
  some (.norm [x22], H)) (some (.norm [undefA], H))) fun vs H => hd vs fun x22_2 vs => 
  bV (pk3 (some x18) (some (.bool true)) (some x22_2)) fun x23 => 
  cnd x23 (bV (some .nilPtr) fun x6_2 => bV (some (.int .i64 (.ofNat 1))) fun x7_2 => some (.ret (.tuple [x6_2, x7_2]), H))
  (bV (ldNp 3 x5 H) fun x26 => 
  bA (mkM [10]) H fun x27 H => 
  bV (bldSp [(0, 1), (1, 1), (2, 3), (5, 1), (6, 1), (7, 1)] [.nilPtr, .nilPtr, (.int .i64 (.ofNat 0)), (.int .i64 (.ofNat 0)), (.int .u64 (.ofNat 0)), .nilMap, (.int .u64 (.ofNat 0)), .nilSlice] [(0, x0), (1, x1), (2, x26), (3, x27)]) fun x28 => 
  bA (bxV 81 x28) H fun x29 H => 
  bV (some x29) fun x6_3 => bV (some (.int .i64 (.ofNat 0))) fun x7_3 => some (.ret (.tuple [x6_3, x7_3]), H))))
def h8 : Hint := (.s .o (.s (.s .o (.cl (.s .o .o) .o)) (.s (.s .o (.s .o (.cl (.s .o .o) .o))) (.s .o .o))))
theorem f8_eq (D : Dyn) (n : Nat) : f8 D n = funKp (s8 D n) D n 8 Tryz.f8 h8 := by kernel_rfl
theorem f8_ok {D : Dyn} (hD : DP D) (n : Nat) : FP 8 (f8 D n) := fun_okP X_ok hD (SP.cons (f41_ok hD n) (SP.nil)) Tryz.func8 (by kernel_rfl) (by kernel_rfl) (f8_eq D n)

def s42 (D : Dyn) (n : Nat) : Tb := ⟨X, []⟩
/-- (*jetty/tree.Tree).none -/
def f42 (D : Dyn) (n : Nat) (vs : List AV) (H : AH) : Option (AV × AH) :=
  outR (hd vs fun x0 vs => nl vs <|
  bV (cmpO .eql (eqP x0 .nilPtr)) fun x4 => 
  jn (wnt x4 false (bV (pNil x0) fun x7 => 
  bV (fAd 0 x7) fun x8 => 
  bV (ld1p x8 H) fun x9 => 
  bV (cmpO .eql (eqP x9 .nilPtr)) fun x10 => 
  some (.norm [x10], H)) (some (.norm [undefA], H))) fun vs H => hd vs fun x10_2 vs => 
  bV (pk3 (some x4) (some (.bool true)) (some x10_2)) fun x11 => 
  jn (wnt x11 false (bV (pNil x0) fun x14 => 
  bV (fAd 5 x14) fun x15 => 
  bV (ld1p x15 H) fun x16 => 
  bV (cmpO .eql (eqM x16 .nilMap)) fun x17 => 
  some (.norm [x17], H)) (some (.norm [undefA], H))) fun vs H => hd vs fun x17_2 vs => 
  bV (pk3 (some x11) (some (.bool true)) (some x17_2)) fun x18 => 
  bV (some x18) fun x2 => some (.ret x2, H))
def h42 : Hint := (.s .o (.s .o .o))
theorem f42_eq (D : Dyn) (n : Nat) : f42 D n = funKp (s42 D n) D n 42 Tryz.f42 h42 := by kernel_rfl
theorem f42_ok {D : Dyn} (hD : DP D) (n : Nat) : FP 42 (f42 D n) := fun_okP X_ok hD (SP.nil) Tryz.func42 (by kernel_rfl) (by kernel_rfl) (f42_eq D n)

def s116 (D : Dyn) (n : Nat) : Tb := ⟨X, []⟩
/-- (*jetty/arc.Cache).none -/
def f116 (D : Dyn) (n : Nat) (vs : List AV) (H : AH) : Option (AV × AH) :=
  outR (hd vs fun x0 vs => nl vs <|
  bV (cmpO .eql (eqP x0 .nilPtr)) fun x4 => 
  jn (wnt x4 false (bV (pNil x0) fun x7 => 
  bV (fAd 13 x7) fun x8 => 
  bV (ld1p x8 H) fun x9 => 
  bV (bInt .lss x9 (.int .i64 (.ofNat 1))) fun x10 => 
  some (.norm [x10], H)) (some (.norm [undefA], H))) fun vs H => hd vs fun x10_2 vs => 
  bV (pk3 (some x4) (some (.bool true)) (some x10_2)) fun x11 => 
  jn (wnt x11 false (bV (pNil x0) fun x14 => 
  bV (fAd 0 x14) fun x15 => 
  bV (fAd 12 x15) fun x16 => 
  bV (ld1p x16 H) fun x17 => 
  bV (cmpO .eql (eqM x17 .nilMap)) fun x18 => 
  some (.norm [x18], H)) (some (.norm [undefA], H))) fun vs H => hd vs fun x18_2 vs => 
  bV (pk3 (some x11) (some (.bool true)) (some x18_2)) fun x19 => 
  bV (some x19) fun x2 => some (.ret x2, H))
def h116 : Hint := (.s .o (.s .o .o))
theorem f116_eq (D : Dyn) (n : Nat) : f116 D n = funKp (s116 D n) D n 116 Tryz.f116 h116 := by kernel_rfl
theorem f116_ok {D : Dyn} (hD : DP D) (n : Nat) : FP 116 (f116 D n) := fun_okP X_ok hD (SP.nil) Tryz.func116 (by kernel_rfl) (by kernel_rfl) (f116_eq D n)

def s189 (D : Dyn) (n : Nat) : Tb := ⟨X, []⟩
/-- (*jetty/arc.rows).size -/
def f189 (D : Dyn) (n : Nat) (vs : List AV) (H : AH) : Option (AV × AH) :=
  outR (hd vs fun x0 vs => hd vs fun x1 vs => nl vs <|
  bV (pNil x0) fun x7 => 
  bV (fAd 0 x7) fun x8 => 
  bV (ixArr 4 3 x8 x1) fun x9 => 
  bV (fAd 2 x9) fun x10 => 
  bV (ld1p x10 H) fun x11 => 
  bV (some x11) fun x4 => some (.ret x4, H))
def h189 : Hint := (.s .o (.s .o .o))
theorem f189_eq (D : Dyn) (n : Nat) : f189 D n = funKp (s189 D n) D n 189 Tryz.f189 h189 := by kernel_rfl
theorem f189_ok {D : Dyn} (hD : DP D) (n : Nat) : FP 189 (f189 D n) := fun_okP X_ok hD (SP.nil) Tryz.func189 (by kernel_rfl) (by kernel_rfl) (f189_eq D n)

def s191 (D : Dyn) (n : Nat) : Tb := ⟨X, []⟩
def f191j0 (D : Dyn) (n : Nat) (vs : List AV) (H : AH) : Rs :=
  hd vs fun x1_3 vs => hd vs fun x4_2 vs => 
  bV (pNil x1_3) fun x59 => 
  bV (fAd 3 x59) fun x60 => 
  bR (stNp 1 x60 .nilPtr H) fun x9999_5 H => 
  bV (pNil x1_3) fun x61 => 
  bV (fAd 4 x61) fun x62 => 
  bR (stNp 1 x62 .nilPtr H) fun x9999_6 H => 
  bV (pNil x4_2) fun x64 => 
  bV (fAd 2 x64) fun x65 => 
  bV (ld1p x65 H) fun x66 => 
  bV (bInt .sub x66 (.int .i64 (.ofNat 1))) fun x67 => 
  bV (pNil x4_2) fun x68 => 
  bV (fAd 2 x68) fun x69 => 
  bR (stNp 1 x69 x67 H) fun x9999_7 H => 
  some (.ret (.tuple []), H)
def f191j1 (D : Dyn) (n : Nat) (vs : List AV) (H : AH) : Rs :=
  hd vs fun x1_2 vs => hd vs fun x4 vs => 
  bV (pNil x1_2) fun x36 => 
  bV (fAd 4 x36) fun x37 => 
  bV (ld1p x37 H) fun x38 => 
  bV (cmpO .eql (eqP x38 .nilPtr)) fun x39 => 
  jn (cnd x39 (bV (pNil x1_2) fun x42 => 
  bV (fAd 3 x42) fun x43 => 
  bV (ld1p x43 H) fun x44 => 
  bV (pNil x4) fun x45 => 
  bV (fAd 1 x45) fun x46 => 
  bR (stNp 1 x46 x44 H) fun x9999_3 H => 
  some (.norm [x1_2, x4], H))
  (bV (pNil x1_2) fun x48 => 
  bV (fAd 4 x48) fun x49 => 
  bV (ld1p x49 H) fun x50 => 
  bV (pNil x1_2) fun x52 => 
  bV (fAd 3 x52) fun x53 => 
  bV (ld1p x53 H) fun x54 => 
  bV (pNil x50) fun x55 => 
  bV (fAd 3 x55) fun x56 => 
  bR (stNp 1 x56 x54 H) fun x9999_4 H => 
  some (.norm [x1_2, x4], H))) (f191j0 D n)
/-- (*jetty/arc.rows).detach -/
def f191 (D : Dyn) (n : Nat) (vs : List AV) (H : AH) : Option (AV × AH) :=
  outR (hd vs fun x0 vs => hd vs fun x1 vs => nl vs <|
  bV (pNil x1) fun x7 => 
  bV (fAd 1 x7) fun x8 => 
  bV (ld1p x8 H) fun x9 => 
  bV (pNil x0) fun x10 => 
  bV (fAd 0 x10) fun x11 => 
  bV (ixArr 4 3 x11 x9) fun x12 => 
  bV (pNil x1) fun x14 => 
  bV (fAd 3 x14) fun x15 => 
  bV (ld1p x15 H) fun x16 => 
  bV (cmpO .eql (eqP x16 .nilPtr)) fun x17 => 
  jn (cnd x17 (bV (pNil x1) fun x20 => 
  bV (fAd 4 x20) fun x21 => 
  bV (ld1p x21 H) fun x22 => 
  bV (pNil x12) fun x23 => 
  bV (fAd 0 x23) fun x24 => 
  bR (stNp 1 x24 x22 H) fun x9999 H => 
  some (.norm [x1, x12], H))
  (bV (pNil x1) fun x26 => 
  bV (fAd 3 x26) fun x27 => 
  bV (ld1p x27 H) fun x28 => 
  bV (pNil x1) fun x30 => 
  bV (fAd 4 x30) fun x31 => 
  bV (ld1p x31 H) fun x32 => 
  bV (pNil x28) fun x33 => 
  bV (fAd 4 x33) fun x34 => 
  bR (stNp 1 x34 x32 H) fun x9999_2 H => 
  some (.norm [x1, x12], H))) (f191j1 D n))
def h191 : Hint := (.s .o (.s (.s .o (.c [1, 4] .o .o)) (.s (.s .o (.c [1, 4] .o .o)) (.s .o .o))))
theorem f191_eq (D : Dyn) (n : Nat) : f191 D n = funKp (s191 D n) D n 191 Tryz.f191 h191 := by kernel_rfl
theorem f191_ok {D : Dyn} (hD : DP D) (n : Nat) : FP 191 (f191 D n) := fun_okP X_ok hD (SP.nil) Tryz.func191 (by kernel_rfl) (by kernel_rfl) (f191_eq D n)

def s216 (D : Dyn) (n : Nat) : Tb := ⟨X, [(191, f191 D n)]⟩
/-- (*jetty/arc.rows).forget -/
def f216 (D : Dyn) (n : Nat) (vs : List AV) (H : AH) : Option (AV × AH) :=
  outR (hd vs fun x0 vs => hd vs fun x1 vs => nl vs <|
  bV (pNil x0) fun x7 => 
  bV (fAd 0 x7) fun x8 => 
  bV (ixArr 4 3 x8 x1) fun x9 => 
  bV (fAd 0 x9) fun x10 => 
  bV (ld1p x10 H) fun x11 => 
  bV (cmpO .eql (eqP x11 .nilPtr)) fun x13 => 
  cnd x13 (some (.ret (.tuple []), H))
  (bR (noPan (f191 D n [x0, x11] H)) fun x16 H => 
  bV (pNil x0) fun x18 => 
  bV (fAd 12 x18) fun x19 => 
  bV (ld1p x19 H) fun x20 => 
  bV (pNil x11) fun x22 => 
  bV (fAd 0 x22) fun x23 => 
  bV (ld1p x23 H) fun x24 => 
  bR (dlM [6] x20 x24 H) fun x9999 H => 
  some (.ret (.tuple []), H)))
def h216 : Hint := (.s .o (.s (.s .o (.cl .o .o)) (.s .o .o)))
theorem f216_eq (D : Dyn) (n : Nat) : f216 D n = funKp (s216 D n) D n 216 Tryz.f216 h216 := by kernel_rfl
theorem f216_ok {D : Dyn} (hD : DP D) (n : Nat) : FP 216 (f216 D n) := fun_okP X_ok hD (SP.cons (f191_ok hD n) (SP.nil)) Tryz.func216 (by kernel_rfl) (by kernel_rfl) (f216_eq D n)

def s192 (D : Dyn) (n : Nat) : Tb := ⟨X, []⟩
def f192j0 (D : Dyn) (n : Nat) (vs : List AV) (H : AH) : Rs :=
  hd vs fun x2_2 vs => hd vs fun x6 vs => 
  bV (pNil x6) fun x44 => 
  bV (fAd 1 x44) fun x45 => 
  bR (stNp 1 x45 x2_2 H) fun x9999_6 H => 
  bV (pNil x6) fun x47 => 
  bV (fAd 2 x47) fun x48 => 
  bV (ld1p x48 H) fun x49 => 
  bV (bInt .add x49 (.int .i64 (.ofNat 1))) fun x50 => 
  bV (pNil x6) fun x51 => 
  bV (fAd 2 x51) fun x52 => 
  bR (stNp 1 x52 x50 H) fun x9999_7 H => 
  some (.ret (.tuple []), H)
/-- (*jetty/arc.rows).attach -/
def f192 (D : Dyn) (n : Nat) (vs : List AV) (H : AH) : Option (AV × AH) :=
  outR (hd vs fun x0 vs => hd vs fun x1 vs => hd vs fun x2 vs => nl vs <|
  bV (pNil x0) fun x9 => 
  bV (fAd 0 x9) fun x10 => 
  bV (ixArr 4 3 x10 x1) fun x11 => 
  bV (pNil x2) fun x14 => 
  bV (fAd 1 x14) fun x15 => 
  bR (stNp 1 x15 x1 H) fun x9999 H => 
  bV (pNil x11) fun x19 => 
  bV (fAd 1 x19) fun x20 => 
  bV (ld1p x20 H) fun x21 => 
  bV (pNil x2) fun x22 => 
  bV (fAd 3 x22) fun x23 => 
  bR (stNp 1 x23 x21 H) fun x9999_2 H => 
  bV (pNil x2) fun x24 => 
  bV (fAd 4 x24) fun x25 => 
  bR (stNp 1 x25 .nilPtr H) fun x9999_3 H => 
  bV (pNil x11) fun x27 => 
  bV (fAd 1 x27) fun x28 => 
  bV (ld1p x28 H) fun x29 => 
  bV (cmpO .eql (eqP x29 .nilPtr)) fun x30 => 
  jn (cnd x30 (bV (pNil x11) fun x33 => 
  bV (fAd 0 x33) fun x34 => 
  bR (stNp 1 x34 x2 H) fun x9999_4 H => 
  some (.norm [x2, x11], H))
  (bV (pNil x11) fun x36 => 
  bV (fAd 1 x36) fun x37 => 
  bV (ld1p x37 H) fun x38 => 
  bV (pNil x38) fun x40 => 
  bV (fAd 4 x40) fun x41 => 
  bR (stNp 1 x41 x2 H) fun x9999_5 H => 
  some (.norm [x2, x11], H))) (f192j0 D n))
def h192 : Hint := (.s .o (.s .o (.s .o (.s (.s .o (.c [2, 6] .o .o)) (.s .o .o)))))
theorem f192_eq (D : Dyn) (n : Nat) : f192 D n = funKp (s192 D n) D n 192 Tryz.f192 h192 := by kernel_rfl
theorem f192_ok {D : Dyn} (hD : DP D) (n : Nat) : FP 192 (f192 D n) := fun_okP X_ok hD (SP.nil) Tryz.func192 (by kernel_rfl) (by kernel_rfl) (f192_eq D n)

def s217 (D : Dyn) (n : Nat) : Tb := ⟨X, [(191, f191 D n), (192, f192 D n)]⟩
/-- (*jetty/arc.rows).ghost -/
def f217 (D : Dyn) (n : Nat) (vs : List AV) (H : AH) : Option (AV × AH) :=
  outR (hd vs fun x0 vs => hd vs fun x1 vs => hd vs fun x2 vs => nl vs <|
  bV (pNil x0) fun x9 => 
  bV (fAd 0 x9) fun x10 => 
  bV (ixArr 4 3 x10 x1) fun x11 => 
  bV (fAd 0 x11) fun x12 => 
  bV (ld1p x12 H) fun x13 => 
  bV (cmpO .eql (eqP x13 .nilPtr)) fun x15 => 
  cnd x15 (some (.ret (.tuple []), H))
  (bR (noPan (f191 D n [x0, x13] H)) fun x18 H => 
  bV (pNil x13) fun x20 => 
  bV (fAd 2 x20) fun x21 => 
  bR (stNp 1 x21 .nilPtr H) fun x9999 H => 
  bR (noPan (f192 D n [x0, x2, x13] H)) fun x25 H => 
  some (.ret (.tuple []), H)))
def h217 : Hint := (.s .o (.s (.s .o (.cl .o .o)) (.s .o (.s .o .o))))
theorem f217_eq (D : Dyn) (n : Nat) : f217 D n = funKp (s217 D n) D n 217 Tryz.f217 h217 := by kernel_rfl
theorem f217_ok {D : Dyn} (hD : DP D) (n : Nat) : FP 217 (f217 D n) := fun_okP X_ok hD (SP.cons (f191_ok hD n) (SP.cons (f192_ok hD n) (SP.nil))) Tryz.func217 (by kernel_rfl) (by kernel_rfl) (f217_eq D n)

def s190 (D : Dyn) (n : Nat) : Tb := ⟨X, [(189, f189 D n), (217, f217 D n)]⟩
/-- (*jetty/arc.Cache).makeRoom -/
def f190 (D : Dyn) (n : Nat) (vs : List AV) (H : AH) : Option (AV × AH) :=
  outR (hd vs fun x0 vs => hd vs fun x1 vs => nl vs <|
  bV (pNil x0) fun x7 => 
  bV (fAd 0 x7) fun x8 => 
  bV (pNil x0) fun x11 => 
  bV (fAd 0 x11) fun x12 => 
  bR (noPan (f189 D n [x8, (.int .i64 (.ofNat 0))] H)) fun x9 H => 
  bR (noPan (f189 D n [x12, (.int .i64 (.ofNat 1))] H)) fun x13 H => 
  bV (bInt .add x9 x13) fun x16 => 
  bV (pNil x0) fun x18 => 
  bV (fAd 13 x18) fun x19 => 
  bV (ld1p x19 H) fun x20 => 
  bV (bInt .lss x16 x20) fun x21 => 
  cnd x21 (some (.ret (.tuple []), H))
  (bV (bInt .gtr x9 (.int .i64 (.ofNat 0))) fun x23 => 
  jn (wnt x23 true (bV (bInt .eql x13 (.int .i64 (.ofNat 0))) fun x26 => 
  some (.norm [x26], H)) (some (.norm [undefA], H))) fun vs H => hd vs fun x27 vs => 
  jn (wnt x27 false (bV (pNil x0) fun x30 => 
  bV (fAd 14 x30) fun x31 => 
  bV (ld1p x31 H) fun x32 => 
  bV (bInt .gtr x9 x32) fun x33 => 
  some (.norm [x33], H)) (some (.norm [undefA], H))) fun vs H => hd vs fun x33_2 vs => 
  jn (wnt x23 true (bV (pk3 (some x27) (some (.bool true)) (some x33_2)) fun x34 => 
  some (.norm [x34], H)) (some (.norm [undefA], H))) fun vs H => hd vs fun x35 vs => 
  jn (wnt x35 false (some (.norm [x1], H)) (some (.norm [undefA], H))) fun vs H => hd vs fun x37 vs => 
  jn (wnt x37 true (bV (pNil x0) fun x40 => 
  bV (fAd 14 x40) fun x41 => 
  bV (ld1p x41 H) fun x42 => 
  bV (bInt .eql x9 x42) fun x43 => 
  some (.norm [x43], H)) (some (.norm [undefA], H))) fun vs H => hd vs fun x43_2 vs => 
  jn (wnt x35 false (bV (pk3 (some x37) (some x43_2) (some (.bool false))) fun x44 => 
  some (.norm [x44], H)) (some (.norm [undefA], H))) fun vs H => hd vs fun x44_2 vs => 
  jn (wnt x23 true (bV (pk3 (some x35) (some (.bool true)) (some x44_2)) fun x45 => 
  some (.norm [x45], H)) (some (.norm [undefA], H))) fun vs H => hd vs fun x45_2 vs => 
  bV (pk3 (some x23) (some x45_2) (some (.bool false))) fun x46 => 
  cnd x46 (bV (pNil x0) fun x48 => 
  bV (fAd 0 x48) fun x49 => 
  bR (noPan (f217 D n [x49, (.int .i64 (.ofNat 0)), (.int .i64 (.ofNat 2))] H)) fun x50 H => 
  some (.ret (.tuple []), H))
  (bV (pNil x0) fun x52 => 
  bV (fAd 0 x52) fun x53 => 
  bR (noPan (f217 D n [x53, (.int .i64 (.ofNat 1)), (.int .i64 (.ofNat 3))] H)) fun x54 H => 
  some (.ret (.tuple []), H))))
def h190 : Hint := (.s .o (.s (.s .o (.cl .o .o)) (.s (.s .o (.cl (.s .o .o) .o)) .o)))
theorem f190_eq (D : Dyn) (n : Nat) : f190 D n = funKp (s190 D n) D n 190 Tryz.f190 h190 := by kernel_rfl
theorem f190_ok {D : Dyn} (hD : DP D) (n : Nat) : FP 190 (f190 D n) := fun_okP X_ok hD (SP.cons (f189_ok hD n) (SP.cons (f217_ok hD n) (SP.nil))) Tryz.func190 (by kernel_rfl) (by kernel_rfl) (f190_eq D n)

def s188 (D : Dyn) (n : Nat) : Tb := ⟨X, [(189, f189 D n), (216, f216 D n), (190, f190 D n), (192, f192 D n)]⟩
def f188j0 (D : Dyn) (n : Nat) (vs : List AV) (H : AH) : Rs :=
  hd vs fun x0_2 vs => hd vs fun x1_2 vs => hd vs fun x2_2 vs => 
  some (.norm [x0_2, x1_2, x2_2], H)
def f188j1 (D : Dyn) (n : Nat) (vs : List AV) (H : AH) : Rs :=
  hd vs fun x0_3 vs => hd vs fun x1_3 vs => hd vs fun x2_3 vs => 
  bR (noPan (f190 D n [x0_3, (.bool false)] H)) fun x79 H => 
  some (.norm [x0_3, x1_3, x2_3], H)
def f188j2 (D : Dyn) (n : Nat) (vs : List AV) (H : AH) : Rs :=
  hd vs fun x0_4 vs => hd vs fun x1_4 vs => hd vs fun x2_4 vs => 
  some (.norm [x0_4, x1_4, x2_4], H)
def f188j3 (D : Dyn) (n : Nat) (vs : List AV) (H : AH) : Rs :=
  hd vs fun x0_5 vs => hd vs fun x1_5 vs => hd vs fun x2_5 vs => 
  bV (bldSp [(0, 1), (1, 1), (2, 1), (3, 1), (4, 1)] [(.int .i64 (.ofNat 0)), (.int .i64 (.ofNat 0)), .nilPtr, .nilPtr, .nilPtr] [(0, x1_5), (2, x2_5)]) fun x82 => 
  bA (bxV 258 x82) H fun x83 H => 
  bV (pNil x0_5) fun x85 => 
  bV (fAd 0 x85) fun x86 => 
  bV (fAd 12 x86) fun x87 => 
  bV (ld1p x87 H) fun x88 => 
  bR (upM [6] x88 x1_5 x83 H) fun x9999 H => 
  bV (pNil x0_5) fun x92 => 
  bV (fAd 0 x92) fun x93 => 
  bR (noPan (f192 D n [x93, (.int .i64 (.ofNat 0)), x83] H)) fun x95 H => 
  some (.ret (.tuple []), H)
/-- (*jetty/arc.Cache).meet -/
def f188 (D : Dyn) (n : Nat) (vs : List AV) (H : AH) : Option (AV × AH) :=
  outR (hd vs fun x0 vs => hd vs fun x1 vs => hd vs fun x2 vs => nl vs <|
  bV (pNil x0) fun x13 => 
  bV (fAd 0 x13) fun x14 => 
  bV (pNil x0) fun x17 => 
  bV (fAd 0 x17) fun x18 => 
  bR (noPan (f189 D n [x14, (.int .i64 (.ofNat 0))] H)) fun x15 H => 
  bR (noPan (f189 D n [x18, (.int .i64 (.ofNat 1))] H)) fun x19 H => 
  bV (pNil x0) fun x21 => 
  bV (fAd 0 x21) fun x22 => 
  bV (pNil x0) fun x25 => 
  bV (fAd 0 x25) fun x26 => 
  bR (noPan (f189 D n [x22, (.int .i64 (.ofNat 2))] H)) fun x23 H => 
  bR (noPan (f189 D n [x26, (.int .i64 (.ofNat 3))] H)) fun x27 H => 
  bV (bInt .add x15 x19) fun x30 => 
  bV (bInt .add x30 x23) fun x32 => 
  bV (bInt .add x32 x27) fun x34 => 
  bV (bInt .add x15 x23) fun x38 => 
  bV (pNil x0) fun x40 => 
  bV (fAd 13 x40) fun x41 => 
  bV (ld1p x41 H) fun x42 => 
  bV (bInt .geq x38 x42) fun x43 => 
  jn (cnd x43 (bV (pNil x0) fun x46 => 
  bV (fAd 13 x46) fun x47 => 
  bV (ld1p x47 H) fun x48 => 
  bV (bInt .lss x15 x48) fun x49 => 
  jn (cnd x49 (bV (pNil x0) fun x51 => 
  bV (fAd 0 x51) fun x52 => 
  bR (noPan (f216 D n [x52, (.int .i64 (.ofNat 2))] H)) fun x53 H => 
  bR (noPan (f190 D n [x0, (.bool false)] H)) fun x55 H => 
  some (.norm [x0, x1, x2], H))
  (bV (pNil x0) fun x57 => 
  bV (fAd 0 x57) fun x58 => 
  bR (noPan (f216 D n [x58, (.int .i64 (.ofNat 0))] H)) fun x59 H => 
  some (.norm [x0, x1, x2], H))) (f188j0 D n))
  (bV (pNil x0) fun x63 => 
  bV (fAd 13 x63) fun x64 => 
  bV (ld1p x64 H) fun x65 => 
  bV (bInt .geq x34 x65) fun x66 => 
  jn (cnd x66 (bV (pNil x0) fun x69 => 
  bV (fAd 13 x69) fun x70 => 
  bV (ld1p x70 H) fun x71 => 
  bV (bInt .mul (.int .i64 (.ofNat 2)) x71) fun x72 => 
  bV (bInt .geq x34 x72) fun x73 => 
  jn (cnd x73 (bV (pNil x0) fun x75 => 
  bV (fAd 0 x75) fun x76 => 
  bR (noPan (f216 D n [x76, (.int .i64 (.ofNat 3))] H)) fun x77 H => 
  some (.norm [x0, x1, x2], H))
  (some (.norm [x0, x1, x2], H))) (f188j1 D n))
  (some (.norm [x0, x1, x2], H))) (f188j2 D n))) (f188j3 D n))
def h188 : Hint := (.s .o (.s .o (.s (.s .o (.b0 (.s .o (.c [0, 1, 2] (.s .o (.c [0, 1, 2] (.s .o .o) .o)) (.s .o (.c [0, 1, 2] (.s (.s .o (.c [0, 1, 2] .o .o)) .o) .o)))))) (.s .o (.s .o .o)))))
theorem f188_eq (D : Dyn) (n : Nat) : f188 D n = funKp (s188 D n) D n 188 Tryz.f188 h188 := by kernel_rfl
theorem f188_ok {D : Dyn} (hD : DP D) (n : Nat) : FP 188 (f188 D n) := fun_okP X_ok hD (SP.cons (f189_ok hD n) (SP.cons (f216_ok hD n) (SP.cons (f190_ok hD n) (SP.cons (f192_ok hD n) (SP.nil))))) Tryz.func188 (by kernel_rfl) (by kernel_rfl) (f188_eq D n)

def s117 (D : Dyn) (n : Nat) : Tb := ⟨X, [(188, f188 D n), (189, f189 D n), (190, f190 D n), (191, f191 D n), (192, f192 D n)]⟩
def f117j0 (D : Dyn) (n : Nat) (vs : List AV) (H : AH) : Rs :=
  hd vs fun x0_2 vs => hd vs fun x2_2 vs => hd vs fun x6 vs => 
  some (.norm [x0_2, x2_2, x6], H)
def f117j1 (D : Dyn) (n : Nat) (vs : List AV) (H : AH) : Rs :=
  hd vs fun x0_3 vs => hd vs fun x2_3 vs => hd vs fun x6_2 vs => 
  bV (pNil x0_3) fun x79 => 
  bV (fAd 0 x79) fun x80 => 
  bR (noPan (f191 D n [x80, x6_2] H)) fun x82 H => 
  bV (pNil x6_2) fun x85 => 
  bV (fAd 2 x85) fun x86 => 
  bR (stNp 1 x86 x2_3 H) fun x9999_3 H => 
  bV (pNil x0_3) fun x88 => 
  bV (fAd 0 x88) fun x89 => 
  bR (noPan (f192 D n [x89, (.int .i64 (.ofNat 1)), x6_2] H)) fun x91 H => 
  some (.ret (.tuple []), H)
/-- (*jetty/arc.Cache).have -/
def f117 (D : Dyn) (n : Nat) (vs : List AV) (H : AH) : Option (AV × AH) :=
  outR (hd vs fun x0 vs => hd vs fun x1 vs => hd vs fun x2 vs => nl vs <|
  bV (pNil x0) fun x10 => 
  bV (fAd 0 x10) fun x11 => 
  bV (fAd 12 x11) fun x12 => 
  bV (ld1p x12 H) fun x13 => 
  bV (lkM [6] .nilPtr false x13 x1 H) fun x15 => 
  bV (cmpO .eql (eqP x15 .nilPtr)) fun x17 => 
  cnd x17 (bR (noPan (f188 D n [x0, x1, x2] H)) fun x21 H => 
  some (.ret (.tuple []), H))
  (bV (pNil x15) fun x23 => 
  bV (fAd 1 x23) fun x24 => 
  bV (ld1p x24 H) fun x25 => 
  bV (bInt .eql x25 (.int .i64 (.ofNat 2))) fun x27 => 
  jn (cnd x27 (bV (pNil x0) fun x29 => 
  bV (fAd 0 x29) fun x30 => 
  bV (pNil x0) fun x33 => 
  bV (fAd 0 x33) fun x34 => 
  bR (noPan (f189 D n [x30, (.int .i64 (.ofNat 3))] H)) fun x31 H => 
  bR (noPan (f189 D n [x34, (.int .i64 (.ofNat 2))] H)) fun x35 H => 
  bV (bInt .quo x31 x35) fun x36 => 
  bV (mx2 (.int .i64 (.ofNat 1)) x36) fun x37 => 
  bV (pNil x0) fun x40 => 
  bV (fAd 13 x40) fun x41 => 
  bV (ld1p x41 H) fun x42 => 
  bV (pNil x0) fun x44 => 
  bV (fAd 14 x44) fun x45 => 
  bV (ld1p x45 H) fun x46 => 
  bV (bInt .add x46 x37) fun x48 => 
  bV (mn2 x42 x48) fun x49 => 
  bV (pNil x0) fun x50 => 
  bV (fAd 14 x50) fun x51 => 
  bR (stNp 1 x51 x49 H) fun x9999 H => 
  bR (noPan (f190 D n [x0, (.bool false)] H)) fun x53 H => 
  some (.norm [x0, x2, x15], H))
  (bV (bInt .eql x25 (.int .i64 (.ofNat 3))) fun x55 => 
  jn (cnd x55 (bV (pNil x0) fun x57 => 
  bV (fAd 0 x57) fun x58 => 
  bV (pNil x0) fun x61 => 
  bV (fAd 0 x61) fun x62 => 
  bR (noPan (f189 D n [x58, (.int .i64 (.ofNat 2))] H)) fun x59 H => 
  bR (noPan (f189 D n [x62, (.int .i64 (.ofNat 3))] H)) fun x63 H => 
  bV (bInt .quo x59 x63) fun x64 => 
  bV (mx2 (.int .i64 (.ofNat 1)) x64) fun x65 => 
  bV (pNil x0) fun x68 => 
  bV (fAd 14 x68) fun x69 => 
  bV (ld1p x69 H) fun x70 => 
  bV (bInt .sub x70 x65) fun x72 => 
  bV (mx2 (.int .i64 (.ofNat 0)) x72) fun x73 => 
  bV (pNil x0) fun x74 => 
  bV (fAd 14 x74) fun x75 => 
  bR (stNp 1 x75 x73 H) fun x9999_2 H => 
  bR (noPan (f190 D n [x0, (.bool true)] H)) fun x77 H => 
  some (.norm [x0, x2, x15], H))
  (some (.norm [x0, x2, x15], H))) (f117j0 D n))) (f117j1 D n)))
def h117 : Hint := (.s .o (.s (.s .o (.cl (.s .o .o) .o)) (.s (.s .o (.b0 (.s .o (.c [0, 2, 6] (.s .o (.s .o .o)) (.s .o (.c [0, 2, 6] (.s .o (.s .o .o)) .o)))))) (.s .o (.s .o .o)))))
theorem f117_eq (D : Dyn) (n : Nat) : f117 D n = funKp (s117 D n) D n 117 Tryz.f117 h117 := by kernel_rfl
theorem f117_ok {D : Dyn} (hD : DP D) (n : Nat) : FP 117 (f117 D n) := fun_okP X_ok hD (SP.cons (f188_ok hD n) (SP.cons (f189_ok hD n) (SP.cons (f190_ok hD n) (SP.cons (f191_ok hD n) (SP.cons (f192_ok hD n) (SP.nil)))))) Tryz.func117 (by kernel_rfl) (by kernel_rfl) (f117_eq D n)

def s178 (D : Dyn) (n : Nat) : Tb := ⟨X, [(116, f116 D n), (117, f117 D n)]⟩
/-- (*jetty/arc.Cache).Get -/
def f178 (D : Dyn) (n : Nat) (vs : List AV) (H : AH) : Option (AV × AH) :=
  outR (hd vs fun x0 vs => hd vs fun x1 vs => nl vs <|
  bA (bxV 100 (.agg [.pk 512 0])) H fun x4 H => 
  bR (noPan (f116 D n [x0] H)) fun x8 H => 
  cnd x8 (bV (bldAp 1 [.pk 512 0] []) fun x9 => 
  bR (stNp 512 x4 x9 H) fun x9999 H => 
  bV (ldNp 512 x4 H) fun x9004 => bV (some (.int .i64 (.ofNat 2))) fun x5 => some (.ret (.tuple [x9004, x5]), H))
  (bV (pNil x0) fun x11 => 
  bV (fAd 0 x11) fun x12 => 
  bV (fAd 12 x12) fun x13 => 
  bV (ld1p x13 H) fun x14 => 
  bV (lkM [6] .nilPtr false x14 x1 H) fun x16 => 
  bV (cmpO .eql (eqP x16 .nilPtr)) fun x18 => 
  jn (wnt x18 false (bV (pNil x16) fun x21 => 
  bV (fAd 2 x21) fun x22 => 
  bV (ld1p x22 H) fun x23 => 
  bV (cmpO .eql (eqP x23 .nilPtr)) fun x24 => 
  some (.norm [x24], H)) (some (.norm [undefA], H))) fun vs H => hd vs fun x24_2 vs => 
  bV (pk3 (some x18) (some (.bool true)) (some x24_2)) fun x25 => 
  cnd x25 (bV (bldAp 1 [.pk 512 0] []) fun x26 => 
  bR (stNp 512 x4 x26 H) fun x9999_2 H => 
  bV (ldNp 512 x4 H) fun x9004_2 => bV (some (.int .i64 (.ofNat 5))) fun x5_2 => some (.ret (.tuple [x9004_2, x5_2]), H))
  (bV (pNil x16) fun x30 => 
  bV (fAd 2 x30) fun x31 => 
  bV (ld1p x31 H) fun x32 => 
  bR (noPan (f117 D n [x0, x1, x32] H)) fun x33 H => 
  bV (pNil x16) fun x35 => 
  bV (fAd 2 x35) fun x36 => 
  bV (ld1p x36 H) fun x37 => 
  bV (pNil x37) fun x38 => 
  bV (ldNp 512 x38 H) fun x39 => 
  bR (stNp 512 x4 x39 H) fun x9999_3 H => 
  bV (ldNp 512 x4 H) fun x9004_3 => bV (some (.int .i64 (.ofNat 0))) fun x5_3 => some (.ret (.tuple [x9004_3, x5_3]), H))))
def h178 : Hint := (.s .o (.s (.s .o (.cl (.s .o .o) .o)) (.s .o (.s (.s .o (.cl (.s .o .o) .o)) (.s .o (.s .o .o))))))
theorem f178_eq (D : Dyn) (n : Nat) : f178 D n = funKp (s178 D n) D n 178 Tryz.f178 h178 := by kernel_rfl
theorem f178_ok {D : Dyn} (hD : DP D) (n : Nat) : FP 178 (f178 D n) := fun_okP X_ok hD (SP.cons (f116_ok hD n) (SP.cons (f117_ok hD n) (SP.nil))) Tryz.func178 (by kernel_rfl) (by kernel_rfl) (f178_eq D n)

def s139 (D : Dyn) (n : Nat) : Tb := ⟨X, [(204, f204 D n)]⟩
/-- jetty/block.Sum -/
def f139 (D : Dyn) (n : Nat) (vs : List AV) (H : AH) : Option (AV × AH) :=
  outR (hd vs fun x0 vs => nl vs <|
  bA (bxV 100 x0) H fun x1 H => 
  bV (slArr 512 1 x1 none none none) fun x3 => 
  bV (cvBSp x3 H) fun x4 => 
  bR (noPan (f204 D n [x4] H)) fun x5 H => 
  bV (some x5) fun x2 => some (.ret x2, H))
def h139 : Hint := (.s .o (.s .o .o))
theorem f139_eq (D : Dyn) (n : Nat) : f139 D n = funKp (s139 D n) D n 139 Tryz.f139 h139 := by kernel_rfl
theorem f139_ok {D : Dyn} (hD : DP D) (n : Nat) : FP 139 (f139 D n) := fun_okP X_ok hD (SP.cons (f204_ok hD n) (SP.nil)) Tryz.func139 (by kernel_rfl) (by kernel_rfl) (f139_eq D n)

def s179 (D : Dyn) (n : Nat) : Tb := ⟨X, [(139, f139 D n), (138, f138 D n)]⟩
/-- jetty/block.Check -/
def f179 (D : Dyn) (n : Nat) (vs : List AV) (H : AH) : Option (AV × AH) :=
  outR (hd vs fun x0 vs => hd vs fun x1 vs => nl vs <|
  bA (bxV 35 x0) H fun x2 H => 
  bA (bxV 100 x1) H fun x3 H => 
  bV (fAd 0 x2) fun x8 => 
  bV (ld1p x8 H) fun x9 => 
  bV (bInt .eql x9 (.int .i64 (.ofNat 0))) fun x10 => 
  jn (wnt x10 false (bV (ldNp 512 x3 H) fun x12 => 
  bV (fAd 2 x2) fun x14 => 
  bV (ld1p x14 H) fun x15 => 
  bR (noPan (f139 D n [x12] H)) fun x13 H => chk (ld1p x14 H) x15 <| 
  bV (bInt .neq x13 x15) fun x16 => 
  some (.norm [x16], H)) (some (.norm [undefA], H))) fun vs H => hd vs fun x16_2 vs => 
  bV (pk3 (some x10) (some (.bool true)) (some x16_2)) fun x17 => 
  cnd x17 (bV (some (.int .u8 (.ofNat 0))) fun x4 => bV (some (.str 0 0)) fun x5 => bV (some (.int .i64 (.ofNat 52))) fun x6 => some (.ret (.tuple [x4, x5, x6]), H))
  (bV (ldNp 512 x3 H) fun x19 => 
  bR (noPan (f138 D n [x19] H)) fun x20 H => 
  bV (pExtract x20 0) fun x21 => 
  bV (pExtract x20 1) fun x22 => 
  bV (pExtract x20 2) fun x23 => 
  bV (pExtract x20 3) fun x24 => 
  bV (bInt .neq x24 (.int .i64 (.ofNat 0))) fun x26 => 
  cnd x26 (bV (some (.int .u8 (.ofNat 0))) fun x4_2 => bV (some (.str 0 0)) fun x5_2 => bV (some x24) fun x6_2 => some (.ret (.tuple [x4_2, x5_2, x6_2]), H))
  (bV (fAd 1 x2) fun x29 => 
  bV (ld1p x29 H) fun x30 => 
  bV (bInt .neq x22 x30) fun x31 => 
  cnd x31 (bV (some (.int .u8 (.ofNat 0))) fun x4_3 => bV (some (.str 0 0)) fun x5_3 => bV (some (.int .i64 (.ofNat 52))) fun x6_3 => some (.ret (.tuple [x4_3, x5_3, x6_3]), H))
  (bV (some x21) fun x4_4 => bV (some x23) fun x5_4 => bV (some (.int .i64 (.ofNat 0))) fun x6_4 => some (.ret (.tuple [x4_4, x5_4, x6_4]), H)))))
def h179 : Hint := (.s .o (.s (.s .o (.cl (.s .o .o) .o)) (.s .o (.s (.s .o (.cl (.s .o .o) .o)) (.s (.s .o (.cl (.s .o .o) .o)) (.s .o .o))))))
theorem f179_eq (D : Dyn) (n : Nat) : f179 D n = funKp (s179 D n) D n 179 Tryz.f179 h179 := by kernel_rfl
theorem f179_ok {D : Dyn} (hD : DP D) (n : Nat) : FP 179 (f179 D n) := fun_okP X_ok hD (SP.cons (f139_ok hD n) (SP.cons (f138_ok hD n) (SP.nil))) Tryz.func179 (by kernel_rfl) (by kernel_rfl) (f179_eq D n)

def s53 (D : Dyn) (n : Nat) : Tb := ⟨X, [(116, f116 D n), (117, f117 D n)]⟩
/-- (*jetty/arc.Cache).Put -/
def f53 (D : Dyn) (n : Nat) (vs : List AV) (H : AH) : Option (AV × AH) :=
  outR (hd vs fun x0 vs => hd vs fun x1 vs => hd vs fun x2 vs => nl vs <|
  bA (bxV 100 x2) H fun x5 H => 
  bR (noPan (f116 D n [x0] H)) fun x8 H => 
  cnd x8 (bV (some (.int .i64 (.ofNat 2))) fun x6 => some (.ret x6, H))
  (bR (noPan (f117 D n [x0, x1, x5] H)) fun x11 H => 
  bV (some (.int .i64 (.ofNat 0))) fun x6_2 => some (.ret x6_2, H)))
def h53 : Hint := (.s .o (.s (.s .o (.cl (.s .o .o) .o)) (.s .o (.s .o .o))))
theorem f53_eq (D : Dyn) (n : Nat) : f53 D n = funKp (s53 D n) D n 53 Tryz.f53 h53 := by kernel_rfl
theorem f53_ok {D : Dyn} (hD : DP D) (n : Nat) : FP 53 (f53 D n) := fun_okP X_ok hD (SP.cons (f116_ok hD n) (SP.cons (f117_ok hD n) (SP.nil))) Tryz.func53 (by kernel_rfl) (by kernel_rfl) (f53_eq D n)

def s109 (D : Dyn) (n : Nat) : Tb := ⟨X, [(178, f178 D n), (179, f179 D n), (65, f65 D n), (53, f53 D n)]⟩
def f109j0 (D : Dyn) (n : Nat) (vs : List AV) (H : AH) : Rs :=
  hd vs fun x0_2 vs => hd vs fun x3_2 vs => 
  some (.norm [x0_2, x3_2], H)
def f109j1 (D : Dyn) (n : Nat) (vs : List AV) (H : AH) : Rs :=
  hd vs fun x14 vs => hd vs fun x15 vs => 
  bV (some x14) fun x4_4 => bV (some x15) fun x5_4 => bV (some (.int .i64 (.ofNat 0))) fun x6_4 => some (.ret (.tuple [x4_4, x5_4, x6_4]), H)
def f109j2 (D : Dyn) (n : Nat) (vs : List AV) (H : AH) : Rs :=
  hd vs fun x0_3 vs => hd vs fun x3_3 vs => 
  bV (pNil x0_3) fun x46 => 
  bV (fAd 0 x46) fun x47 => 
  bV (ld1p x47 H) fun x48 => 
  bV (fAd 0 x3_3) fun x49 => 
  bV (ld1p x49 H) fun x50 => 
  bA (bxV 100 (.agg [.pk 512 0])) H fun x12 H => 
  bR (noPan (f65 D n [x48, x50] H)) fun x51 H => 
  bV (pExtract x51 0) fun x52 => 
  bV (pExtract x51 1) fun x53 => 
  bR (stNp 512 x12 x52 H) fun x9999_2 H => 
  bV (bInt .neq x53 (.int .i64 (.ofNat 0))) fun x55 => 
  cnd x55 (bV (some (.int .u8 (.ofNat 0))) fun x4_2 => bV (some (.str 0 0)) fun x5_2 => bV (some x53) fun x6_2 => some (.ret (.tuple [x4_2, x5_2, x6_2]), H))
  (bV (ldNp 3 x3_3 H) fun x58 => 
  bV (ldNp 512 x12 H) fun x59 => 
  bR (noPan (f179 D n [x58, x59] H)) fun x60 H => 
  bV (pExtract x60 0) fun x61 => 
  bV (pExtract x60 1) fun x62 => 
  bV (pExtract x60 2) fun x63 => 
  bV (bInt .neq x63 (.int .i64 (.ofNat 0))) fun x65 => 
  cnd x65 (bV (some (.int .u8 (.ofNat 0))) fun x4_3 => bV (some (.str 0 0)) fun x5_3 => bV (some x63) fun x6_3 => some (.ret (.tuple [x4_3, x5_3, x6_3]), H))
  (bV (pNil x0_3) fun x68 => 
  bV (fAd 1 x68) fun x69 => 
  bV (ld1p x69 H) fun x70 => 
  bV (cmpO .neq (eqP x70 .nilPtr)) fun x71 => 
  jn (cnd x71 (bV (pNil x0_3) fun x73 => 
  bV (fAd 1 x73) fun x74 => 
  bV (ld1p x74 H) fun x75 => 
  bV (fAd 0 x3_3) fun x76 => 
  bV (ld1p x76 H) fun x77 => 
  bV (ldNp 512 x12 H) fun x78 => 
  bR (noPan (f53 D n [x75, x77, x78] H)) fun x79 H => 
  some (.norm [x61, x62], H))
  (some (.norm [x61, x62], H))) (f109j1 D n)))
/-- (*jetty/tree.Tree).body -/
def f109 (D : Dyn) (n : Nat) (vs : List AV) (H : AH) : Option (AV × AH) :=
  outR (hd vs fun x0 vs => hd vs fun x1 vs => nl vs <|
  bA (bxV 35 x1) H fun x3 H => 
  bV (pNil x0) fun x17 => 
  bV (fAd 1 x17) fun x18 => 
  bV (ld1p x18 H) fun x19 => 
  bV (cmpO .neq (eqP x19 .nilPtr)) fun x20 => 
  jn (cnd x20 (bV (pNil x0) fun x23 => 
  bV (fAd 1 x23) fun x24 => 
  bV (ld1p x24 H) fun x25 => 
  bV (fAd 0 x3) fun x26 => 
  bV (ld1p x26 H) fun x27 => 
  bA (bxV 100 (.agg [.pk 512 0])) H fun x7 H => 
  bR (noPan (f178 D n [x25, x27] H)) fun x28 H => 
  bV (pExtract x28 0) fun x29 => 
  bV (pExtract x28 1) fun x30 => 
  bR (stNp 512 x7 x29 H) fun x9999 H => 
  bV (bInt .eql x30 (.int .i64 (.ofNat 0))) fun x32 => 
  jn (cnd x32 (bV (ldNp 3 x3 H) fun x34 => 
  bV (ldNp 512 x7 H) fun x35 => 
  bR (noPan (f179 D n [x34, x35] H)) fun x36 H => 
  bV (pExtract x36 0) fun x37 => 
  bV (pExtract x36 1) fun x38 => 
  bV (pExtract x36 2) fun x39 => 
  bV (bInt .eql x39 (.int .i64 (.ofNat 0))) fun x41 => 
  cnd x41 (bV (some x37) fun x4 => bV (some x38) fun x5 => bV (some (.int .i64 (.ofNat 0))) fun x6 => some (.ret (.tuple [x4, x5, x6]), H))
  (some (.norm [x0, x3], H)))
  (some (.norm [x0, x3], H))) (f109j0 D n))
  (some (.norm [x0, x3], H))) (f109j2 D n))
def h109 : Hint := (.s .o (.s (.s .o (.c [0, 3] (.s .o (.s .o (.c [0, 3] (.s .o (.s .o (.cl (.s .o .o) .o))) .o))) .o)) (.s .o (.s (.s .o (.cl (.s .o .o) .o)) (.s .o (.s (.s .o (.cl (.s .o .o) .o)) (.s (.s .o (.c [14, 15] .o .o)) (.s .o .o))))))))
theorem f109_eq (D : Dyn) (n : Nat) : f109 D n = funKp (s109 D n) D n 109 Tryz.f109 h109 := by kernel_rfl
theorem f109_ok {D : Dyn} (hD : DP D) (n : Nat) : FP 109 (f109 D n) := fun_okP X_ok hD (SP.cons (f178_ok hD n) (SP.cons (f179_ok hD n) (SP.cons (f65_ok hD n) (SP.cons (f53_ok hD n) (SP.nil))))) Tryz.func109 (by kernel_rfl) (by kernel_rfl) (f109_eq D n)

def s180 (D : Dyn) (n : Nat) : Tb := ⟨X, []⟩
/-- (*jetty/node.reader).take -/
def f180 (D : Dyn) (n : Nat) (vs : List AV) (H : AH) : Option (AV × AH) :=
  outR (hd vs fun x0 vs => hd vs fun x1 vs => nl vs <|
  bV (pNil x0) fun x7 => 
  bV (fAd 1 x7) fun x8 => 
  bV (ld1p x8 H) fun x9 => 
  jn (wnt x9 false (bV (pNil x0) fun x12 => 
  bV (fAd 0 x12) fun x13 => 
  bV (ld1p x13 H) fun x14 => 
  bV (lnStr x14) fun x15 => 
  bV (bInt .lss x15 x1) fun x17 => 
  some (.norm [x17], H)) (some (.norm [undefA], H))) fun vs H => hd vs fun x17_2 vs => 
  bV (pk3 (some x9) (some (.bool true)) (some x17_2)) fun x18 => 
  cnd x18 (bV (pNil x0) fun x20 => 
  bV (fAd 1 x20) fun x21 => 
  bR (stNp 1 x21 (.bool true) H) fun x9999 H => 
  bV (some (.str 0 0)) fun x4 => some (.ret x4, H))
  (bV (pNil x0) fun x23 => 
  bV (fAd 0 x23) fun x24 => 
  bV (ld1p x24 H) fun x25 => 
  bV (slStr x25 none (some x1)) fun x27 => 
  bV (pNil x0) fun x30 => 
  bV (fAd 0 x30) fun x31 => 
  bV (ld1p x31 H) fun x32 => 
  bV (slStr x32 (some x1) none) fun x34 => 
  bV (pNil x0) fun x35 => 
  bV (fAd 0 x35) fun x36 => 
  bR (stNp 1 x36 x34 H) fun x9999_2 H => 
  bV (some x27) fun x4_2 => some (.ret x4_2, H)))
def h180 : Hint := (.s .o (.s (.s .o (.cl (.s .o (.s .o .o)) .o)) (.s .o (.s .o (.s .o .o)))))
theorem f180_eq (D : Dyn) (n : Nat) : f180 D n = funKp (s180 D n) D n 180 Tryz.f180 h180 := by kernel_rfl
theorem f180_ok {D : Dyn} (hD : DP D) (n : Nat) : FP 180 (f180 D n) := fun_okP X_ok hD (SP.nil) Tryz.func180 (by kernel_rfl) (by kernel_rfl) (f180_eq D n)

def s182 (D : Dyn) (n : Nat) : Tb := ⟨X, [(180, f180 D n), (144, f144 D n)]⟩
/-- (*jetty/node.reader).kid -/
def f182 (D : Dyn) (n : Nat) (vs : List AV) (H : AH) : Option (AV × AH) :=
  outR (hd vs fun x0 vs => nl vs <|
  bR (noPan (f180 D n [x0, (.int .i64 (.ofNat 16))] H)) fun x6 H => 
  bV (pNil x0) fun x8 => 
  bV (fAd 1 x8) fun x9 => 
  bV (ld1p x9 H) fun x10 => 
  cnd x10 (some (.ret (.tuple []), H))
  (bR (noPan (f144 D n [x6] H)) fun x13 H => 
  bV (pExtract x13 0) fun x14 => 
  bV (pExtract x13 1) fun x15 => 
  bA (bxV 35 (.agg [(.int .i64 (.ofNat 0)), (.int .i64 (.ofNat 0)), (.int .u64 (.ofNat 0))])) H fun x3 H => 
  bR (stNp 3 x3 x14 H) fun x9999 H => 
  bV (bInt .neq x15 (.int .i64 (.ofNat 0))) fun x17 => 
  cnd x17 (bV (pNil x0) fun x19 => 
  bV (fAd 1 x19) fun x20 => 
  bR (stNp 1 x20 (.bool true) H) fun x9999_2 H => 
  some (.ret (.tuple []), H))
  (bV (pNil x0) fun x23 => 
  bV (fAd 2 x23) fun x24 => 
  bV (fAd 3 x24) fun x25 => 
  bV (ld1p x25 H) fun x26 => 
  bV (ldNp 3 x3 H) fun x27 => 
  bA (bldLp 35 3 1 [(.int .i64 (.ofNat 0)), (.int .i64 (.ofNat 0)), (.int .u64 (.ofNat 0))] [(0, x27)]) H fun x28 H => 
  bR (apPp 35 3 24 x26 x28 H) fun x29 H => 
  bV (pNil x0) fun x30 => 
  bV (fAd 2 x30) fun x31 => 
  bV (fAd 3 x31) fun x32 => 
  bR (stNp 1 x32 x29 H) fun x9999_3 H => 
  some (.ret (.tuple []), H))))
def h182 : Hint := (.s .o (.s (.s .o (.cl .o .o)) (.s .o (.s (.s .o (.cl (.s .o .o) .o)) .o))))
theorem f182_eq (D : Dyn) (n : Nat) : f182 D n = funKp (s182 D n) D n 182 Tryz.f182 h182 := by kernel_rfl
theorem f182_ok {D : Dyn} (hD : DP D) (n : Nat) : FP 182 (f182 D n) := fun_okP X_ok hD (SP.cons (f180_ok hD n) (SP.cons (f144_ok hD n) (SP.nil))) Tryz.func182 (by kernel_rfl) (by kernel_rfl) (f182_eq D n)

def s125 (D : Dyn) (n : Nat) : Tb := ⟨X, []⟩
/-- jetty/node.mayKey -/
def f125 (D : Dyn) (n : Nat) (vs : List AV) (H : AH) : Option (AV × AH) :=
  outR (hd vs fun x0 vs => nl vs <|
  bV (lnStr x0) fun x4 => 
  bV (bInt .geq x4 (.int .i64 (.ofNat 1))) fun x5 => 
  jn (wnt x5 true (bV (lnStr x0) fun x8 => 
  bV (bInt .leq x8 (.int .i64 (.ofNat 40))) fun x9 => 
  some (.norm [x9], H)) (some (.norm [undefA], H))) fun vs H => hd vs fun x9_2 vs => 
  bV (pk3 (some x5) (some x9_2) (some (.bool false))) fun x10 => 
  bV (some x10) fun x2 => some (.ret x2, H))
def h125 : Hint := (.s .o (.s .o .o))
theorem f125_eq (D : Dyn) (n : Nat) : f125 D n = funKp (s125 D n) D n 125 Tryz.f125 h125 := by kernel_rfl
theorem f125_ok {D : Dyn} (hD : DP D) (n : Nat) : FP 125 (f125 D n) := fun_okP X_ok hD (SP.nil) Tryz.func125 (by kernel_rfl) (by kernel_rfl) (f125_eq D n)

def s124 (D : Dyn) (n : Nat) : Tb := ⟨X, [(125, f125 D n)]⟩
def f124l0 (D : Dyn) (n : Nat) (vs : List AV) (H : AH) : Rs :=
  hd vs fun x1_2 vs => hd vs fun x10_2 vs => hd vs fun x11_2 vs => hd vs fun x12 vs => 
  bV (bInt .lss x12 x11_2) fun x13 => 
  cnd x13 (bV (ixSl 1 x10_2 x12) fun x15 => 
  bV (ld1p x15 H) fun x16 => 
  bR (noPan (f125 D n [x16] H)) fun x18 H => 
  bV (aun .not x18) fun x19 => 
  jn (wnt x19 false (bV (bInt .gtr x12 (.int .i64 (.ofNat 0))) fun x22 => 
  some (.norm [x22], H)) (some (.norm [undefA], H))) fun vs H => hd vs fun x23 vs => 
  jn (wnt x23 true (bV (fAd 1 x1_2) fun x24 => 
  bV (ld1p x24 H) fun x25 => 
  bV (bInt .sub x12 (.int .i64 (.ofNat 1))) fun x27 => 
  bV (ixSl 1 x25 x27) fun x28 => 
  bV (ld1p x28 H) fun x29 => 
  bV (bStr .geq x29 x16) fun x31 => 
  some (.norm [x31], H)) (some (.norm [undefA], H))) fun vs H => hd vs fun x31_2 vs => 
  jn (wnt x19 false (bV (pk3 (some x23) (some x31_2) (some (.bool false))) fun x32 => 
  some (.norm [x32], H)) (some (.norm [undefA], H))) fun vs H => hd vs fun x32_2 vs => 
  bV (pk3 (some x19) (some (.bool true)) (some x32_2)) fun x33 => 
  cnd x33 (bV (some (.bool false)) fun x2 => some (.ret x2, H))
  (bV (bInt .add x12 (.int .i64 (.ofNat 1))) fun x34 => 
  some (.norm [x1_2, x10_2, x11_2, x34], H)))
  (some (.exit 0 [x1_2], H))
def f124l1 (D : Dyn) (n : Nat) (vs : List AV) (H : AH) : Rs :=
  hd vs fun x51_2 vs => hd vs fun x52_2 vs => hd vs fun x53 vs => 
  bV (bInt .lss x53 x52_2) fun x54 => 
  cnd x54 (bV (ixSl 1 x51_2 x53) fun x55 => 
  bV (ld1p x55 H) fun x56 => 
  bV (lnStr x56) fun x58 => 
  bV (bInt .gtr x58 (.int .i64 (.ofNat 200))) fun x59 => 
  cnd x59 (bV (some (.bool false)) fun x2_3 => some (.ret x2_3, H))
  (bV (bInt .add x53 (.int .i64 (.ofNat 1))) fun x60 => 
  some (.norm [x51_2, x52_2, x60], H)))
  (some (.exit 2 [], H))
def f124b2 (D : Dyn) (n : Nat) (vs : List AV) (H : AH) : Rs :=
  
  bV (some (.bool true)) fun x2_4 => some (.ret x2_4, H)
def f124l3 (D : Dyn) (n : Nat) (vs : List AV) (H : AH) : Rs :=
  hd vs fun x82_2 vs => hd vs fun x83_2 vs => hd vs fun x84 vs => 
  bV (bInt .lss x84 x83_2) fun x85 => 
  cnd x85 (bV (ixSl 3 x82_2 x84) fun x86 => 
  bV (ldNp 3 x86 H) fun x87 => 
  bA (bxV 35 (.agg [(.int .i64 (.ofNat 0)), (.int .i64 (.ofNat 0)), (.int .u64 (.ofNat 0))])) H fun x8 H => 
  bR (stNp 3 x8 x87 H) fun x9999 H => 
  bV (fAd 0 x8) fun x88 => 
  bV (ld1p x88 H) fun x89 => 
  bV (bInt .lss x89 (.int .i64 (.ofNat 1))) fun x90 => 
  jn (wnt x90 false (bV (fAd 0 x8) fun x92 => 
  bV (ld1p x92 H) fun x93 => 
  bV (bInt .geq x93 (.int .i64 (.ofNat 8192))) fun x94 => 
  some (.norm [x94], H)) (some (.norm [undefA], H))) fun vs H => hd vs fun x94_2 vs => 
  bV (pk3 (some x90) (some (.bool true)) (some x94_2)) fun x95 => 
  jn (wnt x95 false (bV (fAd 1 x8) fun x97 => 
  bV (ld1p x97 H) fun x98 => 
  bV (bInt .lss x98 (.int .i64 (.ofNat 0))) fun x99 => 
  some (.norm [x99], H)) (some (.norm [undefA], H))) fun vs H => hd vs fun x99_2 vs => 
  bV (pk3 (some x95) (some (.bool true)) (some x99_2)) fun x100 => 
  jn (wnt x100 false (bV (fAd 1 x8) fun x102 => 
  bV (ld1p x102 H) fun x103 => 
  bV (bInt .gtr x103 (.int .i64 (.ofNat 2147483647))) fun x104 => 
  some (.norm [x104], H)) (some (.norm [undefA], H))) fun vs H => hd vs fun x104_2 vs => 
  bV (pk3 (some x100) (some (.bool true)) (some x104_2)) fun x105 => 
  cnd x105 (bV (some (.bool false)) fun x2_6 => some (.ret x2_6, H))
  (bV (bInt .add x84 (.int .i64 (.ofNat 1))) fun x106 => 
  some (.norm [x82_2, x83_2, x106], H)))
  (some (.exit 4 [], H))
def f124b4 (D : Dyn) (n : Nat) (vs : List AV) (H : AH) : Rs :=
  
  bV (some (.bool true)) fun x2_7 => some (.ret x2_7, H)
def f124b5 (D : Dyn) (n : Nat) (vs : List AV) (H : AH) : Rs :=
  hd vs fun x1_3 vs => 
  bV (fAd 0 x1_3) fun x35 => 
  bV (ld1p x35 H) fun x36 => 
  cnd x36 (bV (fAd 2 x1_3) fun x37 => 
  bV (ld1p x37 H) fun x38 => 
  bV (lnSl x38) fun x39 => 
  bV (fAd 1 x1_3) fun x40 => 
  bV (ld1p x40 H) fun x41 => 
  bV (lnSl x41) fun x42 => 
  bV (bInt .neq x39 x42) fun x43 => 
  jn (wnt x43 false (bV (fAd 3 x1_3) fun x45 => 
  bV (ld1p x45 H) fun x46 => 
  bV (lnSl x46) fun x47 => 
  bV (bInt .neq x47 (.int .i64 (.ofNat 0))) fun x48 => 
  some (.norm [x48], H)) (some (.norm [undefA], H))) fun vs H => hd vs fun x48_2 vs => 
  bV (pk3 (some x43) (some (.bool true)) (some x48_2)) fun x49 => 
  cnd x49 (bV (some (.bool false)) fun x2_2 => some (.ret x2_2, H))
  (bV (fAd 2 x1_3) fun x50 => 
  bV (ld1p x50 H) fun x51 => 
  bV (lnSl x51) fun x52 => 
  jb 2 (loopK n (f124l1 D n) [x51, x52, (.int .i64 (.ofNat 0))] H) (f124b2 D n)))
  (bV (fAd 1 x1_3) fun x61 => 
  bV (ld1p x61 H) fun x62 => 
  bV (lnSl x62) fun x63 => 
  bV (bInt .eql x63 (.int .i64 (.ofNat 0))) fun x64 => 
  jn (wnt x64 false (bV (fAd 2 x1_3) fun x66 => 
  bV (ld1p x66 H) fun x67 => 
  bV (lnSl x67) fun x68 => 
  bV (bInt .neq x68 (.int .i64 (.ofNat 0))) fun x69 => 
  some (.norm [x69], H)) (some (.norm [undefA], H))) fun vs H => hd vs fun x69_2 vs => 
  bV (pk3 (some x64) (some (.bool true)) (some x69_2)) fun x70 => 
  jn (wnt x70 false (bV (fAd 3 x1_3) fun x72 => 
  bV (ld1p x72 H) fun x73 => 
  bV (lnSl x73) fun x74 => 
  bV (fAd 1 x1_3) fun x75 => 
  bV (ld1p x75 H) fun x76 => 
  bV (lnSl x76) fun x77 => 
  bV (bInt .add x77 (.int .i64 (.ofNat 1))) fun x78 => 
  bV (bInt .neq x74 x78) fun x79 => 
  some (.norm [x79], H)) (some (.norm [undefA], H))) fun vs H => hd vs fun x79_2 vs => 
  bV (pk3 (some x70) (some (.bool true)) (some x79_2)) fun x80 => 
  cnd x80 (bV (some (.bool false)) fun x2_5 => some (.ret x2_5, H))
  (bV (fAd 3 x1_3) fun x81 => 
  bV (ld1p x81 H) fun x82 => 
  bV (lnSl x82) fun x83 => 
  jb 4 (loopK n (f124l3 D n) [x82, x83, (.int .i64 (.ofNat 0))] H) (f124b4 D n)))
/-- jetty/node.shaped -/
def f124 (D : Dyn) (n : Nat) (vs : List AV) (H : AH) : Option (AV × AH) :=
  outR (hd vs fun x0 vs => nl vs <|
  bA (bxV 46 x0) H fun x1 H => 
  bV (fAd 1 x1) fun x9 => 
  bV (ld1p x9 H) fun x10 => 
  bV (lnSl x10) fun x11 => 
  jb 0 (loopK n (f124l0 D n) [x1, x10, x11, (.int .i64 (.ofNat 0))] H) (f124b5 D n))
def h124 : Hint := (.s .o (.s (.s .o (.b [1] (.l [1, 10, 11, 12] (.s .o (.s (.cr .o .o) (.s (.b0 (.s .o (.s .o (.cl (.s .o .o) .o)))) .o)))))) (.s (.s .o (.cl (.s (.s .o (.cl (.s .o .o) .o)) (.s (.s .o (.b [] (.l [51, 52, 53] (.s .o (.s (.cr .o .o) (.s (.b0 (.s .o (.s .o (.cl (.s .o .o) .o)))) .o)))))) (.s .o .o))) .o)) (.s (.s .o (.cl (.s .o .o) .o)) (.s (.s .o (.b [] (.l [82, 83, 84] (.s .o (.s (.cr .o .o) (.s (.b0 (.s .o (.s .o (.cl (.s .o .o) .o)))) .o)))))) (.s .o .o))))))
theorem f124_eq (D : Dyn) (n : Nat) : f124 D n = funKp (s124 D n) D n 124 Tryz.f124 h124 := by kernel_rfl
theorem f124_ok {D : Dyn} (hD : DP D) (n : Nat) : FP 124 (f124 D n) := fun_okP X_ok hD (SP.cons (f125_ok hD n) (SP.nil)) Tryz.func124 (by kernel_rfl) (by kernel_rfl) (f124_eq D n)

def s185 (D : Dyn) (n : Nat) : Tb := ⟨X, []⟩
def f185l0 (D : Dyn) (n : Nat) (vs : List AV) (H : AH) : Rs :=
  hd vs fun x1_2 vs => hd vs fun x3 vs => hd vs fun x14_2 vs => hd vs fun x15_2 vs => hd vs fun x16 vs => 
  bV (bInt .lss x16 x15_2) fun x17 => 
  cnd x17 (bV (ixSl 1 x14_2 x16) fun x18 => 
  bV (ld1p x18 H) fun x19 => 
  bV (lnStr x19) fun x22 => 
  bV (bInt .add (.int .i64 (.ofNat 1)) x22) fun x23 => 
  bV (bInt .add x3 x23) fun x24 => 
  bV (bInt .add x16 (.int .i64 (.ofNat 1))) fun x25 => 
  some (.norm [x1_2, x24, x14_2, x15_2, x25], H))
  (some (.exit 0 [x1_2, x3], H))
def f185l1 (D : Dyn) (n : Nat) (vs : List AV) (H : AH) : Rs :=
  hd vs fun x3_3 vs => hd vs fun x27_2 vs => hd vs fun x28_2 vs => hd vs fun x29 vs => 
  bV (bInt .lss x29 x28_2) fun x30 => 
  cnd x30 (bV (ixSl 1 x27_2 x29) fun x31 => 
  bV (ld1p x31 H) fun x32 => 
  bV (lnStr x32) fun x35 => 
  bV (bInt .add (.int .i64 (.ofNat 1)) x35) fun x36 => 
  bV (bInt .add x3_3 x36) fun x37 => 
  bV (bInt .add x29 (.int .i64 (.ofNat 1))) fun x38 => 
  some (.norm [x37, x27_2, x28_2, x38], H))
  (some (.exit 2 [x3_3], H))
def f185b2 (D : Dyn) (n : Nat) (vs : List AV) (H : AH) : Rs :=
  hd vs fun x3_4 vs => 
  bV (some x3_4) fun x2 => some (.ret x2, H)
def f185b3 (D : Dyn) (n : Nat) (vs : List AV) (H : AH) : Rs :=
  hd vs fun x1_3 vs => hd vs fun x3_2 vs => 
  bV (fAd 2 x1_3) fun x26 => 
  bV (ld1p x26 H) fun x27 => 
  bV (lnSl x27) fun x28 => 
  jb 2 (loopK n (f185l1 D n) [x3_2, x27, x28, (.int .i64 (.ofNat 0))] H) (f185b2 D n)
/-- jetty/node.Size -/
def f185 (D : Dyn) (n : Nat) (vs : List AV) (H : AH) : Option (AV × AH) :=
  outR (hd vs fun x0 vs => nl vs <|
  bA (bxV 46 x0) H fun x1 H => 
  bV (fAd 3 x1) fun x8 => 
  bV (ld1p x8 H) fun x9 => 
  bV (lnSl x9) fun x10 => 
  bV (bInt .mul (.int .i64 (.ofNat 16)) x10) fun x11 => 
  bV (bInt .add (.int .i64 (.ofNat 2)) x11) fun x12 => 
  bV (fAd 1 x1) fun x13 => 
  bV (ld1p x13 H) fun x14 => 
  bV (lnSl x14) fun x15 => 
  jb 0 (loopK n (f185l0 D n) [x1, x12, x14, x15, (.int .i64 (.ofNat 0))] H) (f185b3 D n))
def h185 : Hint := (.s .o (.s .o (.s (.s .o (.b [1, 3] (.l [1, 3, 14, 15, 16] (.s .o (.s (.cr .o .o) (.s (.b0 (.s .o .o)) .o)))))) (.s (.s .o (.b [3] (.l [3, 27, 28, 29] (.s .o (.s (.cr .o .o) (.s (.b0 (.s .o .o)) .o)))))) (.s .o .o)))))
theorem f185_eq (D : Dyn) (n : Nat) : f185 D n = funKp (s185 D n) D n 185 Tryz.f185 h185 := by kernel_rfl
theorem f185_ok {D : Dyn} (hD : DP D) (n : Nat) : FP 185 (f185 D n) := fun_okP X_ok hD (SP.nil) Tryz.func185 (by kernel_rfl) (by kernel_rfl) (f185_eq D n)

def s184 (D : Dyn) (n : Nat) : Tb := ⟨X, [(124, f124 D n), (185, f185 D n)]⟩
/-- jetty/node.May -/
def f184 (D : Dyn) (n : Nat) (vs : List AV) (H : AH) : Option (AV × AH) :=
  outR (hd vs fun x0 vs => nl vs <|
  bA (bxV 46 x0) H fun x1 H => 
  bV (ldNp 4 x1 H) fun x3 => 
  bR (noPan (f124 D n [x3] H)) fun x4 H => 
  jn (wnt x4 true (bV (ldNp 4 x1 H) fun x6 => 
  bR (noPan (f185 D n [x6] H)) fun x7 H => 
  bV (bInt .leq x7 (.int .i64 (.ofNat 500))) fun x8 => 
  some (.norm [x8], H)) (some (.norm [undefA], H))) fun vs H => hd vs fun x8_2 vs => 
  bV (pk3 (some x4) (some x8_2) (some (.bool false))) fun x9 => 
  bV (some x9) fun x2 => some (.ret x2, H))
def h184 : Hint := (.s .o (.s .o .o))
theorem f184_eq (D : Dyn) (n : Nat) : f184 D n = funKp (s184 D n) D n 184 Tryz.f184 h184 := by kernel_rfl
theorem f184_ok {D : Dyn} (hD : DP D) (n : Nat) : FP 184 (f184 D n) := fun_okP X_ok hD (SP.cons (f124_ok hD n) (SP.cons (f185_ok hD n) (SP.nil))) Tryz.func184 (by kernel_rfl) (by kernel_rfl) (f184_eq D n)

def s215 (D : Dyn) (n : Nat) : Tb := ⟨X, [(180, f180 D n)]⟩
/-- (*jetty/node.reader).text -/
def f215 (D : Dyn) (n : Nat) (vs : List AV) (H : AH) : Option (AV × AH) :=
  outR (hd vs fun x0 vs => nl vs <|
  bR (noPan (f180 D n [x0, (.int .i64 (.ofNat 1))] H)) fun x5 H => 
  bV (pNil x0) fun x7 => 
  bV (fAd 1 x7) fun x8 => 
  bV (ld1p x8 H) fun x9 => 
  cnd x9 (bV (some (.str 0 0)) fun x2 => some (.ret x2, H))
  (bV (ixStr x5 (.int .i64 (.ofNat 0))) fun x12 => 
  bV (cvI .i64 x12) fun x13 => 
  bR (noPan (f180 D n [x0, x13] H)) fun x14 H => 
  bV (some x14) fun x2_2 => some (.ret x2_2, H)))
def h215 : Hint := (.s .o (.s .o (.s (.s .o (.cl (.s .o .o) .o)) (.s .o .o))))
theorem f215_eq (D : Dyn) (n : Nat) : f215 D n = funKp (s215 D n) D n 215 Tryz.f215 h215 := by kernel_rfl
theorem f215_ok {D : Dyn} (hD : DP D) (n : Nat) : FP 215 (f215 D n) := fun_okP X_ok hD (SP.cons (f180_ok hD n) (SP.nil)) Tryz.func215 (by kernel_rfl) (by kernel_rfl) (f215_eq D n)

def s181 (D : Dyn) (n : Nat) : Tb := ⟨X, [(215, f215 D n)]⟩
/-- (*jetty/node.reader).key -/
def f181 (D : Dyn) (n : Nat) (vs : List AV) (H : AH) : Option (AV × AH) :=
  outR (hd vs fun x0 vs => nl vs <|
  bV (pNil x0) fun x4 => 
  bV (fAd 2 x4) fun x5 => 
  bV (fAd 1 x5) fun x6 => 
  bV (ld1p x6 H) fun x7 => 
  bR (noPan (f215 D n [x0] H)) fun x9 H => chk (ld1p x6 H) x7 <| 
  bA (bldLp 9 1 1 [(.str 0 0)] [(0, x9)]) H fun x10 H => 
  bR (apPp 9 1 16 x7 x10 H) fun x11 H => 
  bV (pNil x0) fun x12 => 
  bV (fAd 2 x12) fun x13 => 
  bV (fAd 1 x13) fun x14 => 
  bR (stNp 1 x14 x11 H) fun x9999 H => 
  some (.ret (.tuple []), H))
def h181 : Hint := .o
theorem f181_eq (D : Dyn) (n : Nat) : f181 D n = funKp (s181 D n) D n 181 Tryz.f181 h181 := by kernel_rfl
theorem f181_ok {D : Dyn} (hD : DP D) (n : Nat) : FP 181 (f181 D n) := fun_okP X_ok hD (SP.cons (f215_ok hD n) (SP.nil)) Tryz.func181 (by kernel_rfl) (by kernel_rfl) (f181_eq D n)

def s183 (D : Dyn) (n : Nat) : Tb := ⟨X, [(215, f215 D n)]⟩
/-- (*jetty/node.reader).value -/
def f183 (D : Dyn) (n : Nat) (vs : List AV) (H : AH) : Option (AV × AH) :=
  outR (hd vs fun x0 vs => nl vs <|
  bV (pNil x0) fun x4 => 
  bV (fAd 2 x4) fun x5 => 
  bV (fAd 2 x5) fun x6 => 
  bV (ld1p x6 H) fun x7 => 
  bR (noPan (f215 D n [x0] H)) fun x9 H => chk (ld1p x6 H) x7 <| 
  bA (bldLp 9 1 1 [(.str 0 0)] [(0, x9)]) H fun x10 H => 
  bR (apPp 9 1 16 x7 x10 H) fun x11 H => 
  bV (pNil x0) fun x12 => 
  bV (fAd 2 x12) fun x13 => 
  bV (fAd 2 x13) fun x14 => 
  bR (stNp 1 x14 x11 H) fun x9999 H => 
  some (.ret (.tuple []), H))
def h183 : Hint := .o
theorem f183_eq (D : Dyn) (n : Nat) : f183 D n = funKp (s183 D n) D n 183 Tryz.f183 h183 := by kernel_rfl
theorem f183_ok {D : Dyn} (hD : DP D) (n : Nat) : FP 183 (f183 D n) := fun_okP X_ok hD (SP.cons (f215_ok hD n) (SP.nil)) Tryz.func183 (by kernel_rfl) (by kernel_rfl) (f183_eq D n)

def s110 (D : Dyn) (n : Nat) : Tb := ⟨X, [(180, f180 D n), (182, f182 D n), (184, f184 D n)]⟩
def f110l0 (D : Dyn) (n : Nat) (vs : List AV) (H : AH) : Rs :=
  hd vs fun x4_4 vs => hd vs fun x6_3 vs => hd vs fun x8_3 vs => hd vs fun x47_3 vs => hd vs fun x48_2 vs => hd vs fun x50 vs => hd vs fun x51_2 vs => hd vs fun x52 vs => 
  bV (bInt .lss x52 x51_2) fun x53 => 
  cnd x53 (bV (ixSl 1 x50 x52) fun x54 => 
  bV (ld1p x54 H) fun x55 => 
  bR (noPan (callV (s110 D n).S D x55 [] H)) fun x57 H => 
  bV (bInt .add x52 (.int .i64 (.ofNat 1))) fun x58 => 
  some (.norm [x4_4, x6_3, x8_3, x47_3, x48_2, x50, x51_2, x58], H))
  (some (.exit 2 [x4_4, x6_3, x8_3, x47_3, x48_2], H))
def f110b1 (D : Dyn) (n : Nat) (vs : List AV) (H : AH) : Rs :=
  hd vs fun x4_5 vs => hd vs fun x6_4 vs => hd vs fun x8_4 vs => hd vs fun x47_4 vs => hd vs fun x48_3 vs => 
  bV (pNil x6_4) fun x60 => 
  bV (fAd 1 x60) fun x61 => 
  bV (ld1p x61 H) fun x62 => 
  cnd x62 (some (.exit 0 [x4_5, x6_4], H))
  (bV (bInt .add x48_3 (.int .i64 (.ofNat 1))) fun x63 => 
  some (.norm [x4_5, x6_4, x8_4, x47_4, x63], H))
def f110l2 (D : Dyn) (n : Nat) (vs : List AV) (H : AH) : Rs :=
  hd vs fun x4_3 vs => hd vs fun x6_2 vs => hd vs fun x8_2 vs => hd vs fun x47_2 vs => hd vs fun x48 vs => 
  bV (bInt .lss x48 x47_2) fun x49 => 
  cnd x49 (bV (lnSl x8_2) fun x51 => 
  jb 2 (loopK n (f110l0 D n) [x4_3, x6_2, x8_2, x47_2, x48, x8_2, x51, (.int .i64 (.ofNat 0))] H) (f110b1 D n))
  (some (.exit 0 [x4_3, x6_2], H))
def f110b3 (D : Dyn) (n : Nat) (vs : List AV) (H : AH) : Rs :=
  hd vs fun x4_6 vs => hd vs fun x6_5 vs => 
  bV (pNil x6_5) fun x65 => 
  bV (fAd 1 x65) fun x66 => 
  bV (ld1p x66 H) fun x67 => 
  jn (wnt x67 false (bV (pNil x6_5) fun x70 => 
  bV (fAd 0 x70) fun x71 => 
  bV (ld1p x71 H) fun x72 => 
  bV (bStr .neq x72 (.str 0 0)) fun x73 => 
  some (.norm [x73], H)) (some (.norm [undefA], H))) fun vs H => hd vs fun x73_2 vs => 
  bV (pk3 (some x67) (some (.bool true)) (some x73_2)) fun x74 => 
  jn (wnt x74 false (bV (pNil x6_5) fun x77 => 
  bV (fAd 2 x77) fun x78 => 
  bV (ldNp 4 x78 H) fun x79 => 
  bR (noPan (f184 D n [x79] H)) fun x80 H => 
  bV (aun .not x80) fun x81 => 
  some (.norm [x81], H)) (some (.norm [undefA], H))) fun vs H => hd vs fun x81_2 vs => 
  bV (pk3 (some x74) (some (.bool true)) (some x81_2)) fun x82 => 
  cnd x82 (bV (bldSp [(0, 1), (1, 1), (2, 1), (3, 1)] [(.bool false), .nilSlice, .nilSlice, .nilSlice] []) fun x83 => 
  bR (stNp 4 x4_6 x83 H) fun x9999_3 H => 
  bV (ldNp 4 x4_6 H) fun x9004_3 => bV (some (.int .i64 (.ofNat 4))) fun x5_3 => some (.ret (.tuple [x9004_3, x5_3]), H))
  (bV (pNil x6_5) fun x85 => 
  bV (fAd 2 x85) fun x86 => 
  bV (ldNp 4 x86 H) fun x87 => 
  bR (stNp 4 x4_6 x87 H) fun x9999_4 H => 
  bV (ldNp 4 x4_6 H) fun x9004_4 => bV (some (.int .i64 (.ofNat 0))) fun x5_4 => some (.ret (.tuple [x9004_4, x5_4]), H))
def f110j4 (D : Dyn) (n : Nat) (vs : List AV) (H : AH) : Rs :=
  hd vs fun x4_2 vs => hd vs fun x6 vs => hd vs fun x7 vs => hd vs fun x8 vs => 
  bV (ixStr x7 (.int .i64 (.ofNat 0))) fun x41 => 
  bV (cvI .i64 x41) fun x42 => 
  bV (bInt .shl x42 (.int .u64 (.ofNat 8))) fun x43 => 
  bV (ixStr x7 (.int .i64 (.ofNat 1))) fun x45 => 
  bV (cvI .i64 x45) fun x46 => 
  bV (bInt .or x43 x46) fun x47 => 
  jb 0 (loopK n (f110l2 D n) [x4_2, x6, x8, x47, (.int .i64 (.ofNat 0))] H) (f110b3 D n)
/-- jetty/node.Decode -/
def f110 (D : Dyn) (n : Nat) (vs : List AV) (H : AH) : Option (AV × AH) :=
  outR (hd vs fun x0 vs => hd vs fun x1 vs => nl vs <|
  bA (bxV 46 (.agg [(.bool false), .nilSlice, .nilSlice, .nilSlice])) H fun x4 H => 
  bV (lnStr x1) fun x12 => 
  bV (bInt .gtr x12 (.int .i64 (.ofNat 500))) fun x13 => 
  cnd x13 (bV (bldSp [(0, 1), (1, 1), (2, 1), (3, 1)] [(.bool false), .nilSlice, .nilSlice, .nilSlice] []) fun x14 => 
  bR (stNp 4 x4 x14 H) fun x9999 H => 
  bV (ldNp 4 x4 H) fun x9004 => bV (some (.int .i64 (.ofNat 4))) fun x5 => some (.ret (.tuple [x9004, x5]), H))
  (bV (bldSp [(0, 1), (1, 1), (2, 1), (3, 1)] [(.bool false), .nilSlice, .nilSlice, .nilSlice] [(0, x0)]) fun x17 => 
  bV (bldSp [(0, 1), (1, 1), (2, 4)] [(.str 0 0), (.bool false), (.bool false), .nilSlice, .nilSlice, .nilSlice] [(0, x1), (2, x17)]) fun x18 => 
  bA (bxV 252 x18) H fun x19 H => 
  bR (noPan (f180 D n [x19, (.int .i64 (.ofNat 2))] H)) fun x21 H => 
  bV (pNil x19) fun x23 => 
  bV (fAd 1 x23) fun x24 => 
  bV (ld1p x24 H) fun x25 => 
  cnd x25 (bV (bldSp [(0, 1), (1, 1), (2, 1), (3, 1)] [(.bool false), .nilSlice, .nilSlice, .nilSlice] []) fun x26 => 
  bR (stNp 4 x4 x26 H) fun x9999_2 H => 
  bV (ldNp 4 x4 H) fun x9004_2 => bV (some (.int .i64 (.ofNat 4))) fun x5_2 => some (.ret (.tuple [x9004_2, x5_2]), H))
  (bA (bldLp 1 1 2 [.nilFunc] [(0, (.func 181 [x19] [])), (1, (.func 182 [x19] []))]) H fun x31 H => 
  jn (cnd x0 (bA (bldLp 1 1 2 [.nilFunc] [(0, (.func 181 [x19] [])), (1, (.func 183 [x19] []))]) H fun x37 H => 
  some (.norm [x4, x19, x21, x37], H))
  (bR (noPan (f182 D n [x19] H)) fun x39 H => 
  some (.norm [x4, x19, x21, x31], H))) (f110j4 D n))))
def h110 : Hint := (.s .o (.s (.s .o (.cl (.s .o .o) .o)) (.s .o (.s .o (.s (.s .o (.cl (.s .o .o) .o)) (.s .o (.s (.s .o (.c [4, 6, 7, 8] .o .o)) (.s (.s .o (.b [4, 6] (.l [4, 6, 8, 47, 48] (.s .o (.s (.cr .o .o) (.s (.b0 (.s (.s .o (.b [4, 6, 8, 47, 48] (.l [4, 6, 8, 47, 48, 50, 51, 52] (.s .o (.s (.cr .o .o) (.s (.b0 (.s .o .o)) .o)))))) (.s .o (.cl .o .o)))) .o)))))) (.s (.s .o (.cl (.s .o .o) .o)) (.s .o .o))))))))))
theorem f110_eq (D : Dyn) (n : Nat) : f110 D n = funKp (s110 D n) D n 110 Tryz.f110 h110 := by kernel_rfl
theorem f110_ok {D : Dyn} (hD : DP D) (n : Nat) : FP 110 (f110 D n) := fun_okP X_ok hD (SP.cons (f180_ok hD n) (SP.cons (f182_ok hD n) (SP.cons (f184_ok hD n) (SP.nil)))) Tryz.func110 (by kernel_rfl) (by kernel_rfl) (f110_eq D n)
end Go.Eng.Sh
