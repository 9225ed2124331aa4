/- Shallow functions, by program (gen.py). -/
import Derived.Test.YtnbpjfmfopgomaaGreatRS0
import Derived.Test.YtnbpjfmfopgomaaGreatProg
import Derived.KernelRfl
noncomputable section
namespace Go.Eng.Sh
open Go.Proofs
set_option maxRecDepth 100000
set_option linter.all false
def s39 (D : Dyn) (n : Nat) : Tb := ⟨X, []⟩
/-- jetty/disk.with -/
def f39 (D : Dyn) (n : Nat) (vs : List AV) (H : AH) : Option (AV × AH) :=
  outR (hd vs fun x0 vs => hd vs fun x1 vs => nl vs <|
  bA (mkM [6]) H fun x7 H => 
  bV (bldSp [(0, 1), (1, 1), (2, 1), (3, 1), (4, 1), (5, 1), (6, 1)] [(.int .i64 (.ofNat 0)), .nilMap, .nilSlice, .nilMap, (.int .i64 (.ofNat 0)), .nilSlice, (.bool false)] [(0, x0), (1, x1), (3, x7)]) fun x8 => 
  bA (bxV 165 x8) H fun x9 H => 
  bV (some x9) fun x4 => some (.ret x4, H))
def h39 : Hint := (.s .o (.s .o .o))
theorem f39_eq (D : Dyn) (n : Nat) : f39 D n = funKp (s39 D n) D n 39 Tryz.f39 h39 := by kernel_rfl
theorem f39_ok {D : Dyn} (hD : DP D) (n : Nat) : FP 39 (f39 D n) := fun_okP X_ok hD (SP.nil) Tryz.func39 (by kernel_rfl) (by kernel_rfl) (f39_eq D n)

def s6 (D : Dyn) (n : Nat) : Tb := ⟨X, [(39, f39 D n)]⟩
/-- jetty/disk.New -/
def f6 (D : Dyn) (n : Nat) (vs : List AV) (H : AH) : Option (AV × AH) :=
  outR (hd vs fun x0 vs => nl vs <|
  bV (bInt .lss x0 (.int .i64 (.ofNat 64))) fun x5 => 
  jn (wnt x5 false (bV (bInt .gtr x0 (.int .i64 (.ofNat 8192))) fun x8 => 
  some (.norm [x8], H)) (some (.norm [undefA], H))) fun vs H => hd vs fun x8_2 vs => 
  bV (pk3 (some x5) (some (.bool true)) (some x8_2)) fun x9 => 
  cnd x9 (bV (some .nilPtr) fun x2 => bV (some (.int .i64 (.ofNat 1))) fun x3 => some (.ret (.tuple [x2, x3]), H))
  (bA (mkM [6]) H fun x11 H => 
  bR (noPan (f39 D n [x0, x11] H)) fun x12 H => 
  bV (some x12) fun x2_2 => bV (some (.int .i64 (.ofNat 0))) fun x3_2 => some (.ret (.tuple [x2_2, x3_2]), H)))
def h6 : Hint := (.s .o (.s (.s .o (.cl (.s .o .o) .o)) (.s .o .o)))
theorem f6_eq (D : Dyn) (n : Nat) : f6 D n = funKp (s6 D n) D n 6 Tryz.f6 h6 := by kernel_rfl
theorem f6_ok {D : Dyn} (hD : DP D) (n : Nat) : FP 6 (f6 D n) := fun_okP X_ok hD (SP.cons (f39_ok hD n) (SP.nil)) Tryz.func6 (by kernel_rfl) (by kernel_rfl) (f6_eq D n)

def s107 (D : Dyn) (n : Nat) : Tb := ⟨X, []⟩
/-- jetty/block.may -/
def f107 (D : Dyn) (n : Nat) (vs : List AV) (H : AH) : Option (AV × AH) :=
  outR (hd vs fun x0 vs => nl vs <|
  bA (bxV 35 x0) H fun x1 H => 
  bV (fAd 0 x1) fun x3 => 
  bV (ld1p x3 H) fun x4 => 
  bV (bInt .eql x4 (.int .i64 (.ofNat 0))) fun x5 => 
  cnd x5 (bV (ldNp 3 x1 H) fun x6 => 
  bV (bldSp [(0, 1), (1, 1), (2, 1)] [(.int .i64 (.ofNat 0)), (.int .i64 (.ofNat 0)), (.int .u64 (.ofNat 0))] []) fun x7 => 
  bV (cmpO .eql (eqAp [(6, 2), (10, 1)] x6 x7)) fun x8 => 
  bV (some x8) fun x2 => some (.ret x2, H))
  (bV (fAd 0 x1) fun x9 => 
  bV (ld1p x9 H) fun x10 => 
  bV (bInt .gtr x10 (.int .i64 (.ofNat 0))) fun x11 => 
  jn (wnt x11 true (bV (fAd 0 x1) fun x13 => 
  bV (ld1p x13 H) fun x14 => 
  bV (bInt .lss x14 (.int .i64 (.ofNat 8192))) fun x15 => 
  some (.norm [x15], H)) (some (.norm [undefA], H))) fun vs H => hd vs fun x15_2 vs => 
  bV (pk3 (some x11) (some x15_2) (some (.bool false))) fun x16 => 
  jn (wnt x16 true (bV (fAd 1 x1) fun x18 => 
  bV (ld1p x18 H) fun x19 => 
  bV (bInt .geq x19 (.int .i64 (.ofNat 0))) fun x20 => 
  some (.norm [x20], H)) (some (.norm [undefA], H))) fun vs H => hd vs fun x20_2 vs => 
  bV (pk3 (some x16) (some x20_2) (some (.bool false))) fun x21 => 
  jn (wnt x21 true (bV (fAd 1 x1) fun x23 => 
  bV (ld1p x23 H) fun x24 => 
  bV (bInt .leq x24 (.int .i64 (.ofNat 2147483647))) fun x25 => 
  some (.norm [x25], H)) (some (.norm [undefA], H))) fun vs H => hd vs fun x25_2 vs => 
  bV (pk3 (some x21) (some x25_2) (some (.bool false))) fun x26 => 
  bV (some x26) fun x2_2 => some (.ret x2_2, H)))
def h107 : Hint := (.s .o (.s (.s .o (.cl (.s .o .o) .o)) (.s .o .o)))
theorem f107_eq (D : Dyn) (n : Nat) : f107 D n = funKp (s107 D n) D n 107 Tryz.f107 h107 := by kernel_rfl
theorem f107_ok {D : Dyn} (hD : DP D) (n : Nat) : FP 107 (f107 D n) := fun_okP X_ok hD (SP.nil) Tryz.func107 (by kernel_rfl) (by kernel_rfl) (f107_eq D n)

def s108 (D : Dyn) (n : Nat) : Tb := ⟨X, []⟩
def f108l0 (D : Dyn) (n : Nat) (vs : List AV) (H : AH) : Rs :=
  hd vs fun x0_2 vs => hd vs fun x1_2 vs => hd vs fun x6_2 vs => hd vs fun x7 vs => 
  bV (bInt .lss x7 x6_2) fun x8 => 
  cnd x8 (bV (lnSl x0_2) fun x12 => 
  bV (bInt .sub x12 (.int .i64 (.ofNat 1))) fun x13 => 
  bV (bInt .sub x13 x7) fun x15 => 
  bV (bInt .mul (.int .i64 (.ofNat 8)) x7) fun x18 => 
  bV (bInt .shr x1_2 x18) fun x19 => 
  bV (cvI .u8 x19) fun x20 => 
  bV (ixSl 1 x0_2 x15) fun x21 => 
  bR (stNp 1 x21 x20 H) fun x9999 H => 
  bV (bInt .add x7 (.int .i64 (.ofNat 1))) fun x22 => 
  some (.norm [x0_2, x1_2, x6_2, x22], H))
  (some (.exit 0 [], H))
def f108b1 (D : Dyn) (n : Nat) (vs : List AV) (H : AH) : Rs :=
  
  some (.ret (.tuple []), H)
/-- jetty/block.put -/
def f108 (D : Dyn) (n : Nat) (vs : List AV) (H : AH) : Option (AV × AH) :=
  outR (hd vs fun x0 vs => hd vs fun x1 vs => nl vs <|
  bV (lnSl x0) fun x6 => 
  jb 0 (loopK n (f108l0 D n) [x0, x1, x6, (.int .i64 (.ofNat 0))] H) (f108b1 D n))
def h108 : Hint := (.s .o (.b [] (.l [0, 1, 6, 7] (.s .o (.s (.cr .o .o) (.s (.b0 (.s .o .o)) .o))))))
theorem f108_eq (D : Dyn) (n : Nat) : f108 D n = funKp (s108 D n) D n 108 Tryz.f108 h108 := by kernel_rfl
theorem f108_ok {D : Dyn} (hD : DP D) (n : Nat) : FP 108 (f108 D n) := fun_okP X_ok hD (SP.nil) Tryz.func108 (by kernel_rfl) (by kernel_rfl) (f108_eq D n)

def s41 (D : Dyn) (n : Nat) : Tb := ⟨X, [(107, f107 D n), (108, f108 D n)]⟩
/-- jetty/block.Encode -/
def f41 (D : Dyn) (n : Nat) (vs : List AV) (H : AH) : Option (AV × AH) :=
  outR (hd vs fun x0 vs => nl vs <|
  bA (bxV 35 x0) H fun x1 H => 
  bV (ldNp 3 x1 H) fun x5 => 
  bR (noPan (f107 D n [x5] H)) fun x6 H => 
  bV (aun .not x6) fun x7 => 
  cnd x7 (bV (some (.str 0 0)) fun x2 => bV (some (.int .i64 (.ofNat 4))) fun x3 => some (.ret (.tuple [x2, x3]), H))
  (bA (bxV 167 (.agg [.pk 16 0])) H fun x4 H => 
  bV (slArr 16 1 x4 none (some (.int .i64 (.ofNat 4))) none) fun x8 => 
  bV (fAd 0 x1) fun x9 => 
  bV (ld1p x9 H) fun x10 => 
  bV (cvI .u64 x10) fun x11 => 
  bR (noPan (f108 D n [x8, x11] H)) fun x12 H => 
  bV (slArr 16 1 x4 (some (.int .i64 (.ofNat 4))) (some (.int .i64 (.ofNat 8))) none) fun x13 => 
  bV (fAd 1 x1) fun x14 => 
  bV (ld1p x14 H) fun x15 => 
  bV (cvI .u64 x15) fun x16 => 
  bR (noPan (f108 D n [x13, x16] H)) fun x17 H => 
  bV (slArr 16 1 x4 (some (.int .i64 (.ofNat 8))) none none) fun x18 => 
  bV (fAd 2 x1) fun x19 => 
  bV (ld1p x19 H) fun x20 => 
  bR (noPan (f108 D n [x18, x20] H)) fun x21 H => 
  bV (slArr 16 1 x4 none none none) fun x22 => 
  bV (cvBSp x22 H) fun x23 => 
  bV (some x23) fun x2_2 => bV (some (.int .i64 (.ofNat 0))) fun x3_2 => some (.ret (.tuple [x2_2, x3_2]), H)))
def h41 : Hint := (.s .o (.s (.s .o (.cl (.s .o .o) .o)) (.s .o (.s .o (.s .o (.s .o (.s .o .o)))))))
theorem f41_eq (D : Dyn) (n : Nat) : f41 D n = funKp (s41 D n) D n 41 Tryz.f41 h41 := by kernel_rfl
theorem f41_ok {D : Dyn} (hD : DP D) (n : Nat) : FP 41 (f41 D n) := fun_okP X_ok hD (SP.cons (f107_ok hD n) (SP.cons (f108_ok hD n) (SP.nil))) Tryz.func41 (by kernel_rfl) (by kernel_rfl) (f41_eq D n)

def s222 (D : Dyn) (n : Nat) : Tb := ⟨X, []⟩
def f222l0 (D : Dyn) (n : Nat) (vs : List AV) (H : AH) : Rs :=
  hd vs fun x0_2 vs => hd vs fun x1_2 vs => hd vs fun x7_2 vs => hd vs fun x8 vs => 
  bV (bInt .lss x8 x7_2) fun x9 => 
  cnd x9 (bV (ixStr x1_2 x8) fun x14 => 
  bV (cvI .u64 x14) fun x15 => 
  bV (bInt .xor x0_2 x15) fun x16 => 
  bV (bInt .mul x16 (.int .u64 (.ofNat 1099511628211))) fun x17 => 
  bV (bInt .add x8 (.int .i64 (.ofNat 1))) fun x18 => 
  some (.norm [x17, x1_2, x7_2, x18], H))
  (some (.exit 0 [x0_2], H))
def f222b1 (D : Dyn) (n : Nat) (vs : List AV) (H : AH) : Rs :=
  hd vs fun x0_3 vs => 
  bV (some x0_3) fun x4 => some (.ret x4, H)
/-- jetty/digest.sum[string] -/
def f222 (D : Dyn) (n : Nat) (vs : List AV) (H : AH) : Option (AV × AH) :=
  outR (hd vs fun x0 vs => hd vs fun x1 vs => nl vs <|
  bV (lnStr x1) fun x7 => 
  jb 0 (loopK n (f222l0 D n) [x0, x1, x7, (.int .i64 (.ofNat 0))] H) (f222b1 D n))
def h222 : Hint := (.s .o (.s (.s .o (.b [0] (.l [0, 1, 7, 8] (.s .o (.s (.cr .o .o) (.s (.b0 (.s .o .o)) .o)))))) (.s .o .o)))
theorem f222_eq (D : Dyn) (n : Nat) : f222 D n = funKp (s222 D n) D n 222 Tryz.f222 h222 := by kernel_rfl
theorem f222_ok {D : Dyn} (hD : DP D) (n : Nat) : FP 222 (f222 D n) := fun_okP X_ok hD (SP.nil) Tryz.func222 (by kernel_rfl) (by kernel_rfl) (f222_eq D n)
def m222 (D : Dyn) (n : Nat) (vs : List AV) (H : AH) : Option (AV × AH) := sumK (f222 D n) vs H
theorem m222_ok {D : Dyn} (hD : DP D) (n : Nat) : FP 222 (m222 D n) := sumK_okP (F := f222 D) rfl (fun n => f222_ok hD n) n

def s204 (D : Dyn) (n : Nat) : Tb := ⟨X, [(222, m222 D n)]⟩
/-- jetty/digest.Sum -/
def f204 (D : Dyn) (n : Nat) (vs : List AV) (H : AH) : Option (AV × AH) :=
  outR (hd vs fun x0 vs => nl vs <|
  bR (noPan (m222 D n [(.int .u64 (.ofNat 14695981039346656037)), x0] H)) fun x4 H => 
  bV (some x4) fun x2 => some (.ret x2, H))
def h204 : Hint := (.s .o (.s .o .o))
theorem f204_eq (D : Dyn) (n : Nat) : f204 D n = funKp (s204 D n) D n 204 Tryz.f204 h204 := by kernel_rfl
theorem f204_ok {D : Dyn} (hD : DP D) (n : Nat) : FP 204 (f204 D n) := fun_okP X_ok hD (SP.cons (m222_ok hD n) (SP.nil)) Tryz.func204 (by kernel_rfl) (by kernel_rfl) (f204_eq D n)

def s174 (D : Dyn) (n : Nat) : Tb := ⟨X, []⟩
/-- jetty/xdr.wordOf -/
def f174 (D : Dyn) (n : Nat) (vs : List AV) (H : AH) : Option (AV × AH) :=
  outR (hd vs fun x0 vs => nl vs <|
  bA (bxV 245 (.agg [.pk 4 0])) H fun x2 H => 
  bV (bInt .shr x0 (.int .u64 (.ofNat 24))) fun x4 => 
  bV (cvI .u8 x4) fun x5 => 
  bV (bInt .shr x0 (.int .u64 (.ofNat 16))) fun x7 => 
  bV (cvI .u8 x7) fun x8 => 
  bV (bInt .shr x0 (.int .u64 (.ofNat 8))) fun x10 => 
  bV (cvI .u8 x10) fun x11 => 
  bV (cvI .u8 x0) fun x13 => 
  bV (bldAp 1 [.pk 4 0] [(0, x5), (1, x8), (2, x11), (3, x13)]) fun x14 => 
  bR (stNp 4 x2 x14 H) fun x9999 H => 
  bV (ldNp 4 x2 H) fun x9002 => some (.ret x9002, H))
def h174 : Hint := (.s .o (.s .o .o))
theorem f174_eq (D : Dyn) (n : Nat) : f174 D n = funKp (s174 D n) D n 174 Tryz.f174 h174 := by kernel_rfl
theorem f174_ok {D : Dyn} (hD : DP D) (n : Nat) : FP 174 (f174 D n) := fun_okP X_ok hD (SP.nil) Tryz.func174 (by kernel_rfl) (by kernel_rfl) (f174_eq D n)

def s175 (D : Dyn) (n : Nat) : Tb := ⟨X, []⟩
/-- jetty/xdr.behind -/
def f175 (D : Dyn) (n : Nat) (vs : List AV) (H : AH) : Option (AV × AH) :=
  outR (hd vs fun x0 vs => hd vs fun x1 vs => nl vs <|
  bV (lnSl x0) fun x6 => 
  bV (bInt .add x6 x1) fun x8 => 
  bA (mkSlp 5 1 1 [(.int .u8 (.ofNat 0))] (.int .i64 (.ofNat 0)) x8) H fun x9 H => 
  bR (apPp 5 1 1 x9 x0 H) fun x11 H => 
  bV (some x11) fun x4 => some (.ret x4, H))
def h175 : Hint := (.s .o (.s .o .o))
theorem f175_eq (D : Dyn) (n : Nat) : f175 D n = funKp (s175 D n) D n 175 Tryz.f175 h175 := by kernel_rfl
theorem f175_ok {D : Dyn} (hD : DP D) (n : Nat) : FP 175 (f175 D n) := fun_okP X_ok hD (SP.nil) Tryz.func175 (by kernel_rfl) (by kernel_rfl) (f175_eq D n)

def s214 (D : Dyn) (n : Nat) : Tb := ⟨X, [(174, f174 D n), (175, f175 D n)]⟩
/-- jetty/xdr.Long -/
def f214 (D : Dyn) (n : Nat) (vs : List AV) (H : AH) : Option (AV × AH) :=
  outR (hd vs fun x0 vs => hd vs fun x1 vs => nl vs <|
  bV (bInt .shr x1 (.int .u64 (.ofNat 32))) fun x9 => 
  bV (cvI .u32 x9) fun x10 => 
  bR (noPan (f174 D n [x10] H)) fun x11 H => 
  bV (cvI .u32 x1) fun x13 => 
  bR (noPan (f174 D n [x13] H)) fun x14 H => 
  bA (bxV 245 (.agg [.pk 4 0])) H fun x5 H => 
  bA (bxV 245 (.agg [.pk 4 0])) H fun x6 H => 
  bR (stNp 4 x5 x11 H) fun x9999 H => 
  bR (stNp 4 x6 x14 H) fun x9999_2 H => 
  bV (slArr 4 1 x5 none none none) fun x17 => 
  bR (noPan (f175 D n [x0, (.int .i64 (.ofNat 8))] H)) fun x16 H => 
  bR (apPp 5 1 1 x16 x17 H) fun x18 H => 
  bV (slArr 4 1 x6 none none none) fun x20 => 
  bR (apPp 5 1 1 x18 x20 H) fun x21 H => 
  bV (some x21) fun x4 => some (.ret x4, H))
def h214 : Hint := (.s .o (.s .o (.s .o (.s .o .o))))
theorem f214_eq (D : Dyn) (n : Nat) : f214 D n = funKp (s214 D n) D n 214 Tryz.f214 h214 := by kernel_rfl
theorem f214_ok {D : Dyn} (hD : DP D) (n : Nat) : FP 214 (f214 D n) := fun_okP X_ok hD (SP.cons (f174_ok hD n) (SP.cons (f175_ok hD n) (SP.nil))) Tryz.func214 (by kernel_rfl) (by kernel_rfl) (f214_eq D n)

def s69 (D : Dyn) (n : Nat) : Tb := ⟨X, [(108, f108 D n)]⟩
/-- jetty/block.Seal -/
def f69 (D : Dyn) (n : Nat) (vs : List AV) (H : AH) : Option (AV × AH) :=
  outR (hd vs fun x0 vs => hd vs fun x1 vs => hd vs fun x2 vs => nl vs <|
  bA (bxV 100 (.agg [.pk 512 0])) H fun x6 H => 
  bV (bInt .lss x1 (.int .i64 (.ofNat 0))) fun x10 => 
  jn (wnt x10 false (bV (bInt .gtr x1 (.int .i64 (.ofNat 2147483647))) fun x13 => 
  some (.norm [x13], H)) (some (.norm [undefA], H))) fun vs H => hd vs fun x13_2 vs => 
  bV (pk3 (some x10) (some (.bool true)) (some x13_2)) fun x14 => 
  cnd x14 (bV (bldAp 1 [.pk 512 0] []) fun x15 => 
  bR (stNp 512 x6 x15 H) fun x9999 H => 
  bV (ldNp 512 x6 H) fun x9006 => bV (some (.int .i64 (.ofNat 1))) fun x7 => some (.ret (.tuple [x9006, x7]), H))
  (bV (lnStr x2) fun x17 => 
  bV (bInt .gtr x17 (.int .i64 (.ofNat 500))) fun x18 => 
  cnd x18 (bV (bldAp 1 [.pk 512 0] []) fun x19 => 
  bR (stNp 512 x6 x19 H) fun x9999_2 H => 
  bV (ldNp 512 x6 H) fun x9006_2 => bV (some (.int .i64 (.ofNat 40))) fun x7_2 => some (.ret (.tuple [x9006_2, x7_2]), H))
  (bA (bxV 100 (.agg [.pk 512 0])) H fun x8 H => 
  bV (slArr 512 1 x8 none none none) fun x20 => 
  bR (cpyp 1 x20 (.str 4 2037675114) H) fun x21 H => 
  bV (ixArr 512 1 x8 (.int .i64 (.ofNat 4))) fun x23 => 
  bR (stNp 1 x23 x0 H) fun x9999_3 H => 
  bV (slArr 512 1 x8 (some (.int .i64 (.ofNat 6))) (some (.int .i64 (.ofNat 8))) none) fun x24 => 
  bV (lnStr x2) fun x26 => 
  bV (cvI .u64 x26) fun x27 => 
  bR (noPan (f108 D n [x24, x27] H)) fun x28 H => 
  bV (slArr 512 1 x8 (some (.int .i64 (.ofNat 8))) (some (.int .i64 (.ofNat 12))) none) fun x29 => 
  bV (cvI .u64 x1) fun x31 => 
  bR (noPan (f108 D n [x29, x31] H)) fun x32 H => 
  bV (slArr 512 1 x8 (some (.int .i64 (.ofNat 12))) none none) fun x33 => 
  bR (cpyp 1 x33 x2 H) fun x35 H => 
  bV (ldNp 512 x8 H) fun x36 => 
  bR (stNp 512 x6 x36 H) fun x9999_4 H => 
  bV (ldNp 512 x6 H) fun x9006_3 => bV (some (.int .i64 (.ofNat 0))) fun x7_3 => some (.ret (.tuple [x9006_3, x7_3]), H))))
def h69 : Hint := (.s .o (.s (.s .o (.cl (.s .o .o) .o)) (.s (.s .o (.cl (.s .o .o) .o)) (.s .o (.s .o (.s .o (.s .o (.s .o (.s .o (.s .o .o))))))))))
theorem f69_eq (D : Dyn) (n : Nat) : f69 D n = funKp (s69 D n) D n 69 Tryz.f69 h69 := by kernel_rfl
theorem f69_ok {D : Dyn} (hD : DP D) (n : Nat) : FP 69 (f69 D n) := fun_okP X_ok hD (SP.cons (f108_ok hD n) (SP.nil)) Tryz.func69 (by kernel_rfl) (by kernel_rfl) (f69_eq D n)

def s176 (D : Dyn) (n : Nat) : Tb := ⟨X, [(204, f204 D n), (214, f214 D n), (69, f69 D n)]⟩
/-- jetty/ring.Seal -/
def f176 (D : Dyn) (n : Nat) (vs : List AV) (H : AH) : Option (AV × AH) :=
  outR (hd vs fun x0 vs => nl vs <|
  bA (bxV 161 x0) H fun x1 H => 
  bA (bxV 100 (.agg [.pk 512 0])) H fun x2 H => 
  bV (fAd 0 x1) fun x5 => 
  bV (ld1p x5 H) fun x6 => 
  bV (bInt .lss x6 (.int .i64 (.ofNat 1))) fun x7 => 
  jn (wnt x7 false (bV (fAd 0 x1) fun x9 => 
  bV (ld1p x9 H) fun x10 => 
  bV (bInt .gtr x10 (.int .i64 (.ofNat 2147483647))) fun x11 => 
  some (.norm [x11], H)) (some (.norm [undefA], H))) fun vs H => hd vs fun x11_2 vs => 
  bV (pk3 (some x7) (some (.bool true)) (some x11_2)) fun x12 => 
  cnd x12 (bV (bldAp 1 [.pk 512 0] []) fun x13 => 
  bR (stNp 512 x2 x13 H) fun x9999 H => 
  bV (ldNp 512 x2 H) fun x9002 => bV (some (.int .i64 (.ofNat 1))) fun x3 => some (.ret (.tuple [x9002, x3]), H))
  (bV (fAd 1 x1) fun x14 => 
  bV (ld1p x14 H) fun x15 => 
  bV (lnStr x15) fun x16 => 
  bV (bInt .gtr x16 (.int .i64 (.ofNat 492))) fun x17 => 
  cnd x17 (bV (bldAp 1 [.pk 512 0] []) fun x18 => 
  bR (stNp 512 x2 x18 H) fun x9999_2 H => 
  bV (ldNp 512 x2 H) fun x9002_2 => bV (some (.int .i64 (.ofNat 40))) fun x3_2 => some (.ret (.tuple [x9002_2, x3_2]), H))
  (bV (fAd 1 x1) fun x19 => 
  bV (ld1p x19 H) fun x20 => 
  bR (noPan (f204 D n [x20] H)) fun x21 H => 
  bR (noPan (f214 D n [.nilSlice, x21] H)) fun x22 H => 
  bV (fAd 0 x1) fun x23 => 
  bV (ld1p x23 H) fun x24 => 
  bV (cvBSp x22 H) fun x26 => 
  bV (fAd 1 x1) fun x27 => 
  bV (ld1p x27 H) fun x28 => 
  bV (bStr .add x26 x28) fun x29 => 
  bR (noPan (f69 D n [(.int .u8 (.ofNat 3)), x24, x29] H)) fun x30 H => 
  bV (pExtract x30 0) fun x31 => 
  bV (pExtract x30 1) fun x32 => 
  bR (stNp 512 x2 x31 H) fun x9999_3 H => 
  bV (ldNp 512 x2 H) fun x9002_3 => bV (some x32) fun x3_3 => some (.ret (.tuple [x9002_3, x3_3]), H))))
def h176 : Hint := (.s .o (.s (.s .o (.cl (.s .o .o) .o)) (.s (.s .o (.cl (.s .o .o) .o)) (.s .o (.s .o .o)))))
theorem f176_eq (D : Dyn) (n : Nat) : f176 D n = funKp (s176 D n) D n 176 Tryz.f176 h176 := by kernel_rfl
theorem f176_ok {D : Dyn} (hD : DP D) (n : Nat) : FP 176 (f176 D n) := fun_okP X_ok hD (SP.cons (f204_ok hD n) (SP.cons (f214_ok hD n) (SP.cons (f69_ok hD n) (SP.nil)))) Tryz.func176 (by kernel_rfl) (by kernel_rfl) (f176_eq D n)

def s177 (D : Dyn) (n : Nat) : Tb := ⟨X, []⟩
/-- jetty/ring.Place -/
def f177 (D : Dyn) (n : Nat) (vs : List AV) (H : AH) : Option (AV × AH) :=
  outR (hd vs fun x0 vs => nl vs <|
  bV (bInt .lss x0 (.int .i64 (.ofNat 0))) fun x4 => 
  cnd x4 (bV (some (.int .i64 (.ofNat 0))) fun x2 => some (.ret x2, H))
  (bV (bInt .rem x0 (.int .i64 (.ofNat 2))) fun x6 => 
  bV (some x6) fun x2_2 => some (.ret x2_2, H)))
def h177 : Hint := (.s .o (.s (.s .o (.cl (.s .o .o) .o)) (.s .o .o)))
theorem f177_eq (D : Dyn) (n : Nat) : f177 D n = funKp (s177 D n) D n 177 Tryz.f177 h177 := by kernel_rfl
theorem f177_ok {D : Dyn} (hD : DP D) (n : Nat) : FP 177 (f177 D n) := fun_okP X_ok hD (SP.nil) Tryz.func177 (by kernel_rfl) (by kernel_rfl) (f177_eq D n)

def s136 (D : Dyn) (n : Nat) : Tb := ⟨X, []⟩
/-- (*jetty/disk.Disk).ask -/
def f136 (D : Dyn) (n : Nat) (vs : List AV) (H : AH) : Option (AV × AH) :=
  outR (hd vs fun x0 vs => nl vs <|
  bV (cmpO .eql (eqP x0 .nilPtr)) fun x4 => 
  cnd x4 (bV (some (.int .i64 (.ofNat 2))) fun x2 => some (.ret x2, H))
  (bV (pNil x0) fun x6 => 
  bV (fAd 6 x6) fun x7 => 
  bV (ld1p x7 H) fun x8 => 
  cnd x8 (bV (some (.int .i64 (.ofNat 51))) fun x2_2 => some (.ret x2_2, H))
  (bV (some (.int .i64 (.ofNat 0))) fun x2_3 => some (.ret x2_3, H))))
def h136 : Hint := (.s .o (.s (.s .o (.cl (.s .o .o) .o)) (.s (.s .o (.cl (.s .o .o) .o)) (.s .o .o))))
theorem f136_eq (D : Dyn) (n : Nat) : f136 D n = funKp (s136 D n) D n 136 Tryz.f136 h136 := by kernel_rfl
theorem f136_ok {D : Dyn} (hD : DP D) (n : Nat) : FP 136 (f136 D n) := fun_okP X_ok hD (SP.nil) Tryz.func136 (by kernel_rfl) (by kernel_rfl) (f136_eq D n)

def s134 (D : Dyn) (n : Nat) : Tb := ⟨X, [(136, f136 D n)]⟩
/-- (*jetty/disk.Disk).askAt -/
def f134 (D : Dyn) (n : Nat) (vs : List AV) (H : AH) : Option (AV × AH) :=
  outR (hd vs fun x0 vs => hd vs fun x1 vs => nl vs <|
  bR (noPan (f136 D n [x0] H)) fun x7 H => 
  bV (bInt .neq x7 (.int .i64 (.ofNat 0))) fun x9 => 
  cnd x9 (bV (some x7) fun x4 => some (.ret x4, H))
  (bV (bInt .lss x1 (.int .i64 (.ofNat 0))) fun x12 => 
  jn (wnt x12 false (bV (pNil x0) fun x16 => 
  bV (fAd 0 x16) fun x17 => 
  bV (ld1p x17 H) fun x18 => 
  bV (bInt .geq x1 x18) fun x19 => 
  some (.norm [x19], H)) (some (.norm [undefA], H))) fun vs H => hd vs fun x19_2 vs => 
  bV (pk3 (some x12) (some (.bool true)) (some x19_2)) fun x20 => 
  cnd x20 (bV (some (.int .i64 (.ofNat 1))) fun x4_2 => some (.ret x4_2, H))
  (bV (some (.int .i64 (.ofNat 0))) fun x4_3 => some (.ret x4_3, H))))
def h134 : Hint := (.s .o (.s (.s .o (.s .o (.cl (.s .o .o) .o))) (.s (.s .o (.cl (.s .o .o) .o)) (.s .o .o))))
theorem f134_eq (D : Dyn) (n : Nat) : f134 D n = funKp (s134 D n) D n 134 Tryz.f134 h134 := by kernel_rfl
theorem f134_ok {D : Dyn} (hD : DP D) (n : Nat) : FP 134 (f134 D n) := fun_okP X_ok hD (SP.cons (f136_ok hD n) (SP.nil)) Tryz.func134 (by kernel_rfl) (by kernel_rfl) (f134_eq D n)

def s202 (D : Dyn) (n : Nat) : Tb := ⟨X, []⟩
/-- (*jetty/disk.Disk).forget -/
def f202 (D : Dyn) (n : Nat) (vs : List AV) (H : AH) : Option (AV × AH) :=
  outR (hd vs fun x0 vs => nl vs <|
  bV (pNil x0) fun x3 => 
  bV (fAd 2 x3) fun x4 => 
  bR (stNp 1 x4 .nilSlice H) fun x9999 H => 
  bV (pNil x0) fun x6 => 
  bV (fAd 3 x6) fun x7 => 
  bV (ld1p x7 H) fun x8 => 
  bR (clM x8 H) fun x9999_2 H => 
  some (.ret (.tuple []), H))
def h202 : Hint := (.s .o .o)
theorem f202_eq (D : Dyn) (n : Nat) : f202 D n = funKp (s202 D n) D n 202 Tryz.f202 h202 := by kernel_rfl
theorem f202_ok {D : Dyn} (hD : DP D) (n : Nat) : FP 202 (f202 D n) := fun_okP X_ok hD (SP.nil) Tryz.func202 (by kernel_rfl) (by kernel_rfl) (f202_eq D n)

def s137 (D : Dyn) (n : Nat) : Tb := ⟨X, [(202, f202 D n)]⟩
def f137j0 (D : Dyn) (n : Nat) (vs : List AV) (H : AH) : Rs :=
  hd vs fun x0_3 vs => hd vs fun x1_3 vs => hd vs fun x9_3 vs => hd vs fun x10_3 vs => hd vs fun x11_2 vs => 
  bV (bInt .add x11_2 (.int .i64 (.ofNat 1))) fun x34 => 
  some (.norm [x0_3, x1_3, x9_3, x10_3, x34], H)
def f137l1 (D : Dyn) (n : Nat) (vs : List AV) (H : AH) : Rs :=
  hd vs fun x0_2 vs => hd vs fun x1_2 vs => hd vs fun x9_2 vs => hd vs fun x10_2 vs => hd vs fun x11 vs => 
  bV (bInt .lss x11 x10_2) fun x12 => 
  cnd x12 (bV (ixSl 513 x9_2 x11) fun x14 => 
  bV (ldNp 513 x14 H) fun x15 => 
  bA (bxV 196 (.agg [(.int .i64 (.ofNat 0)), .pk 512 0])) H fun x5 H => 
  bR (stNp 513 x5 x15 H) fun x9999 H => 
  bV (lnSl x1_2) fun x18 => 
  bV (bInt .lss x11 x18) fun x19 => 
  jn (wnt x19 true (bV (ixSl 1 x1_2 x11) fun x23 => 
  bV (ld1p x23 H) fun x24 => 
  some (.norm [x24], H)) (some (.norm [undefA], H))) fun vs H => hd vs fun x24_2 vs => 
  bV (pk3 (some x19) (some x24_2) (some (.bool false))) fun x25 => 
  jn (cnd x25 (bV (pNil x0_2) fun x27 => 
  bV (fAd 1 x27) fun x28 => 
  bV (ld1p x28 H) fun x29 => 
  bV (fAd 0 x5) fun x30 => 
  bV (ld1p x30 H) fun x31 => 
  bV (fAd 1 x5) fun x32 => 
  bV (ldNp 512 x32 H) fun x33 => 
  bR (upM [6] x29 x31 x33 H) fun x9999_2 H => 
  some (.norm [x0_2, x1_2, x9_2, x10_2, x11], H))
  (some (.norm [x0_2, x1_2, x9_2, x10_2, x11], H))) (f137j0 D n))
  (some (.exit 0 [x0_2], H))
def f137b2 (D : Dyn) (n : Nat) (vs : List AV) (H : AH) : Rs :=
  hd vs fun x0_4 vs => 
  bR (noPan (f202 D n [x0_4] H)) fun x36 H => 
  bV (pNil x0_4) fun x39 => 
  bV (fAd 4 x39) fun x40 => 
  bR (stNp 1 x40 (.int .i64 (.ofNat 0)) H) fun x9999_3 H => 
  bV (pNil x0_4) fun x41 => 
  bV (fAd 5 x41) fun x42 => 
  bR (stNp 1 x42 .nilSlice H) fun x9999_4 H => 
  bV (pNil x0_4) fun x44 => 
  bV (fAd 6 x44) fun x45 => 
  bR (stNp 1 x45 (.bool true) H) fun x9999_5 H => 
  some (.ret (.tuple []), H)
/-- (*jetty/disk.Disk).fail -/
def f137 (D : Dyn) (n : Nat) (vs : List AV) (H : AH) : Option (AV × AH) :=
  outR (hd vs fun x0 vs => hd vs fun x1 vs => nl vs <|
  bV (pNil x0) fun x7 => 
  bV (fAd 2 x7) fun x8 => 
  bV (ld1p x8 H) fun x9 => 
  bV (lnSl x9) fun x10 => 
  jb 0 (loopK n (f137l1 D n) [x0, x1, x9, x10, (.int .i64 (.ofNat 0))] H) (f137b2 D n))
def h137 : Hint := (.s (.s .o (.b [0] (.l [0, 1, 9, 10, 11] (.s .o (.s (.cr .o .o) (.s (.b0 (.s .o (.s .o (.c [0, 1, 9, 10, 11] .o .o)))) .o)))))) (.s .o (.s .o .o)))
theorem f137_eq (D : Dyn) (n : Nat) : f137 D n = funKp (s137 D n) D n 137 Tryz.f137 h137 := by kernel_rfl
theorem f137_ok {D : Dyn} (hD : DP D) (n : Nat) : FP 137 (f137 D n) := fun_okP X_ok hD (SP.cons (f202_ok hD n) (SP.nil)) Tryz.func137 (by kernel_rfl) (by kernel_rfl) (f137_eq D n)

def s135 (D : Dyn) (n : Nat) : Tb := ⟨X, [(137, f137 D n)]⟩
/-- (*jetty/disk.Disk).count -/
def f135 (D : Dyn) (n : Nat) (vs : List AV) (H : AH) : Option (AV × AH) :=
  outR (hd vs fun x0 vs => nl vs <|
  bV (pNil x0) fun x4 => 
  bV (fAd 4 x4) fun x5 => 
  bV (ld1p x5 H) fun x6 => 
  bV (bInt .eql x6 (.int .i64 (.ofNat 0))) fun x7 => 
  cnd x7 (bV (some (.int .i64 (.ofNat 0))) fun x2 => some (.ret x2, H))
  (bV (pNil x0) fun x9 => 
  bV (fAd 4 x9) fun x10 => 
  bV (ld1p x10 H) fun x11 => 
  bV (bInt .sub x11 (.int .i64 (.ofNat 1))) fun x12 => 
  bV (pNil x0) fun x13 => 
  bV (fAd 4 x13) fun x14 => 
  bR (stNp 1 x14 x12 H) fun x9999 H => 
  bV (pNil x0) fun x16 => 
  bV (fAd 4 x16) fun x17 => 
  bV (ld1p x17 H) fun x18 => 
  bV (bInt .gtr x18 (.int .i64 (.ofNat 0))) fun x19 => 
  cnd x19 (bV (some (.int .i64 (.ofNat 0))) fun x2_2 => some (.ret x2_2, H))
  (bV (pNil x0) fun x22 => 
  bV (fAd 5 x22) fun x23 => 
  bV (ld1p x23 H) fun x24 => 
  bR (noPan (f137 D n [x0, x24] H)) fun x25 H => 
  bV (some (.int .i64 (.ofNat 51))) fun x2_3 => some (.ret x2_3, H))))
def h135 : Hint := (.s .o (.s (.s .o (.cl (.s .o .o) .o)) (.s .o (.s (.s .o (.cl (.s .o .o) .o)) (.s .o (.s .o .o))))))
theorem f135_eq (D : Dyn) (n : Nat) : f135 D n = funKp (s135 D n) D n 135 Tryz.f135 h135 := by kernel_rfl
theorem f135_ok {D : Dyn} (hD : DP D) (n : Nat) : FP 135 (f135 D n) := fun_okP X_ok hD (SP.cons (f137_ok hD n) (SP.nil)) Tryz.func135 (by kernel_rfl) (by kernel_rfl) (f135_eq D n)

def s66 (D : Dyn) (n : Nat) : Tb := ⟨X, [(134, f134 D n), (135, f135 D n)]⟩
/-- (*jetty/disk.Disk).Write -/
def f66 (D : Dyn) (n : Nat) (vs : List AV) (H : AH) : Option (AV × AH) :=
  outR (hd vs fun x0 vs => hd vs fun x1 vs => hd vs fun x2 vs => nl vs <|
  bA (bxV 100 x2) H fun x5 H => 
  bR (noPan (f134 D n [x0, x1] H)) fun x10 H => 
  bV (bInt .neq x10 (.int .i64 (.ofNat 0))) fun x12 => 
  cnd x12 (bV (some x10) fun x6 => some (.ret x6, H))
  (bV (pNil x0) fun x15 => 
  bV (fAd 3 x15) fun x16 => 
  bV (ld1p x16 H) fun x17 => 
  bV (pNil x0) fun x20 => 
  bV (fAd 2 x20) fun x21 => 
  bV (ld1p x21 H) fun x22 => 
  bV (lnSl x22) fun x23 => 
  bR (upM [6] x17 x1 x23 H) fun x9999 H => 
  bV (pNil x0) fun x26 => 
  bV (fAd 2 x26) fun x27 => 
  bV (ld1p x27 H) fun x28 => 
  bV (ldNp 512 x5 H) fun x30 => 
  bV (bldSp [(0, 1), (1, 512)] [(.int .i64 (.ofNat 0)), .pk 512 0] [(0, x1), (1, x30)]) fun x31 => 
  bA (bldLp 196 513 1 [(.int .i64 (.ofNat 0)), .pk 512 0] [(0, x31)]) H fun x32 H => 
  bR (apPp 196 513 520 x28 x32 H) fun x33 H => 
  bV (pNil x0) fun x34 => 
  bV (fAd 2 x34) fun x35 => 
  bR (stNp 1 x35 x33 H) fun x9999_2 H => 
  bR (noPan (f135 D n [x0] H)) fun x37 H => 
  bV (some x37) fun x6_2 => some (.ret x6_2, H)))
def h66 : Hint := (.s .o (.s (.s .o (.s .o (.cl (.s .o .o) .o))) (.s .o (.s .o (.s .o .o)))))
theorem f66_eq (D : Dyn) (n : Nat) : f66 D n = funKp (s66 D n) D n 66 Tryz.f66 h66 := by kernel_rfl
theorem f66_ok {D : Dyn} (hD : DP D) (n : Nat) : FP 66 (f66 D n) := fun_okP X_ok hD (SP.cons (f134_ok hD n) (SP.cons (f135_ok hD n) (SP.nil))) Tryz.func66 (by kernel_rfl) (by kernel_rfl) (f66_eq D n)

def s106 (D : Dyn) (n : Nat) : Tb := ⟨X, [(176, f176 D n), (177, f177 D n), (66, f66 D n)]⟩
/-- jetty/ring.Put -/
def f106 (D : Dyn) (n : Nat) (vs : List AV) (H : AH) : Option (AV × AH) :=
  outR (hd vs fun x0 vs => hd vs fun x1 vs => nl vs <|
  bA (bxV 161 x1) H fun x3 H => 
  bV (cmpO .eql (eqP x0 .nilPtr)) fun x8 => 
  cnd x8 (bV (some (.int .i64 (.ofNat 2))) fun x4 => some (.ret x4, H))
  (bV (ldNp 2 x3 H) fun x10 => 
  bR (noPan (f176 D n [x10] H)) fun x11 H => 
  bV (pExtract x11 0) fun x12 => 
  bV (pExtract x11 1) fun x13 => 
  bA (bxV 100 (.agg [.pk 512 0])) H fun x5 H => 
  bR (stNp 512 x5 x12 H) fun x9999 H => 
  bV (bInt .neq x13 (.int .i64 (.ofNat 0))) fun x15 => 
  cnd x15 (bV (some x13) fun x4_2 => some (.ret x4_2, H))
  (bV (fAd 0 x3) fun x18 => 
  bV (ld1p x18 H) fun x19 => 
  bV (ldNp 512 x5 H) fun x21 => 
  bR (noPan (f177 D n [x19] H)) fun x20 H => chk (ldNp 512 x5 H) x21 <| 
  bR (noPan (f66 D n [x0, x20, x21] H)) fun x22 H => 
  bV (some x22) fun x4_3 => some (.ret x4_3, H))))
def h106 : Hint := (.s .o (.s (.s .o (.cl (.s .o .o) .o)) (.s .o (.s (.s .o (.cl (.s .o .o) .o)) (.s .o .o)))))
theorem f106_eq (D : Dyn) (n : Nat) : f106 D n = funKp (s106 D n) D n 106 Tryz.f106 h106 := by kernel_rfl
theorem f106_ok {D : Dyn} (hD : DP D) (n : Nat) : FP 106 (f106 D n) := fun_okP X_ok hD (SP.cons (f176_ok hD n) (SP.cons (f177_ok hD n) (SP.cons (f66_ok hD n) (SP.nil)))) Tryz.func106 (by kernel_rfl) (by kernel_rfl) (f106_eq D n)

def s141 (D : Dyn) (n : Nat) : Tb := ⟨X, [(41, f41 D n), (106, f106 D n)]⟩
/-- jetty/txg.put -/
def f141 (D : Dyn) (n : Nat) (vs : List AV) (H : AH) : Option (AV × AH) :=
  outR (hd vs fun x0 vs => hd vs fun x1 vs => hd vs fun x2 vs => hd vs fun x3 vs => nl vs <|
  bA (bxV 35 x2) H fun x6 H => 
  bV (ldNp 3 x6 H) fun x12 => 
  bR (noPan (f41 D n [x12] H)) fun x13 H => 
  bV (pExtract x13 0) fun x14 => 
  bV (pExtract x13 1) fun x15 => 
  bV (bInt .neq x15 (.int .i64 (.ofNat 0))) fun x17 => 
  cnd x17 (bV (some x15) fun x8 => some (.ret x8, H))
  (bV (bStr .add x14 x3) fun x23 => 
  bV (bldSp [(0, 1), (1, 1)] [(.int .i64 (.ofNat 0)), (.str 0 0)] [(0, x1), (1, x23)]) fun x24 => 
  bR (noPan (f106 D n [x0, x24] H)) fun x25 H => 
  bV (some x25) fun x8_2 => some (.ret x8_2, H)))
def h141 : Hint := (.s .o (.s .o (.s (.s .o (.cl (.s .o .o) .o)) (.s .o .o))))
theorem f141_eq (D : Dyn) (n : Nat) : f141 D n = funKp (s141 D n) D n 141 Tryz.f141 h141 := by kernel_rfl
theorem f141_ok {D : Dyn} (hD : DP D) (n : Nat) : FP 141 (f141 D n) := fun_okP X_ok hD (SP.cons (f41_ok hD n) (SP.cons (f106_ok hD n) (SP.nil))) Tryz.func141 (by kernel_rfl) (by kernel_rfl) (f141_eq D n)

def s142 (D : Dyn) (n : Nat) : Tb := ⟨X, [(136, f136 D n), (135, f135 D n), (202, f202 D n)]⟩
def f142l0 (D : Dyn) (n : Nat) (vs : List AV) (H : AH) : Rs :=
  hd vs fun x0_2 vs => hd vs fun x20_2 vs => hd vs fun x21_2 vs => hd vs fun x22 vs => 
  bV (bInt .lss x22 x21_2) fun x23 => 
  cnd x23 (bV (ixSl 513 x20_2 x22) fun x24 => 
  bV (ldNp 513 x24 H) fun x25 => 
  bA (bxV 196 (.agg [(.int .i64 (.ofNat 0)), .pk 512 0])) H fun x6 H => 
  bR (stNp 513 x6 x25 H) fun x9999 H => 
  bV (pNil x0_2) fun x27 => 
  bV (fAd 1 x27) fun x28 => 
  bV (ld1p x28 H) fun x29 => 
  bV (fAd 0 x6) fun x30 => 
  bV (ld1p x30 H) fun x31 => 
  bV (fAd 1 x6) fun x32 => 
  bV (ldNp 512 x32 H) fun x33 => 
  bR (upM [6] x29 x31 x33 H) fun x9999_2 H => 
  bV (bInt .add x22 (.int .i64 (.ofNat 1))) fun x34 => 
  some (.norm [x0_2, x20_2, x21_2, x34], H))
  (some (.exit 0 [x0_2], H))
def f142b1 (D : Dyn) (n : Nat) (vs : List AV) (H : AH) : Rs :=
  hd vs fun x0_3 vs => 
  bR (noPan (f202 D n [x0_3] H)) fun x36 H => 
  bV (some (.int .i64 (.ofNat 0))) fun x2_3 => some (.ret x2_3, H)
/-- (*jetty/disk.Disk).Flush -/
def f142 (D : Dyn) (n : Nat) (vs : List AV) (H : AH) : Option (AV × AH) :=
  outR (hd vs fun x0 vs => nl vs <|
  bR (noPan (f136 D n [x0] H)) fun x8 H => 
  bV (bInt .neq x8 (.int .i64 (.ofNat 0))) fun x10 => 
  cnd x10 (bV (some x8) fun x2 => some (.ret x2, H))
  (bR (noPan (f135 D n [x0] H)) fun x13 H => 
  bV (bInt .neq x13 (.int .i64 (.ofNat 0))) fun x15 => 
  cnd x15 (bV (some x13) fun x2_2 => some (.ret x2_2, H))
  (bV (pNil x0) fun x18 => 
  bV (fAd 2 x18) fun x19 => 
  bV (ld1p x19 H) fun x20 => 
  bV (lnSl x20) fun x21 => 
  jb 0 (loopK n (f142l0 D n) [x0, x20, x21, (.int .i64 (.ofNat 0))] H) (f142b1 D n))))
def h142 : Hint := (.s .o (.s (.s .o (.s .o (.cl (.s .o .o) .o))) (.s (.s .o (.s .o (.cl (.s .o .o) .o))) (.s (.s .o (.b [0] (.l [0, 20, 21, 22] (.s .o (.s (.cr .o .o) (.s (.b0 (.s .o .o)) .o)))))) (.s .o (.s .o .o))))))
theorem f142_eq (D : Dyn) (n : Nat) : f142 D n = funKp (s142 D n) D n 142 Tryz.f142 h142 := by kernel_rfl
theorem f142_ok {D : Dyn} (hD : DP D) (n : Nat) : FP 142 (f142 D n) := fun_okP X_ok hD (SP.cons (f136_ok hD n) (SP.cons (f135_ok hD n) (SP.cons (f202_ok hD n) (SP.nil)))) Tryz.func142 (by kernel_rfl) (by kernel_rfl) (f142_eq D n)

def s77 (D : Dyn) (n : Nat) : Tb := ⟨X, [(141, f141 D n), (142, f142 D n)]⟩
/-- jetty/txg.Format -/
def f77 (D : Dyn) (n : Nat) (vs : List AV) (H : AH) : Option (AV × AH) :=
  outR (hd vs fun x0 vs => nl vs <|
  bV (cmpO .eql (eqP x0 .nilPtr)) fun x5 => 
  cnd x5 (bV (some (.int .i64 (.ofNat 2))) fun x2 => some (.ret x2, H))
  (bV (bldSp [(0, 1), (1, 1), (2, 1)] [(.int .i64 (.ofNat 0)), (.int .i64 (.ofNat 0)), (.int .u64 (.ofNat 0))] []) fun x7 => 
  bR (noPan (f141 D n [x0, (.int .i64 (.ofNat 1)), x7, (.str 0 0)] H)) fun x8 H => 
  bV (bInt .neq x8 (.int .i64 (.ofNat 0))) fun x10 => 
  cnd x10 (bV (some x8) fun x2_2 => some (.ret x2_2, H))
  (bR (noPan (f142 D n [x0] H)) fun x13 H => 
  bV (some x13) fun x2_3 => some (.ret x2_3, H))))
def h77 : Hint := (.s .o (.s (.s .o (.cl (.s .o .o) .o)) (.s (.s .o (.s .o (.cl (.s .o .o) .o))) (.s .o .o))))
theorem f77_eq (D : Dyn) (n : Nat) : f77 D n = funKp (s77 D n) D n 77 Tryz.f77 h77 := by kernel_rfl
theorem f77_ok {D : Dyn} (hD : DP D) (n : Nat) : FP 77 (f77 D n) := fun_okP X_ok hD (SP.cons (f141_ok hD n) (SP.cons (f142_ok hD n) (SP.nil))) Tryz.func77 (by kernel_rfl) (by kernel_rfl) (f77_eq D n)

def s22 (D : Dyn) (n : Nat) : Tb := ⟨X, [(6, f6 D n), (77, f77 D n)]⟩
/-- jetty/jettylaw17.formatted -/
def f22 (D : Dyn) (n : Nat) (vs : List AV) (H : AH) : Option (AV × AH) :=
  outR (hd vs fun x0 vs => nl vs <|
  bR (noPan (f6 D n [x0] H)) fun x7 H => 
  bV (pExtract x7 0) fun x8 => 
  bV (pExtract x7 1) fun x9 => 
  bV (bInt .neq x9 (.int .i64 (.ofNat 0))) fun x11 => 
  jn (wnt x11 false (bR (noPan (f77 D n [x8] H)) fun x14 H => 
  bV (bInt .neq x14 (.int .i64 (.ofNat 0))) fun x15 => 
  some (.norm [x15], H)) (some (.norm [undefA], H))) fun vs H => hd vs fun x15_2 vs => 
  bV (pk3 (some x11) (some (.bool true)) (some x15_2)) fun x16 => 
  cnd x16 (bV (some .nilPtr) fun x2 => some (.ret x2, H))
  (bV (some x8) fun x2_2 => some (.ret x2_2, H)))
def h22 : Hint := (.s .o (.s .o (.s (.s .o (.cl (.s .o .o) .o)) (.s .o .o))))
theorem f22_eq (D : Dyn) (n : Nat) : f22 D n = funKp (s22 D n) D n 22 Tryz.f22 h22 := by kernel_rfl
theorem f22_ok {D : Dyn} (hD : DP D) (n : Nat) : FP 22 (f22 D n) := fun_okP X_ok hD (SP.cons (f6_ok hD n) (SP.cons (f77_ok hD n) (SP.nil))) Tryz.func22 (by kernel_rfl) (by kernel_rfl) (f22_eq D n)

def s65 (D : Dyn) (n : Nat) : Tb := ⟨X, [(134, f134 D n)]⟩
/-- (*jetty/disk.Disk).Read -/
def f65 (D : Dyn) (n : Nat) (vs : List AV) (H : AH) : Option (AV × AH) :=
  outR (hd vs fun x0 vs => hd vs fun x1 vs => nl vs <|
  bA (bxV 100 (.agg [.pk 512 0])) H fun x4 H => 
  bR (noPan (f134 D n [x0, x1] H)) fun x11 H => 
  bV (bInt .neq x11 (.int .i64 (.ofNat 0))) fun x13 => 
  cnd x13 (bV (bldAp 1 [.pk 512 0] []) fun x14 => 
  bR (stNp 512 x4 x14 H) fun x9999 H => 
  bV (ldNp 512 x4 H) fun x9004 => bV (some x11) fun x5 => some (.ret (.tuple [x9004, x5]), H))
  (bV (pNil x0) fun x18 => 
  bV (fAd 3 x18) fun x19 => 
  bV (ld1p x19 H) fun x20 => 
  bV (lkM [6] (.int .i64 (.ofNat 0)) true x20 x1 H) fun x22 => 
  bV (pExtract x22 0) fun x23 => 
  bV (pExtract x22 1) fun x24 => 
  cnd x24 (bV (pNil x0) fun x27 => 
  bV (fAd 2 x27) fun x28 => 
  bV (ld1p x28 H) fun x29 => 
  bV (ixSl 513 x29 x23) fun x31 => 
  bV (fAd 1 x31) fun x32 => 
  bV (ldNp 512 x32 H) fun x33 => 
  bR (stNp 512 x4 x33 H) fun x9999_2 H => 
  bV (ldNp 512 x4 H) fun x9004_2 => bV (some (.int .i64 (.ofNat 0))) fun x5_2 => some (.ret (.tuple [x9004_2, x5_2]), H))
  (bV (pNil x0) fun x35 => 
  bV (fAd 1 x35) fun x36 => 
  bV (ld1p x36 H) fun x37 => 
  bV (lkM [6] (.agg [.pk 512 0]) false x37 x1 H) fun x39 => 
  bR (stNp 512 x4 x39 H) fun x9999_3 H => 
  bV (ldNp 512 x4 H) fun x9004_3 => bV (some (.int .i64 (.ofNat 0))) fun x5_3 => some (.ret (.tuple [x9004_3, x5_3]), H))))
def h65 : Hint := (.s .o (.s (.s .o (.s .o (.cl (.s .o .o) .o))) (.s (.s .o (.s .o (.cl (.s .o .o) .o))) (.s .o .o))))
theorem f65_eq (D : Dyn) (n : Nat) : f65 D n = funKp (s65 D n) D n 65 Tryz.f65 h65 := by kernel_rfl
theorem f65_ok {D : Dyn} (hD : DP D) (n : Nat) : FP 65 (f65 D n) := fun_okP X_ok hD (SP.cons (f134_ok hD n) (SP.nil)) Tryz.func65 (by kernel_rfl) (by kernel_rfl) (f65_eq D n)

def s203 (D : Dyn) (n : Nat) : Tb := ⟨X, []⟩
def f203l0 (D : Dyn) (n : Nat) (vs : List AV) (H : AH) : Rs :=
  hd vs fun x3 vs => hd vs fun x6 vs => hd vs fun x7_2 vs => hd vs fun x8 vs => 
  bV (bInt .lss x8 x7_2) fun x9 => 
  cnd x9 (bV (ixSl 1 x6 x8) fun x10 => 
  bV (ld1p x10 H) fun x11 => 
  bV (bInt .shl x3 (.int .u64 (.ofNat 8))) fun x13 => 
  bV (cvI .u64 x11) fun x15 => 
  bV (bInt .or x13 x15) fun x16 => 
  bV (bInt .add x8 (.int .i64 (.ofNat 1))) fun x17 => 
  some (.norm [x16, x6, x7_2, x17], H))
  (some (.exit 0 [x3], H))
def f203b1 (D : Dyn) (n : Nat) (vs : List AV) (H : AH) : Rs :=
  hd vs fun x3_2 vs => 
  bV (some x3_2) fun x2 => some (.ret x2, H)
/-- jetty/block.get -/
def f203 (D : Dyn) (n : Nat) (vs : List AV) (H : AH) : Option (AV × AH) :=
  outR (hd vs fun x0 vs => nl vs <|
  bV (lnSl x0) fun x7 => 
  jb 0 (loopK n (f203l0 D n) [(.int .u64 (.ofNat 0)), x0, x7, (.int .i64 (.ofNat 0))] H) (f203b1 D n))
def h203 : Hint := (.s .o (.s .o (.s (.s .o (.b [3] (.l [3, 6, 7, 8] (.s .o (.s (.cr .o .o) (.s (.b0 (.s .o .o)) .o)))))) (.s .o .o))))
theorem f203_eq (D : Dyn) (n : Nat) : f203 D n = funKp (s203 D n) D n 203 Tryz.f203 h203 := by kernel_rfl
theorem f203_ok {D : Dyn} (hD : DP D) (n : Nat) : FP 203 (f203 D n) := fun_okP X_ok hD (SP.nil) Tryz.func203 (by kernel_rfl) (by kernel_rfl) (f203_eq D n)

def s138 (D : Dyn) (n : Nat) : Tb := ⟨X, [(203, f203 D n), (69, f69 D n)]⟩
/-- jetty/block.Open -/
def f138 (D : Dyn) (n : Nat) (vs : List AV) (H : AH) : Option (AV × AH) :=
  outR (hd vs fun x0 vs => nl vs <|
  bA (bxV 100 x0) H fun x1 H => 
  bV (slArr 512 1 x1 (some (.int .i64 (.ofNat 6))) (some (.int .i64 (.ofNat 8))) none) fun x8 => 
  bR (noPan (f203 D n [x8] H)) fun x9 H => 
  bV (bInt .gtr x9 (.int .u64 (.ofNat 500))) fun x11 => 
  cnd x11 (bV (some (.int .u8 (.ofNat 0))) fun x2 => bV (some (.int .i64 (.ofNat 0))) fun x3 => bV (some (.str 0 0)) fun x4 => bV (some (.int .i64 (.ofNat 4))) fun x5 => some (.ret (.tuple [x2, x3, x4, x5]), H))
  (bV (ixArr 512 1 x1 (.int .i64 (.ofNat 4))) fun x12 => 
  bV (ld1p x12 H) fun x13 => 
  bV (slArr 512 1 x1 (some (.int .i64 (.ofNat 8))) (some (.int .i64 (.ofNat 12))) none) fun x14 => 
  bR (noPan (f203 D n [x14] H)) fun x15 H => 
  bV (cvI .i64 x15) fun x16 => 
  bV (bInt .add (.int .u64 (.ofNat 12)) x9) fun x18 => 
  bV (slArr 512 1 x1 (some (.int .i64 (.ofNat 12))) (some x18) none) fun x19 => 
  bV (cvBSp x19 H) fun x20 => 
  bR (noPan (f69 D n [x13, x16, x20] H)) fun x25 H => 
  bV (pExtract x25 0) fun x26 => 
  bV (pExtract x25 1) fun x27 => 
  bA (bxV 100 (.agg [.pk 512 0])) H fun x7 H => 
  bR (stNp 512 x7 x26 H) fun x9999 H => 
  bV (bInt .neq x27 (.int .i64 (.ofNat 0))) fun x29 => 
  jn (wnt x29 false (bV (ldNp 512 x7 H) fun x31 => 
  bV (ldNp 512 x1 H) fun x32 => 
  bV (cmpO .neq (eqAp [(7, 512)] x31 x32)) fun x33 => 
  some (.norm [x33], H)) (some (.norm [undefA], H))) fun vs H => hd vs fun x33_2 vs => 
  bV (pk3 (some x29) (some (.bool true)) (some x33_2)) fun x34 => 
  cnd x34 (bV (some (.int .u8 (.ofNat 0))) fun x2_2 => bV (some (.int .i64 (.ofNat 0))) fun x3_2 => bV (some (.str 0 0)) fun x4_2 => bV (some (.int .i64 (.ofNat 4))) fun x5_2 => some (.ret (.tuple [x2_2, x3_2, x4_2, x5_2]), H))
  (bV (some x13) fun x2_3 => bV (some x16) fun x3_3 => bV (some x20) fun x4_3 => bV (some (.int .i64 (.ofNat 0))) fun x5_3 => some (.ret (.tuple [x2_3, x3_3, x4_3, x5_3]), H))))
def h138 : Hint := (.s .o (.s .o (.s (.s .o (.cl (.s .o .o) .o)) (.s .o (.s .o (.s .o (.s .o (.s (.s .o (.cl (.s .o .o) .o)) (.s .o .o)))))))))
theorem f138_eq (D : Dyn) (n : Nat) : f138 D n = funKp (s138 D n) D n 138 Tryz.f138 h138 := by kernel_rfl
theorem f138_ok {D : Dyn} (hD : DP D) (n : Nat) : FP 138 (f138 D n) := fun_okP X_ok hD (SP.cons (f203_ok hD n) (SP.cons (f69_ok hD n) (SP.nil))) Tryz.func138 (by kernel_rfl) (by kernel_rfl) (f138_eq D n)

def s229 (D : Dyn) (n : Nat) : Tb := ⟨X, []⟩
/-- bytes.Clone -/
def f229 (D : Dyn) (n : Nat) (vs : List AV) (H : AH) : Option (AV × AH) :=
  outR (hd vs fun x0 vs => nl vs <|
  bV (cmpO .eql (eqS x0 .nilSlice)) fun x4 => 
  cnd x4 (bV (some .nilSlice) fun x2 => some (.ret x2, H))
  (bA (bldLp 5 1 0 [(.int .u8 (.ofNat 0))] []) H fun x5 H => 
  bR (apPp 5 1 1 x5 x0 H) fun x7 H => 
  bV (some x7) fun x2_2 => some (.ret x2_2, H)))
def h229 : Hint := (.s .o (.s (.s .o (.cl (.s .o .o) .o)) (.s .o .o)))
theorem f229_eq (D : Dyn) (n : Nat) : f229 D n = funKp (s229 D n) D n 229 Tryz.f229 h229 := by kernel_rfl
theorem f229_ok {D : Dyn} (hD : DP D) (n : Nat) : FP 229 (f229 D n) := fun_okP X_ok hD (SP.nil) Tryz.func229 (by kernel_rfl) (by kernel_rfl) (f229_eq D n)

def s223 (D : Dyn) (n : Nat) : Tb := ⟨X, [(229, f229 D n)]⟩
/-- jetty/xdr.NewReader -/
def f223 (D : Dyn) (n : Nat) (vs : List AV) (H : AH) : Option (AV × AH) :=
  outR (hd vs fun x0 vs => nl vs <|
  bR (noPan (f229 D n [x0] H)) fun x4 H => 
  bV (bldSp [(0, 1), (1, 1)] [.nilSlice, (.bool false)] [(0, x4)]) fun x5 => 
  bA (bxV 298 x5) H fun x6 H => 
  bV (some x6) fun x2 => some (.ret x2, H))
def h223 : Hint := (.s .o (.s .o .o))
theorem f223_eq (D : Dyn) (n : Nat) : f223 D n = funKp (s223 D n) D n 223 Tryz.f223 h223 := by kernel_rfl
theorem f223_ok {D : Dyn} (hD : DP D) (n : Nat) : FP 223 (f223 D n) := fun_okP X_ok hD (SP.cons (f229_ok hD n) (SP.nil)) Tryz.func223 (by kernel_rfl) (by kernel_rfl) (f223_eq D n)

def s246 (D : Dyn) (n : Nat) : Tb := ⟨X, []⟩
def f246j0 (D : Dyn) (n : Nat) (vs : List AV) (H : AH) : Rs :=
  
  some (.ret (.tuple []), H)
/-- (*jetty/xdr.Reader).spoil -/
def f246 (D : Dyn) (n : Nat) (vs : List AV) (H : AH) : Option (AV × AH) :=
  outR (hd vs fun x0 vs => nl vs <|
  bV (cmpO .neq (eqP x0 .nilPtr)) fun x3 => 
  jn (cnd x3 (bV (pNil x0) fun x5 => 
  bV (fAd 1 x5) fun x6 => 
  bR (stNp 1 x6 (.bool true) H) fun x9999 H => 
  bV (pNil x0) fun x8 => 
  bV (fAd 0 x8) fun x9 => 
  bR (stNp 1 x9 .nilSlice H) fun x9999_2 H => 
  some (.norm [], H))
  (some (.norm [], H))) (f246j0 D n))
def h246 : Hint := (.s .o (.c [] (.s .o .o) .o))
theorem f246_eq (D : Dyn) (n : Nat) : f246 D n = funKp (s246 D n) D n 246 Tryz.f246 h246 := by kernel_rfl
theorem f246_ok {D : Dyn} (hD : DP D) (n : Nat) : FP 246 (f246 D n) := fun_okP X_ok hD (SP.nil) Tryz.func246 (by kernel_rfl) (by kernel_rfl) (f246_eq D n)

def s234 (D : Dyn) (n : Nat) : Tb := ⟨X, [(246, f246 D n)]⟩
/-- (*jetty/xdr.Reader).take -/
def f234 (D : Dyn) (n : Nat) (vs : List AV) (H : AH) : Option (AV × AH) :=
  outR (hd vs fun x0 vs => hd vs fun x1 vs => nl vs <|
  bV (cmpO .eql (eqP x0 .nilPtr)) fun x8 => 
  jn (wnt x8 false (bV (pNil x0) fun x11 => 
  bV (fAd 1 x11) fun x12 => 
  bV (ld1p x12 H) fun x13 => 
  some (.norm [x13], H)) (some (.norm [undefA], H))) fun vs H => hd vs fun x13_2 vs => 
  bV (pk3 (some x8) (some (.bool true)) (some x13_2)) fun x14 => 
  cnd x14 (bV (some .nilSlice) fun x4 => bV (some (.bool false)) fun x5 => some (.ret (.tuple [x4, x5]), H))
  (bV (bInt .lss x1 (.int .i64 (.ofNat 0))) fun x16 => 
  jn (wnt x16 false (bV (pNil x0) fun x20 => 
  bV (fAd 0 x20) fun x21 => 
  bV (ld1p x21 H) fun x22 => 
  bV (lnSl x22) fun x23 => 
  bV (bInt .gtr x1 x23) fun x24 => 
  some (.norm [x24], H)) (some (.norm [undefA], H))) fun vs H => hd vs fun x24_2 vs => 
  bV (pk3 (some x16) (some (.bool true)) (some x24_2)) fun x25 => 
  cnd x25 (bR (noPan (f246 D n [x0] H)) fun x27 H => 
  bV (some .nilSlice) fun x4_2 => bV (some (.bool false)) fun x5_2 => some (.ret (.tuple [x4_2, x5_2]), H))
  (bV (pNil x0) fun x29 => 
  bV (fAd 0 x29) fun x30 => 
  bV (ld1p x30 H) fun x31 => 
  bV (slSlp 1 x31 none (some x1) (some x1) H) fun x34 => 
  bV (pNil x0) fun x37 => 
  bV (fAd 0 x37) fun x38 => 
  bV (ld1p x38 H) fun x39 => 
  bV (slSlp 1 x39 (some x1) none none H) fun x41 => 
  bV (pNil x0) fun x42 => 
  bV (fAd 0 x42) fun x43 => 
  bR (stNp 1 x43 x41 H) fun x9999 H => 
  bV (some x34) fun x4_3 => bV (some (.bool true)) fun x5_3 => some (.ret (.tuple [x4_3, x5_3]), H))))
def h234 : Hint := (.s .o (.s (.s .o (.cl (.s .o .o) .o)) (.s (.s .o (.cl (.s .o (.s .o .o)) .o)) (.s .o (.s .o (.s .o .o))))))
theorem f234_eq (D : Dyn) (n : Nat) : f234 D n = funKp (s234 D n) D n 234 Tryz.f234 h234 := by kernel_rfl
theorem f234_ok {D : Dyn} (hD : DP D) (n : Nat) : FP 234 (f234 D n) := fun_okP X_ok hD (SP.cons (f246_ok hD n) (SP.nil)) Tryz.func234 (by kernel_rfl) (by kernel_rfl) (f234_eq D n)

def s230 (D : Dyn) (n : Nat) : Tb := ⟨X, [(234, f234 D n)]⟩
def f230l0 (D : Dyn) (n : Nat) (vs : List AV) (H : AH) : Rs :=
  hd vs fun x6 vs => hd vs fun x19_2 vs => hd vs fun x20 vs => 
  bV (bInt .lss x20 (.int .i64 (.ofNat 4))) fun x21 => 
  cnd x21 (bV (ixAg1p 4 1 x19_2 x20) fun x22 => 
  bV (bInt .shl x6 (.int .u64 (.ofNat 8))) fun x24 => 
  bV (cvI .u32 x22) fun x26 => 
  bV (bInt .or x24 x26) fun x27 => 
  bV (bInt .add x20 (.int .i64 (.ofNat 1))) fun x28 => 
  some (.norm [x27, x19_2, x28], H))
  (some (.exit 0 [x6], H))
def f230b1 (D : Dyn) (n : Nat) (vs : List AV) (H : AH) : Rs :=
  hd vs fun x6_2 vs => 
  bV (some x6_2) fun x2_2 => some (.ret x2_2, H)
/-- (*jetty/xdr.Reader).Word -/
def f230 (D : Dyn) (n : Nat) (vs : List AV) (H : AH) : Option (AV × AH) :=
  outR (hd vs fun x0 vs => nl vs <|
  bR (noPan (f234 D n [x0, (.int .i64 (.ofNat 4))] H)) fun x11 H => 
  bV (pExtract x11 0) fun x12 => 
  bV (pExtract x11 1) fun x13 => 
  bV (aun .not x13) fun x15 => 
  cnd x15 (bV (some (.int .u32 (.ofNat 0))) fun x2 => some (.ret x2, H))
  (bV (s2a 4 x12) fun x17 => 
  bV (ldNp 4 x17 H) fun x18 => 
  bA (bxV 245 (.agg [.pk 4 0])) H fun x5 H => 
  bR (stNp 4 x5 x18 H) fun x9999 H => 
  bV (ldNp 4 x5 H) fun x19 => 
  jb 0 (loopK n (f230l0 D n) [(.int .u32 (.ofNat 0)), x19, (.int .i64 (.ofNat 0))] H) (f230b1 D n)))
def h230 : Hint := (.s .o (.s .o (.s (.s .o (.cl (.s .o .o) .o)) (.s .o (.s .o (.s (.s .o (.b [6] (.l [6, 19, 20] (.s .o (.s (.cr .o .o) (.s (.b0 (.s .o .o)) .o)))))) (.s .o .o)))))))
theorem f230_eq (D : Dyn) (n : Nat) : f230 D n = funKp (s230 D n) D n 230 Tryz.f230 h230 := by kernel_rfl
theorem f230_ok {D : Dyn} (hD : DP D) (n : Nat) : FP 230 (f230 D n) := fun_okP X_ok hD (SP.cons (f234_ok hD n) (SP.nil)) Tryz.func230 (by kernel_rfl) (by kernel_rfl) (f230_eq D n)

def s231 (D : Dyn) (n : Nat) : Tb := ⟨X, []⟩
/-- (*jetty/xdr.Reader).OK -/
def f231 (D : Dyn) (n : Nat) (vs : List AV) (H : AH) : Option (AV × AH) :=
  outR (hd vs fun x0 vs => nl vs <|
  bV (cmpO .neq (eqP x0 .nilPtr)) fun x4 => 
  jn (wnt x4 true (bV (pNil x0) fun x7 => 
  bV (fAd 1 x7) fun x8 => 
  bV (ld1p x8 H) fun x9 => 
  bV (aun .not x9) fun x10 => 
  some (.norm [x10], H)) (some (.norm [undefA], H))) fun vs H => hd vs fun x10_2 vs => 
  bV (pk3 (some x4) (some x10_2) (some (.bool false))) fun x11 => 
  bV (some x11) fun x2 => some (.ret x2, H))
def h231 : Hint := (.s .o (.s .o .o))
theorem f231_eq (D : Dyn) (n : Nat) : f231 D n = funKp (s231 D n) D n 231 Tryz.f231 h231 := by kernel_rfl
theorem f231_ok {D : Dyn} (hD : DP D) (n : Nat) : FP 231 (f231 D n) := fun_okP X_ok hD (SP.nil) Tryz.func231 (by kernel_rfl) (by kernel_rfl) (f231_eq D n)

def s224 (D : Dyn) (n : Nat) : Tb := ⟨X, [(230, f230 D n), (231, f231 D n)]⟩
/-- (*jetty/xdr.Reader).Long -/
def f224 (D : Dyn) (n : Nat) (vs : List AV) (H : AH) : Option (AV × AH) :=
  outR (hd vs fun x0 vs => nl vs <|
  bR (noPan (f230 D n [x0] H)) fun x6 H => 
  bR (noPan (f230 D n [x0] H)) fun x8 H => 
  bR (noPan (f231 D n [x0] H)) fun x10 H => 
  bV (aun .not x10) fun x11 => 
  cnd x11 (bV (some (.int .u64 (.ofNat 0))) fun x2 => some (.ret x2, H))
  (bV (cvI .u64 x6) fun x13 => 
  bV (bInt .shl x13 (.int .u64 (.ofNat 32))) fun x14 => 
  bV (cvI .u64 x8) fun x16 => 
  bV (bInt .or x14 x16) fun x17 => 
  bV (some x17) fun x2_2 => some (.ret x2_2, H)))
def h224 : Hint := (.s .o (.s .o (.s .o (.s (.s .o (.cl (.s .o .o) .o)) (.s .o .o)))))
theorem f224_eq (D : Dyn) (n : Nat) : f224 D n = funKp (s224 D n) D n 224 Tryz.f224 h224 := by kernel_rfl
theorem f224_ok {D : Dyn} (hD : DP D) (n : Nat) : FP 224 (f224 D n) := fun_okP X_ok hD (SP.cons (f230_ok hD n) (SP.cons (f231_ok hD n) (SP.nil))) Tryz.func224 (by kernel_rfl) (by kernel_rfl) (f224_eq D n)

def s205 (D : Dyn) (n : Nat) : Tb := ⟨X, [(138, f138 D n), (223, f223 D n), (224, f224 D n), (204, f204 D n)]⟩
/-- jetty/ring.Open -/
def f205 (D : Dyn) (n : Nat) (vs : List AV) (H : AH) : Option (AV × AH) :=
  outR (hd vs fun x0 vs => nl vs <|
  bA (bxV 100 x0) H fun x1 H => 
  bA (bxV 161 (.agg [(.int .i64 (.ofNat 0)), (.str 0 0)])) H fun x2 H => 
  bV (ldNp 512 x1 H) fun x10 => 
  bR (noPan (f138 D n [x10] H)) fun x11 H => 
  bV (pExtract x11 0) fun x12 => 
  bV (pExtract x11 1) fun x13 => 
  bV (pExtract x11 2) fun x14 => 
  bV (pExtract x11 3) fun x15 => 
  bV (bInt .neq x15 (.int .i64 (.ofNat 0))) fun x17 => 
  jn (wnt x17 false (bV (bInt .neq x12 (.int .u8 (.ofNat 3))) fun x20 => 
  some (.norm [x20], H)) (some (.norm [undefA], H))) fun vs H => hd vs fun x20_2 vs => 
  bV (pk3 (some x17) (some (.bool true)) (some x20_2)) fun x21 => 
  jn (wnt x21 false (bV (lnStr x14) fun x24 => 
  bV (bInt .lss x24 (.int .i64 (.ofNat 8))) fun x25 => 
  some (.norm [x25], H)) (some (.norm [undefA], H))) fun vs H => hd vs fun x25_2 vs => 
  bV (pk3 (some x21) (some (.bool true)) (some x25_2)) fun x26 => 
  jn (wnt x26 false (bV (bInt .lss x13 (.int .i64 (.ofNat 1))) fun x29 => 
  some (.norm [x29], H)) (some (.norm [undefA], H))) fun vs H => hd vs fun x29_2 vs => 
  bV (pk3 (some x26) (some (.bool true)) (some x29_2)) fun x30 => 
  cnd x30 (bV (bldSp [(0, 1), (1, 1)] [(.int .i64 (.ofNat 0)), (.str 0 0)] []) fun x31 => 
  bR (stNp 2 x2 x31 H) fun x9999 H => 
  bV (ldNp 2 x2 H) fun x9002 => bV (some (.int .i64 (.ofNat 4))) fun x3 => some (.ret (.tuple [x9002, x3]), H))
  (bV (slStr x14 (some (.int .i64 (.ofNat 8))) none) fun x34 => 
  bV (bldSp [(0, 1), (1, 1)] [(.int .i64 (.ofNat 0)), (.str 0 0)] [(0, x13), (1, x34)]) fun x35 => 
  bA (bxV 161 (.agg [(.int .i64 (.ofNat 0)), (.str 0 0)])) H fun x8 H => 
  bR (stNp 2 x8 x35 H) fun x9999_2 H => 
  bV (slStr x14 none (some (.int .i64 (.ofNat 8)))) fun x37 => 
  bA (cvSBp 5 x37) H fun x38 H => 
  bV (fAd 1 x8) fun x41 => 
  bV (ld1p x41 H) fun x42 => 
  bR (noPan (f223 D n [x38] H)) fun x39 H => chk (ld1p x41 H) x42 <| 
  bR (noPan (f224 D n [x39] H)) fun x40 H => chk (ld1p x41 H) x42 <| 
  bR (noPan (f204 D n [x42] H)) fun x43 H => 
  bV (bInt .neq x40 x43) fun x44 => 
  cnd x44 (bV (bldSp [(0, 1), (1, 1)] [(.int .i64 (.ofNat 0)), (.str 0 0)] []) fun x45 => 
  bR (stNp 2 x2 x45 H) fun x9999_3 H => 
  bV (ldNp 2 x2 H) fun x9002_2 => bV (some (.int .i64 (.ofNat 52))) fun x3_2 => some (.ret (.tuple [x9002_2, x3_2]), H))
  (bV (ldNp 2 x8 H) fun x46 => 
  bR (stNp 2 x2 x46 H) fun x9999_4 H => 
  bV (ldNp 2 x2 H) fun x9002_3 => bV (some (.int .i64 (.ofNat 0))) fun x3_3 => some (.ret (.tuple [x9002_3, x3_3]), H))))
def h205 : Hint := (.s .o (.s .o (.s (.s .o (.cl (.s .o .o) .o)) (.s .o (.s (.s .o (.cl (.s .o .o) .o)) (.s .o .o))))))
theorem f205_eq (D : Dyn) (n : Nat) : f205 D n = funKp (s205 D n) D n 205 Tryz.f205 h205 := by kernel_rfl
theorem f205_ok {D : Dyn} (hD : DP D) (n : Nat) : FP 205 (f205 D n) := fun_okP X_ok hD (SP.cons (f138_ok hD n) (SP.cons (f223_ok hD n) (SP.cons (f224_ok hD n) (SP.cons (f204_ok hD n) (SP.nil))))) Tryz.func205 (by kernel_rfl) (by kernel_rfl) (f205_eq D n)

def s143 (D : Dyn) (n : Nat) : Tb := ⟨X, [(65, f65 D n), (205, f205 D n), (177, f177 D n)]⟩
def f143j0 (D : Dyn) (n : Nat) (vs : List AV) (H : AH) : Rs :=
  hd vs fun x0_3 vs => hd vs fun x2_3 vs => hd vs fun x4_3 vs => hd vs fun x12_2 vs => 
  bV (bInt .add x12_2 (.int .i64 (.ofNat 1))) fun x47 => 
  some (.norm [x0_3, x2_3, x4_3, x47], H)
def f143l1 (D : Dyn) (n : Nat) (vs : List AV) (H : AH) : Rs :=
  hd vs fun x0_2 vs => hd vs fun x2_2 vs => hd vs fun x4_2 vs => hd vs fun x12 vs => 
  bV (bInt .lss x12 (.int .i64 (.ofNat 2))) fun x13 => 
  cnd x13 (bR (noPan (f65 D n [x0_2, x12] H)) fun x18 H => 
  bV (pExtract x18 0) fun x19 => 
  bV (pExtract x18 1) fun x20 => 
  bA (bxV 100 (.agg [.pk 512 0])) H fun x6 H => 
  bR (stNp 512 x6 x19 H) fun x9999_2 H => 
  bV (bInt .neq x20 (.int .i64 (.ofNat 0))) fun x22 => 
  cnd x22 (bV (bldSp [(0, 1), (1, 1)] [(.int .i64 (.ofNat 0)), (.str 0 0)] []) fun x23 => 
  bR (stNp 2 x2_2 x23 H) fun x9999_3 H => 
  bV (ldNp 2 x2_2 H) fun x9002_2 => bV (some x20) fun x3_2 => some (.ret (.tuple [x9002_2, x3_2]), H))
  (bV (ldNp 512 x6 H) fun x26 => 
  bR (noPan (f205 D n [x26] H)) fun x27 H => 
  bV (pExtract x27 0) fun x28 => 
  bV (pExtract x27 1) fun x29 => 
  bA (bxV 161 (.agg [(.int .i64 (.ofNat 0)), (.str 0 0)])) H fun x8 H => 
  bR (stNp 2 x8 x28 H) fun x9999_4 H => 
  bV (bInt .eql x29 (.int .i64 (.ofNat 0))) fun x31 => 
  jn (wnt x31 true (bV (fAd 0 x8) fun x33 => 
  bV (ld1p x33 H) fun x34 => 
  bR (noPan (f177 D n [x34] H)) fun x35 H => 
  bV (bInt .eql x35 x12) fun x37 => 
  some (.norm [x37], H)) (some (.norm [undefA], H))) fun vs H => hd vs fun x37_2 vs => 
  bV (pk3 (some x31) (some x37_2) (some (.bool false))) fun x38 => 
  jn (wnt x38 true (bV (fAd 0 x8) fun x40 => 
  bV (ld1p x40 H) fun x41 => 
  bV (fAd 0 x4_2) fun x42 => 
  bV (ld1p x42 H) fun x43 => 
  bV (bInt .gtr x41 x43) fun x44 => 
  some (.norm [x44], H)) (some (.norm [undefA], H))) fun vs H => hd vs fun x44_2 vs => 
  bV (pk3 (some x38) (some x44_2) (some (.bool false))) fun x45 => 
  jn (cnd x45 (bV (ldNp 2 x8 H) fun x46 => 
  bR (stNp 2 x4_2 x46 H) fun x9999_5 H => 
  some (.norm [x0_2, x2_2, x4_2, x12], H))
  (some (.norm [x0_2, x2_2, x4_2, x12], H))) (f143j0 D n)))
  (some (.exit 0 [x2_2, x4_2], H))
def f143b2 (D : Dyn) (n : Nat) (vs : List AV) (H : AH) : Rs :=
  hd vs fun x2_4 vs => hd vs fun x4_4 vs => 
  bV (fAd 0 x4_4) fun x48 => 
  bV (ld1p x48 H) fun x49 => 
  bV (bInt .eql x49 (.int .i64 (.ofNat 0))) fun x50 => 
  cnd x50 (bV (bldSp [(0, 1), (1, 1)] [(.int .i64 (.ofNat 0)), (.str 0 0)] []) fun x51 => 
  bR (stNp 2 x2_4 x51 H) fun x9999_6 H => 
  bV (ldNp 2 x2_4 H) fun x9002_3 => bV (some (.int .i64 (.ofNat 5))) fun x3_3 => some (.ret (.tuple [x9002_3, x3_3]), H))
  (bV (ldNp 2 x4_4 H) fun x52 => 
  bR (stNp 2 x2_4 x52 H) fun x9999_7 H => 
  bV (ldNp 2 x2_4 H) fun x9002_4 => bV (some (.int .i64 (.ofNat 0))) fun x3_4 => some (.ret (.tuple [x9002_4, x3_4]), H))
/-- jetty/ring.Newest -/
def f143 (D : Dyn) (n : Nat) (vs : List AV) (H : AH) : Option (AV × AH) :=
  outR (hd vs fun x0 vs => nl vs <|
  bA (bxV 161 (.agg [(.int .i64 (.ofNat 0)), (.str 0 0)])) H fun x2 H => 
  bV (cmpO .eql (eqP x0 .nilPtr)) fun x10 => 
  cnd x10 (bV (bldSp [(0, 1), (1, 1)] [(.int .i64 (.ofNat 0)), (.str 0 0)] []) fun x11 => 
  bR (stNp 2 x2 x11 H) fun x9999 H => 
  bV (ldNp 2 x2 H) fun x9002 => bV (some (.int .i64 (.ofNat 2))) fun x3 => some (.ret (.tuple [x9002, x3]), H))
  (bA (bxV 161 (.agg [(.int .i64 (.ofNat 0)), (.str 0 0)])) H fun x4 H => 
  jb 0 (loopK n (f143l1 D n) [x0, x2, x4, (.int .i64 (.ofNat 0))] H) (f143b2 D n)))
def h143 : Hint := (.s .o (.s (.s .o (.cl (.s .o .o) .o)) (.s .o (.s (.s .o (.b [2, 4] (.l [0, 2, 4, 12] (.s .o (.s (.cr .o .o) (.s (.b0 (.s .o (.s .o (.s (.s .o (.cl (.s .o .o) .o)) (.s .o (.s .o (.c [0, 2, 4, 12] .o .o))))))) .o)))))) (.s (.s .o (.cl (.s .o .o) .o)) (.s .o .o))))))
theorem f143_eq (D : Dyn) (n : Nat) : f143 D n = funKp (s143 D n) D n 143 Tryz.f143 h143 := by kernel_rfl
theorem f143_ok {D : Dyn} (hD : DP D) (n : Nat) : FP 143 (f143 D n) := fun_okP X_ok hD (SP.cons (f65_ok hD n) (SP.cons (f205_ok hD n) (SP.cons (f177_ok hD n) (SP.nil)))) Tryz.func143 (by kernel_rfl) (by kernel_rfl) (f143_eq D n)

def s144 (D : Dyn) (n : Nat) : Tb := ⟨X, [(203, f203 D n), (107, f107 D n)]⟩
/-- jetty/block.Decode -/
def f144 (D : Dyn) (n : Nat) (vs : List AV) (H : AH) : Option (AV × AH) :=
  outR (hd vs fun x0 vs => nl vs <|
  bA (bxV 35 (.agg [(.int .i64 (.ofNat 0)), (.int .i64 (.ofNat 0)), (.int .u64 (.ofNat 0))])) H fun x2 H => 
  bV (lnStr x0) fun x7 => 
  bV (bInt .neq x7 (.int .i64 (.ofNat 16))) fun x8 => 
  cnd x8 (bV (bldSp [(0, 1), (1, 1), (2, 1)] [(.int .i64 (.ofNat 0)), (.int .i64 (.ofNat 0)), (.int .u64 (.ofNat 0))] []) fun x9 => 
  bR (stNp 3 x2 x9 H) fun x9999 H => 
  bV (ldNp 3 x2 H) fun x9002 => bV (some (.int .i64 (.ofNat 4))) fun x3 => some (.ret (.tuple [x9002, x3]), H))
  (bA (cvSBp 5 x0) H fun x11 H => 
  bV (s2a 16 x11) fun x12 => 
  bV (ldNp 16 x12 H) fun x13 => 
  bA (bxV 167 (.agg [.pk 16 0])) H fun x4 H => 
  bR (stNp 16 x4 x13 H) fun x9999_2 H => 
  bV (slArr 16 1 x4 none (some (.int .i64 (.ofNat 4))) none) fun x14 => 
  bV (slArr 16 1 x4 (some (.int .i64 (.ofNat 4))) (some (.int .i64 (.ofNat 8))) none) fun x17 => 
  bV (slArr 16 1 x4 (some (.int .i64 (.ofNat 8))) none none) fun x20 => 
  bA (bxV 35 (.agg [(.int .i64 (.ofNat 0)), (.int .i64 (.ofNat 0)), (.int .u64 (.ofNat 0))])) H fun x5 H => 
  bR (noPan (f203 D n [x14] H)) fun x15 H => 
  bV (cvI .i64 x15) fun x16 => 
  bR (noPan (f203 D n [x17] H)) fun x18 H => 
  bV (cvI .i64 x18) fun x19 => 
  bR (noPan (f203 D n [x20] H)) fun x21 H => 
  bV (bldSp [(0, 1), (1, 1), (2, 1)] [(.int .i64 (.ofNat 0)), (.int .i64 (.ofNat 0)), (.int .u64 (.ofNat 0))] [(0, x16), (1, x19), (2, x21)]) fun x22 => 
  bR (stNp 3 x5 x22 H) fun x9999_3 H => 
  bV (ldNp 3 x5 H) fun x23 => 
  bR (noPan (f107 D n [x23] H)) fun x24 H => 
  bV (aun .not x24) fun x25 => 
  cnd x25 (bV (bldSp [(0, 1), (1, 1), (2, 1)] [(.int .i64 (.ofNat 0)), (.int .i64 (.ofNat 0)), (.int .u64 (.ofNat 0))] []) fun x26 => 
  bR (stNp 3 x2 x26 H) fun x9999_4 H => 
  bV (ldNp 3 x2 H) fun x9002_2 => bV (some (.int .i64 (.ofNat 4))) fun x3_2 => some (.ret (.tuple [x9002_2, x3_2]), H))
  (bV (ldNp 3 x5 H) fun x27 => 
  bR (stNp 3 x2 x27 H) fun x9999_5 H => 
  bV (ldNp 3 x2 H) fun x9002_3 => bV (some (.int .i64 (.ofNat 0))) fun x3_3 => some (.ret (.tuple [x9002_3, x3_3]), H))))
def h144 : Hint := (.s .o (.s (.s .o (.cl (.s .o .o) .o)) (.s .o (.s .o (.s (.s .o (.cl (.s .o .o) .o)) (.s .o .o))))))
theorem f144_eq (D : Dyn) (n : Nat) : f144 D n = funKp (s144 D n) D n 144 Tryz.f144 h144 := by kernel_rfl
theorem f144_ok {D : Dyn} (hD : DP D) (n : Nat) : FP 144 (f144 D n) := fun_okP X_ok hD (SP.cons (f203_ok hD n) (SP.cons (f107_ok hD n) (SP.nil))) Tryz.func144 (by kernel_rfl) (by kernel_rfl) (f144_eq D n)

def s67 (D : Dyn) (n : Nat) : Tb := ⟨X, []⟩
/-- jetty/arc.New -/
def f67 (D : Dyn) (n : Nat) (vs : List AV) (H : AH) : Option (AV × AH) :=
  outR (hd vs fun x0 vs => nl vs <|
  bV (bInt .lss x0 (.int .i64 (.ofNat 1))) fun x5 => 
  jn (wnt x5 false (bV (bInt .gtr x0 (.int .i64 (.ofNat 1024))) fun x8 => 
  some (.norm [x8], H)) (some (.norm [undefA], H))) fun vs H => hd vs fun x8_2 vs => 
  bV (pk3 (some x5) (some (.bool true)) (some x8_2)) fun x9 => 
  cnd x9 (bV (some .nilPtr) fun x2 => bV (some (.int .i64 (.ofNat 1))) fun x3 => some (.ret (.tuple [x2, x3]), H))
  (bA (mkM [6]) H fun x10 H => 
  bV (bldSp [(0, 12), (12, 1)] [.nilPtr, .nilPtr, (.int .i64 (.ofNat 0)), .nilPtr, .nilPtr, (.int .i64 (.ofNat 0)), .nilPtr, .nilPtr, (.int .i64 (.ofNat 0)), .nilPtr, .nilPtr, (.int .i64 (.ofNat 0)), .nilMap] [(1, x10)]) fun x11 => 
  bV (bldSp [(0, 13), (13, 1), (14, 1)] [.nilPtr, .nilPtr, (.int .i64 (.ofNat 0)), .nilPtr, .nilPtr, (.int .i64 (.ofNat 0)), .nilPtr, .nilPtr, (.int .i64 (.ofNat 0)), .nilPtr, .nilPtr, (.int .i64 (.ofNat 0)), .nilMap, (.int .i64 (.ofNat 0)), (.int .i64 (.ofNat 0))] [(0, x11), (1, x0)]) fun x13 => 
  bA (bxV 208 x13) H fun x14 H => 
  bV (some x14) fun x2_2 => bV (some (.int .i64 (.ofNat 0))) fun x3_2 => some (.ret (.tuple [x2_2, x3_2]), H)))
def h67 : Hint := (.s .o (.s (.s .o (.cl (.s .o .o) .o)) (.s .o .o)))
theorem f67_eq (D : Dyn) (n : Nat) : f67 D n = funKp (s67 D n) D n 67 Tryz.f67 h67 := by kernel_rfl
theorem f67_ok {D : Dyn} (hD : DP D) (n : Nat) : FP 67 (f67 D n) := fun_okP X_ok hD (SP.nil) Tryz.func67 (by kernel_rfl) (by kernel_rfl) (f67_eq D n)

def s145 (D : Dyn) (n : Nat) : Tb := ⟨X, []⟩
/-- (*jetty/disk.Disk).Blocks -/
def f145 (D : Dyn) (n : Nat) (vs : List AV) (H : AH) : Option (AV × AH) :=
  outR (hd vs fun x0 vs => nl vs <|
  bV (cmpO .eql (eqP x0 .nilPtr)) fun x4 => 
  cnd x4 (bV (some (.int .i64 (.ofNat 0))) fun x2 => some (.ret x2, H))
  (bV (pNil x0) fun x6 => 
  bV (fAd 0 x6) fun x7 => 
  bV (ld1p x7 H) fun x8 => 
  bV (some x8) fun x2_2 => some (.ret x2_2, H)))
def h145 : Hint := (.s .o (.s (.s .o (.cl (.s .o .o) .o)) (.s .o .o)))
theorem f145_eq (D : Dyn) (n : Nat) : f145 D n = funKp (s145 D n) D n 145 Tryz.f145 h145 := by kernel_rfl
theorem f145_ok {D : Dyn} (hD : DP D) (n : Nat) : FP 145 (f145 D n) := fun_okP X_ok hD (SP.nil) Tryz.func145 (by kernel_rfl) (by kernel_rfl) (f145_eq D n)
end Go.Eng.Sh
