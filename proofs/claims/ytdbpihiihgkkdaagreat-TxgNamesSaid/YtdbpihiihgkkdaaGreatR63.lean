/- Shallow functions, by program (gen.py). -/
import Derived.Test.YtdbpihiihgkkdaaGreatR62
import Derived.Test.YtdbpihiihgkkdaaGreatProg
import Derived.KernelRfl
noncomputable section
namespace Go.Eng.Sh
open Go.Proofs
set_option maxRecDepth 100000
set_option linter.all false
def s43 (D : Dyn) (n : Nat) : Tb := ⟨X, [(134, f134 D n), (135, f135 D n), (119, f119 D n), (136, f136 D n), (21, f21 D n), (22, f22 D n), (137, f137 D n)]⟩
def f43j0 (D : Dyn) (n : Nat) (vs : List AV) (H : AH) : Rs :=
  hd vs fun x0_2 vs => hd vs fun x8_2 vs => hd vs fun x9 vs => 
  bR (f136 D n [x0_2] H) fun x70 H => 
  bR (f21 D n [x70] H) fun x71 H => 
  bV (pExtract x71 0) fun x72 => 
  bV (pExtract x71 1) fun x73 => 
  bV (pNil x9) fun x74 => 
  bV (fAd 4 x74) fun x75 => 
  bR (stNp 1 x75 x72 H) fun x9999_4 H => 
  bV (bInt .neq x73 (.int .i64 (.ofNat 0))) fun x77 => 
  cnd x77 (bV (some .nilPtr) fun x4_7 => bV (some x73) fun x5_7 => some (.ret (.tuple [x4_7, x5_7]), H))
  (bV (pNil x9) fun x83 => 
  bV (fAd 1 x83) fun x84 => 
  bV (ld1p x84 H) fun x85 => 
  bV (ldNp 3 x8_2 H) fun x86 => 
  bR (f22 D n [x0_2, x85, x86] H) fun x87 H => 
  bV (pExtract x87 0) fun x88 => 
  bV (pExtract x87 1) fun x89 => 
  bV (pNil x9) fun x90 => 
  bV (fAd 2 x90) fun x91 => 
  bR (stNp 1 x91 x88 H) fun x9999_5 H => 
  bV (bInt .neq x89 (.int .i64 (.ofNat 0))) fun x93 => 
  cnd x93 (bV (some .nilPtr) fun x4_8 => bV (some x89) fun x5_8 => some (.ret (.tuple [x4_8, x5_8]), H))
  (bR (f137 D n [x9] H) fun x96 H => 
  bV (bInt .neq x96 (.int .i64 (.ofNat 0))) fun x98 => 
  cnd x98 (bV (some .nilPtr) fun x4_9 => bV (some x96) fun x5_9 => some (.ret (.tuple [x4_9, x5_9]), H))
  (bV (some x9) fun x4_10 => bV (some (.int .i64 (.ofNat 0))) fun x5_10 => some (.ret (.tuple [x4_10, x5_10]), H))))
/-- jetty/txg.Open -/
def f43 (D : Dyn) (n : Nat) (vs : List AV) (H : AH) : Option (AV × AH) :=
  outR (hd vs fun x0 vs => hd vs fun x1 vs => nl vs <|
  bV (cmpO .eql (eqP x0 .nilPtr)) fun x11 => 
  cnd x11 (bV (some .nilPtr) fun x4 => bV (some (.int .i64 (.ofNat 2))) fun x5 => some (.ret (.tuple [x4, x5]), H))
  (bV (bInt .lss x1 (.int .i64 (.ofNat 0))) fun x13 => 
  jn (wnt x13 false (bV (bInt .gtr x1 (.int .i64 (.ofNat 1024))) fun x16 => 
  some (.norm [x16], H)) (some (.norm [undefA], H))) fun vs H => hd vs fun x16_2 vs => 
  bV (pk3 (some x13) (some (.bool true)) (some x16_2)) fun x17 => 
  cnd x17 (bV (some .nilPtr) fun x4_2 => bV (some (.int .i64 (.ofNat 1))) fun x5_2 => some (.ret (.tuple [x4_2, x5_2]), H))
  (bR (f134 D n [x0] H) fun x20 H => 
  bV (pExtract x20 0) fun x21 => 
  bV (pExtract x20 1) fun x22 => 
  bA (bxV 103 (.agg [(.int .i64 (.ofNat 0)), (.str 0 0)])) H fun x6 H => 
  bR (stNp 2 x6 x21 H) fun x9999 H => 
  bV (bInt .neq x22 (.int .i64 (.ofNat 0))) fun x24 => 
  cnd x24 (bV (some .nilPtr) fun x4_3 => bV (some x22) fun x5_3 => some (.ret (.tuple [x4_3, x5_3]), H))
  (bV (fAd 1 x6) fun x26 => 
  bV (ld1p x26 H) fun x27 => 
  bV (lnStr x27) fun x28 => 
  bV (bInt .lss x28 (.int .i64 (.ofNat 16))) fun x29 => 
  cnd x29 (bV (some .nilPtr) fun x4_4 => bV (some (.int .i64 (.ofNat 4))) fun x5_4 => some (.ret (.tuple [x4_4, x5_4]), H))
  (bV (fAd 1 x6) fun x31 => 
  bV (ld1p x31 H) fun x32 => 
  bV (slStr x32 none (some (.int .i64 (.ofNat 16)))) fun x33 => 
  bR (f135 D n [x33] H) fun x34 H => 
  bV (pExtract x34 0) fun x35 => 
  bV (pExtract x34 1) fun x36 => 
  bA (bxV 52 (.agg [(.int .i64 (.ofNat 0)), (.int .i64 (.ofNat 0)), (.int .u64 (.ofNat 0))])) H fun x8 H => 
  bR (stNp 3 x8 x35 H) fun x9999_2 H => 
  bV (bInt .neq x36 (.int .i64 (.ofNat 0))) fun x38 => 
  jn (wnt x38 false (bV (fAd 0 x8) fun x40 => 
  bV (ld1p x40 H) fun x41 => 
  bV (bInt .eql x41 (.int .i64 (.ofNat 1))) fun x42 => 
  some (.norm [x42], H)) (some (.norm [undefA], H))) fun vs H => hd vs fun x42_2 vs => 
  bV (pk3 (some x38) (some (.bool true)) (some x42_2)) fun x43 => 
  cnd x43 (bV (some .nilPtr) fun x4_5 => bV (some (.int .i64 (.ofNat 4))) fun x5_5 => some (.ret (.tuple [x4_5, x5_5]), H))
  (bV (fAd 1 x6) fun x45 => 
  bV (ld1p x45 H) fun x46 => 
  bV (slStr x46 (some (.int .i64 (.ofNat 16))) none) fun x47 => 
  bV (fAd 0 x6) fun x48 => 
  bV (ld1p x48 H) fun x49 => 
  bV (ldNp 3 x8 H) fun x50 => 
  bA (mkM [6]) H fun x51 H => 
  bV (bldSp [(0, 1), (1, 1), (2, 1), (3, 1), (4, 1), (5, 1), (6, 3), (9, 1)] [.nilPtr, .nilPtr, .nilPtr, (.str 0 0), .nilPtr, (.int .i64 (.ofNat 0)), (.int .i64 (.ofNat 0)), (.int .i64 (.ofNat 0)), (.int .u64 (.ofNat 0)), .nilMap] [(0, x0), (3, x47), (5, x49), (6, x50), (7, x51)]) fun x52 => 
  bA (bxV 207 x52) H fun x53 H => 
  bV (bInt .gtr x1 (.int .i64 (.ofNat 0))) fun x55 => 
  jn (cnd x55 (bR (f119 D n [x1] H) fun x59 H => 
  bV (pExtract x59 0) fun x60 => 
  bV (pExtract x59 1) fun x61 => 
  bV (pNil x53) fun x62 => 
  bV (fAd 1 x62) fun x63 => 
  bR (stNp 1 x63 x60 H) fun x9999_3 H => 
  bV (bInt .neq x61 (.int .i64 (.ofNat 0))) fun x65 => 
  cnd x65 (bV (some .nilPtr) fun x4_6 => bV (some x61) fun x5_6 => some (.ret (.tuple [x4_6, x5_6]), H))
  (some (.norm [x0, x8, x53], H)))
  (some (.norm [x0, x8, x53], H))) (f43j0 D n)))))))
def h43 : Hint := (.s .o (.s (.s .o (.cl (.s .o .o) .o)) (.s (.s .o (.cl (.s .o .o) .o)) (.s .o (.s (.s .o (.cl (.s .o .o) .o)) (.s (.s .o (.cl (.s .o .o) .o)) (.s .o (.s (.s .o (.cl (.s .o .o) .o)) (.s .o (.s (.s .o (.c [0, 8, 9] (.s .o (.s .o (.cl (.s .o .o) .o))) .o)) (.s (.s .o (.s .o (.cl (.s .o .o) .o))) (.s (.s .o (.s .o (.cl (.s .o .o) .o))) (.s (.s .o (.s .o (.cl (.s .o .o) .o))) (.s .o .o))))))))))))))
theorem f43_eq (D : Dyn) (n : Nat) : f43 D n = funKp (s43 D n) D n 43 Tryz.f43 h43 := by kernel_rfl
theorem f43_ok {D : Dyn} (hD : DP D) (n : Nat) : FP 43 (f43 D n) := fun_okP X_ok hD (SP.cons (f134_ok hD n) (SP.cons (f135_ok hD n) (SP.cons (f119_ok hD n) (SP.cons (f136_ok hD n) (SP.cons (f21_ok hD n) (SP.cons (f22_ok hD n) (SP.cons (f137_ok hD n) (SP.nil)))))))) Tryz.func43 (by kernel_rfl) (by kernel_rfl) (f43_eq D n)

def s243 (D : Dyn) (n : Nat) : Tb := ⟨X, []⟩
/-- jetty/xdr.wordOf -/
def f243 (D : Dyn) (n : Nat) (vs : List AV) (H : AH) : Option (AV × AH) :=
  outR (hd vs fun x0 vs => nl vs <|
  bA (bxV 329 (.agg [.pk 4 0])) H fun x2 H => 
  bV (bInt .shr x0 (.int .u64 (.ofNat 24))) fun x4 => 
  bV (cvI .u8 x4) fun x5 => 
  bV (bInt .shr x0 (.int .u64 (.ofNat 16))) fun x7 => 
  bV (cvI .u8 x7) fun x8 => 
  bV (bInt .shr x0 (.int .u64 (.ofNat 8))) fun x10 => 
  bV (cvI .u8 x10) fun x11 => 
  bV (cvI .u8 x0) fun x13 => 
  bV (bldAp 1 [.pk 4 0] [(0, x5), (1, x8), (2, x11), (3, x13)]) fun x14 => 
  bR (stNp 4 x2 x14 H) fun x9999 H => 
  bV (ldNp 4 x2 H) fun x9002 => some (.ret x9002, H))
def h243 : Hint := (.s .o (.s .o .o))
theorem f243_eq (D : Dyn) (n : Nat) : f243 D n = funKp (s243 D n) D n 243 Tryz.f243 h243 := by kernel_rfl
theorem f243_ok {D : Dyn} (hD : DP D) (n : Nat) : FP 243 (f243 D n) := fun_okP X_ok hD (SP.nil) Tryz.func243 (by kernel_rfl) (by kernel_rfl) (f243_eq D n)

def s244 (D : Dyn) (n : Nat) : Tb := ⟨X, []⟩
/-- jetty/xdr.behind -/
def f244 (D : Dyn) (n : Nat) (vs : List AV) (H : AH) : Option (AV × AH) :=
  outR (hd vs fun x0 vs => hd vs fun x1 vs => nl vs <|
  bV (lnSl x0) fun x6 => 
  bV (bInt .add x6 x1) fun x8 => 
  bA (mkSlp 5 1 1 [(.int .u8 (.ofNat 0))] (.int .i64 (.ofNat 0)) x8) H fun x9 H => 
  bR (apPp 5 1 1 x9 x0 H) fun x11 H => 
  bV (some x11) fun x4 => some (.ret x4, H))
def h244 : Hint := (.s .o (.s .o .o))
theorem f244_eq (D : Dyn) (n : Nat) : f244 D n = funKp (s244 D n) D n 244 Tryz.f244 h244 := by kernel_rfl
theorem f244_ok {D : Dyn} (hD : DP D) (n : Nat) : FP 244 (f244 D n) := fun_okP X_ok hD (SP.nil) Tryz.func244 (by kernel_rfl) (by kernel_rfl) (f244_eq D n)

def s223 (D : Dyn) (n : Nat) : Tb := ⟨X, [(243, f243 D n), (244, f244 D n)]⟩
/-- jetty/xdr.Long -/
def f223 (D : Dyn) (n : Nat) (vs : List AV) (H : AH) : Option (AV × AH) :=
  outR (hd vs fun x0 vs => hd vs fun x1 vs => nl vs <|
  bV (bInt .shr x1 (.int .u64 (.ofNat 32))) fun x9 => 
  bV (cvI .u32 x9) fun x10 => 
  bR (f243 D n [x10] H) fun x11 H => 
  bV (cvI .u32 x1) fun x13 => 
  bR (f243 D n [x13] H) fun x14 H => 
  bA (bxV 329 (.agg [.pk 4 0])) H fun x5 H => 
  bA (bxV 329 (.agg [.pk 4 0])) H fun x6 H => 
  bR (stNp 4 x5 x11 H) fun x9999 H => 
  bR (stNp 4 x6 x14 H) fun x9999_2 H => 
  bV (slArr 4 1 x5 none none none) fun x17 => 
  bR (f244 D n [x0, (.int .i64 (.ofNat 8))] H) fun x16 H => 
  bR (apPp 5 1 1 x16 x17 H) fun x18 H => 
  bV (slArr 4 1 x6 none none none) fun x20 => 
  bR (apPp 5 1 1 x18 x20 H) fun x21 H => 
  bV (some x21) fun x4 => some (.ret x4, H))
def h223 : Hint := (.s .o (.s .o (.s .o (.s .o .o))))
theorem f223_eq (D : Dyn) (n : Nat) : f223 D n = funKp (s223 D n) D n 223 Tryz.f223 h223 := by kernel_rfl
theorem f223_ok {D : Dyn} (hD : DP D) (n : Nat) : FP 223 (f223 D n) := fun_okP X_ok hD (SP.cons (f243_ok hD n) (SP.cons (f244_ok hD n) (SP.nil))) Tryz.func223 (by kernel_rfl) (by kernel_rfl) (f223_eq D n)

def s148 (D : Dyn) (n : Nat) : Tb := ⟨X, [(224, f224 D n), (223, f223 D n), (120, f120 D n)]⟩
/-- jetty/ring.Seal -/
def f148 (D : Dyn) (n : Nat) (vs : List AV) (H : AH) : Option (AV × AH) :=
  outR (hd vs fun x0 vs => nl vs <|
  bA (bxV 103 x0) H fun x1 H => 
  bA (bxV 164 (.agg [.pk 512 0])) H fun x2 H => 
  bV (fAd 0 x1) fun x5 => 
  bV (ld1p x5 H) fun x6 => 
  bV (bInt .lss x6 (.int .i64 (.ofNat 1))) fun x7 => 
  jn (wnt x7 false (bV (fAd 0 x1) fun x9 => 
  bV (ld1p x9 H) fun x10 => 
  bV (bInt .gtr x10 (.int .i64 (.ofNat 2147483647))) fun x11 => 
  some (.norm [x11], H)) (some (.norm [undefA], H))) fun vs H => hd vs fun x11_2 vs => 
  bV (pk3 (some x7) (some (.bool true)) (some x11_2)) fun x12 => 
  cnd x12 (bV (bldAp 1 [.pk 512 0] []) fun x13 => 
  bR (stNp 512 x2 x13 H) fun x9999 H => 
  bV (ldNp 512 x2 H) fun x9002 => bV (some (.int .i64 (.ofNat 1))) fun x3 => some (.ret (.tuple [x9002, x3]), H))
  (bV (fAd 1 x1) fun x14 => 
  bV (ld1p x14 H) fun x15 => 
  bV (lnStr x15) fun x16 => 
  bV (bInt .gtr x16 (.int .i64 (.ofNat 492))) fun x17 => 
  cnd x17 (bV (bldAp 1 [.pk 512 0] []) fun x18 => 
  bR (stNp 512 x2 x18 H) fun x9999_2 H => 
  bV (ldNp 512 x2 H) fun x9002_2 => bV (some (.int .i64 (.ofNat 40))) fun x3_2 => some (.ret (.tuple [x9002_2, x3_2]), H))
  (bV (fAd 1 x1) fun x19 => 
  bV (ld1p x19 H) fun x20 => 
  bR (f224 D n [x20] H) fun x21 H => 
  bR (f223 D n [.nilSlice, x21] H) fun x22 H => 
  bV (fAd 0 x1) fun x23 => 
  bV (ld1p x23 H) fun x24 => 
  bV (cvBSp x22 H) fun x26 => 
  bV (fAd 1 x1) fun x27 => 
  bV (ld1p x27 H) fun x28 => 
  bV (bStr .add x26 x28) fun x29 => 
  bR (f120 D n [(.int .u8 (.ofNat 3)), x24, x29] H) fun x30 H => 
  bV (pExtract x30 0) fun x31 => 
  bV (pExtract x30 1) fun x32 => 
  bR (stNp 512 x2 x31 H) fun x9999_3 H => 
  bV (ldNp 512 x2 H) fun x9002_3 => bV (some x32) fun x3_3 => some (.ret (.tuple [x9002_3, x3_3]), H))))
def h148 : Hint := (.s .o (.s (.s .o (.cl (.s .o .o) .o)) (.s (.s .o (.cl (.s .o .o) .o)) (.s .o (.s .o .o)))))
theorem f148_eq (D : Dyn) (n : Nat) : f148 D n = funKp (s148 D n) D n 148 Tryz.f148 h148 := by kernel_rfl
theorem f148_ok {D : Dyn} (hD : DP D) (n : Nat) : FP 148 (f148 D n) := fun_okP X_ok hD (SP.cons (f224_ok hD n) (SP.cons (f223_ok hD n) (SP.cons (f120_ok hD n) (SP.nil)))) Tryz.func148 (by kernel_rfl) (by kernel_rfl) (f148_eq D n)

def s221 (D : Dyn) (n : Nat) : Tb := ⟨X, []⟩
/-- (*jetty/disk.Disk).forget -/
def f221 (D : Dyn) (n : Nat) (vs : List AV) (H : AH) : Option (AV × AH) :=
  outR (hd vs fun x0 vs => nl vs <|
  bV (pNil x0) fun x3 => 
  bV (fAd 2 x3) fun x4 => 
  bR (stNp 1 x4 .nilSlice H) fun x9999 H => 
  bV (pNil x0) fun x6 => 
  bV (fAd 3 x6) fun x7 => 
  bV (ld1p x7 H) fun x8 => 
  bR (clM x8 H) fun x9999_2 H => 
  some (.ret (.tuple []), H))
def h221 : Hint := (.s .o .o)
theorem f221_eq (D : Dyn) (n : Nat) : f221 D n = funKp (s221 D n) D n 221 Tryz.f221 h221 := by kernel_rfl
theorem f221_ok {D : Dyn} (hD : DP D) (n : Nat) : FP 221 (f221 D n) := fun_okP X_ok hD (SP.nil) Tryz.func221 (by kernel_rfl) (by kernel_rfl) (f221_eq D n)

def s153 (D : Dyn) (n : Nat) : Tb := ⟨X, [(221, f221 D n)]⟩
def f153j0 (D : Dyn) (n : Nat) (vs : List AV) (H : AH) : Rs :=
  hd vs fun x0_3 vs => hd vs fun x1_3 vs => hd vs fun x9_3 vs => hd vs fun x10_3 vs => hd vs fun x11_2 vs => 
  bV (bInt .add x11_2 (.int .i64 (.ofNat 1))) fun x34 => 
  some (.norm [x0_3, x1_3, x9_3, x10_3, x34], H)
def f153l1 (D : Dyn) (n : Nat) (vs : List AV) (H : AH) : Rs :=
  hd vs fun x0_2 vs => hd vs fun x1_2 vs => hd vs fun x9_2 vs => hd vs fun x10_2 vs => hd vs fun x11 vs => 
  bV (bInt .lss x11 x10_2) fun x12 => 
  cnd x12 (bV (ixSl 513 x9_2 x11) fun x14 => 
  bV (ldNp 513 x14 H) fun x15 => 
  bA (bxV 284 (.agg [(.int .i64 (.ofNat 0)), .pk 512 0])) H fun x5 H => 
  bR (stNp 513 x5 x15 H) fun x9999 H => 
  bV (lnSl x1_2) fun x18 => 
  bV (bInt .lss x11 x18) fun x19 => 
  jn (wnt x19 true (bV (ixSl 1 x1_2 x11) fun x23 => 
  bV (ld1p x23 H) fun x24 => 
  some (.norm [x24], H)) (some (.norm [undefA], H))) fun vs H => hd vs fun x24_2 vs => 
  bV (pk3 (some x19) (some x24_2) (some (.bool false))) fun x25 => 
  jn (cnd x25 (bV (pNil x0_2) fun x27 => 
  bV (fAd 1 x27) fun x28 => 
  bV (ld1p x28 H) fun x29 => 
  bV (fAd 0 x5) fun x30 => 
  bV (ld1p x30 H) fun x31 => 
  bV (fAd 1 x5) fun x32 => 
  bV (ldNp 512 x32 H) fun x33 => 
  bR (upM [6] x29 x31 x33 H) fun x9999_2 H => 
  some (.norm [x0_2, x1_2, x9_2, x10_2, x11], H))
  (some (.norm [x0_2, x1_2, x9_2, x10_2, x11], H))) (f153j0 D n))
  (some (.exit 0 [x0_2], H))
def f153b2 (D : Dyn) (n : Nat) (vs : List AV) (H : AH) : Rs :=
  hd vs fun x0_4 vs => 
  bR (f221 D n [x0_4] H) fun x36 H => 
  bV (pNil x0_4) fun x39 => 
  bV (fAd 4 x39) fun x40 => 
  bR (stNp 1 x40 (.int .i64 (.ofNat 0)) H) fun x9999_3 H => 
  bV (pNil x0_4) fun x41 => 
  bV (fAd 5 x41) fun x42 => 
  bR (stNp 1 x42 .nilSlice H) fun x9999_4 H => 
  bV (pNil x0_4) fun x44 => 
  bV (fAd 6 x44) fun x45 => 
  bR (stNp 1 x45 (.bool true) H) fun x9999_5 H => 
  some (.ret (.tuple []), H)
/-- (*jetty/disk.Disk).fail -/
def f153 (D : Dyn) (n : Nat) (vs : List AV) (H : AH) : Option (AV × AH) :=
  outR (hd vs fun x0 vs => hd vs fun x1 vs => nl vs <|
  bV (pNil x0) fun x7 => 
  bV (fAd 2 x7) fun x8 => 
  bV (ld1p x8 H) fun x9 => 
  bV (lnSl x9) fun x10 => 
  jb 0 (loopK n (f153l1 D n) [x0, x1, x9, x10, (.int .i64 (.ofNat 0))] H) (f153b2 D n))
def h153 : Hint := (.s (.s .o (.b [0] (.l [0, 1, 9, 10, 11] (.s .o (.s (.cr .o .o) (.s (.b0 (.s .o (.s .o (.c [0, 1, 9, 10, 11] .o .o)))) .o)))))) (.s .o (.s .o .o)))
theorem f153_eq (D : Dyn) (n : Nat) : f153 D n = funKp (s153 D n) D n 153 Tryz.f153 h153 := by kernel_rfl
theorem f153_ok {D : Dyn} (hD : DP D) (n : Nat) : FP 153 (f153 D n) := fun_okP X_ok hD (SP.cons (f221_ok hD n) (SP.nil)) Tryz.func153 (by kernel_rfl) (by kernel_rfl) (f153_eq D n)

def s209 (D : Dyn) (n : Nat) : Tb := ⟨X, [(153, f153 D n)]⟩
/-- (*jetty/disk.Disk).count -/
def f209 (D : Dyn) (n : Nat) (vs : List AV) (H : AH) : Option (AV × AH) :=
  outR (hd vs fun x0 vs => nl vs <|
  bV (pNil x0) fun x4 => 
  bV (fAd 4 x4) fun x5 => 
  bV (ld1p x5 H) fun x6 => 
  bV (bInt .eql x6 (.int .i64 (.ofNat 0))) fun x7 => 
  cnd x7 (bV (some (.int .i64 (.ofNat 0))) fun x2 => some (.ret x2, H))
  (bV (pNil x0) fun x9 => 
  bV (fAd 4 x9) fun x10 => 
  bV (ld1p x10 H) fun x11 => 
  bV (bInt .sub x11 (.int .i64 (.ofNat 1))) fun x12 => 
  bV (pNil x0) fun x13 => 
  bV (fAd 4 x13) fun x14 => 
  bR (stNp 1 x14 x12 H) fun x9999 H => 
  bV (pNil x0) fun x16 => 
  bV (fAd 4 x16) fun x17 => 
  bV (ld1p x17 H) fun x18 => 
  bV (bInt .gtr x18 (.int .i64 (.ofNat 0))) fun x19 => 
  cnd x19 (bV (some (.int .i64 (.ofNat 0))) fun x2_2 => some (.ret x2_2, H))
  (bV (pNil x0) fun x22 => 
  bV (fAd 5 x22) fun x23 => 
  bV (ld1p x23 H) fun x24 => 
  bR (f153 D n [x0, x24] H) fun x25 H => 
  bV (some (.int .i64 (.ofNat 51))) fun x2_3 => some (.ret x2_3, H))))
def h209 : Hint := (.s .o (.s (.s .o (.cl (.s .o .o) .o)) (.s .o (.s (.s .o (.cl (.s .o .o) .o)) (.s .o (.s .o .o))))))
theorem f209_eq (D : Dyn) (n : Nat) : f209 D n = funKp (s209 D n) D n 209 Tryz.f209 h209 := by kernel_rfl
theorem f209_ok {D : Dyn} (hD : DP D) (n : Nat) : FP 209 (f209 D n) := fun_okP X_ok hD (SP.cons (f153_ok hD n) (SP.nil)) Tryz.func209 (by kernel_rfl) (by kernel_rfl) (f209_eq D n)

def s118 (D : Dyn) (n : Nat) : Tb := ⟨X, [(208, f208 D n), (209, f209 D n)]⟩
/-- (*jetty/disk.Disk).Write -/
def f118 (D : Dyn) (n : Nat) (vs : List AV) (H : AH) : Option (AV × AH) :=
  outR (hd vs fun x0 vs => hd vs fun x1 vs => hd vs fun x2 vs => nl vs <|
  bA (bxV 164 x2) H fun x5 H => 
  bR (f208 D n [x0, x1] H) fun x10 H => 
  bV (bInt .neq x10 (.int .i64 (.ofNat 0))) fun x12 => 
  cnd x12 (bV (some x10) fun x6 => some (.ret x6, H))
  (bV (pNil x0) fun x15 => 
  bV (fAd 3 x15) fun x16 => 
  bV (ld1p x16 H) fun x17 => 
  bV (pNil x0) fun x20 => 
  bV (fAd 2 x20) fun x21 => 
  bV (ld1p x21 H) fun x22 => 
  bV (lnSl x22) fun x23 => 
  bR (upM [6] x17 x1 x23 H) fun x9999 H => 
  bV (pNil x0) fun x26 => 
  bV (fAd 2 x26) fun x27 => 
  bV (ld1p x27 H) fun x28 => 
  bV (ldNp 512 x5 H) fun x30 => 
  bV (bldSp [(0, 1), (1, 512)] [(.int .i64 (.ofNat 0)), .pk 512 0] [(0, x1), (1, x30)]) fun x31 => 
  bA (bldLp 284 513 1 [(.int .i64 (.ofNat 0)), .pk 512 0] [(0, x31)]) H fun x32 H => 
  bR (apPp 284 513 520 x28 x32 H) fun x33 H => 
  bV (pNil x0) fun x34 => 
  bV (fAd 2 x34) fun x35 => 
  bR (stNp 1 x35 x33 H) fun x9999_2 H => 
  bR (f209 D n [x0] H) fun x37 H => 
  bV (some x37) fun x6_2 => some (.ret x6_2, H)))
def h118 : Hint := (.s .o (.s (.s .o (.s .o (.cl (.s .o .o) .o))) (.s .o (.s .o (.s .o .o)))))
theorem f118_eq (D : Dyn) (n : Nat) : f118 D n = funKp (s118 D n) D n 118 Tryz.f118 h118 := by kernel_rfl
theorem f118_ok {D : Dyn} (hD : DP D) (n : Nat) : FP 118 (f118 D n) := fun_okP X_ok hD (SP.cons (f208_ok hD n) (SP.cons (f209_ok hD n) (SP.nil))) Tryz.func118 (by kernel_rfl) (by kernel_rfl) (f118_eq D n)

def s60 (D : Dyn) (n : Nat) : Tb := ⟨X, [(148, f148 D n), (149, f149 D n), (118, f118 D n)]⟩
/-- jetty/ring.Put -/
def f60 (D : Dyn) (n : Nat) (vs : List AV) (H : AH) : Option (AV × AH) :=
  outR (hd vs fun x0 vs => hd vs fun x1 vs => nl vs <|
  bA (bxV 103 x1) H fun x3 H => 
  bV (cmpO .eql (eqP x0 .nilPtr)) fun x8 => 
  cnd x8 (bV (some (.int .i64 (.ofNat 2))) fun x4 => some (.ret x4, H))
  (bV (ldNp 2 x3 H) fun x10 => 
  bR (f148 D n [x10] H) fun x11 H => 
  bV (pExtract x11 0) fun x12 => 
  bV (pExtract x11 1) fun x13 => 
  bA (bxV 164 (.agg [.pk 512 0])) H fun x5 H => 
  bR (stNp 512 x5 x12 H) fun x9999 H => 
  bV (bInt .neq x13 (.int .i64 (.ofNat 0))) fun x15 => 
  cnd x15 (bV (some x13) fun x4_2 => some (.ret x4_2, H))
  (bV (fAd 0 x3) fun x18 => 
  bV (ld1p x18 H) fun x19 => 
  bV (ldNp 512 x5 H) fun x21 => 
  bR (f149 D n [x19] H) fun x20 H => chk (ldNp 512 x5 H) x21 <| 
  bR (f118 D n [x0, x20, x21] H) fun x22 H => 
  bV (some x22) fun x4_3 => some (.ret x4_3, H))))
def h60 : Hint := (.s .o (.s (.s .o (.cl (.s .o .o) .o)) (.s .o (.s (.s .o (.cl (.s .o .o) .o)) (.s .o .o)))))
theorem f60_eq (D : Dyn) (n : Nat) : f60 D n = funKp (s60 D n) D n 60 Tryz.f60 h60 := by kernel_rfl
theorem f60_ok {D : Dyn} (hD : DP D) (n : Nat) : FP 60 (f60 D n) := fun_okP X_ok hD (SP.cons (f148_ok hD n) (SP.cons (f149_ok hD n) (SP.cons (f118_ok hD n) (SP.nil)))) Tryz.func60 (by kernel_rfl) (by kernel_rfl) (f60_eq D n)

def s138 (D : Dyn) (n : Nat) : Tb := ⟨X, [(61, f61 D n), (60, f60 D n)]⟩
/-- jetty/txg.put -/
def f138 (D : Dyn) (n : Nat) (vs : List AV) (H : AH) : Option (AV × AH) :=
  outR (hd vs fun x0 vs => hd vs fun x1 vs => hd vs fun x2 vs => hd vs fun x3 vs => nl vs <|
  bA (bxV 52 x2) H fun x6 H => 
  bV (ldNp 3 x6 H) fun x12 => 
  bR (f61 D n [x12] H) fun x13 H => 
  bV (pExtract x13 0) fun x14 => 
  bV (pExtract x13 1) fun x15 => 
  bV (bInt .neq x15 (.int .i64 (.ofNat 0))) fun x17 => 
  cnd x17 (bV (some x15) fun x8 => some (.ret x8, H))
  (bV (bStr .add x14 x3) fun x23 => 
  bV (bldSp [(0, 1), (1, 1)] [(.int .i64 (.ofNat 0)), (.str 0 0)] [(0, x1), (1, x23)]) fun x24 => 
  bR (f60 D n [x0, x24] H) fun x25 H => 
  bV (some x25) fun x8_2 => some (.ret x8_2, H)))
def h138 : Hint := (.s .o (.s .o (.s (.s .o (.cl (.s .o .o) .o)) (.s .o .o))))
theorem f138_eq (D : Dyn) (n : Nat) : f138 D n = funKp (s138 D n) D n 138 Tryz.f138 h138 := by kernel_rfl
theorem f138_ok {D : Dyn} (hD : DP D) (n : Nat) : FP 138 (f138 D n) := fun_okP X_ok hD (SP.cons (f61_ok hD n) (SP.cons (f60_ok hD n) (SP.nil))) Tryz.func138 (by kernel_rfl) (by kernel_rfl) (f138_eq D n)

def s139 (D : Dyn) (n : Nat) : Tb := ⟨X, [(152, f152 D n), (209, f209 D n), (221, f221 D n)]⟩
def f139l0 (D : Dyn) (n : Nat) (vs : List AV) (H : AH) : Rs :=
  hd vs fun x0_2 vs => hd vs fun x20_2 vs => hd vs fun x21_2 vs => hd vs fun x22 vs => 
  bV (bInt .lss x22 x21_2) fun x23 => 
  cnd x23 (bV (ixSl 513 x20_2 x22) fun x24 => 
  bV (ldNp 513 x24 H) fun x25 => 
  bA (bxV 284 (.agg [(.int .i64 (.ofNat 0)), .pk 512 0])) H fun x6 H => 
  bR (stNp 513 x6 x25 H) fun x9999 H => 
  bV (pNil x0_2) fun x27 => 
  bV (fAd 1 x27) fun x28 => 
  bV (ld1p x28 H) fun x29 => 
  bV (fAd 0 x6) fun x30 => 
  bV (ld1p x30 H) fun x31 => 
  bV (fAd 1 x6) fun x32 => 
  bV (ldNp 512 x32 H) fun x33 => 
  bR (upM [6] x29 x31 x33 H) fun x9999_2 H => 
  bV (bInt .add x22 (.int .i64 (.ofNat 1))) fun x34 => 
  some (.norm [x0_2, x20_2, x21_2, x34], H))
  (some (.exit 0 [x0_2], H))
def f139b1 (D : Dyn) (n : Nat) (vs : List AV) (H : AH) : Rs :=
  hd vs fun x0_3 vs => 
  bR (f221 D n [x0_3] H) fun x36 H => 
  bV (some (.int .i64 (.ofNat 0))) fun x2_3 => some (.ret x2_3, H)
/-- (*jetty/disk.Disk).Flush -/
def f139 (D : Dyn) (n : Nat) (vs : List AV) (H : AH) : Option (AV × AH) :=
  outR (hd vs fun x0 vs => nl vs <|
  bR (f152 D n [x0] H) fun x8 H => 
  bV (bInt .neq x8 (.int .i64 (.ofNat 0))) fun x10 => 
  cnd x10 (bV (some x8) fun x2 => some (.ret x2, H))
  (bR (f209 D n [x0] H) fun x13 H => 
  bV (bInt .neq x13 (.int .i64 (.ofNat 0))) fun x15 => 
  cnd x15 (bV (some x13) fun x2_2 => some (.ret x2_2, H))
  (bV (pNil x0) fun x18 => 
  bV (fAd 2 x18) fun x19 => 
  bV (ld1p x19 H) fun x20 => 
  bV (lnSl x20) fun x21 => 
  jb 0 (loopK n (f139l0 D n) [x0, x20, x21, (.int .i64 (.ofNat 0))] H) (f139b1 D n))))
def h139 : Hint := (.s .o (.s (.s .o (.s .o (.cl (.s .o .o) .o))) (.s (.s .o (.s .o (.cl (.s .o .o) .o))) (.s (.s .o (.b [0] (.l [0, 20, 21, 22] (.s .o (.s (.cr .o .o) (.s (.b0 (.s .o .o)) .o)))))) (.s .o (.s .o .o))))))
theorem f139_eq (D : Dyn) (n : Nat) : f139 D n = funKp (s139 D n) D n 139 Tryz.f139 h139 := by kernel_rfl
theorem f139_ok {D : Dyn} (hD : DP D) (n : Nat) : FP 139 (f139 D n) := fun_okP X_ok hD (SP.cons (f152_ok hD n) (SP.cons (f209_ok hD n) (SP.cons (f221_ok hD n) (SP.nil)))) Tryz.func139 (by kernel_rfl) (by kernel_rfl) (f139_eq D n)

def s44 (D : Dyn) (n : Nat) : Tb := ⟨X, [(138, f138 D n), (139, f139 D n)]⟩
/-- jetty/txg.Format -/
def f44 (D : Dyn) (n : Nat) (vs : List AV) (H : AH) : Option (AV × AH) :=
  outR (hd vs fun x0 vs => nl vs <|
  bV (cmpO .eql (eqP x0 .nilPtr)) fun x5 => 
  cnd x5 (bV (some (.int .i64 (.ofNat 2))) fun x2 => some (.ret x2, H))
  (bV (bldSp [(0, 1), (1, 1), (2, 1)] [(.int .i64 (.ofNat 0)), (.int .i64 (.ofNat 0)), (.int .u64 (.ofNat 0))] []) fun x7 => 
  bR (f138 D n [x0, (.int .i64 (.ofNat 1)), x7, (.str 0 0)] H) fun x8 H => 
  bV (bInt .neq x8 (.int .i64 (.ofNat 0))) fun x10 => 
  cnd x10 (bV (some x8) fun x2_2 => some (.ret x2_2, H))
  (bR (f139 D n [x0] H) fun x13 H => 
  bV (some x13) fun x2_3 => some (.ret x2_3, H))))
def h44 : Hint := (.s .o (.s (.s .o (.cl (.s .o .o) .o)) (.s (.s .o (.s .o (.cl (.s .o .o) .o))) (.s .o .o))))
theorem f44_eq (D : Dyn) (n : Nat) : f44 D n = funKp (s44 D n) D n 44 Tryz.f44 h44 := by kernel_rfl
theorem f44_ok {D : Dyn} (hD : DP D) (n : Nat) : FP 44 (f44 D n) := fun_okP X_ok hD (SP.cons (f138_ok hD n) (SP.cons (f139_ok hD n) (SP.nil))) Tryz.func44 (by kernel_rfl) (by kernel_rfl) (f44_eq D n)

def s41 (D : Dyn) (n : Nat) : Tb := ⟨X, [(20, f20 D n), (44, f44 D n)]⟩
/-- jetty/jettylaw15.formatted -/
def f41 (D : Dyn) (n : Nat) (vs : List AV) (H : AH) : Option (AV × AH) :=
  outR (hd vs fun x0 vs => nl vs <|
  bR (f20 D n [x0] H) fun x7 H => 
  bV (pExtract x7 0) fun x8 => 
  bV (pExtract x7 1) fun x9 => 
  bV (bInt .neq x9 (.int .i64 (.ofNat 0))) fun x11 => 
  jn (wnt x11 false (bR (f44 D n [x8] H) fun x14 H => 
  bV (bInt .neq x14 (.int .i64 (.ofNat 0))) fun x15 => 
  some (.norm [x15], H)) (some (.norm [undefA], H))) fun vs H => hd vs fun x15_2 vs => 
  bV (pk3 (some x11) (some (.bool true)) (some x15_2)) fun x16 => 
  cnd x16 (bV (some .nilPtr) fun x2 => some (.ret x2, H))
  (bV (some x8) fun x2_2 => some (.ret x2_2, H)))
def h41 : Hint := (.s .o (.s .o (.s (.s .o (.cl (.s .o .o) .o)) (.s .o .o))))
theorem f41_eq (D : Dyn) (n : Nat) : f41 D n = funKp (s41 D n) D n 41 Tryz.f41 h41 := by kernel_rfl
theorem f41_ok {D : Dyn} (hD : DP D) (n : Nat) : FP 41 (f41 D n) := fun_okP X_ok hD (SP.cons (f20_ok hD n) (SP.cons (f44_ok hD n) (SP.nil))) Tryz.func41 (by kernel_rfl) (by kernel_rfl) (f41_eq D n)

def s42 (D : Dyn) (n : Nat) : Tb := ⟨X, [(43, f43 D n)]⟩
/-- jetty/jettylaw15.opened -/
def f42 (D : Dyn) (n : Nat) (vs : List AV) (H : AH) : Option (AV × AH) :=
  outR (hd vs fun x0 vs => hd vs fun x1 vs => nl vs <|
  bR (f43 D n [x0, x1] H) fun x10 H => 
  bV (pExtract x10 0) fun x11 => 
  bV (pExtract x10 1) fun x12 => 
  bV (bInt .neq x12 (.int .i64 (.ofNat 0))) fun x14 => 
  cnd x14 (bV (some .nilPtr) fun x4 => some (.ret x4, H))
  (bV (some x11) fun x4_2 => some (.ret x4_2, H)))
def h42 : Hint := (.s .o (.s .o (.s (.s .o (.cl (.s .o .o) .o)) (.s .o .o))))
theorem f42_eq (D : Dyn) (n : Nat) : f42 D n = funKp (s42 D n) D n 42 Tryz.f42 h42 := by kernel_rfl
theorem f42_ok {D : Dyn} (hD : DP D) (n : Nat) : FP 42 (f42 D n) := fun_okP X_ok hD (SP.cons (f43_ok hD n) (SP.nil)) Tryz.func42 (by kernel_rfl) (by kernel_rfl) (f42_eq D n)

def s140 (D : Dyn) (n : Nat) : Tb := ⟨X, []⟩
/-- (*jetty/txg.Store).none -/
def f140 (D : Dyn) (n : Nat) (vs : List AV) (H : AH) : Option (AV × AH) :=
  outR (hd vs fun x0 vs => nl vs <|
  bV (cmpO .eql (eqP x0 .nilPtr)) fun x4 => 
  jn (wnt x4 false (bV (pNil x0) fun x7 => 
  bV (fAd 2 x7) fun x8 => 
  bV (ld1p x8 H) fun x9 => 
  bV (cmpO .eql (eqP x9 .nilPtr)) fun x10 => 
  some (.norm [x10], H)) (some (.norm [undefA], H))) fun vs H => hd vs fun x10_2 vs => 
  bV (pk3 (some x4) (some (.bool true)) (some x10_2)) fun x11 => 
  bV (some x11) fun x2 => some (.ret x2, H))
def h140 : Hint := (.s .o (.s .o .o))
theorem f140_eq (D : Dyn) (n : Nat) : f140 D n = funKp (s140 D n) D n 140 Tryz.f140 h140 := by kernel_rfl
theorem f140_ok {D : Dyn} (hD : DP D) (n : Nat) : FP 140 (f140 D n) := fun_okP X_ok hD (SP.nil) Tryz.func140 (by kernel_rfl) (by kernel_rfl) (f140_eq D n)

def s131 (D : Dyn) (n : Nat) : Tb := ⟨X, [(140, f140 D n)]⟩
/-- (*jetty/txg.Store).Group -/
def f131 (D : Dyn) (n : Nat) (vs : List AV) (H : AH) : Option (AV × AH) :=
  outR (hd vs fun x0 vs => nl vs <|
  bR (f140 D n [x0] H) fun x4 H => 
  cnd x4 (bV (some (.int .i64 (.ofNat 0))) fun x2 => some (.ret x2, H))
  (bV (pNil x0) fun x6 => 
  bV (fAd 5 x6) fun x7 => 
  bV (ld1p x7 H) fun x8 => 
  bV (some x8) fun x2_2 => some (.ret x2_2, H)))
def h131 : Hint := (.s .o (.s (.s .o (.cl (.s .o .o) .o)) (.s .o .o)))
theorem f131_eq (D : Dyn) (n : Nat) : f131 D n = funKp (s131 D n) D n 131 Tryz.f131 h131 := by kernel_rfl
theorem f131_ok {D : Dyn} (hD : DP D) (n : Nat) : FP 131 (f131 D n) := fun_okP X_ok hD (SP.cons (f140_ok hD n) (SP.nil)) Tryz.func131 (by kernel_rfl) (by kernel_rfl) (f131_eq D n)

def s105 (D : Dyn) (n : Nat) : Tb := ⟨X, []⟩
/-- (*jetty/space.Space).Free -/
def f105 (D : Dyn) (n : Nat) (vs : List AV) (H : AH) : Option (AV × AH) :=
  outR (hd vs fun x0 vs => nl vs <|
  bV (cmpO .eql (eqP x0 .nilPtr)) fun x4 => 
  cnd x4 (bV (some (.int .i64 (.ofNat 0))) fun x2 => some (.ret x2, H))
  (bV (pNil x0) fun x6 => 
  bV (fAd 8194 x6) fun x7 => 
  bV (ixArr 4 1 x7 (.int .u8 (.ofNat 0))) fun x8 => 
  bV (ld1p x8 H) fun x9 => 
  bV (some x9) fun x2_2 => some (.ret x2_2, H)))
def h105 : Hint := (.s .o (.s (.s .o (.cl (.s .o .o) .o)) (.s .o .o)))
theorem f105_eq (D : Dyn) (n : Nat) : f105 D n = funKp (s105 D n) D n 105 Tryz.f105 h105 := by kernel_rfl
theorem f105_ok {D : Dyn} (hD : DP D) (n : Nat) : FP 105 (f105 D n) := fun_okP X_ok hD (SP.nil) Tryz.func105 (by kernel_rfl) (by kernel_rfl) (f105_eq D n)

def s58 (D : Dyn) (n : Nat) : Tb := ⟨X, [(140, f140 D n), (105, f105 D n)]⟩
/-- (*jetty/txg.Store).Left -/
def f58 (D : Dyn) (n : Nat) (vs : List AV) (H : AH) : Option (AV × AH) :=
  outR (hd vs fun x0 vs => nl vs <|
  bR (f140 D n [x0] H) fun x4 H => 
  cnd x4 (bV (some (.int .i64 (.ofNat 0))) fun x2 => some (.ret x2, H))
  (bV (pNil x0) fun x6 => 
  bV (fAd 4 x6) fun x7 => 
  bV (ld1p x7 H) fun x8 => 
  bR (f105 D n [x8] H) fun x9 H => 
  bV (some x9) fun x2_2 => some (.ret x2_2, H)))
def h58 : Hint := (.s .o (.s (.s .o (.cl (.s .o .o) .o)) (.s .o .o)))
theorem f58_eq (D : Dyn) (n : Nat) : f58 D n = funKp (s58 D n) D n 58 Tryz.f58 h58 := by kernel_rfl
theorem f58_ok {D : Dyn} (hD : DP D) (n : Nat) : FP 58 (f58 D n) := fun_okP X_ok hD (SP.cons (f140_ok hD n) (SP.cons (f105_ok hD n) (SP.nil))) Tryz.func58 (by kernel_rfl) (by kernel_rfl) (f58_eq D n)

def s48 (D : Dyn) (n : Nat) : Tb := ⟨X, [(140, f140 D n)]⟩
/-- (*jetty/txg.Store).Tree -/
def f48 (D : Dyn) (n : Nat) (vs : List AV) (H : AH) : Option (AV × AH) :=
  outR (hd vs fun x0 vs => nl vs <|
  bR (f140 D n [x0] H) fun x4 H => 
  cnd x4 (bV (some .nilPtr) fun x2 => some (.ret x2, H))
  (bV (pNil x0) fun x6 => 
  bV (fAd 2 x6) fun x7 => 
  bV (ld1p x7 H) fun x8 => 
  bV (some x8) fun x2_2 => some (.ret x2_2, H)))
def h48 : Hint := (.s .o (.s (.s .o (.cl (.s .o .o) .o)) (.s .o .o)))
theorem f48_eq (D : Dyn) (n : Nat) : f48 D n = funKp (s48 D n) D n 48 Tryz.f48 h48 := by kernel_rfl
theorem f48_ok {D : Dyn} (hD : DP D) (n : Nat) : FP 48 (f48 D n) := fun_okP X_ok hD (SP.cons (f140_ok hD n) (SP.nil)) Tryz.func48 (by kernel_rfl) (by kernel_rfl) (f48_eq D n)

def s185 (D : Dyn) (n : Nat) : Tb := ⟨X, []⟩
/-- (*jetty/tree.change).add -/
def f185 (D : Dyn) (n : Nat) (vs : List AV) (H : AH) : Option (AV × AH) :=
  outR (hd vs fun x0 vs => hd vs fun x1 vs => nl vs <|
  bA (bxV 57 x1) H fun x3 H => 
  bA (bxV 52 (.agg [(.int .i64 (.ofNat 0)), (.int .i64 (.ofNat 0)), (.int .u64 (.ofNat 0))])) H fun x4 H => 
  bV (pNil x0) fun x6 => 
  bV (fAd 1 x6) fun x7 => 
  bV (ld1p x7 H) fun x8 => 
  bV (bInt .add x8 (.int .u64 (.ofNat 1))) fun x9 => 
  bV (pNil x0) fun x10 => 
  bV (fAd 1 x10) fun x11 => 
  bR (stNp 1 x11 x9 H) fun x9999 H => 
  bV (pNil x0) fun x13 => 
  bV (fAd 2 x13) fun x14 => 
  bV (ld1p x14 H) fun x15 => 
  bV (pNil x0) fun x17 => 
  bV (fAd 1 x17) fun x18 => 
  bV (ld1p x18 H) fun x19 => 
  bV (ldNp 4 x3 H) fun x20 => 
  bR (upM [10] x15 x19 x20 H) fun x9999_2 H => 
  bV (pNil x0) fun x22 => 
  bV (fAd 1 x22) fun x23 => 
  bV (ld1p x23 H) fun x24 => 
  bV (bldSp [(0, 1), (1, 1), (2, 1)] [(.int .i64 (.ofNat 0)), (.int .i64 (.ofNat 0)), (.int .u64 (.ofNat 0))] [(0, (.int .i64 (.ofNat 1))), (2, x24)]) fun x25 => 
  bR (stNp 3 x4 x25 H) fun x9999_3 H => 
  bV (ldNp 3 x4 H) fun x9004 => some (.ret x9004, H))
def h185 : Hint := (.s .o (.s .o (.s .o (.s .o .o))))
theorem f185_eq (D : Dyn) (n : Nat) : f185 D n = funKp (s185 D n) D n 185 Tryz.f185 h185 := by kernel_rfl
theorem f185_ok {D : Dyn} (hD : DP D) (n : Nat) : FP 185 (f185 D n) := fun_okP X_ok hD (SP.nil) Tryz.func185 (by kernel_rfl) (by kernel_rfl) (f185_eq D n)

def s184 (D : Dyn) (n : Nat) : Tb := ⟨X, []⟩
def f184j0 (D : Dyn) (n : Nat) (vs : List AV) (H : AH) : Rs :=
  hd vs fun x0_3 vs => hd vs fun x3_3 vs => hd vs fun x4_2 vs => hd vs fun x16_3 vs => hd vs fun x17_3 vs => hd vs fun x18_2 vs => 
  bV (bInt .add x18_2 (.int .i64 (.ofNat 1))) fun x41 => 
  some (.norm [x0_3, x3_3, x4_2, x16_3, x17_3, x41], H)
def f184l1 (D : Dyn) (n : Nat) (vs : List AV) (H : AH) : Rs :=
  hd vs fun x0_2 vs => hd vs fun x3_2 vs => hd vs fun x4 vs => hd vs fun x16_2 vs => hd vs fun x17_2 vs => hd vs fun x18 vs => 
  bV (bInt .lss x18 x17_2) fun x19 => 
  cnd x19 (bV (ixSl 3 x16_2 x18) fun x20 => 
  bV (ldNp 3 x20 H) fun x21 => 
  bA (bxV 52 (.agg [(.int .i64 (.ofNat 0)), (.int .i64 (.ofNat 0)), (.int .u64 (.ofNat 0))])) H fun x6 H => 
  bR (stNp 3 x6 x21 H) fun x9999 H => 
  bV (fAd 0 x6) fun x22 => 
  bV (ld1p x22 H) fun x23 => 
  bV (bInt .eql x23 (.int .i64 (.ofNat 1))) fun x24 => 
  jn (cnd x24 (bV (pNil x4) fun x26 => 
  bV (fAd 5 x26) fun x27 => 
  bV (ld1p x27 H) fun x28 => 
  bV (fAd 2 x6) fun x29 => 
  bV (ld1p x29 H) fun x30 => 
  bR (dlM [10] x28 x30 H) fun x9999_2 H => 
  some (.norm [x0_2, x3_2, x4, x16_2, x17_2, x18], H))
  (bV (pNil x4) fun x33 => 
  bV (fAd 7 x33) fun x34 => 
  bV (ld1p x34 H) fun x35 => 
  bV (ldNp 3 x6 H) fun x36 => 
  bA (bldLp 52 3 1 [(.int .i64 (.ofNat 0)), (.int .i64 (.ofNat 0)), (.int .u64 (.ofNat 0))] [(0, x36)]) H fun x37 H => 
  bR (apPp 52 3 24 x35 x37 H) fun x38 H => 
  bV (pNil x4) fun x39 => 
  bV (fAd 7 x39) fun x40 => 
  bR (stNp 1 x40 x38 H) fun x9999_3 H => 
  some (.norm [x0_2, x3_2, x4, x16_2, x17_2, x18], H))) (f184j0 D n))
  (some (.exit 0 [x0_2, x3_2, x4], H))
def f184b2 (D : Dyn) (n : Nat) (vs : List AV) (H : AH) : Rs :=
  hd vs fun x0_4 vs => hd vs fun x3_4 vs => hd vs fun x4_3 vs => 
  tld (mtp184_0 [x0_4, x3_4, x4_3] H) H.next fun H => 
  bV (pNil x0_4) fun x60 => 
  bV (fAd 1 x60) fun x61 => 
  bV (ld1p x61 H) fun x62 => 
  bV (pNil x4_3) fun x63 => 
  bV (fAd 6 x63) fun x64 => 
  bR (stNp 1 x64 x62 H) fun x9999_4 H => 
  bV (ldNp 3 x3_4 H) fun x66 => 
  bV (pNil x4_3) fun x67 => 
  bV (fAd 2 x67) fun x68 => 
  bR (stNp 3 x68 x66 H) fun x9999_5 H => 
  some (.ret (.tuple []), H)
/-- (*jetty/tree.change).done -/
def f184 (D : Dyn) (n : Nat) (vs : List AV) (H : AH) : Option (AV × AH) :=
  outR (hd vs fun x0 vs => hd vs fun x1 vs => nl vs <|
  bA (bxV 52 x1) H fun x3 H => 
  bV (pNil x0) fun x10 => 
  bV (fAd 0 x10) fun x11 => 
  bV (ld1p x11 H) fun x12 => 
  bV (pNil x0) fun x14 => 
  bV (fAd 3 x14) fun x15 => 
  bV (ld1p x15 H) fun x16 => 
  bV (lnSl x16) fun x17 => 
  jb 0 (loopK n (f184l1 D n) [x0, x3, x12, x16, x17, (.int .i64 (.ofNat 0))] H) (f184b2 D n))
def h184 : Hint := (.s .o (.s .o (.s (.s .o (.b [0, 3, 4] (.l [0, 3, 4, 16, 17, 18] (.s .o (.s (.cr .o .o) (.s (.b0 (.s .o (.s .o (.c [0, 3, 4, 16, 17, 18] .o .o)))) .o)))))) (.s (.t [0, 3, 4] mtp184_0) (.s .o .o)))))
def ho184 : Hint := (.s .o (.s .o (.s (.s .o (.b [0, 3, 4] (.l [0, 3, 4, 16, 17, 18] (.s .o (.s (.cr .o .o) (.s (.b0 (.s .o (.s .o (.c [0, 3, 4, 16, 17, 18] .o .o)))) .o)))))) (.s (.t [0, 3, 4] mt184_0) (.s .o .o)))))
theorem f184_eq (D : Dyn) (n : Nat) : f184 D n = funKp (s184 D n) D n 184 Tryz.f184 h184 := by kernel_rfl
theorem f184_tolds : toldsF Tryz.f184 ho184 = [(q184_0.code, [0, 3, 4], mt184_0)] := by kernel_rfl
theorem f184_told : ∀ x ∈ toldsF Tryz.f184 ho184, ToldOk PP Tryz.f184.ntmps 184 x.1 x.2.1 x.2.2 := by
  rw [f184_tolds]; intro x hx
  simp only [List.mem_cons, List.not_mem_nil, or_false] at hx
  subst hx; exact told184_0
theorem f184_hs : HS h184 ho184 := by
  unfold h184 ho184
  repeat (first | exact HS.t mtp184_0_sim | constructor)
theorem f184_ok {D : Dyn} (hD : DP D) (n : Nat) : FP 184 (f184 D n) := fun_okPT X_ok hD (SP.nil) Tryz.func184 (sitesT_ok (by kernel_rfl) f184_told) f184_hs (f184_eq D n)

def s294 (D : Dyn) (n : Nat) : Tb := ⟨X, [(254, f254 D n)]⟩
def f294j0 (D : Dyn) (n : Nat) (vs : List AV) (H : AH) : Rs :=
  hd vs fun x1_4 vs => hd vs fun x3_3 vs => hd vs fun x4_3 vs => hd vs fun x5_3 vs => hd vs fun x6 vs => hd vs fun x20_2 vs => hd vs fun x21_2 vs => 
  bV (bInt .gtr x6 (.int .i64 (.ofNat 0))) fun x47 => 
  jn (wnt x47 true (bV (bInt .gtr x5_3 x3_3) fun x51 => 
  some (.norm [x51], H)) (some (.norm [undefA], H))) fun vs H => hd vs fun x51_2 vs => 
  bV (pk3 (some x47) (some x51_2) (some (.bool false))) fun x52 => 
  cnd x52 (bV (some x6) fun x2 => some (.ret x2, H))
  (bV (bInt .add x21_2 (.int .i64 (.ofNat 1))) fun x54 => 
  some (.norm [x1_4, x3_3, x4_3, x5_3, x20_2, x54], H))
def f294l1 (D : Dyn) (n : Nat) (vs : List AV) (H : AH) : Rs :=
  hd vs fun x1_3 vs => hd vs fun x3_2 vs => hd vs fun x4_2 vs => hd vs fun x5_2 vs => hd vs fun x20 vs => hd vs fun x21 vs => 
  bV (bInt .lss x21 x20) fun x22 => 
  cnd x22 (bV (fAd 1 x1_3) fun x25 => 
  bV (ld1p x25 H) fun x26 => 
  bV (ixSl 1 x26 x21) fun x28 => 
  bV (ld1p x28 H) fun x29 => 
  bV (lnStr x29) fun x30 => 
  bV (bInt .add (.int .i64 (.ofNat 1)) x30) fun x31 => 
  bV (bInt .add x5_2 x31) fun x32 => 
  bV (fAd 0 x1_3) fun x33 => 
  bV (ld1p x33 H) fun x34 => 
  jn (cnd x34 (bV (fAd 2 x1_3) fun x36 => 
  bV (ld1p x36 H) fun x37 => 
  bV (ixSl 1 x37 x21) fun x39 => 
  bV (ld1p x39 H) fun x40 => 
  bV (lnStr x40) fun x41 => 
  bV (bInt .add (.int .i64 (.ofNat 1)) x41) fun x42 => 
  bV (bInt .add x32 x42) fun x43 => 
  some (.norm [x1_3, x3_2, x4_2, x43, x21, x20, x21], H))
  (bV (bInt .add x32 (.int .i64 (.ofNat 16))) fun x45 => 
  some (.norm [x1_3, x3_2, x4_2, x45, x21, x20, x21], H))) (f294j0 D n))
  (some (.exit 0 [x4_2], H))
def f294b2 (D : Dyn) (n : Nat) (vs : List AV) (H : AH) : Rs :=
  hd vs fun x4_4 vs => 
  bV (some x4_4) fun x2_2 => some (.ret x2_2, H)
def f294j3 (D : Dyn) (n : Nat) (vs : List AV) (H : AH) : Rs :=
  hd vs fun x1_2 vs => hd vs fun x3 vs => hd vs fun x4 vs => hd vs fun x5 vs => 
  jb 0 (loopK n (f294l1 D n) [x1_2, x3, x4, x5, x4, (.int .i64 (.ofNat 0))] H) (f294b2 D n)
/-- jetty/node.half -/
def f294 (D : Dyn) (n : Nat) (vs : List AV) (H : AH) : Option (AV × AH) :=
  outR (hd vs fun x0 vs => nl vs <|
  bA (bxV 57 x0) H fun x1 H => 
  bV (ldNp 4 x1 H) fun x7 => 
  bR (f254 D n [x7] H) fun x8 H => 
  bV (bInt .sub x8 (.int .i64 (.ofNat 2))) fun x9 => 
  bV (bInt .quo x9 (.int .i64 (.ofNat 2))) fun x10 => 
  bV (fAd 1 x1) fun x11 => 
  bV (ld1p x11 H) fun x12 => 
  bV (lnSl x12) fun x13 => 
  bV (bInt .sub x13 (.int .i64 (.ofNat 1))) fun x14 => 
  bV (fAd 0 x1) fun x15 => 
  bV (ld1p x15 H) fun x16 => 
  bV (aun .not x16) fun x17 => 
  jn (cnd x17 (bV (bInt .sub x14 (.int .i64 (.ofNat 1))) fun x19 => 
  some (.norm [x1, x10, x19, (.int .i64 (.ofNat 16))], H))
  (some (.norm [x1, x10, x14, (.int .i64 (.ofNat 0))], H))) (f294j3 D n))
def h294 : Hint := (.s .o (.s .o (.s .o (.s .o (.s (.s .o (.c [1, 3, 4, 5] (.s .o .o) .o)) (.s (.s .o (.b [4] (.l [1, 3, 4, 5, 20, 21] (.s .o (.s (.cr .o .o) (.s (.b0 (.s .o (.s .o (.s (.s .o (.c [1, 3, 4, 5, 6, 20, 21] .o .o)) (.s .o (.cl (.s .o .o) .o)))))) .o)))))) (.s .o .o)))))))
theorem f294_eq (D : Dyn) (n : Nat) : f294 D n = funKp (s294 D n) D n 294 Tryz.f294 h294 := by kernel_rfl
theorem f294_ok {D : Dyn} (hD : DP D) (n : Nat) : FP 294 (f294 D n) := fun_okP X_ok hD (SP.cons (f254_ok hD n) (SP.nil)) Tryz.func294 (by kernel_rfl) (by kernel_rfl) (f294_eq D n)

def s285 (D : Dyn) (n : Nat) : Tb := ⟨X, [(190, f190 D n), (294, f294 D n), (103, f103 D n), (104, f104 D n)]⟩
def f285j0 (D : Dyn) (n : Nat) (vs : List AV) (H : AH) : Rs :=
  hd vs fun x1_2 vs => hd vs fun x2_2 vs => hd vs fun x4_2 vs => hd vs fun x6 vs => 
  bV (ldNp 4 x2_2 H) fun x88 => 
  bV (fAd 1 x1_2) fun x89 => 
  bV (ld1p x89 H) fun x90 => 
  bV (ixSl 1 x90 x6) fun x92 => 
  bV (ld1p x92 H) fun x93 => 
  bV (ldNp 4 x4_2 H) fun x94 => 
  bR (stNp 4 x2_2 x88 H) fun x9999_12 H => chk (ld1p x89 H) x90 <| chk (ld1p x92 H) x93 <| chk (ldNp 4 x4_2 H) x94 <| 
  bR (stNp 4 x4_2 x94 H) fun x9999_13 H => 
  bV (ldNp 4 x2_2 H) fun x9002_2 => bV (some x93) fun x3_2 => bV (ldNp 4 x4_2 H) fun x9004_2 => bV (some (.int .i64 (.ofNat 0))) fun x5_2 => some (.ret (.tuple [x9002_2, x3_2, x9004_2, x5_2]), H)
/-- jetty/node.Cut -/
def f285 (D : Dyn) (n : Nat) (vs : List AV) (H : AH) : Option (AV × AH) :=
  outR (hd vs fun x0 vs => nl vs <|
  bA (bxV 57 x0) H fun x1 H => 
  bA (bxV 57 (.agg [(.bool false), .nilSlice, .nilSlice, .nilSlice])) H fun x2 H => 
  bA (bxV 57 (.agg [(.bool false), .nilSlice, .nilSlice, .nilSlice])) H fun x4 H => 
  bV (ldNp 4 x1 H) fun x7 => 
  bR (f190 D n [x7] H) fun x8 H => 
  bV (aun .not x8) fun x9 => 
  jn (wnt x9 false (bV (fAd 1 x1) fun x11 => 
  bV (ld1p x11 H) fun x12 => 
  bV (lnSl x12) fun x13 => 
  bV (bInt .lss x13 (.int .i64 (.ofNat 2))) fun x14 => 
  some (.norm [x14], H)) (some (.norm [undefA], H))) fun vs H => hd vs fun x14_2 vs => 
  bV (pk3 (some x9) (some (.bool true)) (some x14_2)) fun x15 => 
  jn (wnt x15 false (bV (fAd 0 x1) fun x17 => 
  bV (ld1p x17 H) fun x18 => 
  bV (aun .not x18) fun x19 => 
  some (.norm [x19], H)) (some (.norm [undefA], H))) fun vs H => hd vs fun x20 vs => 
  jn (wnt x20 true (bV (fAd 1 x1) fun x21 => 
  bV (ld1p x21 H) fun x22 => 
  bV (lnSl x22) fun x23 => 
  bV (bInt .lss x23 (.int .i64 (.ofNat 3))) fun x24 => 
  some (.norm [x24], H)) (some (.norm [undefA], H))) fun vs H => hd vs fun x24_2 vs => 
  jn (wnt x15 false (bV (pk3 (some x20) (some x24_2) (some (.bool false))) fun x25 => 
  some (.norm [x25], H)) (some (.norm [undefA], H))) fun vs H => hd vs fun x25_2 vs => 
  bV (pk3 (some x15) (some (.bool true)) (some x25_2)) fun x26 => 
  cnd x26 (bV (bldSp [(0, 1), (1, 1), (2, 1), (3, 1)] [(.bool false), .nilSlice, .nilSlice, .nilSlice] []) fun x27 => 
  bV (bldSp [(0, 1), (1, 1), (2, 1), (3, 1)] [(.bool false), .nilSlice, .nilSlice, .nilSlice] []) fun x28 => 
  bR (stNp 4 x2 x27 H) fun x9999 H => 
  bR (stNp 4 x4 x28 H) fun x9999_2 H => 
  bV (ldNp 4 x2 H) fun x9002 => bV (some (.str 0 0)) fun x3 => bV (ldNp 4 x4 H) fun x9004 => bV (some (.int .i64 (.ofNat 1))) fun x5 => some (.ret (.tuple [x9002, x3, x9004, x5]), H))
  (bV (ldNp 4 x1 H) fun x29 => 
  bR (f294 D n [x29] H) fun x30 H => 
  bV (fAd 0 x1) fun x31 => 
  bV (ld1p x31 H) fun x32 => 
  bV (fAd 0 x1) fun x33 => 
  bV (ld1p x33 H) fun x34 => 
  bV (fAd 0 x2) fun x35 => 
  bR (stNp 1 x35 x32 H) fun x9999_3 H => chk (ld1p x33 H) x34 <| 
  bV (fAd 0 x4) fun x36 => 
  bR (stNp 1 x36 x34 H) fun x9999_4 H => 
  bV (fAd 1 x1) fun x37 => 
  bV (ld1p x37 H) fun x38 => 
  bV (slSlp 1 x38 none (some x30) (some x30) H) fun x41 => 
  bR (f103 D n [x41] H) fun x42 H => 
  bV (fAd 1 x2) fun x43 => 
  bR (stNp 1 x43 x42 H) fun x9999_5 H => 
  bV (fAd 0 x1) fun x44 => 
  bV (ld1p x44 H) fun x45 => 
  jn (cnd x45 (bV (fAd 1 x1) fun x46 => 
  bV (ld1p x46 H) fun x47 => 
  bV (slSlp 1 x47 (some x30) none none H) fun x49 => 
  bR (f103 D n [x49] H) fun x50 H => 
  bV (fAd 1 x4) fun x51 => 
  bR (stNp 1 x51 x50 H) fun x9999_6 H => 
  bV (fAd 2 x1) fun x52 => 
  bV (ld1p x52 H) fun x53 => 
  bV (slSlp 1 x53 none (some x30) (some x30) H) fun x56 => 
  bV (fAd 2 x1) fun x58 => 
  bV (ld1p x58 H) fun x59 => 
  bV (slSlp 1 x59 (some x30) none none H) fun x61 => 
  bR (f103 D n [x56] H) fun x57 H => chk (ld1p x58 H) x59 <| chk (slSlp 1 x59 (some x30) none none H) x61 <| 
  bV (fAd 2 x2) fun x63 => 
  bR (f103 D n [x61] H) fun x62 H => 
  bR (stNp 1 x63 x57 H) fun x9999_7 H => 
  bV (fAd 2 x4) fun x64 => 
  bR (stNp 1 x64 x62 H) fun x9999_8 H => 
  some (.norm [x1, x2, x4, x30], H))
  (bV (fAd 1 x1) fun x65 => 
  bV (ld1p x65 H) fun x66 => 
  bV (bInt .add x30 (.int .i64 (.ofNat 1))) fun x68 => 
  bV (slSlp 1 x66 (some x68) none none H) fun x69 => 
  bR (f103 D n [x69] H) fun x70 H => 
  bV (fAd 1 x4) fun x71 => 
  bR (stNp 1 x71 x70 H) fun x9999_9 H => 
  bV (fAd 3 x1) fun x72 => 
  bV (ld1p x72 H) fun x73 => 
  bV (bInt .add x30 (.int .i64 (.ofNat 1))) fun x75 => 
  bV (bInt .add x30 (.int .i64 (.ofNat 1))) fun x77 => 
  bV (slSlp 3 x73 none (some x75) (some x77) H) fun x78 => 
  bV (fAd 3 x1) fun x80 => 
  bV (ld1p x80 H) fun x81 => 
  bV (bInt .add x30 (.int .i64 (.ofNat 1))) fun x83 => 
  bV (slSlp 3 x81 (some x83) none none H) fun x84 => 
  bR (f104 D n [x78] H) fun x79 H => chk (ld1p x80 H) x81 <| chk (slSlp 3 x81 (some x83) none none H) x84 <| 
  bV (fAd 3 x2) fun x86 => 
  bR (f104 D n [x84] H) fun x85 H => 
  bR (stNp 1 x86 x79 H) fun x9999_10 H => 
  bV (fAd 3 x4) fun x87 => 
  bR (stNp 1 x87 x85 H) fun x9999_11 H => 
  some (.norm [x1, x2, x4, x30], H))) (f285j0 D n)))
def h285 : Hint := (.s .o (.s (.s .o (.cl (.s .o .o) .o)) (.s .o (.s .o (.s .o (.s (.s .o (.c [1, 2, 4, 6] (.s .o .o) (.s .o .o))) (.s .o .o)))))))
theorem f285_eq (D : Dyn) (n : Nat) : f285 D n = funKp (s285 D n) D n 285 Tryz.f285 h285 := by kernel_rfl
theorem f285_ok {D : Dyn} (hD : DP D) (n : Nat) : FP 285 (f285 D n) := fun_okP X_ok hD (SP.cons (f190_ok hD n) (SP.cons (f294_ok hD n) (SP.cons (f103_ok hD n) (SP.cons (f104_ok hD n) (SP.nil))))) Tryz.func285 (by kernel_rfl) (by kernel_rfl) (f285_eq D n)

def s256 (D : Dyn) (n : Nat) : Tb := ⟨X, [(254, f254 D n), (285, f285 D n)]⟩
def f256l0 (D : Dyn) (n : Nat) (vs : List AV) (H : AH) : Rs :=
  hd vs fun x1_2 vs => hd vs fun x5 vs => hd vs fun x6 vs => 
  bV (ldNp 4 x1_2 H) fun x11 => 
  bR (f254 D n [x11] H) fun x12 H => 
  bV (bInt .gtr x12 (.int .i64 (.ofNat 500))) fun x13 => 
  cnd x13 (bV (ldNp 4 x1_2 H) fun x15 => 
  bR (f285 D n [x15] H) fun x16 H => 
  bV (pExtract x16 0) fun x17 => 
  bV (pExtract x16 1) fun x18 => 
  bV (pExtract x16 2) fun x19 => 
  bV (pExtract x16 3) fun x20 => 
  bA (bxV 57 (.agg [(.bool false), .nilSlice, .nilSlice, .nilSlice])) H fun x7 H => 
  bA (bxV 57 (.agg [(.bool false), .nilSlice, .nilSlice, .nilSlice])) H fun x9 H => 
  bR (stNp 4 x7 x17 H) fun x9999 H => 
  bR (stNp 4 x9 x19 H) fun x9999_2 H => 
  bV (bInt .neq x20 (.int .i64 (.ofNat 0))) fun x22 => 
  cnd x22 (bV (some .nilSlice) fun x2 => bV (some .nilSlice) fun x3 => bV (some (.int .i64 (.ofNat 4))) fun x4 => some (.ret (.tuple [x2, x3, x4]), H))
  (bV (ldNp 4 x7 H) fun x24 => 
  bA (bldLp 57 4 1 [(.bool false), .nilSlice, .nilSlice, .nilSlice] [(0, x24)]) H fun x25 H => 
  bR (apPp 57 4 80 x5 x25 H) fun x26 H => 
  bA (bldLp 9 1 1 [(.str 0 0)] [(0, x18)]) H fun x29 H => 
  bR (apPp 9 1 16 x6 x29 H) fun x30 H => 
  bV (ldNp 4 x9 H) fun x31 => 
  bR (stNp 4 x1_2 x31 H) fun x9999_3 H => 
  some (.norm [x1_2, x26, x30], H)))
  (some (.exit 0 [x1_2, x5, x6], H))
def f256b1 (D : Dyn) (n : Nat) (vs : List AV) (H : AH) : Rs :=
  hd vs fun x1_3 vs => hd vs fun x5_2 vs => hd vs fun x6_2 vs => 
  bV (ldNp 4 x1_3 H) fun x33 => 
  bA (bldLp 57 4 1 [(.bool false), .nilSlice, .nilSlice, .nilSlice] [(0, x33)]) H fun x34 H => 
  bR (apPp 57 4 80 x5_2 x34 H) fun x35 H => 
  bV (some x35) fun x2_2 => bV (some x6_2) fun x3_2 => bV (some (.int .i64 (.ofNat 0))) fun x4_2 => some (.ret (.tuple [x2_2, x3_2, x4_2]), H)
/-- jetty/tree.cut -/
def f256 (D : Dyn) (n : Nat) (vs : List AV) (H : AH) : Option (AV × AH) :=
  outR (hd vs fun x0 vs => nl vs <|
  bA (bxV 57 x0) H fun x1 H => 
  jb 0 (loopK n (f256l0 D n) [x1, .nilSlice, .nilSlice] H) (f256b1 D n))
def h256 : Hint := (.s .o (.s .o (.s .o (.s (.b [1, 5, 6] (.l [1, 5, 6] (.s (.s .o (.cr .o .o)) (.b0 (.s .o (.s (.s .o (.cl (.s .o .o) .o)) (.s .o (.s .o .o)))))))) (.s .o .o)))))
theorem f256_eq (D : Dyn) (n : Nat) : f256 D n = funKp (s256 D n) D n 256 Tryz.f256 h256 := by kernel_rfl
theorem f256_ok {D : Dyn} (hD : DP D) (n : Nat) : FP 256 (f256 D n) := fun_okP X_ok hD (SP.cons (f254_ok hD n) (SP.cons (f285_ok hD n) (SP.nil))) Tryz.func256 (by kernel_rfl) (by kernel_rfl) (f256_eq D n)

def s258 (D : Dyn) (n : Nat) : Tb := ⟨X, [(185, f185 D n)]⟩
def f258l0 (D : Dyn) (n : Nat) (vs : List AV) (H : AH) : Rs :=
  hd vs fun x0_2 vs => hd vs fun x5 vs => hd vs fun x8 vs => hd vs fun x9_2 vs => hd vs fun x10 vs => 
  bV (bInt .lss x10 x9_2) fun x11 => 
  cnd x11 (bV (ixSl 4 x8 x10) fun x12 => 
  bV (ldNp 4 x12 H) fun x13 => 
  bA (bxV 57 (.agg [(.bool false), .nilSlice, .nilSlice, .nilSlice])) H fun x7 H => 
  bR (stNp 4 x7 x13 H) fun x9999 H => 
  bV (ldNp 4 x7 H) fun x16 => 
  bR (f185 D n [x0_2, x16] H) fun x17 H => 
  bA (bldLp 52 3 1 [(.int .i64 (.ofNat 0)), (.int .i64 (.ofNat 0)), (.int .u64 (.ofNat 0))] [(0, x17)]) H fun x18 H => 
  bR (apPp 52 3 24 x5 x18 H) fun x19 H => 
  bV (bInt .add x10 (.int .i64 (.ofNat 1))) fun x20 => 
  some (.norm [x0_2, x19, x8, x9_2, x20], H))
  (some (.exit 0 [x5], H))
def f258b1 (D : Dyn) (n : Nat) (vs : List AV) (H : AH) : Rs :=
  hd vs fun x5_2 vs => 
  bV (some x5_2) fun x4 => some (.ret x4, H)
/-- (*jetty/tree.change).addAll -/
def f258 (D : Dyn) (n : Nat) (vs : List AV) (H : AH) : Option (AV × AH) :=
  outR (hd vs fun x0 vs => hd vs fun x1 vs => nl vs <|
  bV (lnSl x1) fun x9 => 
  jb 0 (loopK n (f258l0 D n) [x0, .nilSlice, x1, x9, (.int .i64 (.ofNat 0))] H) (f258b1 D n))
def h258 : Hint := (.s .o (.s .o (.s (.s .o (.b [5] (.l [0, 5, 8, 9, 10] (.s .o (.s (.cr .o .o) (.s (.b0 (.s .o .o)) .o)))))) (.s .o .o))))
theorem f258_eq (D : Dyn) (n : Nat) : f258 D n = funKp (s258 D n) D n 258 Tryz.f258 h258 := by kernel_rfl
theorem f258_ok {D : Dyn} (hD : DP D) (n : Nat) : FP 258 (f258 D n) := fun_okP X_ok hD (SP.cons (f185_ok hD n) (SP.nil)) Tryz.func258 (by kernel_rfl) (by kernel_rfl) (f258_eq D n)

def s189 (D : Dyn) (n : Nat) : Tb := ⟨X, [(184, f184 D n), (256, f256 D n), (258, f258 D n), (185, f185 D n)]⟩
def f189j0 (D : Dyn) (n : Nat) (vs : List AV) (H : AH) : Rs :=
  
  bV (some (.int .i64 (.ofNat 0))) fun x4 => some (.ret x4, H)
def f189j1 (D : Dyn) (n : Nat) (vs : List AV) (H : AH) : Rs :=
  
  bV (some (.int .i64 (.ofNat 0))) fun x4_3 => some (.ret x4_3, H)
/-- (*jetty/tree.change).crown -/
def f189 (D : Dyn) (n : Nat) (vs : List AV) (H : AH) : Option (AV × AH) :=
  outR (hd vs fun x0 vs => hd vs fun x1 vs => nl vs <|
  bA (bxV 57 x1) H fun x3 H => 
  bV (fAd 1 x3) fun x9 => 
  bV (ld1p x9 H) fun x10 => 
  bV (lnSl x10) fun x11 => 
  bV (bInt .eql x11 (.int .i64 (.ofNat 0))) fun x12 => 
  cnd x12 (bV (fAd 0 x3) fun x13 => 
  bV (ld1p x13 H) fun x14 => 
  jn (cnd x14 (bV (bldSp [(0, 1), (1, 1), (2, 1)] [(.int .i64 (.ofNat 0)), (.int .i64 (.ofNat 0)), (.int .u64 (.ofNat 0))] []) fun x16 => 
  bR (f184 D n [x0, x16] H) fun x17 H => 
  some (.norm [], H))
  (bV (fAd 3 x3) fun x19 => 
  bV (ld1p x19 H) fun x20 => 
  bV (ixSl 3 x20 (.int .i64 (.ofNat 0))) fun x21 => 
  bV (ldNp 3 x21 H) fun x22 => 
  bR (f184 D n [x0, x22] H) fun x23 H => 
  some (.norm [], H))) (f189j0 D n))
  (bV (ldNp 4 x3 H) fun x25 => 
  bR (f256 D n [x25] H) fun x26 H => 
  bV (pExtract x26 0) fun x27 => 
  bV (pExtract x26 1) fun x28 => 
  bV (pExtract x26 2) fun x29 => 
  bV (bInt .neq x29 (.int .i64 (.ofNat 0))) fun x31 => 
  cnd x31 (bV (some x29) fun x4_2 => some (.ret x4_2, H))
  (bR (f258 D n [x0, x27] H) fun x35 H => 
  bV (lnSl x35) fun x37 => 
  bV (bInt .eql x37 (.int .i64 (.ofNat 1))) fun x38 => 
  jn (cnd x38 (bV (ixSl 3 x35 (.int .i64 (.ofNat 0))) fun x41 => 
  bV (ldNp 3 x41 H) fun x42 => 
  bR (f184 D n [x0, x42] H) fun x43 H => 
  some (.norm [], H))
  (bV (bldSp [(0, 1), (1, 1), (2, 1), (3, 1)] [(.bool false), .nilSlice, .nilSlice, .nilSlice] [(1, x28), (3, x35)]) fun x48 => 
  bR (f185 D n [x0, x48] H) fun x49 H => 
  bR (f184 D n [x0, x49] H) fun x50 H => 
  some (.norm [], H))) (f189j1 D n))))
def h189 : Hint := (.s .o (.s (.s .o (.cl (.s (.s .o (.c [] .o .o)) (.s .o .o)) .o)) (.s .o (.s (.s .o (.cl (.s .o .o) .o)) (.s .o (.s (.s .o (.c [] .o .o)) (.s .o .o)))))))
theorem f189_eq (D : Dyn) (n : Nat) : f189 D n = funKp (s189 D n) D n 189 Tryz.f189 h189 := by kernel_rfl
theorem f189_ok {D : Dyn} (hD : DP D) (n : Nat) : FP 189 (f189 D n) := fun_okP X_ok hD (SP.cons (f184_ok hD n) (SP.cons (f256_ok hD n) (SP.cons (f258_ok hD n) (SP.cons (f185_ok hD n) (SP.nil))))) Tryz.func189 (by kernel_rfl) (by kernel_rfl) (f189_eq D n)

def s89 (D : Dyn) (n : Nat) : Tb := ⟨X, []⟩
/-- (*jetty/tree.Tree).most -/
def f89 (D : Dyn) (n : Nat) (vs : List AV) (H : AH) : Option (AV × AH) :=
  outR (hd vs fun x0 vs => nl vs <|
  bV (pNil x0) fun x4 => 
  bV (fAd 5 x4) fun x5 => 
  bV (ld1p x5 H) fun x6 => 
  bV (lnMap x6 H) fun x7 => 
  bV (bInt .add (.int .i64 (.ofNat 8192)) x7) fun x8 => 
  bV (some x8) fun x2 => some (.ret x2, H))
def h89 : Hint := (.s .o (.s .o .o))
theorem f89_eq (D : Dyn) (n : Nat) : f89 D n = funKp (s89 D n) D n 89 Tryz.f89 h89 := by kernel_rfl
theorem f89_ok {D : Dyn} (hD : DP D) (n : Nat) : FP 89 (f89 D n) := fun_okP X_ok hD (SP.nil) Tryz.func89 (by kernel_rfl) (by kernel_rfl) (f89_eq D n)

def s91 (D : Dyn) (n : Nat) : Tb := ⟨X, []⟩
def f91j0 (D : Dyn) (n : Nat) (vs : List AV) (H : AH) : Rs :=
  hd vs fun x1_3 vs => hd vs fun x2_3 vs => hd vs fun x5_2 vs => hd vs fun x9_3 vs => hd vs fun x10_3 vs => hd vs fun x11_2 vs => 
  bV (bInt .add x11_2 (.int .i64 (.ofNat 1))) fun x30 => 
  some (.norm [x1_3, x2_3, x5_2, x9_3, x10_3, x30], H)
def f91l1 (D : Dyn) (n : Nat) (vs : List AV) (H : AH) : Rs :=
  hd vs fun x1_2 vs => hd vs fun x2_2 vs => hd vs fun x5 vs => hd vs fun x9_2 vs => hd vs fun x10_2 vs => hd vs fun x11 vs => 
  bV (bInt .lss x11 x10_2) fun x12 => 
  cnd x12 (bV (ixSl 1 x9_2 x11) fun x13 => 
  bV (ld1p x13 H) fun x14 => 
  bV (bStr .lss x14 x1_2) fun x17 => 
  jn (wnt x17 false (bV (fAd 0 x2_2) fun x19 => 
  bV (ld1p x19 H) fun x20 => 
  bV (aun .not x20) fun x21 => 
  some (.norm [x21], H)) (some (.norm [undefA], H))) fun vs H => hd vs fun x22 vs => 
  jn (wnt x22 true (bV (bStr .eql x14 x1_2) fun x25 => 
  some (.norm [x25], H)) (some (.norm [undefA], H))) fun vs H => hd vs fun x25_2 vs => 
  jn (wnt x17 false (bV (pk3 (some x22) (some x25_2) (some (.bool false))) fun x26 => 
  some (.norm [x26], H)) (some (.norm [undefA], H))) fun vs H => hd vs fun x26_2 vs => 
  bV (pk3 (some x17) (some (.bool true)) (some x26_2)) fun x27 => 
  jn (cnd x27 (bV (bInt .add x5 (.int .i64 (.ofNat 1))) fun x29 => 
  some (.norm [x1_2, x2_2, x29, x9_2, x10_2, x11], H))
  (some (.norm [x1_2, x2_2, x5, x9_2, x10_2, x11], H))) (f91j0 D n))
  (some (.exit 0 [x5], H))
def f91b2 (D : Dyn) (n : Nat) (vs : List AV) (H : AH) : Rs :=
  hd vs fun x5_3 vs => 
  bV (some x5_3) fun x4 => some (.ret x4, H)
/-- jetty/node.Where -/
def f91 (D : Dyn) (n : Nat) (vs : List AV) (H : AH) : Option (AV × AH) :=
  outR (hd vs fun x0 vs => hd vs fun x1 vs => nl vs <|
  bA (bxV 57 x0) H fun x2 H => 
  bV (fAd 1 x2) fun x8 => 
  bV (ld1p x8 H) fun x9 => 
  bV (lnSl x9) fun x10 => 
  jb 0 (loopK n (f91l1 D n) [x1, x2, (.int .i64 (.ofNat 0)), x9, x10, (.int .i64 (.ofNat 0))] H) (f91b2 D n))
def h91 : Hint := (.s .o (.s .o (.s (.s .o (.b [5] (.l [1, 2, 5, 9, 10, 11] (.s .o (.s (.cr .o .o) (.s (.b0 (.s .o (.s .o (.c [1, 2, 5, 9, 10, 11] .o .o)))) .o)))))) (.s .o .o))))
theorem f91_eq (D : Dyn) (n : Nat) : f91 D n = funKp (s91 D n) D n 91 Tryz.f91 h91 := by kernel_rfl
theorem f91_ok {D : Dyn} (hD : DP D) (n : Nat) : FP 91 (f91 D n) := fun_okP X_ok hD (SP.nil) Tryz.func91 (by kernel_rfl) (by kernel_rfl) (f91_eq D n)

def s188 (D : Dyn) (n : Nat) : Tb := ⟨X, []⟩
/-- (*jetty/tree.change).goes -/
def f188 (D : Dyn) (n : Nat) (vs : List AV) (H : AH) : Option (AV × AH) :=
  outR (hd vs fun x0 vs => hd vs fun x1 vs => nl vs <|
  bA (bxV 52 x1) H fun x3 H => 
  bV (pNil x0) fun x6 => 
  bV (fAd 3 x6) fun x7 => 
  bV (ld1p x7 H) fun x8 => 
  bV (ldNp 3 x3 H) fun x9 => 
  bA (bldLp 52 3 1 [(.int .i64 (.ofNat 0)), (.int .i64 (.ofNat 0)), (.int .u64 (.ofNat 0))] [(0, x9)]) H fun x10 H => 
  bR (apPp 52 3 24 x8 x10 H) fun x11 H => 
  bV (pNil x0) fun x12 => 
  bV (fAd 3 x12) fun x13 => 
  bR (stNp 1 x13 x11 H) fun x9999 H => 
  some (.ret (.tuple []), H))
def h188 : Hint := (.s .o .o)
theorem f188_eq (D : Dyn) (n : Nat) : f188 D n = funKp (s188 D n) D n 188 Tryz.f188 h188 := by kernel_rfl
theorem f188_ok {D : Dyn} (hD : DP D) (n : Nat) : FP 188 (f188 D n) := fun_okP X_ok hD (SP.nil) Tryz.func188 (by kernel_rfl) (by kernel_rfl) (f188_eq D n)

def s284 (D : Dyn) (n : Nat) : Tb := ⟨X, [(191, f191 D n)]⟩
/-- jetty/node.parted -/
def f284 (D : Dyn) (n : Nat) (vs : List AV) (H : AH) : Option (AV × AH) :=
  outR (hd vs fun x0 vs => hd vs fun x1 vs => hd vs fun x2 vs => nl vs <|
  bA (bxV 57 x0) H fun x3 H => 
  bA (bxV 57 x2) H fun x5 H => 
  bR (f191 D n [x1] H) fun x9 H => 
  bV (aun .not x9) fun x10 => 
  jn (wnt x10 false (bV (fAd 0 x3) fun x12 => 
  bV (ld1p x12 H) fun x13 => 
  bV (fAd 0 x5) fun x14 => 
  bV (ld1p x14 H) fun x15 => 
  bV (bBool .neq x13 x15) fun x16 => 
  some (.norm [x16], H)) (some (.norm [undefA], H))) fun vs H => hd vs fun x16_2 vs => 
  bV (pk3 (some x10) (some (.bool true)) (some x16_2)) fun x17 => 
  cnd x17 (bV (some (.bool false)) fun x6 => some (.ret x6, H))
  (bV (fAd 1 x3) fun x18 => 
  bV (ld1p x18 H) fun x19 => 
  bV (lnSl x19) fun x20 => 
  bV (bInt .gtr x20 (.int .i64 (.ofNat 0))) fun x22 => 
  jn (wnt x22 true (bV (fAd 1 x3) fun x24 => 
  bV (ld1p x24 H) fun x25 => 
  bV (bInt .sub x20 (.int .i64 (.ofNat 1))) fun x27 => 
  bV (ixSl 1 x25 x27) fun x28 => 
  bV (ld1p x28 H) fun x29 => 
  bV (bStr .geq x29 x1) fun x31 => 
  some (.norm [x31], H)) (some (.norm [undefA], H))) fun vs H => hd vs fun x31_2 vs => 
  bV (pk3 (some x22) (some x31_2) (some (.bool false))) fun x32 => 
  cnd x32 (bV (some (.bool false)) fun x6_2 => some (.ret x6_2, H))
  (bV (fAd 1 x5) fun x33 => 
  bV (ld1p x33 H) fun x34 => 
  bV (lnSl x34) fun x35 => 
  bV (bInt .eql x35 (.int .i64 (.ofNat 0))) fun x36 => 
  cnd x36 (bV (some (.bool true)) fun x6_3 => some (.ret x6_3, H))
  (bV (fAd 1 x5) fun x38 => 
  bV (ld1p x38 H) fun x39 => 
  bV (ixSl 1 x39 (.int .i64 (.ofNat 0))) fun x40 => 
  bV (ld1p x40 H) fun x41 => 
  bV (bStr .lss x1 x41) fun x42 => 
  jn (wnt x42 false (bV (fAd 0 x3) fun x44 => 
  bV (ld1p x44 H) fun x45 => 
  some (.norm [x45], H)) (some (.norm [undefA], H))) fun vs H => hd vs fun x46 vs => 
  jn (wnt x46 true (bV (fAd 1 x5) fun x48 => 
  bV (ld1p x48 H) fun x49 => 
  bV (ixSl 1 x49 (.int .i64 (.ofNat 0))) fun x50 => 
  bV (ld1p x50 H) fun x51 => 
  bV (bStr .eql x1 x51) fun x52 => 
  some (.norm [x52], H)) (some (.norm [undefA], H))) fun vs H => hd vs fun x52_2 vs => 
  jn (wnt x42 false (bV (pk3 (some x46) (some x52_2) (some (.bool false))) fun x53 => 
  some (.norm [x53], H)) (some (.norm [undefA], H))) fun vs H => hd vs fun x53_2 vs => 
  bV (pk3 (some x42) (some (.bool true)) (some x53_2)) fun x54 => 
  bV (some x54) fun x6_4 => some (.ret x6_4, H)))))
def h284 : Hint := (.s .o (.s (.s .o (.cl (.s .o .o) .o)) (.s (.s .o (.s .o (.cl (.s .o .o) .o))) (.s (.s .o (.cl (.s .o .o) .o)) (.s .o .o)))))
theorem f284_eq (D : Dyn) (n : Nat) : f284 D n = funKp (s284 D n) D n 284 Tryz.f284 h284 := by kernel_rfl
theorem f284_ok {D : Dyn} (hD : DP D) (n : Nat) : FP 284 (f284 D n) := fun_okP X_ok hD (SP.cons (f191_ok hD n) (SP.nil)) Tryz.func284 (by kernel_rfl) (by kernel_rfl) (f284_eq D n)

def s268 (D : Dyn) (n : Nat) : Tb := ⟨X, []⟩
def f268j0 (D : Dyn) (n : Nat) (vs : List AV) (H : AH) : Rs :=
  hd vs fun x0_3 vs => 
  bV (some x0_3) fun x4 => some (.ret x4, H)
def f268j1 (D : Dyn) (n : Nat) (vs : List AV) (H : AH) : Rs :=
  hd vs fun x0_2 vs => hd vs fun x1_2 vs => 
  bV (acap X 54 x0_2) fun x10 => 
  bV (lnSl x0_2) fun x12 => 
  bV (bInt .sub x10 x12) fun x13 => 
  bV (bInt .sub x1_2 x13) fun x14 => 
  bV (bInt .gtr x14 (.int .i64 (.ofNat 0))) fun x16 => 
  jn (cnd x16 (bV (acap X 54 x0_2) fun x19 => 
  bV (slSlp 1 x0_2 none (some x19) none H) fun x20 => 
  bR (apZp 9 1 16 [(.str 0 0)] x20 x14 H) fun x22 H => 
  bV (lnSl x0_2) fun x24 => 
  bV (slSlp 1 x22 none (some x24) none H) fun x25 => 
  some (.norm [x25], H))
  (some (.norm [x0_2], H))) (f268j0 D n)
/-- slices.Grow[[]string,string] -/
def f268 (D : Dyn) (n : Nat) (vs : List AV) (H : AH) : Option (AV × AH) :=
  outR (hd vs fun x0 vs => hd vs fun x1 vs => nl vs <|
  bV (bInt .lss x1 (.int .i64 (.ofNat 0))) fun x6 => 
  jn (cnd x6 (none)
  (some (.norm [x0, x1], H))) (f268j1 D n))
def h268 : Hint := (.s .o (.s (.s .o (.c [0, 1] .o .o)) (.s (.s .o (.s .o (.c [0] .o .o))) (.s .o .o))))
theorem f268_eq (D : Dyn) (n : Nat) : f268 D n = funKp (s268 D n) D n 268 Tryz.f268 h268 := by kernel_rfl
theorem f268_ok {D : Dyn} (hD : DP D) (n : Nat) : FP 268 (f268 D n) := fun_okP X_ok hD (SP.nil) Tryz.func268 (by kernel_rfl) (by kernel_rfl) (f268_eq D n)
end Go.Eng.Sh
