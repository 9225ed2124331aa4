/- Shallow functions, by program (gen.py). -/
import Derived.Test.YtdbpihiihgkkdaaGreatR60
import Derived.Test.YtdbpihiihgkkdaaGreatProg
import Derived.KernelRfl
noncomputable section
namespace Go.Eng.Sh
open Go.Proofs
set_option maxRecDepth 100000
set_option linter.all false
def s100 (D : Dyn) (n : Nat) : Tb := ⟨X, []⟩
/-- jetty/disk.with -/
def f100 (D : Dyn) (n : Nat) (vs : List AV) (H : AH) : Option (AV × AH) :=
  outR (hd vs fun x0 vs => hd vs fun x1 vs => nl vs <|
  bA (mkM [6]) H fun x7 H => 
  bV (bldSp [(0, 1), (1, 1), (2, 1), (3, 1), (4, 1), (5, 1), (6, 1)] [(.int .i64 (.ofNat 0)), .nilMap, .nilSlice, .nilMap, (.int .i64 (.ofNat 0)), .nilSlice, (.bool false)] [(0, x0), (1, x1), (3, x7)]) fun x8 => 
  bA (bxV 270 x8) H fun x9 H => 
  bV (some x9) fun x4 => some (.ret x4, H))
def h100 : Hint := (.s .o (.s .o .o))
theorem f100_eq (D : Dyn) (n : Nat) : f100 D n = funKp (s100 D n) D n 100 Tryz.f100 h100 := by kernel_rfl
theorem f100_ok {D : Dyn} (hD : DP D) (n : Nat) : FP 100 (f100 D n) := fun_okP X_ok hD (SP.nil) Tryz.func100 (by kernel_rfl) (by kernel_rfl) (f100_eq D n)

def s20 (D : Dyn) (n : Nat) : Tb := ⟨X, [(100, f100 D n)]⟩
/-- jetty/disk.New -/
def f20 (D : Dyn) (n : Nat) (vs : List AV) (H : AH) : Option (AV × AH) :=
  outR (hd vs fun x0 vs => nl vs <|
  bV (bInt .lss x0 (.int .i64 (.ofNat 64))) fun x5 => 
  jn (wnt x5 false (bV (bInt .gtr x0 (.int .i64 (.ofNat 8192))) fun x8 => 
  some (.norm [x8], H)) (some (.norm [undefA], H))) fun vs H => hd vs fun x8_2 vs => 
  bV (pk3 (some x5) (some (.bool true)) (some x8_2)) fun x9 => 
  cnd x9 (bV (some .nilPtr) fun x2 => bV (some (.int .i64 (.ofNat 1))) fun x3 => some (.ret (.tuple [x2, x3]), H))
  (bA (mkM [6]) H fun x11 H => 
  bR (f100 D n [x0, x11] H) fun x12 H => 
  bV (some x12) fun x2_2 => bV (some (.int .i64 (.ofNat 0))) fun x3_2 => some (.ret (.tuple [x2_2, x3_2]), H)))
def h20 : Hint := (.s .o (.s (.s .o (.cl (.s .o .o) .o)) (.s .o .o)))
theorem f20_eq (D : Dyn) (n : Nat) : f20 D n = funKp (s20 D n) D n 20 Tryz.f20 h20 := by kernel_rfl
theorem f20_ok {D : Dyn} (hD : DP D) (n : Nat) : FP 20 (f20 D n) := fun_okP X_ok hD (SP.cons (f100_ok hD n) (SP.nil)) Tryz.func20 (by kernel_rfl) (by kernel_rfl) (f20_eq D n)

def s152 (D : Dyn) (n : Nat) : Tb := ⟨X, []⟩
/-- (*jetty/disk.Disk).ask -/
def f152 (D : Dyn) (n : Nat) (vs : List AV) (H : AH) : Option (AV × AH) :=
  outR (hd vs fun x0 vs => nl vs <|
  bV (cmpO .eql (eqP x0 .nilPtr)) fun x4 => 
  cnd x4 (bV (some (.int .i64 (.ofNat 2))) fun x2 => some (.ret x2, H))
  (bV (pNil x0) fun x6 => 
  bV (fAd 6 x6) fun x7 => 
  bV (ld1p x7 H) fun x8 => 
  cnd x8 (bV (some (.int .i64 (.ofNat 51))) fun x2_2 => some (.ret x2_2, H))
  (bV (some (.int .i64 (.ofNat 0))) fun x2_3 => some (.ret x2_3, H))))
def h152 : Hint := (.s .o (.s (.s .o (.cl (.s .o .o) .o)) (.s (.s .o (.cl (.s .o .o) .o)) (.s .o .o))))
theorem f152_eq (D : Dyn) (n : Nat) : f152 D n = funKp (s152 D n) D n 152 Tryz.f152 h152 := by kernel_rfl
theorem f152_ok {D : Dyn} (hD : DP D) (n : Nat) : FP 152 (f152 D n) := fun_okP X_ok hD (SP.nil) Tryz.func152 (by kernel_rfl) (by kernel_rfl) (f152_eq D n)

def s208 (D : Dyn) (n : Nat) : Tb := ⟨X, [(152, f152 D n)]⟩
/-- (*jetty/disk.Disk).askAt -/
def f208 (D : Dyn) (n : Nat) (vs : List AV) (H : AH) : Option (AV × AH) :=
  outR (hd vs fun x0 vs => hd vs fun x1 vs => nl vs <|
  bR (f152 D n [x0] H) fun x7 H => 
  bV (bInt .neq x7 (.int .i64 (.ofNat 0))) fun x9 => 
  cnd x9 (bV (some x7) fun x4 => some (.ret x4, H))
  (bV (bInt .lss x1 (.int .i64 (.ofNat 0))) fun x12 => 
  jn (wnt x12 false (bV (pNil x0) fun x16 => 
  bV (fAd 0 x16) fun x17 => 
  bV (ld1p x17 H) fun x18 => 
  bV (bInt .geq x1 x18) fun x19 => 
  some (.norm [x19], H)) (some (.norm [undefA], H))) fun vs H => hd vs fun x19_2 vs => 
  bV (pk3 (some x12) (some (.bool true)) (some x19_2)) fun x20 => 
  cnd x20 (bV (some (.int .i64 (.ofNat 1))) fun x4_2 => some (.ret x4_2, H))
  (bV (some (.int .i64 (.ofNat 0))) fun x4_3 => some (.ret x4_3, H))))
def h208 : Hint := (.s .o (.s (.s .o (.s .o (.cl (.s .o .o) .o))) (.s (.s .o (.cl (.s .o .o) .o)) (.s .o .o))))
theorem f208_eq (D : Dyn) (n : Nat) : f208 D n = funKp (s208 D n) D n 208 Tryz.f208 h208 := by kernel_rfl
theorem f208_ok {D : Dyn} (hD : DP D) (n : Nat) : FP 208 (f208 D n) := fun_okP X_ok hD (SP.cons (f152_ok hD n) (SP.nil)) Tryz.func208 (by kernel_rfl) (by kernel_rfl) (f208_eq D n)

def s117 (D : Dyn) (n : Nat) : Tb := ⟨X, [(208, f208 D n)]⟩
/-- (*jetty/disk.Disk).Read -/
def f117 (D : Dyn) (n : Nat) (vs : List AV) (H : AH) : Option (AV × AH) :=
  outR (hd vs fun x0 vs => hd vs fun x1 vs => nl vs <|
  bA (bxV 164 (.agg [.pk 512 0])) H fun x4 H => 
  bR (f208 D n [x0, x1] H) fun x11 H => 
  bV (bInt .neq x11 (.int .i64 (.ofNat 0))) fun x13 => 
  cnd x13 (bV (bldAp 1 [.pk 512 0] []) fun x14 => 
  bR (stNp 512 x4 x14 H) fun x9999 H => 
  bV (ldNp 512 x4 H) fun x9004 => bV (some x11) fun x5 => some (.ret (.tuple [x9004, x5]), H))
  (bV (pNil x0) fun x18 => 
  bV (fAd 3 x18) fun x19 => 
  bV (ld1p x19 H) fun x20 => 
  bV (lkM [6] (.int .i64 (.ofNat 0)) true x20 x1 H) fun x22 => 
  bV (pExtract x22 0) fun x23 => 
  bV (pExtract x22 1) fun x24 => 
  cnd x24 (bV (pNil x0) fun x27 => 
  bV (fAd 2 x27) fun x28 => 
  bV (ld1p x28 H) fun x29 => 
  bV (ixSl 513 x29 x23) fun x31 => 
  bV (fAd 1 x31) fun x32 => 
  bV (ldNp 512 x32 H) fun x33 => 
  bR (stNp 512 x4 x33 H) fun x9999_2 H => 
  bV (ldNp 512 x4 H) fun x9004_2 => bV (some (.int .i64 (.ofNat 0))) fun x5_2 => some (.ret (.tuple [x9004_2, x5_2]), H))
  (bV (pNil x0) fun x35 => 
  bV (fAd 1 x35) fun x36 => 
  bV (ld1p x36 H) fun x37 => 
  bV (lkM [6] (.agg [.pk 512 0]) false x37 x1 H) fun x39 => 
  bR (stNp 512 x4 x39 H) fun x9999_3 H => 
  bV (ldNp 512 x4 H) fun x9004_3 => bV (some (.int .i64 (.ofNat 0))) fun x5_3 => some (.ret (.tuple [x9004_3, x5_3]), H))))
def h117 : Hint := (.s .o (.s (.s .o (.s .o (.cl (.s .o .o) .o))) (.s (.s .o (.s .o (.cl (.s .o .o) .o))) (.s .o .o))))
theorem f117_eq (D : Dyn) (n : Nat) : f117 D n = funKp (s117 D n) D n 117 Tryz.f117 h117 := by kernel_rfl
theorem f117_ok {D : Dyn} (hD : DP D) (n : Nat) : FP 117 (f117 D n) := fun_okP X_ok hD (SP.cons (f208_ok hD n) (SP.nil)) Tryz.func117 (by kernel_rfl) (by kernel_rfl) (f117_eq D n)

def s219 (D : Dyn) (n : Nat) : Tb := ⟨X, []⟩
def f219l0 (D : Dyn) (n : Nat) (vs : List AV) (H : AH) : Rs :=
  hd vs fun x3 vs => hd vs fun x6 vs => hd vs fun x7_2 vs => hd vs fun x8 vs => 
  bV (bInt .lss x8 x7_2) fun x9 => 
  cnd x9 (bV (ixSl 1 x6 x8) fun x10 => 
  bV (ld1p x10 H) fun x11 => 
  bV (bInt .shl x3 (.int .u64 (.ofNat 8))) fun x13 => 
  bV (cvI .u64 x11) fun x15 => 
  bV (bInt .or x13 x15) fun x16 => 
  bV (bInt .add x8 (.int .i64 (.ofNat 1))) fun x17 => 
  some (.norm [x16, x6, x7_2, x17], H))
  (some (.exit 0 [x3], H))
def f219b1 (D : Dyn) (n : Nat) (vs : List AV) (H : AH) : Rs :=
  hd vs fun x3_2 vs => 
  bV (some x3_2) fun x2 => some (.ret x2, H)
/-- jetty/block.get -/
def f219 (D : Dyn) (n : Nat) (vs : List AV) (H : AH) : Option (AV × AH) :=
  outR (hd vs fun x0 vs => nl vs <|
  bV (lnSl x0) fun x7 => 
  jb 0 (loopK n (f219l0 D n) [(.int .u64 (.ofNat 0)), x0, x7, (.int .i64 (.ofNat 0))] H) (f219b1 D n))
def h219 : Hint := (.s .o (.s .o (.s (.s .o (.b [3] (.l [3, 6, 7, 8] (.s .o (.s (.cr .o .o) (.s (.b0 (.s .o .o)) .o)))))) (.s .o .o))))
theorem f219_eq (D : Dyn) (n : Nat) : f219 D n = funKp (s219 D n) D n 219 Tryz.f219 h219 := by kernel_rfl
theorem f219_ok {D : Dyn} (hD : DP D) (n : Nat) : FP 219 (f219 D n) := fun_okP X_ok hD (SP.nil) Tryz.func219 (by kernel_rfl) (by kernel_rfl) (f219_eq D n)

def s151 (D : Dyn) (n : Nat) : Tb := ⟨X, []⟩
def f151l0 (D : Dyn) (n : Nat) (vs : List AV) (H : AH) : Rs :=
  hd vs fun x0_2 vs => hd vs fun x1_2 vs => hd vs fun x6_2 vs => hd vs fun x7 vs => 
  bV (bInt .lss x7 x6_2) fun x8 => 
  cnd x8 (bV (lnSl x0_2) fun x12 => 
  bV (bInt .sub x12 (.int .i64 (.ofNat 1))) fun x13 => 
  bV (bInt .sub x13 x7) fun x15 => 
  bV (bInt .mul (.int .i64 (.ofNat 8)) x7) fun x18 => 
  bV (bInt .shr x1_2 x18) fun x19 => 
  bV (cvI .u8 x19) fun x20 => 
  bV (ixSl 1 x0_2 x15) fun x21 => 
  bR (stNp 1 x21 x20 H) fun x9999 H => 
  bV (bInt .add x7 (.int .i64 (.ofNat 1))) fun x22 => 
  some (.norm [x0_2, x1_2, x6_2, x22], H))
  (some (.exit 0 [], H))
def f151b1 (D : Dyn) (n : Nat) (vs : List AV) (H : AH) : Rs :=
  
  some (.ret (.tuple []), H)
/-- jetty/block.put -/
def f151 (D : Dyn) (n : Nat) (vs : List AV) (H : AH) : Option (AV × AH) :=
  outR (hd vs fun x0 vs => hd vs fun x1 vs => nl vs <|
  bV (lnSl x0) fun x6 => 
  jb 0 (loopK n (f151l0 D n) [x0, x1, x6, (.int .i64 (.ofNat 0))] H) (f151b1 D n))
def h151 : Hint := (.s .o (.b [] (.l [0, 1, 6, 7] (.s .o (.s (.cr .o .o) (.s (.b0 (.s .o .o)) .o))))))
theorem f151_eq (D : Dyn) (n : Nat) : f151 D n = funKp (s151 D n) D n 151 Tryz.f151 h151 := by kernel_rfl
theorem f151_ok {D : Dyn} (hD : DP D) (n : Nat) : FP 151 (f151 D n) := fun_okP X_ok hD (SP.nil) Tryz.func151 (by kernel_rfl) (by kernel_rfl) (f151_eq D n)

def s120 (D : Dyn) (n : Nat) : Tb := ⟨X, [(151, f151 D n)]⟩
/-- jetty/block.Seal -/
def f120 (D : Dyn) (n : Nat) (vs : List AV) (H : AH) : Option (AV × AH) :=
  outR (hd vs fun x0 vs => hd vs fun x1 vs => hd vs fun x2 vs => nl vs <|
  bA (bxV 164 (.agg [.pk 512 0])) H fun x6 H => 
  bV (bInt .lss x1 (.int .i64 (.ofNat 0))) fun x10 => 
  jn (wnt x10 false (bV (bInt .gtr x1 (.int .i64 (.ofNat 2147483647))) fun x13 => 
  some (.norm [x13], H)) (some (.norm [undefA], H))) fun vs H => hd vs fun x13_2 vs => 
  bV (pk3 (some x10) (some (.bool true)) (some x13_2)) fun x14 => 
  cnd x14 (bV (bldAp 1 [.pk 512 0] []) fun x15 => 
  bR (stNp 512 x6 x15 H) fun x9999 H => 
  bV (ldNp 512 x6 H) fun x9006 => bV (some (.int .i64 (.ofNat 1))) fun x7 => some (.ret (.tuple [x9006, x7]), H))
  (bV (lnStr x2) fun x17 => 
  bV (bInt .gtr x17 (.int .i64 (.ofNat 500))) fun x18 => 
  cnd x18 (bV (bldAp 1 [.pk 512 0] []) fun x19 => 
  bR (stNp 512 x6 x19 H) fun x9999_2 H => 
  bV (ldNp 512 x6 H) fun x9006_2 => bV (some (.int .i64 (.ofNat 40))) fun x7_2 => some (.ret (.tuple [x9006_2, x7_2]), H))
  (bA (bxV 164 (.agg [.pk 512 0])) H fun x8 H => 
  bV (slArr 512 1 x8 none none none) fun x20 => 
  bR (cpyp 1 x20 (.str 4 2037675114) H) fun x21 H => 
  bV (ixArr 512 1 x8 (.int .i64 (.ofNat 4))) fun x23 => 
  bR (stNp 1 x23 x0 H) fun x9999_3 H => 
  bV (slArr 512 1 x8 (some (.int .i64 (.ofNat 6))) (some (.int .i64 (.ofNat 8))) none) fun x24 => 
  bV (lnStr x2) fun x26 => 
  bV (cvI .u64 x26) fun x27 => 
  bR (f151 D n [x24, x27] H) fun x28 H => 
  bV (slArr 512 1 x8 (some (.int .i64 (.ofNat 8))) (some (.int .i64 (.ofNat 12))) none) fun x29 => 
  bV (cvI .u64 x1) fun x31 => 
  bR (f151 D n [x29, x31] H) fun x32 H => 
  bV (slArr 512 1 x8 (some (.int .i64 (.ofNat 12))) none none) fun x33 => 
  bR (cpyp 1 x33 x2 H) fun x35 H => 
  bV (ldNp 512 x8 H) fun x36 => 
  bR (stNp 512 x6 x36 H) fun x9999_4 H => 
  bV (ldNp 512 x6 H) fun x9006_3 => bV (some (.int .i64 (.ofNat 0))) fun x7_3 => some (.ret (.tuple [x9006_3, x7_3]), H))))
def h120 : Hint := (.s .o (.s (.s .o (.cl (.s .o .o) .o)) (.s (.s .o (.cl (.s .o .o) .o)) (.s .o (.s .o (.s .o (.s .o (.s .o (.s .o (.s .o .o))))))))))
theorem f120_eq (D : Dyn) (n : Nat) : f120 D n = funKp (s120 D n) D n 120 Tryz.f120 h120 := by kernel_rfl
theorem f120_ok {D : Dyn} (hD : DP D) (n : Nat) : FP 120 (f120 D n) := fun_okP X_ok hD (SP.cons (f151_ok hD n) (SP.nil)) Tryz.func120 (by kernel_rfl) (by kernel_rfl) (f120_eq D n)

def s210 (D : Dyn) (n : Nat) : Tb := ⟨X, [(219, f219 D n), (120, f120 D n)]⟩
/-- jetty/block.Open -/
def f210 (D : Dyn) (n : Nat) (vs : List AV) (H : AH) : Option (AV × AH) :=
  outR (hd vs fun x0 vs => nl vs <|
  bA (bxV 164 x0) H fun x1 H => 
  bV (slArr 512 1 x1 (some (.int .i64 (.ofNat 6))) (some (.int .i64 (.ofNat 8))) none) fun x8 => 
  bR (f219 D n [x8] H) fun x9 H => 
  bV (bInt .gtr x9 (.int .u64 (.ofNat 500))) fun x11 => 
  cnd x11 (bV (some (.int .u8 (.ofNat 0))) fun x2 => bV (some (.int .i64 (.ofNat 0))) fun x3 => bV (some (.str 0 0)) fun x4 => bV (some (.int .i64 (.ofNat 4))) fun x5 => some (.ret (.tuple [x2, x3, x4, x5]), H))
  (bV (ixArr 512 1 x1 (.int .i64 (.ofNat 4))) fun x12 => 
  bV (ld1p x12 H) fun x13 => 
  bV (slArr 512 1 x1 (some (.int .i64 (.ofNat 8))) (some (.int .i64 (.ofNat 12))) none) fun x14 => 
  bR (f219 D n [x14] H) fun x15 H => 
  bV (cvI .i64 x15) fun x16 => 
  bV (bInt .add (.int .u64 (.ofNat 12)) x9) fun x18 => 
  bV (slArr 512 1 x1 (some (.int .i64 (.ofNat 12))) (some x18) none) fun x19 => 
  bV (cvBSp x19 H) fun x20 => 
  bR (f120 D n [x13, x16, x20] H) fun x25 H => 
  bV (pExtract x25 0) fun x26 => 
  bV (pExtract x25 1) fun x27 => 
  bA (bxV 164 (.agg [.pk 512 0])) H fun x7 H => 
  bR (stNp 512 x7 x26 H) fun x9999 H => 
  bV (bInt .neq x27 (.int .i64 (.ofNat 0))) fun x29 => 
  jn (wnt x29 false (bV (ldNp 512 x7 H) fun x31 => 
  bV (ldNp 512 x1 H) fun x32 => 
  bV (cmpO .neq (eqAp [(7, 512)] x31 x32)) fun x33 => 
  some (.norm [x33], H)) (some (.norm [undefA], H))) fun vs H => hd vs fun x33_2 vs => 
  bV (pk3 (some x29) (some (.bool true)) (some x33_2)) fun x34 => 
  cnd x34 (bV (some (.int .u8 (.ofNat 0))) fun x2_2 => bV (some (.int .i64 (.ofNat 0))) fun x3_2 => bV (some (.str 0 0)) fun x4_2 => bV (some (.int .i64 (.ofNat 4))) fun x5_2 => some (.ret (.tuple [x2_2, x3_2, x4_2, x5_2]), H))
  (bV (some x13) fun x2_3 => bV (some x16) fun x3_3 => bV (some x20) fun x4_3 => bV (some (.int .i64 (.ofNat 0))) fun x5_3 => some (.ret (.tuple [x2_3, x3_3, x4_3, x5_3]), H))))
def h210 : Hint := (.s .o (.s .o (.s (.s .o (.cl (.s .o .o) .o)) (.s .o (.s .o (.s .o (.s .o (.s (.s .o (.cl (.s .o .o) .o)) (.s .o .o)))))))))
theorem f210_eq (D : Dyn) (n : Nat) : f210 D n = funKp (s210 D n) D n 210 Tryz.f210 h210 := by kernel_rfl
theorem f210_ok {D : Dyn} (hD : DP D) (n : Nat) : FP 210 (f210 D n) := fun_okP X_ok hD (SP.cons (f219_ok hD n) (SP.cons (f120_ok hD n) (SP.nil))) Tryz.func210 (by kernel_rfl) (by kernel_rfl) (f210_eq D n)

def s290 (D : Dyn) (n : Nat) : Tb := ⟨X, []⟩
/-- bytes.Clone -/
def f290 (D : Dyn) (n : Nat) (vs : List AV) (H : AH) : Option (AV × AH) :=
  outR (hd vs fun x0 vs => nl vs <|
  bV (cmpO .eql (eqS x0 .nilSlice)) fun x4 => 
  cnd x4 (bV (some .nilSlice) fun x2 => some (.ret x2, H))
  (bA (bldLp 5 1 0 [(.int .u8 (.ofNat 0))] []) H fun x5 H => 
  bR (apPp 5 1 1 x5 x0 H) fun x7 H => 
  bV (some x7) fun x2_2 => some (.ret x2_2, H)))
def h290 : Hint := (.s .o (.s (.s .o (.cl (.s .o .o) .o)) (.s .o .o)))
theorem f290_eq (D : Dyn) (n : Nat) : f290 D n = funKp (s290 D n) D n 290 Tryz.f290 h290 := by kernel_rfl
theorem f290_ok {D : Dyn} (hD : DP D) (n : Nat) : FP 290 (f290 D n) := fun_okP X_ok hD (SP.nil) Tryz.func290 (by kernel_rfl) (by kernel_rfl) (f290_eq D n)

def s275 (D : Dyn) (n : Nat) : Tb := ⟨X, [(290, f290 D n)]⟩
/-- jetty/xdr.NewReader -/
def f275 (D : Dyn) (n : Nat) (vs : List AV) (H : AH) : Option (AV × AH) :=
  outR (hd vs fun x0 vs => nl vs <|
  bR (f290 D n [x0] H) fun x4 H => 
  bV (bldSp [(0, 1), (1, 1)] [.nilSlice, (.bool false)] [(0, x4)]) fun x5 => 
  bA (bxV 376 x5) H fun x6 H => 
  bV (some x6) fun x2 => some (.ret x2, H))
def h275 : Hint := (.s .o (.s .o .o))
theorem f275_eq (D : Dyn) (n : Nat) : f275 D n = funKp (s275 D n) D n 275 Tryz.f275 h275 := by kernel_rfl
theorem f275_ok {D : Dyn} (hD : DP D) (n : Nat) : FP 275 (f275 D n) := fun_okP X_ok hD (SP.cons (f290_ok hD n) (SP.nil)) Tryz.func275 (by kernel_rfl) (by kernel_rfl) (f275_eq D n)

def s299 (D : Dyn) (n : Nat) : Tb := ⟨X, []⟩
def f299j0 (D : Dyn) (n : Nat) (vs : List AV) (H : AH) : Rs :=
  
  some (.ret (.tuple []), H)
/-- (*jetty/xdr.Reader).spoil -/
def f299 (D : Dyn) (n : Nat) (vs : List AV) (H : AH) : Option (AV × AH) :=
  outR (hd vs fun x0 vs => nl vs <|
  bV (cmpO .neq (eqP x0 .nilPtr)) fun x3 => 
  jn (cnd x3 (bV (pNil x0) fun x5 => 
  bV (fAd 1 x5) fun x6 => 
  bR (stNp 1 x6 (.bool true) H) fun x9999 H => 
  bV (pNil x0) fun x8 => 
  bV (fAd 0 x8) fun x9 => 
  bR (stNp 1 x9 .nilSlice H) fun x9999_2 H => 
  some (.norm [], H))
  (some (.norm [], H))) (f299j0 D n))
def h299 : Hint := (.s .o (.c [] (.s .o .o) .o))
theorem f299_eq (D : Dyn) (n : Nat) : f299 D n = funKp (s299 D n) D n 299 Tryz.f299 h299 := by kernel_rfl
theorem f299_ok {D : Dyn} (hD : DP D) (n : Nat) : FP 299 (f299 D n) := fun_okP X_ok hD (SP.nil) Tryz.func299 (by kernel_rfl) (by kernel_rfl) (f299_eq D n)

def s296 (D : Dyn) (n : Nat) : Tb := ⟨X, [(299, f299 D n)]⟩
/-- (*jetty/xdr.Reader).take -/
def f296 (D : Dyn) (n : Nat) (vs : List AV) (H : AH) : Option (AV × AH) :=
  outR (hd vs fun x0 vs => hd vs fun x1 vs => nl vs <|
  bV (cmpO .eql (eqP x0 .nilPtr)) fun x8 => 
  jn (wnt x8 false (bV (pNil x0) fun x11 => 
  bV (fAd 1 x11) fun x12 => 
  bV (ld1p x12 H) fun x13 => 
  some (.norm [x13], H)) (some (.norm [undefA], H))) fun vs H => hd vs fun x13_2 vs => 
  bV (pk3 (some x8) (some (.bool true)) (some x13_2)) fun x14 => 
  cnd x14 (bV (some .nilSlice) fun x4 => bV (some (.bool false)) fun x5 => some (.ret (.tuple [x4, x5]), H))
  (bV (bInt .lss x1 (.int .i64 (.ofNat 0))) fun x16 => 
  jn (wnt x16 false (bV (pNil x0) fun x20 => 
  bV (fAd 0 x20) fun x21 => 
  bV (ld1p x21 H) fun x22 => 
  bV (lnSl x22) fun x23 => 
  bV (bInt .gtr x1 x23) fun x24 => 
  some (.norm [x24], H)) (some (.norm [undefA], H))) fun vs H => hd vs fun x24_2 vs => 
  bV (pk3 (some x16) (some (.bool true)) (some x24_2)) fun x25 => 
  cnd x25 (bR (f299 D n [x0] H) fun x27 H => 
  bV (some .nilSlice) fun x4_2 => bV (some (.bool false)) fun x5_2 => some (.ret (.tuple [x4_2, x5_2]), H))
  (bV (pNil x0) fun x29 => 
  bV (fAd 0 x29) fun x30 => 
  bV (ld1p x30 H) fun x31 => 
  bV (slSlp 1 x31 none (some x1) (some x1) H) fun x34 => 
  bV (pNil x0) fun x37 => 
  bV (fAd 0 x37) fun x38 => 
  bV (ld1p x38 H) fun x39 => 
  bV (slSlp 1 x39 (some x1) none none H) fun x41 => 
  bV (pNil x0) fun x42 => 
  bV (fAd 0 x42) fun x43 => 
  bR (stNp 1 x43 x41 H) fun x9999 H => 
  bV (some x34) fun x4_3 => bV (some (.bool true)) fun x5_3 => some (.ret (.tuple [x4_3, x5_3]), H))))
def h296 : Hint := (.s .o (.s (.s .o (.cl (.s .o .o) .o)) (.s (.s .o (.cl (.s .o (.s .o .o)) .o)) (.s .o (.s .o (.s .o .o))))))
theorem f296_eq (D : Dyn) (n : Nat) : f296 D n = funKp (s296 D n) D n 296 Tryz.f296 h296 := by kernel_rfl
theorem f296_ok {D : Dyn} (hD : DP D) (n : Nat) : FP 296 (f296 D n) := fun_okP X_ok hD (SP.cons (f299_ok hD n) (SP.nil)) Tryz.func296 (by kernel_rfl) (by kernel_rfl) (f296_eq D n)

def s291 (D : Dyn) (n : Nat) : Tb := ⟨X, [(296, f296 D n)]⟩
def f291l0 (D : Dyn) (n : Nat) (vs : List AV) (H : AH) : Rs :=
  hd vs fun x6 vs => hd vs fun x19_2 vs => hd vs fun x20 vs => 
  bV (bInt .lss x20 (.int .i64 (.ofNat 4))) fun x21 => 
  cnd x21 (bV (ixAg1p 4 1 x19_2 x20) fun x22 => 
  bV (bInt .shl x6 (.int .u64 (.ofNat 8))) fun x24 => 
  bV (cvI .u32 x22) fun x26 => 
  bV (bInt .or x24 x26) fun x27 => 
  bV (bInt .add x20 (.int .i64 (.ofNat 1))) fun x28 => 
  some (.norm [x27, x19_2, x28], H))
  (some (.exit 0 [x6], H))
def f291b1 (D : Dyn) (n : Nat) (vs : List AV) (H : AH) : Rs :=
  hd vs fun x6_2 vs => 
  bV (some x6_2) fun x2_2 => some (.ret x2_2, H)
/-- (*jetty/xdr.Reader).Word -/
def f291 (D : Dyn) (n : Nat) (vs : List AV) (H : AH) : Option (AV × AH) :=
  outR (hd vs fun x0 vs => nl vs <|
  bR (f296 D n [x0, (.int .i64 (.ofNat 4))] H) fun x11 H => 
  bV (pExtract x11 0) fun x12 => 
  bV (pExtract x11 1) fun x13 => 
  bV (aun .not x13) fun x15 => 
  cnd x15 (bV (some (.int .u32 (.ofNat 0))) fun x2 => some (.ret x2, H))
  (bV (s2a 4 x12) fun x17 => 
  bV (ldNp 4 x17 H) fun x18 => 
  bA (bxV 329 (.agg [.pk 4 0])) H fun x5 H => 
  bR (stNp 4 x5 x18 H) fun x9999 H => 
  bV (ldNp 4 x5 H) fun x19 => 
  jb 0 (loopK n (f291l0 D n) [(.int .u32 (.ofNat 0)), x19, (.int .i64 (.ofNat 0))] H) (f291b1 D n)))
def h291 : Hint := (.s .o (.s .o (.s (.s .o (.cl (.s .o .o) .o)) (.s .o (.s .o (.s (.s .o (.b [6] (.l [6, 19, 20] (.s .o (.s (.cr .o .o) (.s (.b0 (.s .o .o)) .o)))))) (.s .o .o)))))))
theorem f291_eq (D : Dyn) (n : Nat) : f291 D n = funKp (s291 D n) D n 291 Tryz.f291 h291 := by kernel_rfl
theorem f291_ok {D : Dyn} (hD : DP D) (n : Nat) : FP 291 (f291 D n) := fun_okP X_ok hD (SP.cons (f296_ok hD n) (SP.nil)) Tryz.func291 (by kernel_rfl) (by kernel_rfl) (f291_eq D n)

def s292 (D : Dyn) (n : Nat) : Tb := ⟨X, []⟩
/-- (*jetty/xdr.Reader).OK -/
def f292 (D : Dyn) (n : Nat) (vs : List AV) (H : AH) : Option (AV × AH) :=
  outR (hd vs fun x0 vs => nl vs <|
  bV (cmpO .neq (eqP x0 .nilPtr)) fun x4 => 
  jn (wnt x4 true (bV (pNil x0) fun x7 => 
  bV (fAd 1 x7) fun x8 => 
  bV (ld1p x8 H) fun x9 => 
  bV (aun .not x9) fun x10 => 
  some (.norm [x10], H)) (some (.norm [undefA], H))) fun vs H => hd vs fun x10_2 vs => 
  bV (pk3 (some x4) (some x10_2) (some (.bool false))) fun x11 => 
  bV (some x11) fun x2 => some (.ret x2, H))
def h292 : Hint := (.s .o (.s .o .o))
theorem f292_eq (D : Dyn) (n : Nat) : f292 D n = funKp (s292 D n) D n 292 Tryz.f292 h292 := by kernel_rfl
theorem f292_ok {D : Dyn} (hD : DP D) (n : Nat) : FP 292 (f292 D n) := fun_okP X_ok hD (SP.nil) Tryz.func292 (by kernel_rfl) (by kernel_rfl) (f292_eq D n)

def s276 (D : Dyn) (n : Nat) : Tb := ⟨X, [(291, f291 D n), (292, f292 D n)]⟩
/-- (*jetty/xdr.Reader).Long -/
def f276 (D : Dyn) (n : Nat) (vs : List AV) (H : AH) : Option (AV × AH) :=
  outR (hd vs fun x0 vs => nl vs <|
  bR (f291 D n [x0] H) fun x6 H => 
  bR (f291 D n [x0] H) fun x8 H => 
  bR (f292 D n [x0] H) fun x10 H => 
  bV (aun .not x10) fun x11 => 
  cnd x11 (bV (some (.int .u64 (.ofNat 0))) fun x2 => some (.ret x2, H))
  (bV (cvI .u64 x6) fun x13 => 
  bV (bInt .shl x13 (.int .u64 (.ofNat 32))) fun x14 => 
  bV (cvI .u64 x8) fun x16 => 
  bV (bInt .or x14 x16) fun x17 => 
  bV (some x17) fun x2_2 => some (.ret x2_2, H)))
def h276 : Hint := (.s .o (.s .o (.s .o (.s (.s .o (.cl (.s .o .o) .o)) (.s .o .o)))))
theorem f276_eq (D : Dyn) (n : Nat) : f276 D n = funKp (s276 D n) D n 276 Tryz.f276 h276 := by kernel_rfl
theorem f276_ok {D : Dyn} (hD : DP D) (n : Nat) : FP 276 (f276 D n) := fun_okP X_ok hD (SP.cons (f291_ok hD n) (SP.cons (f292_ok hD n) (SP.nil))) Tryz.func276 (by kernel_rfl) (by kernel_rfl) (f276_eq D n)

def s193 (D : Dyn) (n : Nat) : Tb := ⟨X, []⟩
def f193l0 (D : Dyn) (n : Nat) (vs : List AV) (H : AH) : Rs :=
  hd vs fun x0_2 vs => hd vs fun x1_2 vs => hd vs fun x7_2 vs => hd vs fun x8 vs => 
  bV (bInt .lss x8 x7_2) fun x9 => 
  cnd x9 (bV (ixStr x1_2 x8) fun x14 => 
  bV (cvI .u64 x14) fun x15 => 
  bV (bInt .xor x0_2 x15) fun x16 => 
  bV (bInt .mul x16 (.int .u64 (.ofNat 1099511628211))) fun x17 => 
  bV (bInt .add x8 (.int .i64 (.ofNat 1))) fun x18 => 
  some (.norm [x17, x1_2, x7_2, x18], H))
  (some (.exit 0 [x0_2], H))
def f193b1 (D : Dyn) (n : Nat) (vs : List AV) (H : AH) : Rs :=
  hd vs fun x0_3 vs => 
  bV (some x0_3) fun x4 => some (.ret x4, H)
/-- jetty/digest.sum[string] -/
def f193 (D : Dyn) (n : Nat) (vs : List AV) (H : AH) : Option (AV × AH) :=
  outR (hd vs fun x0 vs => hd vs fun x1 vs => nl vs <|
  bV (lnStr x1) fun x7 => 
  jb 0 (loopK n (f193l0 D n) [x0, x1, x7, (.int .i64 (.ofNat 0))] H) (f193b1 D n))
def h193 : Hint := (.s .o (.s (.s .o (.b [0] (.l [0, 1, 7, 8] (.s .o (.s (.cr .o .o) (.s (.b0 (.s .o .o)) .o)))))) (.s .o .o)))
theorem f193_eq (D : Dyn) (n : Nat) : f193 D n = funKp (s193 D n) D n 193 Tryz.f193 h193 := by kernel_rfl
theorem f193_ok {D : Dyn} (hD : DP D) (n : Nat) : FP 193 (f193 D n) := fun_okP X_ok hD (SP.nil) Tryz.func193 (by kernel_rfl) (by kernel_rfl) (f193_eq D n)
def m193 (D : Dyn) (n : Nat) (vs : List AV) (H : AH) : Option (AV × AH) := sumK (f193 D n) vs H
theorem m193_ok {D : Dyn} (hD : DP D) (n : Nat) : FP 193 (m193 D n) := sumK_okP (F := f193 D) rfl (fun n => f193_ok hD n) n

def s224 (D : Dyn) (n : Nat) : Tb := ⟨X, [(193, m193 D n)]⟩
/-- jetty/digest.Sum -/
def f224 (D : Dyn) (n : Nat) (vs : List AV) (H : AH) : Option (AV × AH) :=
  outR (hd vs fun x0 vs => nl vs <|
  bR (m193 D n [(.int .u64 (.ofNat 14695981039346656037)), x0] H) fun x4 H => 
  bV (some x4) fun x2 => some (.ret x2, H))
def h224 : Hint := (.s .o (.s .o .o))
theorem f224_eq (D : Dyn) (n : Nat) : f224 D n = funKp (s224 D n) D n 224 Tryz.f224 h224 := by kernel_rfl
theorem f224_ok {D : Dyn} (hD : DP D) (n : Nat) : FP 224 (f224 D n) := fun_okP X_ok hD (SP.cons (m193_ok hD n) (SP.nil)) Tryz.func224 (by kernel_rfl) (by kernel_rfl) (f224_eq D n)

def s218 (D : Dyn) (n : Nat) : Tb := ⟨X, [(210, f210 D n), (275, f275 D n), (276, f276 D n), (224, f224 D n)]⟩
/-- jetty/ring.Open -/
def f218 (D : Dyn) (n : Nat) (vs : List AV) (H : AH) : Option (AV × AH) :=
  outR (hd vs fun x0 vs => nl vs <|
  bA (bxV 164 x0) H fun x1 H => 
  bA (bxV 103 (.agg [(.int .i64 (.ofNat 0)), (.str 0 0)])) H fun x2 H => 
  bV (ldNp 512 x1 H) fun x10 => 
  bR (f210 D n [x10] H) fun x11 H => 
  bV (pExtract x11 0) fun x12 => 
  bV (pExtract x11 1) fun x13 => 
  bV (pExtract x11 2) fun x14 => 
  bV (pExtract x11 3) fun x15 => 
  bV (bInt .neq x15 (.int .i64 (.ofNat 0))) fun x17 => 
  jn (wnt x17 false (bV (bInt .neq x12 (.int .u8 (.ofNat 3))) fun x20 => 
  some (.norm [x20], H)) (some (.norm [undefA], H))) fun vs H => hd vs fun x20_2 vs => 
  bV (pk3 (some x17) (some (.bool true)) (some x20_2)) fun x21 => 
  jn (wnt x21 false (bV (lnStr x14) fun x24 => 
  bV (bInt .lss x24 (.int .i64 (.ofNat 8))) fun x25 => 
  some (.norm [x25], H)) (some (.norm [undefA], H))) fun vs H => hd vs fun x25_2 vs => 
  bV (pk3 (some x21) (some (.bool true)) (some x25_2)) fun x26 => 
  jn (wnt x26 false (bV (bInt .lss x13 (.int .i64 (.ofNat 1))) fun x29 => 
  some (.norm [x29], H)) (some (.norm [undefA], H))) fun vs H => hd vs fun x29_2 vs => 
  bV (pk3 (some x26) (some (.bool true)) (some x29_2)) fun x30 => 
  cnd x30 (bV (bldSp [(0, 1), (1, 1)] [(.int .i64 (.ofNat 0)), (.str 0 0)] []) fun x31 => 
  bR (stNp 2 x2 x31 H) fun x9999 H => 
  bV (ldNp 2 x2 H) fun x9002 => bV (some (.int .i64 (.ofNat 4))) fun x3 => some (.ret (.tuple [x9002, x3]), H))
  (bV (slStr x14 (some (.int .i64 (.ofNat 8))) none) fun x34 => 
  bV (bldSp [(0, 1), (1, 1)] [(.int .i64 (.ofNat 0)), (.str 0 0)] [(0, x13), (1, x34)]) fun x35 => 
  bA (bxV 103 (.agg [(.int .i64 (.ofNat 0)), (.str 0 0)])) H fun x8 H => 
  bR (stNp 2 x8 x35 H) fun x9999_2 H => 
  bV (slStr x14 none (some (.int .i64 (.ofNat 8)))) fun x37 => 
  bA (cvSBp 5 x37) H fun x38 H => 
  bV (fAd 1 x8) fun x41 => 
  bV (ld1p x41 H) fun x42 => 
  bR (f275 D n [x38] H) fun x39 H => chk (ld1p x41 H) x42 <| 
  bR (f276 D n [x39] H) fun x40 H => chk (ld1p x41 H) x42 <| 
  bR (f224 D n [x42] H) fun x43 H => 
  bV (bInt .neq x40 x43) fun x44 => 
  cnd x44 (bV (bldSp [(0, 1), (1, 1)] [(.int .i64 (.ofNat 0)), (.str 0 0)] []) fun x45 => 
  bR (stNp 2 x2 x45 H) fun x9999_3 H => 
  bV (ldNp 2 x2 H) fun x9002_2 => bV (some (.int .i64 (.ofNat 52))) fun x3_2 => some (.ret (.tuple [x9002_2, x3_2]), H))
  (bV (ldNp 2 x8 H) fun x46 => 
  bR (stNp 2 x2 x46 H) fun x9999_4 H => 
  bV (ldNp 2 x2 H) fun x9002_3 => bV (some (.int .i64 (.ofNat 0))) fun x3_3 => some (.ret (.tuple [x9002_3, x3_3]), H))))
def h218 : Hint := (.s .o (.s .o (.s (.s .o (.cl (.s .o .o) .o)) (.s .o (.s (.s .o (.cl (.s .o .o) .o)) (.s .o .o))))))
theorem f218_eq (D : Dyn) (n : Nat) : f218 D n = funKp (s218 D n) D n 218 Tryz.f218 h218 := by kernel_rfl
theorem f218_ok {D : Dyn} (hD : DP D) (n : Nat) : FP 218 (f218 D n) := fun_okP X_ok hD (SP.cons (f210_ok hD n) (SP.cons (f275_ok hD n) (SP.cons (f276_ok hD n) (SP.cons (f224_ok hD n) (SP.nil))))) Tryz.func218 (by kernel_rfl) (by kernel_rfl) (f218_eq D n)

def s149 (D : Dyn) (n : Nat) : Tb := ⟨X, []⟩
/-- jetty/ring.Place -/
def f149 (D : Dyn) (n : Nat) (vs : List AV) (H : AH) : Option (AV × AH) :=
  outR (hd vs fun x0 vs => nl vs <|
  bV (bInt .lss x0 (.int .i64 (.ofNat 0))) fun x4 => 
  cnd x4 (bV (some (.int .i64 (.ofNat 0))) fun x2 => some (.ret x2, H))
  (bV (bInt .rem x0 (.int .i64 (.ofNat 2))) fun x6 => 
  bV (some x6) fun x2_2 => some (.ret x2_2, H)))
def h149 : Hint := (.s .o (.s (.s .o (.cl (.s .o .o) .o)) (.s .o .o)))
theorem f149_eq (D : Dyn) (n : Nat) : f149 D n = funKp (s149 D n) D n 149 Tryz.f149 h149 := by kernel_rfl
theorem f149_ok {D : Dyn} (hD : DP D) (n : Nat) : FP 149 (f149 D n) := fun_okP X_ok hD (SP.nil) Tryz.func149 (by kernel_rfl) (by kernel_rfl) (f149_eq D n)

def s134 (D : Dyn) (n : Nat) : Tb := ⟨X, [(117, f117 D n), (218, f218 D n), (149, f149 D n)]⟩
def f134j0 (D : Dyn) (n : Nat) (vs : List AV) (H : AH) : Rs :=
  hd vs fun x0_3 vs => hd vs fun x2_3 vs => hd vs fun x4_3 vs => hd vs fun x12_2 vs => 
  bV (bInt .add x12_2 (.int .i64 (.ofNat 1))) fun x47 => 
  some (.norm [x0_3, x2_3, x4_3, x47], H)
def f134l1 (D : Dyn) (n : Nat) (vs : List AV) (H : AH) : Rs :=
  hd vs fun x0_2 vs => hd vs fun x2_2 vs => hd vs fun x4_2 vs => hd vs fun x12 vs => 
  bV (bInt .lss x12 (.int .i64 (.ofNat 2))) fun x13 => 
  cnd x13 (bR (f117 D n [x0_2, x12] H) fun x18 H => 
  bV (pExtract x18 0) fun x19 => 
  bV (pExtract x18 1) fun x20 => 
  bA (bxV 164 (.agg [.pk 512 0])) H fun x6 H => 
  bR (stNp 512 x6 x19 H) fun x9999_2 H => 
  bV (bInt .neq x20 (.int .i64 (.ofNat 0))) fun x22 => 
  cnd x22 (bV (bldSp [(0, 1), (1, 1)] [(.int .i64 (.ofNat 0)), (.str 0 0)] []) fun x23 => 
  bR (stNp 2 x2_2 x23 H) fun x9999_3 H => 
  bV (ldNp 2 x2_2 H) fun x9002_2 => bV (some x20) fun x3_2 => some (.ret (.tuple [x9002_2, x3_2]), H))
  (bV (ldNp 512 x6 H) fun x26 => 
  bR (f218 D n [x26] H) fun x27 H => 
  bV (pExtract x27 0) fun x28 => 
  bV (pExtract x27 1) fun x29 => 
  bA (bxV 103 (.agg [(.int .i64 (.ofNat 0)), (.str 0 0)])) H fun x8 H => 
  bR (stNp 2 x8 x28 H) fun x9999_4 H => 
  bV (bInt .eql x29 (.int .i64 (.ofNat 0))) fun x31 => 
  jn (wnt x31 true (bV (fAd 0 x8) fun x33 => 
  bV (ld1p x33 H) fun x34 => 
  bR (f149 D n [x34] H) fun x35 H => 
  bV (bInt .eql x35 x12) fun x37 => 
  some (.norm [x37], H)) (some (.norm [undefA], H))) fun vs H => hd vs fun x37_2 vs => 
  bV (pk3 (some x31) (some x37_2) (some (.bool false))) fun x38 => 
  jn (wnt x38 true (bV (fAd 0 x8) fun x40 => 
  bV (ld1p x40 H) fun x41 => 
  bV (fAd 0 x4_2) fun x42 => 
  bV (ld1p x42 H) fun x43 => 
  bV (bInt .gtr x41 x43) fun x44 => 
  some (.norm [x44], H)) (some (.norm [undefA], H))) fun vs H => hd vs fun x44_2 vs => 
  bV (pk3 (some x38) (some x44_2) (some (.bool false))) fun x45 => 
  jn (cnd x45 (bV (ldNp 2 x8 H) fun x46 => 
  bR (stNp 2 x4_2 x46 H) fun x9999_5 H => 
  some (.norm [x0_2, x2_2, x4_2, x12], H))
  (some (.norm [x0_2, x2_2, x4_2, x12], H))) (f134j0 D n)))
  (some (.exit 0 [x2_2, x4_2], H))
def f134b2 (D : Dyn) (n : Nat) (vs : List AV) (H : AH) : Rs :=
  hd vs fun x2_4 vs => hd vs fun x4_4 vs => 
  bV (fAd 0 x4_4) fun x48 => 
  bV (ld1p x48 H) fun x49 => 
  bV (bInt .eql x49 (.int .i64 (.ofNat 0))) fun x50 => 
  cnd x50 (bV (bldSp [(0, 1), (1, 1)] [(.int .i64 (.ofNat 0)), (.str 0 0)] []) fun x51 => 
  bR (stNp 2 x2_4 x51 H) fun x9999_6 H => 
  bV (ldNp 2 x2_4 H) fun x9002_3 => bV (some (.int .i64 (.ofNat 5))) fun x3_3 => some (.ret (.tuple [x9002_3, x3_3]), H))
  (bV (ldNp 2 x4_4 H) fun x52 => 
  bR (stNp 2 x2_4 x52 H) fun x9999_7 H => 
  bV (ldNp 2 x2_4 H) fun x9002_4 => bV (some (.int .i64 (.ofNat 0))) fun x3_4 => some (.ret (.tuple [x9002_4, x3_4]), H))
/-- jetty/ring.Newest -/
def f134 (D : Dyn) (n : Nat) (vs : List AV) (H : AH) : Option (AV × AH) :=
  outR (hd vs fun x0 vs => nl vs <|
  bA (bxV 103 (.agg [(.int .i64 (.ofNat 0)), (.str 0 0)])) H fun x2 H => 
  bV (cmpO .eql (eqP x0 .nilPtr)) fun x10 => 
  cnd x10 (bV (bldSp [(0, 1), (1, 1)] [(.int .i64 (.ofNat 0)), (.str 0 0)] []) fun x11 => 
  bR (stNp 2 x2 x11 H) fun x9999 H => 
  bV (ldNp 2 x2 H) fun x9002 => bV (some (.int .i64 (.ofNat 2))) fun x3 => some (.ret (.tuple [x9002, x3]), H))
  (bA (bxV 103 (.agg [(.int .i64 (.ofNat 0)), (.str 0 0)])) H fun x4 H => 
  jb 0 (loopK n (f134l1 D n) [x0, x2, x4, (.int .i64 (.ofNat 0))] H) (f134b2 D n)))
def h134 : Hint := (.s .o (.s (.s .o (.cl (.s .o .o) .o)) (.s .o (.s (.s .o (.b [2, 4] (.l [0, 2, 4, 12] (.s .o (.s (.cr .o .o) (.s (.b0 (.s .o (.s .o (.s (.s .o (.cl (.s .o .o) .o)) (.s .o (.s .o (.c [0, 2, 4, 12] .o .o))))))) .o)))))) (.s (.s .o (.cl (.s .o .o) .o)) (.s .o .o))))))
theorem f134_eq (D : Dyn) (n : Nat) : f134 D n = funKp (s134 D n) D n 134 Tryz.f134 h134 := by kernel_rfl
theorem f134_ok {D : Dyn} (hD : DP D) (n : Nat) : FP 134 (f134 D n) := fun_okP X_ok hD (SP.cons (f117_ok hD n) (SP.cons (f218_ok hD n) (SP.cons (f149_ok hD n) (SP.nil)))) Tryz.func134 (by kernel_rfl) (by kernel_rfl) (f134_eq D n)

def s150 (D : Dyn) (n : Nat) : Tb := ⟨X, []⟩
/-- jetty/block.may -/
def f150 (D : Dyn) (n : Nat) (vs : List AV) (H : AH) : Option (AV × AH) :=
  outR (hd vs fun x0 vs => nl vs <|
  bA (bxV 52 x0) H fun x1 H => 
  bV (fAd 0 x1) fun x3 => 
  bV (ld1p x3 H) fun x4 => 
  bV (bInt .eql x4 (.int .i64 (.ofNat 0))) fun x5 => 
  cnd x5 (bV (ldNp 3 x1 H) fun x6 => 
  bV (bldSp [(0, 1), (1, 1), (2, 1)] [(.int .i64 (.ofNat 0)), (.int .i64 (.ofNat 0)), (.int .u64 (.ofNat 0))] []) fun x7 => 
  bV (cmpO .eql (eqAp [(6, 2), (10, 1)] x6 x7)) fun x8 => 
  bV (some x8) fun x2 => some (.ret x2, H))
  (bV (fAd 0 x1) fun x9 => 
  bV (ld1p x9 H) fun x10 => 
  bV (bInt .gtr x10 (.int .i64 (.ofNat 0))) fun x11 => 
  jn (wnt x11 true (bV (fAd 0 x1) fun x13 => 
  bV (ld1p x13 H) fun x14 => 
  bV (bInt .lss x14 (.int .i64 (.ofNat 8192))) fun x15 => 
  some (.norm [x15], H)) (some (.norm [undefA], H))) fun vs H => hd vs fun x15_2 vs => 
  bV (pk3 (some x11) (some x15_2) (some (.bool false))) fun x16 => 
  jn (wnt x16 true (bV (fAd 1 x1) fun x18 => 
  bV (ld1p x18 H) fun x19 => 
  bV (bInt .geq x19 (.int .i64 (.ofNat 0))) fun x20 => 
  some (.norm [x20], H)) (some (.norm [undefA], H))) fun vs H => hd vs fun x20_2 vs => 
  bV (pk3 (some x16) (some x20_2) (some (.bool false))) fun x21 => 
  jn (wnt x21 true (bV (fAd 1 x1) fun x23 => 
  bV (ld1p x23 H) fun x24 => 
  bV (bInt .leq x24 (.int .i64 (.ofNat 2147483647))) fun x25 => 
  some (.norm [x25], H)) (some (.norm [undefA], H))) fun vs H => hd vs fun x25_2 vs => 
  bV (pk3 (some x21) (some x25_2) (some (.bool false))) fun x26 => 
  bV (some x26) fun x2_2 => some (.ret x2_2, H)))
def h150 : Hint := (.s .o (.s (.s .o (.cl (.s .o .o) .o)) (.s .o .o)))
theorem f150_eq (D : Dyn) (n : Nat) : f150 D n = funKp (s150 D n) D n 150 Tryz.f150 h150 := by kernel_rfl
theorem f150_ok {D : Dyn} (hD : DP D) (n : Nat) : FP 150 (f150 D n) := fun_okP X_ok hD (SP.nil) Tryz.func150 (by kernel_rfl) (by kernel_rfl) (f150_eq D n)

def s135 (D : Dyn) (n : Nat) : Tb := ⟨X, [(219, f219 D n), (150, f150 D n)]⟩
/-- jetty/block.Decode -/
def f135 (D : Dyn) (n : Nat) (vs : List AV) (H : AH) : Option (AV × AH) :=
  outR (hd vs fun x0 vs => nl vs <|
  bA (bxV 52 (.agg [(.int .i64 (.ofNat 0)), (.int .i64 (.ofNat 0)), (.int .u64 (.ofNat 0))])) H fun x2 H => 
  bV (lnStr x0) fun x7 => 
  bV (bInt .neq x7 (.int .i64 (.ofNat 16))) fun x8 => 
  cnd x8 (bV (bldSp [(0, 1), (1, 1), (2, 1)] [(.int .i64 (.ofNat 0)), (.int .i64 (.ofNat 0)), (.int .u64 (.ofNat 0))] []) fun x9 => 
  bR (stNp 3 x2 x9 H) fun x9999 H => 
  bV (ldNp 3 x2 H) fun x9002 => bV (some (.int .i64 (.ofNat 4))) fun x3 => some (.ret (.tuple [x9002, x3]), H))
  (bA (cvSBp 5 x0) H fun x11 H => 
  bV (s2a 16 x11) fun x12 => 
  bV (ldNp 16 x12 H) fun x13 => 
  bA (bxV 217 (.agg [.pk 16 0])) H fun x4 H => 
  bR (stNp 16 x4 x13 H) fun x9999_2 H => 
  bV (slArr 16 1 x4 none (some (.int .i64 (.ofNat 4))) none) fun x14 => 
  bV (slArr 16 1 x4 (some (.int .i64 (.ofNat 4))) (some (.int .i64 (.ofNat 8))) none) fun x17 => 
  bV (slArr 16 1 x4 (some (.int .i64 (.ofNat 8))) none none) fun x20 => 
  bA (bxV 52 (.agg [(.int .i64 (.ofNat 0)), (.int .i64 (.ofNat 0)), (.int .u64 (.ofNat 0))])) H fun x5 H => 
  bR (f219 D n [x14] H) fun x15 H => 
  bV (cvI .i64 x15) fun x16 => 
  bR (f219 D n [x17] H) fun x18 H => 
  bV (cvI .i64 x18) fun x19 => 
  bR (f219 D n [x20] H) fun x21 H => 
  bV (bldSp [(0, 1), (1, 1), (2, 1)] [(.int .i64 (.ofNat 0)), (.int .i64 (.ofNat 0)), (.int .u64 (.ofNat 0))] [(0, x16), (1, x19), (2, x21)]) fun x22 => 
  bR (stNp 3 x5 x22 H) fun x9999_3 H => 
  bV (ldNp 3 x5 H) fun x23 => 
  bR (f150 D n [x23] H) fun x24 H => 
  bV (aun .not x24) fun x25 => 
  cnd x25 (bV (bldSp [(0, 1), (1, 1), (2, 1)] [(.int .i64 (.ofNat 0)), (.int .i64 (.ofNat 0)), (.int .u64 (.ofNat 0))] []) fun x26 => 
  bR (stNp 3 x2 x26 H) fun x9999_4 H => 
  bV (ldNp 3 x2 H) fun x9002_2 => bV (some (.int .i64 (.ofNat 4))) fun x3_2 => some (.ret (.tuple [x9002_2, x3_2]), H))
  (bV (ldNp 3 x5 H) fun x27 => 
  bR (stNp 3 x2 x27 H) fun x9999_5 H => 
  bV (ldNp 3 x2 H) fun x9002_3 => bV (some (.int .i64 (.ofNat 0))) fun x3_3 => some (.ret (.tuple [x9002_3, x3_3]), H))))
def h135 : Hint := (.s .o (.s (.s .o (.cl (.s .o .o) .o)) (.s .o (.s .o (.s (.s .o (.cl (.s .o .o) .o)) (.s .o .o))))))
theorem f135_eq (D : Dyn) (n : Nat) : f135 D n = funKp (s135 D n) D n 135 Tryz.f135 h135 := by kernel_rfl
theorem f135_ok {D : Dyn} (hD : DP D) (n : Nat) : FP 135 (f135 D n) := fun_okP X_ok hD (SP.cons (f219_ok hD n) (SP.cons (f150_ok hD n) (SP.nil))) Tryz.func135 (by kernel_rfl) (by kernel_rfl) (f135_eq D n)

def s119 (D : Dyn) (n : Nat) : Tb := ⟨X, []⟩
/-- jetty/arc.New -/
def f119 (D : Dyn) (n : Nat) (vs : List AV) (H : AH) : Option (AV × AH) :=
  outR (hd vs fun x0 vs => nl vs <|
  bV (bInt .lss x0 (.int .i64 (.ofNat 1))) fun x5 => 
  jn (wnt x5 false (bV (bInt .gtr x0 (.int .i64 (.ofNat 1024))) fun x8 => 
  some (.norm [x8], H)) (some (.norm [undefA], H))) fun vs H => hd vs fun x8_2 vs => 
  bV (pk3 (some x5) (some (.bool true)) (some x8_2)) fun x9 => 
  cnd x9 (bV (some .nilPtr) fun x2 => bV (some (.int .i64 (.ofNat 1))) fun x3 => some (.ret (.tuple [x2, x3]), H))
  (bA (mkM [6]) H fun x10 H => 
  bV (bldSp [(0, 12), (12, 1)] [.nilPtr, .nilPtr, (.int .i64 (.ofNat 0)), .nilPtr, .nilPtr, (.int .i64 (.ofNat 0)), .nilPtr, .nilPtr, (.int .i64 (.ofNat 0)), .nilPtr, .nilPtr, (.int .i64 (.ofNat 0)), .nilMap] [(1, x10)]) fun x11 => 
  bV (bldSp [(0, 13), (13, 1), (14, 1)] [.nilPtr, .nilPtr, (.int .i64 (.ofNat 0)), .nilPtr, .nilPtr, (.int .i64 (.ofNat 0)), .nilPtr, .nilPtr, (.int .i64 (.ofNat 0)), .nilPtr, .nilPtr, (.int .i64 (.ofNat 0)), .nilMap, (.int .i64 (.ofNat 0)), (.int .i64 (.ofNat 0))] [(0, x11), (1, x0)]) fun x13 => 
  bA (bxV 296 x13) H fun x14 H => 
  bV (some x14) fun x2_2 => bV (some (.int .i64 (.ofNat 0))) fun x3_2 => some (.ret (.tuple [x2_2, x3_2]), H)))
def h119 : Hint := (.s .o (.s (.s .o (.cl (.s .o .o) .o)) (.s .o .o)))
theorem f119_eq (D : Dyn) (n : Nat) : f119 D n = funKp (s119 D n) D n 119 Tryz.f119 h119 := by kernel_rfl
theorem f119_ok {D : Dyn} (hD : DP D) (n : Nat) : FP 119 (f119 D n) := fun_okP X_ok hD (SP.nil) Tryz.func119 (by kernel_rfl) (by kernel_rfl) (f119_eq D n)

def s136 (D : Dyn) (n : Nat) : Tb := ⟨X, []⟩
/-- (*jetty/disk.Disk).Blocks -/
def f136 (D : Dyn) (n : Nat) (vs : List AV) (H : AH) : Option (AV × AH) :=
  outR (hd vs fun x0 vs => nl vs <|
  bV (cmpO .eql (eqP x0 .nilPtr)) fun x4 => 
  cnd x4 (bV (some (.int .i64 (.ofNat 0))) fun x2 => some (.ret x2, H))
  (bV (pNil x0) fun x6 => 
  bV (fAd 0 x6) fun x7 => 
  bV (ld1p x7 H) fun x8 => 
  bV (some x8) fun x2_2 => some (.ret x2_2, H)))
def h136 : Hint := (.s .o (.s (.s .o (.cl (.s .o .o) .o)) (.s .o .o)))
theorem f136_eq (D : Dyn) (n : Nat) : f136 D n = funKp (s136 D n) D n 136 Tryz.f136 h136 := by kernel_rfl
theorem f136_ok {D : Dyn} (hD : DP D) (n : Nat) : FP 136 (f136 D n) := fun_okP X_ok hD (SP.nil) Tryz.func136 (by kernel_rfl) (by kernel_rfl) (f136_eq D n)

def s101 (D : Dyn) (n : Nat) : Tb := ⟨X, []⟩
/-- (*jetty/space.Space).put -/
def f101 (D : Dyn) (n : Nat) (vs : List AV) (H : AH) : Option (AV × AH) :=
  outR (hd vs fun x0 vs => hd vs fun x1 vs => hd vs fun x2 vs => nl vs <|
  bV (pNil x0) fun x9 => 
  bV (fAd 2 x9) fun x10 => 
  bV (ixArr 8192 1 x10 x1) fun x11 => 
  bV (ld1p x11 H) fun x12 => 
  bV (pNil x0) fun x13 => 
  bV (fAd 8194 x13) fun x14 => 
  bV (ixArr 4 1 x14 x12) fun x15 => 
  bV (ld1p x15 H) fun x16 => 
  bV (bInt .sub x16 (.int .i64 (.ofNat 1))) fun x17 => 
  bV (pNil x0) fun x18 => 
  bV (fAd 8194 x18) fun x19 => 
  bV (ixArr 4 1 x19 x12) fun x20 => 
  bR (stNp 1 x20 x17 H) fun x9999 H => 
  bV (pNil x0) fun x23 => 
  bV (fAd 8194 x23) fun x24 => 
  bV (ixArr 4 1 x24 x2) fun x25 => 
  bV (ld1p x25 H) fun x26 => 
  bV (bInt .add x26 (.int .i64 (.ofNat 1))) fun x27 => 
  bV (pNil x0) fun x28 => 
  bV (fAd 8194 x28) fun x29 => 
  bV (ixArr 4 1 x29 x2) fun x30 => 
  bR (stNp 1 x30 x27 H) fun x9999_2 H => 
  bV (pNil x0) fun x34 => 
  bV (fAd 2 x34) fun x35 => 
  bV (ixArr 8192 1 x35 x1) fun x36 => 
  bR (stNp 1 x36 x2 H) fun x9999_3 H => 
  some (.ret (.tuple []), H))
def h101 : Hint := (.s .o (.s .o .o))
theorem f101_eq (D : Dyn) (n : Nat) : f101 D n = funKp (s101 D n) D n 101 Tryz.f101 h101 := by kernel_rfl
theorem f101_ok {D : Dyn} (hD : DP D) (n : Nat) : FP 101 (f101 D n) := fun_okP X_ok hD (SP.nil) Tryz.func101 (by kernel_rfl) (by kernel_rfl) (f101_eq D n)

def s21 (D : Dyn) (n : Nat) : Tb := ⟨X, [(101, f101 D n)]⟩
def f21l0 (D : Dyn) (n : Nat) (vs : List AV) (H : AH) : Rs :=
  hd vs fun x4 vs => hd vs fun x20 vs => 
  bV (bInt .lss x20 (.int .i64 (.ofNat 2))) fun x21 => 
  cnd x21 (bR (f101 D n [x4, x20, (.int .u8 (.ofNat 1))] H) fun x25 H => 
  bV (bInt .add x20 (.int .i64 (.ofNat 1))) fun x26 => 
  some (.norm [x4, x26], H))
  (some (.exit 0 [x4], H))
def f21b1 (D : Dyn) (n : Nat) (vs : List AV) (H : AH) : Rs :=
  hd vs fun x4_2 vs => 
  bV (some x4_2) fun x2_2 => bV (some (.int .i64 (.ofNat 0))) fun x3_2 => some (.ret (.tuple [x2_2, x3_2]), H)
/-- jetty/space.New -/
def f21 (D : Dyn) (n : Nat) (vs : List AV) (H : AH) : Option (AV × AH) :=
  outR (hd vs fun x0 vs => nl vs <|
  bV (bInt .lss x0 (.int .i64 (.ofNat 64))) fun x7 => 
  jn (wnt x7 false (bV (bInt .gtr x0 (.int .i64 (.ofNat 8192))) fun x10 => 
  some (.norm [x10], H)) (some (.norm [undefA], H))) fun vs H => hd vs fun x10_2 vs => 
  bV (pk3 (some x7) (some (.bool true)) (some x10_2)) fun x11 => 
  cnd x11 (bV (some .nilPtr) fun x2 => bV (some (.int .i64 (.ofNat 1))) fun x3 => some (.ret (.tuple [x2, x3]), H))
  (bV (bldSp [(0, 1), (1, 1), (2, 8192), (8194, 4)] [(.int .i64 (.ofNat 0)), (.int .i64 (.ofNat 0)), .pk 8192 0, (.int .i64 (.ofNat 0)), (.int .i64 (.ofNat 0)), (.int .i64 (.ofNat 0)), (.int .i64 (.ofNat 0))] [(0, x0)]) fun x13 => 
  bA (bxV 151 x13) H fun x14 H => 
  bV (pNil x14) fun x17 => 
  bV (fAd 8194 x17) fun x18 => 
  bV (ixArr 4 1 x18 (.int .u8 (.ofNat 0))) fun x19 => 
  bR (stNp 1 x19 x0 H) fun x9999 H => 
  jb 0 (loopK n (f21l0 D n) [x14, (.int .i64 (.ofNat 0))] H) (f21b1 D n)))
def h21 : Hint := (.s .o (.s (.s .o (.cl (.s .o .o) .o)) (.s .o (.s .o (.s (.s .o (.b [4] (.l [4, 20] (.s .o (.s (.cr .o .o) (.s (.b0 (.s .o .o)) .o)))))) (.s .o .o))))))
theorem f21_eq (D : Dyn) (n : Nat) : f21 D n = funKp (s21 D n) D n 21 Tryz.f21 h21 := by kernel_rfl
theorem f21_ok {D : Dyn} (hD : DP D) (n : Nat) : FP 21 (f21 D n) := fun_okP X_ok hD (SP.cons (f101_ok hD n) (SP.nil)) Tryz.func21 (by kernel_rfl) (by kernel_rfl) (f21_eq D n)

def s61 (D : Dyn) (n : Nat) : Tb := ⟨X, [(150, f150 D n), (151, f151 D n)]⟩
/-- jetty/block.Encode -/
def f61 (D : Dyn) (n : Nat) (vs : List AV) (H : AH) : Option (AV × AH) :=
  outR (hd vs fun x0 vs => nl vs <|
  bA (bxV 52 x0) H fun x1 H => 
  bV (ldNp 3 x1 H) fun x5 => 
  bR (f150 D n [x5] H) fun x6 H => 
  bV (aun .not x6) fun x7 => 
  cnd x7 (bV (some (.str 0 0)) fun x2 => bV (some (.int .i64 (.ofNat 4))) fun x3 => some (.ret (.tuple [x2, x3]), H))
  (bA (bxV 217 (.agg [.pk 16 0])) H fun x4 H => 
  bV (slArr 16 1 x4 none (some (.int .i64 (.ofNat 4))) none) fun x8 => 
  bV (fAd 0 x1) fun x9 => 
  bV (ld1p x9 H) fun x10 => 
  bV (cvI .u64 x10) fun x11 => 
  bR (f151 D n [x8, x11] H) fun x12 H => 
  bV (slArr 16 1 x4 (some (.int .i64 (.ofNat 4))) (some (.int .i64 (.ofNat 8))) none) fun x13 => 
  bV (fAd 1 x1) fun x14 => 
  bV (ld1p x14 H) fun x15 => 
  bV (cvI .u64 x15) fun x16 => 
  bR (f151 D n [x13, x16] H) fun x17 H => 
  bV (slArr 16 1 x4 (some (.int .i64 (.ofNat 8))) none none) fun x18 => 
  bV (fAd 2 x1) fun x19 => 
  bV (ld1p x19 H) fun x20 => 
  bR (f151 D n [x18, x20] H) fun x21 H => 
  bV (slArr 16 1 x4 none none none) fun x22 => 
  bV (cvBSp x22 H) fun x23 => 
  bV (some x23) fun x2_2 => bV (some (.int .i64 (.ofNat 0))) fun x3_2 => some (.ret (.tuple [x2_2, x3_2]), H)))
def h61 : Hint := (.s .o (.s (.s .o (.cl (.s .o .o) .o)) (.s .o (.s .o (.s .o (.s .o (.s .o .o)))))))
theorem f61_eq (D : Dyn) (n : Nat) : f61 D n = funKp (s61 D n) D n 61 Tryz.f61 h61 := by kernel_rfl
theorem f61_ok {D : Dyn} (hD : DP D) (n : Nat) : FP 61 (f61 D n) := fun_okP X_ok hD (SP.cons (f150_ok hD n) (SP.cons (f151_ok hD n) (SP.nil))) Tryz.func61 (by kernel_rfl) (by kernel_rfl) (f61_eq D n)

def s22 (D : Dyn) (n : Nat) : Tb := ⟨X, [(61, f61 D n)]⟩
/-- jetty/tree.Open -/
def f22 (D : Dyn) (n : Nat) (vs : List AV) (H : AH) : Option (AV × AH) :=
  outR (hd vs fun x0 vs => hd vs fun x1 vs => hd vs fun x2 vs => nl vs <|
  bA (bxV 52 x2) H fun x5 H => 
  bV (cmpO .eql (eqP x0 .nilPtr)) fun x11 => 
  cnd x11 (bV (some .nilPtr) fun x6 => bV (some (.int .i64 (.ofNat 2))) fun x7 => some (.ret (.tuple [x6, x7]), H))
  (bV (ldNp 3 x5 H) fun x13 => 
  bR (f61 D n [x13] H) fun x14 H => 
  bV (pExtract x14 0) fun x15 => 
  bV (pExtract x14 1) fun x16 => 
  bV (bInt .neq x16 (.int .i64 (.ofNat 0))) fun x18 => 
  jn (wnt x18 false (bV (fAd 0 x5) fun x20 => 
  bV (ld1p x20 H) fun x21 => 
  bV (bInt .eql x21 (.int .i64 (.ofNat 1))) fun x22 => 
  some (.norm [x22], H)) (some (.norm [undefA], H))) fun vs H => hd vs fun x22_2 vs => 
  bV (pk3 (some x18) (some (.bool true)) (some x22_2)) fun x23 => 
  cnd x23 (bV (some .nilPtr) fun x6_2 => bV (some (.int .i64 (.ofNat 1))) fun x7_2 => some (.ret (.tuple [x6_2, x7_2]), H))
  (bV (ldNp 3 x5 H) fun x26 => 
  bA (mkM [10]) H fun x27 H => 
  bV (bldSp [(0, 1), (1, 1), (2, 3), (5, 1), (6, 1), (7, 1)] [.nilPtr, .nilPtr, (.int .i64 (.ofNat 0)), (.int .i64 (.ofNat 0)), (.int .u64 (.ofNat 0)), .nilMap, (.int .u64 (.ofNat 0)), .nilSlice] [(0, x0), (1, x1), (2, x26), (3, x27)]) fun x28 => 
  bA (bxV 135 x28) H fun x29 H => 
  bV (some x29) fun x6_3 => bV (some (.int .i64 (.ofNat 0))) fun x7_3 => some (.ret (.tuple [x6_3, x7_3]), H))))
def h22 : Hint := (.s .o (.s (.s .o (.cl (.s .o .o) .o)) (.s (.s .o (.s .o (.cl (.s .o .o) .o))) (.s .o .o))))
theorem f22_eq (D : Dyn) (n : Nat) : f22 D n = funKp (s22 D n) D n 22 Tryz.f22 h22 := by kernel_rfl
theorem f22_ok {D : Dyn} (hD : DP D) (n : Nat) : FP 22 (f22 D n) := fun_okP X_ok hD (SP.cons (f61_ok hD n) (SP.nil)) Tryz.func22 (by kernel_rfl) (by kernel_rfl) (f22_eq D n)

def s88 (D : Dyn) (n : Nat) : Tb := ⟨X, []⟩
/-- (*jetty/tree.Tree).none -/
def f88 (D : Dyn) (n : Nat) (vs : List AV) (H : AH) : Option (AV × AH) :=
  outR (hd vs fun x0 vs => nl vs <|
  bV (cmpO .eql (eqP x0 .nilPtr)) fun x4 => 
  jn (wnt x4 false (bV (pNil x0) fun x7 => 
  bV (fAd 0 x7) fun x8 => 
  bV (ld1p x8 H) fun x9 => 
  bV (cmpO .eql (eqP x9 .nilPtr)) fun x10 => 
  some (.norm [x10], H)) (some (.norm [undefA], H))) fun vs H => hd vs fun x10_2 vs => 
  bV (pk3 (some x4) (some (.bool true)) (some x10_2)) fun x11 => 
  jn (wnt x11 false (bV (pNil x0) fun x14 => 
  bV (fAd 5 x14) fun x15 => 
  bV (ld1p x15 H) fun x16 => 
  bV (cmpO .eql (eqM x16 .nilMap)) fun x17 => 
  some (.norm [x17], H)) (some (.norm [undefA], H))) fun vs H => hd vs fun x17_2 vs => 
  bV (pk3 (some x11) (some (.bool true)) (some x17_2)) fun x18 => 
  bV (some x18) fun x2 => some (.ret x2, H))
def h88 : Hint := (.s .o (.s .o .o))
theorem f88_eq (D : Dyn) (n : Nat) : f88 D n = funKp (s88 D n) D n 88 Tryz.f88 h88 := by kernel_rfl
theorem f88_ok {D : Dyn} (hD : DP D) (n : Nat) : FP 88 (f88 D n) := fun_okP X_ok hD (SP.nil) Tryz.func88 (by kernel_rfl) (by kernel_rfl) (f88_eq D n)

def s199 (D : Dyn) (n : Nat) : Tb := ⟨X, []⟩
/-- (*jetty/arc.Cache).none -/
def f199 (D : Dyn) (n : Nat) (vs : List AV) (H : AH) : Option (AV × AH) :=
  outR (hd vs fun x0 vs => nl vs <|
  bV (cmpO .eql (eqP x0 .nilPtr)) fun x4 => 
  jn (wnt x4 false (bV (pNil x0) fun x7 => 
  bV (fAd 13 x7) fun x8 => 
  bV (ld1p x8 H) fun x9 => 
  bV (bInt .lss x9 (.int .i64 (.ofNat 1))) fun x10 => 
  some (.norm [x10], H)) (some (.norm [undefA], H))) fun vs H => hd vs fun x10_2 vs => 
  bV (pk3 (some x4) (some (.bool true)) (some x10_2)) fun x11 => 
  jn (wnt x11 false (bV (pNil x0) fun x14 => 
  bV (fAd 0 x14) fun x15 => 
  bV (fAd 12 x15) fun x16 => 
  bV (ld1p x16 H) fun x17 => 
  bV (cmpO .eql (eqM x17 .nilMap)) fun x18 => 
  some (.norm [x18], H)) (some (.norm [undefA], H))) fun vs H => hd vs fun x18_2 vs => 
  bV (pk3 (some x11) (some (.bool true)) (some x18_2)) fun x19 => 
  bV (some x19) fun x2 => some (.ret x2, H))
def h199 : Hint := (.s .o (.s .o .o))
theorem f199_eq (D : Dyn) (n : Nat) : f199 D n = funKp (s199 D n) D n 199 Tryz.f199 h199 := by kernel_rfl
theorem f199_ok {D : Dyn} (hD : DP D) (n : Nat) : FP 199 (f199 D n) := fun_okP X_ok hD (SP.nil) Tryz.func199 (by kernel_rfl) (by kernel_rfl) (f199_eq D n)

def s264 (D : Dyn) (n : Nat) : Tb := ⟨X, []⟩
/-- (*jetty/arc.rows).size -/
def f264 (D : Dyn) (n : Nat) (vs : List AV) (H : AH) : Option (AV × AH) :=
  outR (hd vs fun x0 vs => hd vs fun x1 vs => nl vs <|
  bV (pNil x0) fun x7 => 
  bV (fAd 0 x7) fun x8 => 
  bV (ixArr 4 3 x8 x1) fun x9 => 
  bV (fAd 2 x9) fun x10 => 
  bV (ld1p x10 H) fun x11 => 
  bV (some x11) fun x4 => some (.ret x4, H))
def h264 : Hint := (.s .o (.s .o .o))
theorem f264_eq (D : Dyn) (n : Nat) : f264 D n = funKp (s264 D n) D n 264 Tryz.f264 h264 := by kernel_rfl
theorem f264_ok {D : Dyn} (hD : DP D) (n : Nat) : FP 264 (f264 D n) := fun_okP X_ok hD (SP.nil) Tryz.func264 (by kernel_rfl) (by kernel_rfl) (f264_eq D n)

def s266 (D : Dyn) (n : Nat) : Tb := ⟨X, []⟩
def f266j0 (D : Dyn) (n : Nat) (vs : List AV) (H : AH) : Rs :=
  hd vs fun x1_3 vs => hd vs fun x4_2 vs => 
  bV (pNil x1_3) fun x59 => 
  bV (fAd 3 x59) fun x60 => 
  bR (stNp 1 x60 .nilPtr H) fun x9999_5 H => 
  bV (pNil x1_3) fun x61 => 
  bV (fAd 4 x61) fun x62 => 
  bR (stNp 1 x62 .nilPtr H) fun x9999_6 H => 
  bV (pNil x4_2) fun x64 => 
  bV (fAd 2 x64) fun x65 => 
  bV (ld1p x65 H) fun x66 => 
  bV (bInt .sub x66 (.int .i64 (.ofNat 1))) fun x67 => 
  bV (pNil x4_2) fun x68 => 
  bV (fAd 2 x68) fun x69 => 
  bR (stNp 1 x69 x67 H) fun x9999_7 H => 
  some (.ret (.tuple []), H)
def f266j1 (D : Dyn) (n : Nat) (vs : List AV) (H : AH) : Rs :=
  hd vs fun x1_2 vs => hd vs fun x4 vs => 
  bV (pNil x1_2) fun x36 => 
  bV (fAd 4 x36) fun x37 => 
  bV (ld1p x37 H) fun x38 => 
  bV (cmpO .eql (eqP x38 .nilPtr)) fun x39 => 
  jn (cnd x39 (bV (pNil x1_2) fun x42 => 
  bV (fAd 3 x42) fun x43 => 
  bV (ld1p x43 H) fun x44 => 
  bV (pNil x4) fun x45 => 
  bV (fAd 1 x45) fun x46 => 
  bR (stNp 1 x46 x44 H) fun x9999_3 H => 
  some (.norm [x1_2, x4], H))
  (bV (pNil x1_2) fun x48 => 
  bV (fAd 4 x48) fun x49 => 
  bV (ld1p x49 H) fun x50 => 
  bV (pNil x1_2) fun x52 => 
  bV (fAd 3 x52) fun x53 => 
  bV (ld1p x53 H) fun x54 => 
  bV (pNil x50) fun x55 => 
  bV (fAd 3 x55) fun x56 => 
  bR (stNp 1 x56 x54 H) fun x9999_4 H => 
  some (.norm [x1_2, x4], H))) (f266j0 D n)
/-- (*jetty/arc.rows).detach -/
def f266 (D : Dyn) (n : Nat) (vs : List AV) (H : AH) : Option (AV × AH) :=
  outR (hd vs fun x0 vs => hd vs fun x1 vs => nl vs <|
  bV (pNil x1) fun x7 => 
  bV (fAd 1 x7) fun x8 => 
  bV (ld1p x8 H) fun x9 => 
  bV (pNil x0) fun x10 => 
  bV (fAd 0 x10) fun x11 => 
  bV (ixArr 4 3 x11 x9) fun x12 => 
  bV (pNil x1) fun x14 => 
  bV (fAd 3 x14) fun x15 => 
  bV (ld1p x15 H) fun x16 => 
  bV (cmpO .eql (eqP x16 .nilPtr)) fun x17 => 
  jn (cnd x17 (bV (pNil x1) fun x20 => 
  bV (fAd 4 x20) fun x21 => 
  bV (ld1p x21 H) fun x22 => 
  bV (pNil x12) fun x23 => 
  bV (fAd 0 x23) fun x24 => 
  bR (stNp 1 x24 x22 H) fun x9999 H => 
  some (.norm [x1, x12], H))
  (bV (pNil x1) fun x26 => 
  bV (fAd 3 x26) fun x27 => 
  bV (ld1p x27 H) fun x28 => 
  bV (pNil x1) fun x30 => 
  bV (fAd 4 x30) fun x31 => 
  bV (ld1p x31 H) fun x32 => 
  bV (pNil x28) fun x33 => 
  bV (fAd 4 x33) fun x34 => 
  bR (stNp 1 x34 x32 H) fun x9999_2 H => 
  some (.norm [x1, x12], H))) (f266j1 D n))
def h266 : Hint := (.s .o (.s (.s .o (.c [1, 4] .o .o)) (.s (.s .o (.c [1, 4] .o .o)) (.s .o .o))))
theorem f266_eq (D : Dyn) (n : Nat) : f266 D n = funKp (s266 D n) D n 266 Tryz.f266 h266 := by kernel_rfl
theorem f266_ok {D : Dyn} (hD : DP D) (n : Nat) : FP 266 (f266 D n) := fun_okP X_ok hD (SP.nil) Tryz.func266 (by kernel_rfl) (by kernel_rfl) (f266_eq D n)

def s288 (D : Dyn) (n : Nat) : Tb := ⟨X, [(266, f266 D n)]⟩
/-- (*jetty/arc.rows).forget -/
def f288 (D : Dyn) (n : Nat) (vs : List AV) (H : AH) : Option (AV × AH) :=
  outR (hd vs fun x0 vs => hd vs fun x1 vs => nl vs <|
  bV (pNil x0) fun x7 => 
  bV (fAd 0 x7) fun x8 => 
  bV (ixArr 4 3 x8 x1) fun x9 => 
  bV (fAd 0 x9) fun x10 => 
  bV (ld1p x10 H) fun x11 => 
  bV (cmpO .eql (eqP x11 .nilPtr)) fun x13 => 
  cnd x13 (some (.ret (.tuple []), H))
  (bR (f266 D n [x0, x11] H) fun x16 H => 
  bV (pNil x0) fun x18 => 
  bV (fAd 12 x18) fun x19 => 
  bV (ld1p x19 H) fun x20 => 
  bV (pNil x11) fun x22 => 
  bV (fAd 0 x22) fun x23 => 
  bV (ld1p x23 H) fun x24 => 
  bR (dlM [6] x20 x24 H) fun x9999 H => 
  some (.ret (.tuple []), H)))
def h288 : Hint := (.s .o (.s (.s .o (.cl .o .o)) (.s .o .o)))
theorem f288_eq (D : Dyn) (n : Nat) : f288 D n = funKp (s288 D n) D n 288 Tryz.f288 h288 := by kernel_rfl
theorem f288_ok {D : Dyn} (hD : DP D) (n : Nat) : FP 288 (f288 D n) := fun_okP X_ok hD (SP.cons (f266_ok hD n) (SP.nil)) Tryz.func288 (by kernel_rfl) (by kernel_rfl) (f288_eq D n)

def s267 (D : Dyn) (n : Nat) : Tb := ⟨X, []⟩
def f267j0 (D : Dyn) (n : Nat) (vs : List AV) (H : AH) : Rs :=
  hd vs fun x2_2 vs => hd vs fun x6 vs => 
  bV (pNil x6) fun x44 => 
  bV (fAd 1 x44) fun x45 => 
  bR (stNp 1 x45 x2_2 H) fun x9999_6 H => 
  bV (pNil x6) fun x47 => 
  bV (fAd 2 x47) fun x48 => 
  bV (ld1p x48 H) fun x49 => 
  bV (bInt .add x49 (.int .i64 (.ofNat 1))) fun x50 => 
  bV (pNil x6) fun x51 => 
  bV (fAd 2 x51) fun x52 => 
  bR (stNp 1 x52 x50 H) fun x9999_7 H => 
  some (.ret (.tuple []), H)
/-- (*jetty/arc.rows).attach -/
def f267 (D : Dyn) (n : Nat) (vs : List AV) (H : AH) : Option (AV × AH) :=
  outR (hd vs fun x0 vs => hd vs fun x1 vs => hd vs fun x2 vs => nl vs <|
  bV (pNil x0) fun x9 => 
  bV (fAd 0 x9) fun x10 => 
  bV (ixArr 4 3 x10 x1) fun x11 => 
  bV (pNil x2) fun x14 => 
  bV (fAd 1 x14) fun x15 => 
  bR (stNp 1 x15 x1 H) fun x9999 H => 
  bV (pNil x11) fun x19 => 
  bV (fAd 1 x19) fun x20 => 
  bV (ld1p x20 H) fun x21 => 
  bV (pNil x2) fun x22 => 
  bV (fAd 3 x22) fun x23 => 
  bR (stNp 1 x23 x21 H) fun x9999_2 H => 
  bV (pNil x2) fun x24 => 
  bV (fAd 4 x24) fun x25 => 
  bR (stNp 1 x25 .nilPtr H) fun x9999_3 H => 
  bV (pNil x11) fun x27 => 
  bV (fAd 1 x27) fun x28 => 
  bV (ld1p x28 H) fun x29 => 
  bV (cmpO .eql (eqP x29 .nilPtr)) fun x30 => 
  jn (cnd x30 (bV (pNil x11) fun x33 => 
  bV (fAd 0 x33) fun x34 => 
  bR (stNp 1 x34 x2 H) fun x9999_4 H => 
  some (.norm [x2, x11], H))
  (bV (pNil x11) fun x36 => 
  bV (fAd 1 x36) fun x37 => 
  bV (ld1p x37 H) fun x38 => 
  bV (pNil x38) fun x40 => 
  bV (fAd 4 x40) fun x41 => 
  bR (stNp 1 x41 x2 H) fun x9999_5 H => 
  some (.norm [x2, x11], H))) (f267j0 D n))
def h267 : Hint := (.s .o (.s .o (.s .o (.s (.s .o (.c [2, 6] .o .o)) (.s .o .o)))))
theorem f267_eq (D : Dyn) (n : Nat) : f267 D n = funKp (s267 D n) D n 267 Tryz.f267 h267 := by kernel_rfl
theorem f267_ok {D : Dyn} (hD : DP D) (n : Nat) : FP 267 (f267 D n) := fun_okP X_ok hD (SP.nil) Tryz.func267 (by kernel_rfl) (by kernel_rfl) (f267_eq D n)

def s289 (D : Dyn) (n : Nat) : Tb := ⟨X, [(266, f266 D n), (267, f267 D n)]⟩
/-- (*jetty/arc.rows).ghost -/
def f289 (D : Dyn) (n : Nat) (vs : List AV) (H : AH) : Option (AV × AH) :=
  outR (hd vs fun x0 vs => hd vs fun x1 vs => hd vs fun x2 vs => nl vs <|
  bV (pNil x0) fun x9 => 
  bV (fAd 0 x9) fun x10 => 
  bV (ixArr 4 3 x10 x1) fun x11 => 
  bV (fAd 0 x11) fun x12 => 
  bV (ld1p x12 H) fun x13 => 
  bV (cmpO .eql (eqP x13 .nilPtr)) fun x15 => 
  cnd x15 (some (.ret (.tuple []), H))
  (bR (f266 D n [x0, x13] H) fun x18 H => 
  bV (pNil x13) fun x20 => 
  bV (fAd 2 x20) fun x21 => 
  bR (stNp 1 x21 .nilPtr H) fun x9999 H => 
  bR (f267 D n [x0, x2, x13] H) fun x25 H => 
  some (.ret (.tuple []), H)))
def h289 : Hint := (.s .o (.s (.s .o (.cl .o .o)) (.s .o (.s .o .o))))
theorem f289_eq (D : Dyn) (n : Nat) : f289 D n = funKp (s289 D n) D n 289 Tryz.f289 h289 := by kernel_rfl
theorem f289_ok {D : Dyn} (hD : DP D) (n : Nat) : FP 289 (f289 D n) := fun_okP X_ok hD (SP.cons (f266_ok hD n) (SP.cons (f267_ok hD n) (SP.nil))) Tryz.func289 (by kernel_rfl) (by kernel_rfl) (f289_eq D n)

def s265 (D : Dyn) (n : Nat) : Tb := ⟨X, [(264, f264 D n), (289, f289 D n)]⟩
/-- (*jetty/arc.Cache).makeRoom -/
def f265 (D : Dyn) (n : Nat) (vs : List AV) (H : AH) : Option (AV × AH) :=
  outR (hd vs fun x0 vs => hd vs fun x1 vs => nl vs <|
  bV (pNil x0) fun x7 => 
  bV (fAd 0 x7) fun x8 => 
  bV (pNil x0) fun x11 => 
  bV (fAd 0 x11) fun x12 => 
  bR (f264 D n [x8, (.int .i64 (.ofNat 0))] H) fun x9 H => 
  bR (f264 D n [x12, (.int .i64 (.ofNat 1))] H) fun x13 H => 
  bV (bInt .add x9 x13) fun x16 => 
  bV (pNil x0) fun x18 => 
  bV (fAd 13 x18) fun x19 => 
  bV (ld1p x19 H) fun x20 => 
  bV (bInt .lss x16 x20) fun x21 => 
  cnd x21 (some (.ret (.tuple []), H))
  (bV (bInt .gtr x9 (.int .i64 (.ofNat 0))) fun x23 => 
  jn (wnt x23 true (bV (bInt .eql x13 (.int .i64 (.ofNat 0))) fun x26 => 
  some (.norm [x26], H)) (some (.norm [undefA], H))) fun vs H => hd vs fun x27 vs => 
  jn (wnt x27 false (bV (pNil x0) fun x30 => 
  bV (fAd 14 x30) fun x31 => 
  bV (ld1p x31 H) fun x32 => 
  bV (bInt .gtr x9 x32) fun x33 => 
  some (.norm [x33], H)) (some (.norm [undefA], H))) fun vs H => hd vs fun x33_2 vs => 
  jn (wnt x23 true (bV (pk3 (some x27) (some (.bool true)) (some x33_2)) fun x34 => 
  some (.norm [x34], H)) (some (.norm [undefA], H))) fun vs H => hd vs fun x35 vs => 
  jn (wnt x35 false (some (.norm [x1], H)) (some (.norm [undefA], H))) fun vs H => hd vs fun x37 vs => 
  jn (wnt x37 true (bV (pNil x0) fun x40 => 
  bV (fAd 14 x40) fun x41 => 
  bV (ld1p x41 H) fun x42 => 
  bV (bInt .eql x9 x42) fun x43 => 
  some (.norm [x43], H)) (some (.norm [undefA], H))) fun vs H => hd vs fun x43_2 vs => 
  jn (wnt x35 false (bV (pk3 (some x37) (some x43_2) (some (.bool false))) fun x44 => 
  some (.norm [x44], H)) (some (.norm [undefA], H))) fun vs H => hd vs fun x44_2 vs => 
  jn (wnt x23 true (bV (pk3 (some x35) (some (.bool true)) (some x44_2)) fun x45 => 
  some (.norm [x45], H)) (some (.norm [undefA], H))) fun vs H => hd vs fun x45_2 vs => 
  bV (pk3 (some x23) (some x45_2) (some (.bool false))) fun x46 => 
  cnd x46 (bV (pNil x0) fun x48 => 
  bV (fAd 0 x48) fun x49 => 
  bR (f289 D n [x49, (.int .i64 (.ofNat 0)), (.int .i64 (.ofNat 2))] H) fun x50 H => 
  some (.ret (.tuple []), H))
  (bV (pNil x0) fun x52 => 
  bV (fAd 0 x52) fun x53 => 
  bR (f289 D n [x53, (.int .i64 (.ofNat 1)), (.int .i64 (.ofNat 3))] H) fun x54 H => 
  some (.ret (.tuple []), H))))
def h265 : Hint := (.s .o (.s (.s .o (.cl .o .o)) (.s (.s .o (.cl (.s .o .o) .o)) .o)))
theorem f265_eq (D : Dyn) (n : Nat) : f265 D n = funKp (s265 D n) D n 265 Tryz.f265 h265 := by kernel_rfl
theorem f265_ok {D : Dyn} (hD : DP D) (n : Nat) : FP 265 (f265 D n) := fun_okP X_ok hD (SP.cons (f264_ok hD n) (SP.cons (f289_ok hD n) (SP.nil))) Tryz.func265 (by kernel_rfl) (by kernel_rfl) (f265_eq D n)
end Go.Eng.Sh
