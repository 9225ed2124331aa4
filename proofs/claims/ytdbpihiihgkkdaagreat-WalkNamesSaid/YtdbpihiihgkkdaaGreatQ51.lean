/- Shallow functions, by program (gen.py). -/
import Derived.Test.YtdbpihiihgkkdaaGreatQ50
import Derived.Test.YtdbpihiihgkkdaaGreatProg
import Derived.KernelRfl
noncomputable section
namespace Go.Eng.Sh
open Go.Proofs
set_option maxRecDepth 100000
set_option linter.all false
def s100 (D : Dyn) (n : Nat) : Tb := ⟨X, []⟩
/-- jetty/disk.with -/
def f100 (D : Dyn) (n : Nat) (vs : List AV) (H : AH) : Option (AV × AH) :=
  outR (hd vs fun x0 vs => hd vs fun x1 vs => nl vs <|
  bA (mkM [6]) H fun x7 H => 
  bV (bldS [(0, 1), (1, 1), (2, 1), (3, 1), (4, 1), (5, 1), (6, 1)] [(.int .i64 (.ofNat 0)), .nilMap, .nilSlice, .nilMap, (.int .i64 (.ofNat 0)), .nilSlice, (.bool false)] [(0, x0), (1, x1), (3, x7)]) fun x8 => 
  bA (bxV 270 x8) H fun x9 H => 
  bV (some x9) fun x4 => some (.ret x4, H))
def h100 : Hint := (.s .o (.s .o .o))
theorem f100_eq (D : Dyn) (n : Nat) : f100 D n = funK (s100 D n) D n 100 Tryz.f100 h100 := by kernel_rfl
theorem f100_ok {D : Dyn} (hD : DG D) (n : Nat) : FI 100 (f100 D n) := fun_ok X_ok hD (SOk.nil) Tryz.func100 (by kernel_rfl) (f100_eq D n)

def s20 (D : Dyn) (n : Nat) : Tb := ⟨X, [(100, f100 D n)]⟩
/-- jetty/disk.New -/
def f20 (D : Dyn) (n : Nat) (vs : List AV) (H : AH) : Option (AV × AH) :=
  outR (hd vs fun x0 vs => nl vs <|
  bV (bInt .lss x0 (.int .i64 (.ofNat 64))) fun x5 => 
  jn (wnt x5 false (bV (bInt .gtr x0 (.int .i64 (.ofNat 8192))) fun x8 => 
  some (.norm [x8], H)) (some (.norm [undefA], H))) fun vs H => hd vs fun x8_2 vs => 
  bV (pk3 (some x5) (some (.bool true)) (some x8_2)) fun x9 => 
  cnd x9 (bV (some .nilPtr) fun x2 => bV (some (.int .i64 (.ofNat 1))) fun x3 => some (.ret (.tuple [x2, x3]), H))
  (bA (mkM [6]) H fun x11 H => 
  bR (f100 D n [x0, x11] H) fun x12 H => 
  bV (some x12) fun x2_2 => bV (some (.int .i64 (.ofNat 0))) fun x3_2 => some (.ret (.tuple [x2_2, x3_2]), H)))
def h20 : Hint := (.s .o (.s (.s .o (.cl (.s .o .o) .o)) (.s .o .o)))
theorem f20_eq (D : Dyn) (n : Nat) : f20 D n = funK (s20 D n) D n 20 Tryz.f20 h20 := by kernel_rfl
theorem f20_ok {D : Dyn} (hD : DG D) (n : Nat) : FI 20 (f20 D n) := fun_ok X_ok hD (SOk.cons (f100_ok hD n).fs (SOk.nil)) Tryz.func20 (by kernel_rfl) (f20_eq D n)

def s101 (D : Dyn) (n : Nat) : Tb := ⟨X, []⟩
/-- (*jetty/space.Space).put -/
def f101 (D : Dyn) (n : Nat) (vs : List AV) (H : AH) : Option (AV × AH) :=
  outR (hd vs fun x0 vs => hd vs fun x1 vs => hd vs fun x2 vs => nl vs <|
  bV (pNil x0) fun x9 => 
  bV (fAd 2 x9) fun x10 => 
  bV (ixArr 8192 1 x10 x1) fun x11 => 
  bV (ld1 x11 H) fun x12 => 
  bV (pNil x0) fun x13 => 
  bV (fAd 8194 x13) fun x14 => 
  bV (ixArr 4 1 x14 x12) fun x15 => 
  bV (ld1 x15 H) fun x16 => 
  bV (bInt .sub x16 (.int .i64 (.ofNat 1))) fun x17 => 
  bV (pNil x0) fun x18 => 
  bV (fAd 8194 x18) fun x19 => 
  bV (ixArr 4 1 x19 x12) fun x20 => 
  bR (stN 1 x20 x17 H) fun x9999 H => 
  bV (pNil x0) fun x23 => 
  bV (fAd 8194 x23) fun x24 => 
  bV (ixArr 4 1 x24 x2) fun x25 => 
  bV (ld1 x25 H) fun x26 => 
  bV (bInt .add x26 (.int .i64 (.ofNat 1))) fun x27 => 
  bV (pNil x0) fun x28 => 
  bV (fAd 8194 x28) fun x29 => 
  bV (ixArr 4 1 x29 x2) fun x30 => 
  bR (stN 1 x30 x27 H) fun x9999_2 H => 
  bV (pNil x0) fun x34 => 
  bV (fAd 2 x34) fun x35 => 
  bV (ixArr 8192 1 x35 x1) fun x36 => 
  bR (stN 1 x36 x2 H) fun x9999_3 H => 
  some (.ret (.tuple []), H))
def h101 : Hint := (.s .o (.s .o .o))
theorem f101_eq (D : Dyn) (n : Nat) : f101 D n = funK (s101 D n) D n 101 Tryz.f101 h101 := by kernel_rfl
theorem f101_ok {D : Dyn} (hD : DG D) (n : Nat) : FI 101 (f101 D n) := fun_ok X_ok hD (SOk.nil) Tryz.func101 (by kernel_rfl) (f101_eq D n)

def s21 (D : Dyn) (n : Nat) : Tb := ⟨X, [(101, f101 D n)]⟩
def f21l0 (D : Dyn) (n : Nat) (vs : List AV) (H : AH) : Rs :=
  hd vs fun x4 vs => hd vs fun x20 vs => 
  bV (bInt .lss x20 (.int .i64 (.ofNat 2))) fun x21 => 
  cnd x21 (bR (f101 D n [x4, x20, (.int .u8 (.ofNat 1))] H) fun x25 H => 
  bV (bInt .add x20 (.int .i64 (.ofNat 1))) fun x26 => 
  some (.norm [x4, x26], H))
  (some (.exit 0 [x4], H))
def f21b1 (D : Dyn) (n : Nat) (vs : List AV) (H : AH) : Rs :=
  hd vs fun x4_2 vs => 
  bV (some x4_2) fun x2_2 => bV (some (.int .i64 (.ofNat 0))) fun x3_2 => some (.ret (.tuple [x2_2, x3_2]), H)
/-- jetty/space.New -/
def f21 (D : Dyn) (n : Nat) (vs : List AV) (H : AH) : Option (AV × AH) :=
  outR (hd vs fun x0 vs => nl vs <|
  bV (bInt .lss x0 (.int .i64 (.ofNat 64))) fun x7 => 
  jn (wnt x7 false (bV (bInt .gtr x0 (.int .i64 (.ofNat 8192))) fun x10 => 
  some (.norm [x10], H)) (some (.norm [undefA], H))) fun vs H => hd vs fun x10_2 vs => 
  bV (pk3 (some x7) (some (.bool true)) (some x10_2)) fun x11 => 
  cnd x11 (bV (some .nilPtr) fun x2 => bV (some (.int .i64 (.ofNat 1))) fun x3 => some (.ret (.tuple [x2, x3]), H))
  (bV (bldS [(0, 1), (1, 1), (2, 8192), (8194, 4)] ([(.int .i64 (.ofNat 0)), (.int .i64 (.ofNat 0))] ++ rep 8192 [(.int .u8 (.ofNat 0))] ++ [(.int .i64 (.ofNat 0)), (.int .i64 (.ofNat 0)), (.int .i64 (.ofNat 0)), (.int .i64 (.ofNat 0))]) [(0, x0)]) fun x13 => 
  bA (bxV 151 x13) H fun x14 H => 
  bV (pNil x14) fun x17 => 
  bV (fAd 8194 x17) fun x18 => 
  bV (ixArr 4 1 x18 (.int .u8 (.ofNat 0))) fun x19 => 
  bR (stN 1 x19 x0 H) fun x9999 H => 
  jb 0 (loopK n (f21l0 D n) [x14, (.int .i64 (.ofNat 0))] H) (f21b1 D n)))
def h21 : Hint := (.s .o (.s (.s .o (.cl (.s .o .o) .o)) (.s .o (.s .o (.s (.s .o (.b [4] (.l [4, 20] (.s .o (.s (.cr .o .o) (.s (.b0 (.s .o .o)) .o)))))) (.s .o .o))))))
theorem f21_eq (D : Dyn) (n : Nat) : f21 D n = funK (s21 D n) D n 21 Tryz.f21 h21 := by kernel_rfl
theorem f21_ok {D : Dyn} (hD : DG D) (n : Nat) : FI 21 (f21 D n) := fun_ok X_ok hD (SOk.cons (f101_ok hD n).fs (SOk.nil)) Tryz.func21 (by kernel_rfl) (f21_eq D n)

def s150 (D : Dyn) (n : Nat) : Tb := ⟨X, []⟩
/-- jetty/block.may -/
def f150 (D : Dyn) (n : Nat) (vs : List AV) (H : AH) : Option (AV × AH) :=
  outR (hd vs fun x0 vs => nl vs <|
  bA (bxV 52 x0) H fun x1 H => 
  bV (fAd 0 x1) fun x3 => 
  bV (ld1 x3 H) fun x4 => 
  bV (bInt .eql x4 (.int .i64 (.ofNat 0))) fun x5 => 
  cnd x5 (bV (ldN 3 x1 H) fun x6 => 
  bV (bldS [(0, 1), (1, 1), (2, 1)] [(.int .i64 (.ofNat 0)), (.int .i64 (.ofNat 0)), (.int .u64 (.ofNat 0))] []) fun x7 => 
  bV (cmpO .eql (eqA [6, 6, 10] x6 x7)) fun x8 => 
  bV (some x8) fun x2 => some (.ret x2, H))
  (bV (fAd 0 x1) fun x9 => 
  bV (ld1 x9 H) fun x10 => 
  bV (bInt .gtr x10 (.int .i64 (.ofNat 0))) fun x11 => 
  jn (wnt x11 true (bV (fAd 0 x1) fun x13 => 
  bV (ld1 x13 H) fun x14 => 
  bV (bInt .lss x14 (.int .i64 (.ofNat 8192))) fun x15 => 
  some (.norm [x15], H)) (some (.norm [undefA], H))) fun vs H => hd vs fun x15_2 vs => 
  bV (pk3 (some x11) (some x15_2) (some (.bool false))) fun x16 => 
  jn (wnt x16 true (bV (fAd 1 x1) fun x18 => 
  bV (ld1 x18 H) fun x19 => 
  bV (bInt .geq x19 (.int .i64 (.ofNat 0))) fun x20 => 
  some (.norm [x20], H)) (some (.norm [undefA], H))) fun vs H => hd vs fun x20_2 vs => 
  bV (pk3 (some x16) (some x20_2) (some (.bool false))) fun x21 => 
  jn (wnt x21 true (bV (fAd 1 x1) fun x23 => 
  bV (ld1 x23 H) fun x24 => 
  bV (bInt .leq x24 (.int .i64 (.ofNat 2147483647))) fun x25 => 
  some (.norm [x25], H)) (some (.norm [undefA], H))) fun vs H => hd vs fun x25_2 vs => 
  bV (pk3 (some x21) (some x25_2) (some (.bool false))) fun x26 => 
  bV (some x26) fun x2_2 => some (.ret x2_2, H)))
def h150 : Hint := (.s .o (.s (.s .o (.cl (.s .o .o) .o)) (.s .o .o)))
theorem f150_eq (D : Dyn) (n : Nat) : f150 D n = funK (s150 D n) D n 150 Tryz.f150 h150 := by kernel_rfl
theorem f150_ok {D : Dyn} (hD : DG D) (n : Nat) : FI 150 (f150 D n) := fun_ok X_ok hD (SOk.nil) Tryz.func150 (by kernel_rfl) (f150_eq D n)

def s151 (D : Dyn) (n : Nat) : Tb := ⟨X, []⟩
def f151l0 (D : Dyn) (n : Nat) (vs : List AV) (H : AH) : Rs :=
  hd vs fun x0_2 vs => hd vs fun x1_2 vs => hd vs fun x6_2 vs => hd vs fun x7 vs => 
  bV (bInt .lss x7 x6_2) fun x8 => 
  cnd x8 (bV (lnSl x0_2) fun x12 => 
  bV (bInt .sub x12 (.int .i64 (.ofNat 1))) fun x13 => 
  bV (bInt .sub x13 x7) fun x15 => 
  bV (bInt .mul (.int .i64 (.ofNat 8)) x7) fun x18 => 
  bV (bInt .shr x1_2 x18) fun x19 => 
  bV (cvI .u8 x19) fun x20 => 
  bV (ixSl 1 x0_2 x15) fun x21 => 
  bR (stN 1 x21 x20 H) fun x9999 H => 
  bV (bInt .add x7 (.int .i64 (.ofNat 1))) fun x22 => 
  some (.norm [x0_2, x1_2, x6_2, x22], H))
  (some (.exit 0 [], H))
def f151b1 (D : Dyn) (n : Nat) (vs : List AV) (H : AH) : Rs :=
  
  some (.ret (.tuple []), H)
/-- jetty/block.put -/
def f151 (D : Dyn) (n : Nat) (vs : List AV) (H : AH) : Option (AV × AH) :=
  outR (hd vs fun x0 vs => hd vs fun x1 vs => nl vs <|
  bV (lnSl x0) fun x6 => 
  jb 0 (loopK n (f151l0 D n) [x0, x1, x6, (.int .i64 (.ofNat 0))] H) (f151b1 D n))
def h151 : Hint := (.s .o (.b [] (.l [0, 1, 6, 7] (.s .o (.s (.cr .o .o) (.s (.b0 (.s .o .o)) .o))))))
theorem f151_eq (D : Dyn) (n : Nat) : f151 D n = funK (s151 D n) D n 151 Tryz.f151 h151 := by kernel_rfl
theorem f151_ok {D : Dyn} (hD : DG D) (n : Nat) : FI 151 (f151 D n) := fun_ok X_ok hD (SOk.nil) Tryz.func151 (by kernel_rfl) (f151_eq D n)

def s61 (D : Dyn) (n : Nat) : Tb := ⟨X, [(150, f150 D n), (151, f151 D n)]⟩
/-- jetty/block.Encode -/
def f61 (D : Dyn) (n : Nat) (vs : List AV) (H : AH) : Option (AV × AH) :=
  outR (hd vs fun x0 vs => nl vs <|
  bA (bxV 52 x0) H fun x1 H => 
  bV (ldN 3 x1 H) fun x5 => 
  bR (f150 D n [x5] H) fun x6 H => 
  bV (aun .not x6) fun x7 => 
  cnd x7 (bV (some (.str 0 0)) fun x2 => bV (some (.int .i64 (.ofNat 4))) fun x3 => some (.ret (.tuple [x2, x3]), H))
  (bA (bxV 217 (.agg (rep 16 [(.int .u8 (.ofNat 0))]))) H fun x4 H => 
  bV (slArr 16 1 x4 none (some (.int .i64 (.ofNat 4))) none) fun x8 => 
  bV (fAd 0 x1) fun x9 => 
  bV (ld1 x9 H) fun x10 => 
  bV (cvI .u64 x10) fun x11 => 
  bR (f151 D n [x8, x11] H) fun x12 H => 
  bV (slArr 16 1 x4 (some (.int .i64 (.ofNat 4))) (some (.int .i64 (.ofNat 8))) none) fun x13 => 
  bV (fAd 1 x1) fun x14 => 
  bV (ld1 x14 H) fun x15 => 
  bV (cvI .u64 x15) fun x16 => 
  bR (f151 D n [x13, x16] H) fun x17 H => 
  bV (slArr 16 1 x4 (some (.int .i64 (.ofNat 8))) none none) fun x18 => 
  bV (fAd 2 x1) fun x19 => 
  bV (ld1 x19 H) fun x20 => 
  bR (f151 D n [x18, x20] H) fun x21 H => 
  bV (slArr 16 1 x4 none none none) fun x22 => 
  bV (cvBS x22 H) fun x23 => 
  bV (some x23) fun x2_2 => bV (some (.int .i64 (.ofNat 0))) fun x3_2 => some (.ret (.tuple [x2_2, x3_2]), H)))
def h61 : Hint := (.s .o (.s (.s .o (.cl (.s .o .o) .o)) (.s .o (.s .o (.s .o (.s .o (.s .o .o)))))))
theorem f61_eq (D : Dyn) (n : Nat) : f61 D n = funK (s61 D n) D n 61 Tryz.f61 h61 := by kernel_rfl
theorem f61_ok {D : Dyn} (hD : DG D) (n : Nat) : FI 61 (f61 D n) := fun_ok X_ok hD (SOk.cons (f150_ok hD n).fs (SOk.cons (f151_ok hD n).fs (SOk.nil))) Tryz.func61 (by kernel_rfl) (f61_eq D n)

def s22 (D : Dyn) (n : Nat) : Tb := ⟨X, [(61, f61 D n)]⟩
/-- jetty/tree.Open -/
def f22 (D : Dyn) (n : Nat) (vs : List AV) (H : AH) : Option (AV × AH) :=
  outR (hd vs fun x0 vs => hd vs fun x1 vs => hd vs fun x2 vs => nl vs <|
  bA (bxV 52 x2) H fun x5 H => 
  bV (cmpO .eql (eqP x0 .nilPtr)) fun x11 => 
  cnd x11 (bV (some .nilPtr) fun x6 => bV (some (.int .i64 (.ofNat 2))) fun x7 => some (.ret (.tuple [x6, x7]), H))
  (bV (ldN 3 x5 H) fun x13 => 
  bR (f61 D n [x13] H) fun x14 H => 
  bV (pExtract x14 0) fun x15 => 
  bV (pExtract x14 1) fun x16 => 
  bV (bInt .neq x16 (.int .i64 (.ofNat 0))) fun x18 => 
  jn (wnt x18 false (bV (fAd 0 x5) fun x20 => 
  bV (ld1 x20 H) fun x21 => 
  bV (bInt .eql x21 (.int .i64 (.ofNat 1))) fun x22 => 
  some (.norm [x22], H)) (some (.norm [undefA], H))) fun vs H => hd vs fun x22_2 vs => 
  bV (pk3 (some x18) (some (.bool true)) (some x22_2)) fun x23 => 
  cnd x23 (bV (some .nilPtr) fun x6_2 => bV (some (.int .i64 (.ofNat 1))) fun x7_2 => some (.ret (.tuple [x6_2, x7_2]), H))
  (bV (ldN 3 x5 H) fun x26 => 
  bA (mkM [10]) H fun x27 H => 
  bV (bldS [(0, 1), (1, 1), (2, 3), (5, 1), (6, 1), (7, 1)] [.nilPtr, .nilPtr, (.int .i64 (.ofNat 0)), (.int .i64 (.ofNat 0)), (.int .u64 (.ofNat 0)), .nilMap, (.int .u64 (.ofNat 0)), .nilSlice] [(0, x0), (1, x1), (2, x26), (3, x27)]) fun x28 => 
  bA (bxV 135 x28) H fun x29 H => 
  bV (some x29) fun x6_3 => bV (some (.int .i64 (.ofNat 0))) fun x7_3 => some (.ret (.tuple [x6_3, x7_3]), H))))
def h22 : Hint := (.s .o (.s (.s .o (.cl (.s .o .o) .o)) (.s (.s .o (.s .o (.cl (.s .o .o) .o))) (.s .o .o))))
theorem f22_eq (D : Dyn) (n : Nat) : f22 D n = funK (s22 D n) D n 22 Tryz.f22 h22 := by kernel_rfl
theorem f22_ok {D : Dyn} (hD : DG D) (n : Nat) : FI 22 (f22 D n) := fun_ok X_ok hD (SOk.cons (f61_ok hD n).fs (SOk.nil)) Tryz.func22 (by kernel_rfl) (f22_eq D n)

def s88 (D : Dyn) (n : Nat) : Tb := ⟨X, []⟩
/-- (*jetty/tree.Tree).none -/
def f88 (D : Dyn) (n : Nat) (vs : List AV) (H : AH) : Option (AV × AH) :=
  outR (hd vs fun x0 vs => nl vs <|
  bV (cmpO .eql (eqP x0 .nilPtr)) fun x4 => 
  jn (wnt x4 false (bV (pNil x0) fun x7 => 
  bV (fAd 0 x7) fun x8 => 
  bV (ld1 x8 H) fun x9 => 
  bV (cmpO .eql (eqP x9 .nilPtr)) fun x10 => 
  some (.norm [x10], H)) (some (.norm [undefA], H))) fun vs H => hd vs fun x10_2 vs => 
  bV (pk3 (some x4) (some (.bool true)) (some x10_2)) fun x11 => 
  jn (wnt x11 false (bV (pNil x0) fun x14 => 
  bV (fAd 5 x14) fun x15 => 
  bV (ld1 x15 H) fun x16 => 
  bV (cmpO .eql (eqM x16 .nilMap)) fun x17 => 
  some (.norm [x17], H)) (some (.norm [undefA], H))) fun vs H => hd vs fun x17_2 vs => 
  bV (pk3 (some x11) (some (.bool true)) (some x17_2)) fun x18 => 
  bV (some x18) fun x2 => some (.ret x2, H))
def h88 : Hint := (.s .o (.s .o .o))
theorem f88_eq (D : Dyn) (n : Nat) : f88 D n = funK (s88 D n) D n 88 Tryz.f88 h88 := by kernel_rfl
theorem f88_ok {D : Dyn} (hD : DG D) (n : Nat) : FI 88 (f88 D n) := fun_ok X_ok hD (SOk.nil) Tryz.func88 (by kernel_rfl) (f88_eq D n)

def s185 (D : Dyn) (n : Nat) : Tb := ⟨X, []⟩
/-- (*jetty/tree.change).add -/
def f185 (D : Dyn) (n : Nat) (vs : List AV) (H : AH) : Option (AV × AH) :=
  outR (hd vs fun x0 vs => hd vs fun x1 vs => nl vs <|
  bA (bxV 57 x1) H fun x3 H => 
  bA (bxV 52 (.agg [(.int .i64 (.ofNat 0)), (.int .i64 (.ofNat 0)), (.int .u64 (.ofNat 0))])) H fun x4 H => 
  bV (pNil x0) fun x6 => 
  bV (fAd 1 x6) fun x7 => 
  bV (ld1 x7 H) fun x8 => 
  bV (bInt .add x8 (.int .u64 (.ofNat 1))) fun x9 => 
  bV (pNil x0) fun x10 => 
  bV (fAd 1 x10) fun x11 => 
  bR (stN 1 x11 x9 H) fun x9999 H => 
  bV (pNil x0) fun x13 => 
  bV (fAd 2 x13) fun x14 => 
  bV (ld1 x14 H) fun x15 => 
  bV (pNil x0) fun x17 => 
  bV (fAd 1 x17) fun x18 => 
  bV (ld1 x18 H) fun x19 => 
  bV (ldN 4 x3 H) fun x20 => 
  bR (upM [10] x15 x19 x20 H) fun x9999_2 H => 
  bV (pNil x0) fun x22 => 
  bV (fAd 1 x22) fun x23 => 
  bV (ld1 x23 H) fun x24 => 
  bV (bldS [(0, 1), (1, 1), (2, 1)] [(.int .i64 (.ofNat 0)), (.int .i64 (.ofNat 0)), (.int .u64 (.ofNat 0))] [(0, (.int .i64 (.ofNat 1))), (2, x24)]) fun x25 => 
  bR (stN 3 x4 x25 H) fun x9999_3 H => 
  bV (ldN 3 x4 H) fun x9004 => some (.ret x9004, H))
def h185 : Hint := (.s .o (.s .o (.s .o (.s .o .o))))
theorem f185_eq (D : Dyn) (n : Nat) : f185 D n = funK (s185 D n) D n 185 Tryz.f185 h185 := by kernel_rfl
theorem f185_ok {D : Dyn} (hD : DG D) (n : Nat) : FI 185 (f185 D n) := fun_ok X_ok hD (SOk.nil) Tryz.func185 (by kernel_rfl) (f185_eq D n)

def s184 (D : Dyn) (n : Nat) : Tb := ⟨X, []⟩
def f184j0 (D : Dyn) (n : Nat) (vs : List AV) (H : AH) : Rs :=
  hd vs fun x0_3 vs => hd vs fun x3_3 vs => hd vs fun x4_2 vs => hd vs fun x16_3 vs => hd vs fun x17_3 vs => hd vs fun x18_2 vs => 
  bV (bInt .add x18_2 (.int .i64 (.ofNat 1))) fun x41 => 
  some (.norm [x0_3, x3_3, x4_2, x16_3, x17_3, x41], H)
def f184l1 (D : Dyn) (n : Nat) (vs : List AV) (H : AH) : Rs :=
  hd vs fun x0_2 vs => hd vs fun x3_2 vs => hd vs fun x4 vs => hd vs fun x16_2 vs => hd vs fun x17_2 vs => hd vs fun x18 vs => 
  bV (bInt .lss x18 x17_2) fun x19 => 
  cnd x19 (bV (ixSl 3 x16_2 x18) fun x20 => 
  bV (ldN 3 x20 H) fun x21 => 
  bA (bxV 52 (.agg [(.int .i64 (.ofNat 0)), (.int .i64 (.ofNat 0)), (.int .u64 (.ofNat 0))])) H fun x6 H => 
  bR (stN 3 x6 x21 H) fun x9999 H => 
  bV (fAd 0 x6) fun x22 => 
  bV (ld1 x22 H) fun x23 => 
  bV (bInt .eql x23 (.int .i64 (.ofNat 1))) fun x24 => 
  jn (cnd x24 (bV (pNil x4) fun x26 => 
  bV (fAd 5 x26) fun x27 => 
  bV (ld1 x27 H) fun x28 => 
  bV (fAd 2 x6) fun x29 => 
  bV (ld1 x29 H) fun x30 => 
  bR (dlM [10] x28 x30 H) fun x9999_2 H => 
  some (.norm [x0_2, x3_2, x4, x16_2, x17_2, x18], H))
  (bV (pNil x4) fun x33 => 
  bV (fAd 7 x33) fun x34 => 
  bV (ld1 x34 H) fun x35 => 
  bV (ldN 3 x6 H) fun x36 => 
  bA (bldL 52 3 1 [(.int .i64 (.ofNat 0)), (.int .i64 (.ofNat 0)), (.int .u64 (.ofNat 0))] [(0, x36)]) H fun x37 H => 
  bR (apP 52 3 24 x35 x37 H) fun x38 H => 
  bV (pNil x4) fun x39 => 
  bV (fAd 7 x39) fun x40 => 
  bR (stN 1 x40 x38 H) fun x9999_3 H => 
  some (.norm [x0_2, x3_2, x4, x16_2, x17_2, x18], H))) (f184j0 D n))
  (some (.exit 0 [x0_2, x3_2, x4], H))
def f184b2 (D : Dyn) (n : Nat) (vs : List AV) (H : AH) : Rs :=
  hd vs fun x0_4 vs => hd vs fun x3_4 vs => hd vs fun x4_3 vs => 
  tld (mt184_0 [x0_4, x3_4, x4_3] H) H.next fun H => 
  bV (pNil x0_4) fun x60 => 
  bV (fAd 1 x60) fun x61 => 
  bV (ld1 x61 H) fun x62 => 
  bV (pNil x4_3) fun x63 => 
  bV (fAd 6 x63) fun x64 => 
  bR (stN 1 x64 x62 H) fun x9999_4 H => 
  bV (ldN 3 x3_4 H) fun x66 => 
  bV (pNil x4_3) fun x67 => 
  bV (fAd 2 x67) fun x68 => 
  bR (stN 3 x68 x66 H) fun x9999_5 H => 
  some (.ret (.tuple []), H)
/-- (*jetty/tree.change).done -/
def f184 (D : Dyn) (n : Nat) (vs : List AV) (H : AH) : Option (AV × AH) :=
  outR (hd vs fun x0 vs => hd vs fun x1 vs => nl vs <|
  bA (bxV 52 x1) H fun x3 H => 
  bV (pNil x0) fun x10 => 
  bV (fAd 0 x10) fun x11 => 
  bV (ld1 x11 H) fun x12 => 
  bV (pNil x0) fun x14 => 
  bV (fAd 3 x14) fun x15 => 
  bV (ld1 x15 H) fun x16 => 
  bV (lnSl x16) fun x17 => 
  jb 0 (loopK n (f184l1 D n) [x0, x3, x12, x16, x17, (.int .i64 (.ofNat 0))] H) (f184b2 D n))
def h184 : Hint := (.s .o (.s .o (.s (.s .o (.b [0, 3, 4] (.l [0, 3, 4, 16, 17, 18] (.s .o (.s (.cr .o .o) (.s (.b0 (.s .o (.s .o (.c [0, 3, 4, 16, 17, 18] .o .o)))) .o)))))) (.s (.t [0, 3, 4] mt184_0) (.s .o .o)))))
theorem f184_eq (D : Dyn) (n : Nat) : f184 D n = funK (s184 D n) D n 184 Tryz.f184 h184 := by kernel_rfl
theorem f184_tolds : toldsF Tryz.f184 h184 = [(q184_0.code, [0, 3, 4], mt184_0)] := by kernel_rfl
theorem f184_told : ∀ x ∈ toldsF Tryz.f184 h184, ToldOk PP Tryz.f184.ntmps 184 x.1 x.2.1 x.2.2 := by
  rw [f184_tolds]; intro x hx
  simp only [List.mem_cons, List.not_mem_nil, or_false] at hx
  subst hx; exact told184_0
theorem f184_ok {D : Dyn} (hD : DG D) (n : Nat) : FI 184 (f184 D n) := fun_okT X_ok hD (SOk.nil) Tryz.func184 (sitesT_ok (by kernel_rfl) f184_told) (f184_eq D n)

def s254 (D : Dyn) (n : Nat) : Tb := ⟨X, []⟩
def f254l0 (D : Dyn) (n : Nat) (vs : List AV) (H : AH) : Rs :=
  hd vs fun x1_2 vs => hd vs fun x3 vs => hd vs fun x14_2 vs => hd vs fun x15_2 vs => hd vs fun x16 vs => 
  bV (bInt .lss x16 x15_2) fun x17 => 
  cnd x17 (bV (ixSl 1 x14_2 x16) fun x18 => 
  bV (ld1 x18 H) fun x19 => 
  bV (lnStr x19) fun x22 => 
  bV (bInt .add (.int .i64 (.ofNat 1)) x22) fun x23 => 
  bV (bInt .add x3 x23) fun x24 => 
  bV (bInt .add x16 (.int .i64 (.ofNat 1))) fun x25 => 
  some (.norm [x1_2, x24, x14_2, x15_2, x25], H))
  (some (.exit 0 [x1_2, x3], H))
def f254l1 (D : Dyn) (n : Nat) (vs : List AV) (H : AH) : Rs :=
  hd vs fun x3_3 vs => hd vs fun x27_2 vs => hd vs fun x28_2 vs => hd vs fun x29 vs => 
  bV (bInt .lss x29 x28_2) fun x30 => 
  cnd x30 (bV (ixSl 1 x27_2 x29) fun x31 => 
  bV (ld1 x31 H) fun x32 => 
  bV (lnStr x32) fun x35 => 
  bV (bInt .add (.int .i64 (.ofNat 1)) x35) fun x36 => 
  bV (bInt .add x3_3 x36) fun x37 => 
  bV (bInt .add x29 (.int .i64 (.ofNat 1))) fun x38 => 
  some (.norm [x37, x27_2, x28_2, x38], H))
  (some (.exit 2 [x3_3], H))
def f254b2 (D : Dyn) (n : Nat) (vs : List AV) (H : AH) : Rs :=
  hd vs fun x3_4 vs => 
  bV (some x3_4) fun x2 => some (.ret x2, H)
def f254b3 (D : Dyn) (n : Nat) (vs : List AV) (H : AH) : Rs :=
  hd vs fun x1_3 vs => hd vs fun x3_2 vs => 
  bV (fAd 2 x1_3) fun x26 => 
  bV (ld1 x26 H) fun x27 => 
  bV (lnSl x27) fun x28 => 
  jb 2 (loopK n (f254l1 D n) [x3_2, x27, x28, (.int .i64 (.ofNat 0))] H) (f254b2 D n)
/-- jetty/node.Size -/
def f254 (D : Dyn) (n : Nat) (vs : List AV) (H : AH) : Option (AV × AH) :=
  outR (hd vs fun x0 vs => nl vs <|
  bA (bxV 57 x0) H fun x1 H => 
  bV (fAd 3 x1) fun x8 => 
  bV (ld1 x8 H) fun x9 => 
  bV (lnSl x9) fun x10 => 
  bV (bInt .mul (.int .i64 (.ofNat 16)) x10) fun x11 => 
  bV (bInt .add (.int .i64 (.ofNat 2)) x11) fun x12 => 
  bV (fAd 1 x1) fun x13 => 
  bV (ld1 x13 H) fun x14 => 
  bV (lnSl x14) fun x15 => 
  jb 0 (loopK n (f254l0 D n) [x1, x12, x14, x15, (.int .i64 (.ofNat 0))] H) (f254b3 D n))
def h254 : Hint := (.s .o (.s .o (.s (.s .o (.b [1, 3] (.l [1, 3, 14, 15, 16] (.s .o (.s (.cr .o .o) (.s (.b0 (.s .o .o)) .o)))))) (.s (.s .o (.b [3] (.l [3, 27, 28, 29] (.s .o (.s (.cr .o .o) (.s (.b0 (.s .o .o)) .o)))))) (.s .o .o)))))
theorem f254_eq (D : Dyn) (n : Nat) : f254 D n = funK (s254 D n) D n 254 Tryz.f254 h254 := by kernel_rfl
theorem f254_ok {D : Dyn} (hD : DG D) (n : Nat) : FI 254 (f254 D n) := fun_ok X_ok hD (SOk.nil) Tryz.func254 (by kernel_rfl) (f254_eq D n)

def s191 (D : Dyn) (n : Nat) : Tb := ⟨X, []⟩
/-- jetty/node.mayKey -/
def f191 (D : Dyn) (n : Nat) (vs : List AV) (H : AH) : Option (AV × AH) :=
  outR (hd vs fun x0 vs => nl vs <|
  bV (lnStr x0) fun x4 => 
  bV (bInt .geq x4 (.int .i64 (.ofNat 1))) fun x5 => 
  jn (wnt x5 true (bV (lnStr x0) fun x8 => 
  bV (bInt .leq x8 (.int .i64 (.ofNat 40))) fun x9 => 
  some (.norm [x9], H)) (some (.norm [undefA], H))) fun vs H => hd vs fun x9_2 vs => 
  bV (pk3 (some x5) (some x9_2) (some (.bool false))) fun x10 => 
  bV (some x10) fun x2 => some (.ret x2, H))
def h191 : Hint := (.s .o (.s .o .o))
theorem f191_eq (D : Dyn) (n : Nat) : f191 D n = funK (s191 D n) D n 191 Tryz.f191 h191 := by kernel_rfl
theorem f191_ok {D : Dyn} (hD : DG D) (n : Nat) : FI 191 (f191 D n) := fun_ok X_ok hD (SOk.nil) Tryz.func191 (by kernel_rfl) (f191_eq D n)

def s190 (D : Dyn) (n : Nat) : Tb := ⟨X, [(191, f191 D n)]⟩
def f190l0 (D : Dyn) (n : Nat) (vs : List AV) (H : AH) : Rs :=
  hd vs fun x1_2 vs => hd vs fun x10_2 vs => hd vs fun x11_2 vs => hd vs fun x12 vs => 
  bV (bInt .lss x12 x11_2) fun x13 => 
  cnd x13 (bV (ixSl 1 x10_2 x12) fun x15 => 
  bV (ld1 x15 H) fun x16 => 
  bR (f191 D n [x16] H) fun x18 H => 
  bV (aun .not x18) fun x19 => 
  jn (wnt x19 false (bV (bInt .gtr x12 (.int .i64 (.ofNat 0))) fun x22 => 
  some (.norm [x22], H)) (some (.norm [undefA], H))) fun vs H => hd vs fun x23 vs => 
  jn (wnt x23 true (bV (fAd 1 x1_2) fun x24 => 
  bV (ld1 x24 H) fun x25 => 
  bV (bInt .sub x12 (.int .i64 (.ofNat 1))) fun x27 => 
  bV (ixSl 1 x25 x27) fun x28 => 
  bV (ld1 x28 H) fun x29 => 
  bV (bStr .geq x29 x16) fun x31 => 
  some (.norm [x31], H)) (some (.norm [undefA], H))) fun vs H => hd vs fun x31_2 vs => 
  jn (wnt x19 false (bV (pk3 (some x23) (some x31_2) (some (.bool false))) fun x32 => 
  some (.norm [x32], H)) (some (.norm [undefA], H))) fun vs H => hd vs fun x32_2 vs => 
  bV (pk3 (some x19) (some (.bool true)) (some x32_2)) fun x33 => 
  cnd x33 (bV (some (.bool false)) fun x2 => some (.ret x2, H))
  (bV (bInt .add x12 (.int .i64 (.ofNat 1))) fun x34 => 
  some (.norm [x1_2, x10_2, x11_2, x34], H)))
  (some (.exit 0 [x1_2], H))
def f190l1 (D : Dyn) (n : Nat) (vs : List AV) (H : AH) : Rs :=
  hd vs fun x51_2 vs => hd vs fun x52_2 vs => hd vs fun x53 vs => 
  bV (bInt .lss x53 x52_2) fun x54 => 
  cnd x54 (bV (ixSl 1 x51_2 x53) fun x55 => 
  bV (ld1 x55 H) fun x56 => 
  bV (lnStr x56) fun x58 => 
  bV (bInt .gtr x58 (.int .i64 (.ofNat 200))) fun x59 => 
  cnd x59 (bV (some (.bool false)) fun x2_3 => some (.ret x2_3, H))
  (bV (bInt .add x53 (.int .i64 (.ofNat 1))) fun x60 => 
  some (.norm [x51_2, x52_2, x60], H)))
  (some (.exit 2 [], H))
def f190b2 (D : Dyn) (n : Nat) (vs : List AV) (H : AH) : Rs :=
  
  bV (some (.bool true)) fun x2_4 => some (.ret x2_4, H)
def f190l3 (D : Dyn) (n : Nat) (vs : List AV) (H : AH) : Rs :=
  hd vs fun x82_2 vs => hd vs fun x83_2 vs => hd vs fun x84 vs => 
  bV (bInt .lss x84 x83_2) fun x85 => 
  cnd x85 (bV (ixSl 3 x82_2 x84) fun x86 => 
  bV (ldN 3 x86 H) fun x87 => 
  bA (bxV 52 (.agg [(.int .i64 (.ofNat 0)), (.int .i64 (.ofNat 0)), (.int .u64 (.ofNat 0))])) H fun x8 H => 
  bR (stN 3 x8 x87 H) fun x9999 H => 
  bV (fAd 0 x8) fun x88 => 
  bV (ld1 x88 H) fun x89 => 
  bV (bInt .lss x89 (.int .i64 (.ofNat 1))) fun x90 => 
  jn (wnt x90 false (bV (fAd 0 x8) fun x92 => 
  bV (ld1 x92 H) fun x93 => 
  bV (bInt .geq x93 (.int .i64 (.ofNat 8192))) fun x94 => 
  some (.norm [x94], H)) (some (.norm [undefA], H))) fun vs H => hd vs fun x94_2 vs => 
  bV (pk3 (some x90) (some (.bool true)) (some x94_2)) fun x95 => 
  jn (wnt x95 false (bV (fAd 1 x8) fun x97 => 
  bV (ld1 x97 H) fun x98 => 
  bV (bInt .lss x98 (.int .i64 (.ofNat 0))) fun x99 => 
  some (.norm [x99], H)) (some (.norm [undefA], H))) fun vs H => hd vs fun x99_2 vs => 
  bV (pk3 (some x95) (some (.bool true)) (some x99_2)) fun x100 => 
  jn (wnt x100 false (bV (fAd 1 x8) fun x102 => 
  bV (ld1 x102 H) fun x103 => 
  bV (bInt .gtr x103 (.int .i64 (.ofNat 2147483647))) fun x104 => 
  some (.norm [x104], H)) (some (.norm [undefA], H))) fun vs H => hd vs fun x104_2 vs => 
  bV (pk3 (some x100) (some (.bool true)) (some x104_2)) fun x105 => 
  cnd x105 (bV (some (.bool false)) fun x2_6 => some (.ret x2_6, H))
  (bV (bInt .add x84 (.int .i64 (.ofNat 1))) fun x106 => 
  some (.norm [x82_2, x83_2, x106], H)))
  (some (.exit 4 [], H))
def f190b4 (D : Dyn) (n : Nat) (vs : List AV) (H : AH) : Rs :=
  
  bV (some (.bool true)) fun x2_7 => some (.ret x2_7, H)
def f190b5 (D : Dyn) (n : Nat) (vs : List AV) (H : AH) : Rs :=
  hd vs fun x1_3 vs => 
  bV (fAd 0 x1_3) fun x35 => 
  bV (ld1 x35 H) fun x36 => 
  cnd x36 (bV (fAd 2 x1_3) fun x37 => 
  bV (ld1 x37 H) fun x38 => 
  bV (lnSl x38) fun x39 => 
  bV (fAd 1 x1_3) fun x40 => 
  bV (ld1 x40 H) fun x41 => 
  bV (lnSl x41) fun x42 => 
  bV (bInt .neq x39 x42) fun x43 => 
  jn (wnt x43 false (bV (fAd 3 x1_3) fun x45 => 
  bV (ld1 x45 H) fun x46 => 
  bV (lnSl x46) fun x47 => 
  bV (bInt .neq x47 (.int .i64 (.ofNat 0))) fun x48 => 
  some (.norm [x48], H)) (some (.norm [undefA], H))) fun vs H => hd vs fun x48_2 vs => 
  bV (pk3 (some x43) (some (.bool true)) (some x48_2)) fun x49 => 
  cnd x49 (bV (some (.bool false)) fun x2_2 => some (.ret x2_2, H))
  (bV (fAd 2 x1_3) fun x50 => 
  bV (ld1 x50 H) fun x51 => 
  bV (lnSl x51) fun x52 => 
  jb 2 (loopK n (f190l1 D n) [x51, x52, (.int .i64 (.ofNat 0))] H) (f190b2 D n)))
  (bV (fAd 1 x1_3) fun x61 => 
  bV (ld1 x61 H) fun x62 => 
  bV (lnSl x62) fun x63 => 
  bV (bInt .eql x63 (.int .i64 (.ofNat 0))) fun x64 => 
  jn (wnt x64 false (bV (fAd 2 x1_3) fun x66 => 
  bV (ld1 x66 H) fun x67 => 
  bV (lnSl x67) fun x68 => 
  bV (bInt .neq x68 (.int .i64 (.ofNat 0))) fun x69 => 
  some (.norm [x69], H)) (some (.norm [undefA], H))) fun vs H => hd vs fun x69_2 vs => 
  bV (pk3 (some x64) (some (.bool true)) (some x69_2)) fun x70 => 
  jn (wnt x70 false (bV (fAd 3 x1_3) fun x72 => 
  bV (ld1 x72 H) fun x73 => 
  bV (lnSl x73) fun x74 => 
  bV (fAd 1 x1_3) fun x75 => 
  bV (ld1 x75 H) fun x76 => 
  bV (lnSl x76) fun x77 => 
  bV (bInt .add x77 (.int .i64 (.ofNat 1))) fun x78 => 
  bV (bInt .neq x74 x78) fun x79 => 
  some (.norm [x79], H)) (some (.norm [undefA], H))) fun vs H => hd vs fun x79_2 vs => 
  bV (pk3 (some x70) (some (.bool true)) (some x79_2)) fun x80 => 
  cnd x80 (bV (some (.bool false)) fun x2_5 => some (.ret x2_5, H))
  (bV (fAd 3 x1_3) fun x81 => 
  bV (ld1 x81 H) fun x82 => 
  bV (lnSl x82) fun x83 => 
  jb 4 (loopK n (f190l3 D n) [x82, x83, (.int .i64 (.ofNat 0))] H) (f190b4 D n)))
/-- jetty/node.shaped -/
def f190 (D : Dyn) (n : Nat) (vs : List AV) (H : AH) : Option (AV × AH) :=
  outR (hd vs fun x0 vs => nl vs <|
  bA (bxV 57 x0) H fun x1 H => 
  bV (fAd 1 x1) fun x9 => 
  bV (ld1 x9 H) fun x10 => 
  bV (lnSl x10) fun x11 => 
  jb 0 (loopK n (f190l0 D n) [x1, x10, x11, (.int .i64 (.ofNat 0))] H) (f190b5 D n))
def h190 : Hint := (.s .o (.s (.s .o (.b [1] (.l [1, 10, 11, 12] (.s .o (.s (.cr .o .o) (.s (.b0 (.s .o (.s .o (.cl (.s .o .o) .o)))) .o)))))) (.s (.s .o (.cl (.s (.s .o (.cl (.s .o .o) .o)) (.s (.s .o (.b [] (.l [51, 52, 53] (.s .o (.s (.cr .o .o) (.s (.b0 (.s .o (.s .o (.cl (.s .o .o) .o)))) .o)))))) (.s .o .o))) .o)) (.s (.s .o (.cl (.s .o .o) .o)) (.s (.s .o (.b [] (.l [82, 83, 84] (.s .o (.s (.cr .o .o) (.s (.b0 (.s .o (.s .o (.cl (.s .o .o) .o)))) .o)))))) (.s .o .o))))))
theorem f190_eq (D : Dyn) (n : Nat) : f190 D n = funK (s190 D n) D n 190 Tryz.f190 h190 := by kernel_rfl
theorem f190_ok {D : Dyn} (hD : DG D) (n : Nat) : FI 190 (f190 D n) := fun_ok X_ok hD (SOk.cons (f191_ok hD n).fs (SOk.nil)) Tryz.func190 (by kernel_rfl) (f190_eq D n)

def s294 (D : Dyn) (n : Nat) : Tb := ⟨X, [(254, f254 D n)]⟩
def f294j0 (D : Dyn) (n : Nat) (vs : List AV) (H : AH) : Rs :=
  hd vs fun x1_4 vs => hd vs fun x3_3 vs => hd vs fun x4_3 vs => hd vs fun x5_3 vs => hd vs fun x6 vs => hd vs fun x20_2 vs => hd vs fun x21_2 vs => 
  bV (bInt .gtr x6 (.int .i64 (.ofNat 0))) fun x47 => 
  jn (wnt x47 true (bV (bInt .gtr x5_3 x3_3) fun x51 => 
  some (.norm [x51], H)) (some (.norm [undefA], H))) fun vs H => hd vs fun x51_2 vs => 
  bV (pk3 (some x47) (some x51_2) (some (.bool false))) fun x52 => 
  cnd x52 (bV (some x6) fun x2 => some (.ret x2, H))
  (bV (bInt .add x21_2 (.int .i64 (.ofNat 1))) fun x54 => 
  some (.norm [x1_4, x3_3, x4_3, x5_3, x20_2, x54], H))
def f294l1 (D : Dyn) (n : Nat) (vs : List AV) (H : AH) : Rs :=
  hd vs fun x1_3 vs => hd vs fun x3_2 vs => hd vs fun x4_2 vs => hd vs fun x5_2 vs => hd vs fun x20 vs => hd vs fun x21 vs => 
  bV (bInt .lss x21 x20) fun x22 => 
  cnd x22 (bV (fAd 1 x1_3) fun x25 => 
  bV (ld1 x25 H) fun x26 => 
  bV (ixSl 1 x26 x21) fun x28 => 
  bV (ld1 x28 H) fun x29 => 
  bV (lnStr x29) fun x30 => 
  bV (bInt .add (.int .i64 (.ofNat 1)) x30) fun x31 => 
  bV (bInt .add x5_2 x31) fun x32 => 
  bV (fAd 0 x1_3) fun x33 => 
  bV (ld1 x33 H) fun x34 => 
  jn (cnd x34 (bV (fAd 2 x1_3) fun x36 => 
  bV (ld1 x36 H) fun x37 => 
  bV (ixSl 1 x37 x21) fun x39 => 
  bV (ld1 x39 H) fun x40 => 
  bV (lnStr x40) fun x41 => 
  bV (bInt .add (.int .i64 (.ofNat 1)) x41) fun x42 => 
  bV (bInt .add x32 x42) fun x43 => 
  some (.norm [x1_3, x3_2, x4_2, x43, x21, x20, x21], H))
  (bV (bInt .add x32 (.int .i64 (.ofNat 16))) fun x45 => 
  some (.norm [x1_3, x3_2, x4_2, x45, x21, x20, x21], H))) (f294j0 D n))
  (some (.exit 0 [x4_2], H))
def f294b2 (D : Dyn) (n : Nat) (vs : List AV) (H : AH) : Rs :=
  hd vs fun x4_4 vs => 
  bV (some x4_4) fun x2_2 => some (.ret x2_2, H)
def f294j3 (D : Dyn) (n : Nat) (vs : List AV) (H : AH) : Rs :=
  hd vs fun x1_2 vs => hd vs fun x3 vs => hd vs fun x4 vs => hd vs fun x5 vs => 
  jb 0 (loopK n (f294l1 D n) [x1_2, x3, x4, x5, x4, (.int .i64 (.ofNat 0))] H) (f294b2 D n)
/-- jetty/node.half -/
def f294 (D : Dyn) (n : Nat) (vs : List AV) (H : AH) : Option (AV × AH) :=
  outR (hd vs fun x0 vs => nl vs <|
  bA (bxV 57 x0) H fun x1 H => 
  bV (ldN 4 x1 H) fun x7 => 
  bR (f254 D n [x7] H) fun x8 H => 
  bV (bInt .sub x8 (.int .i64 (.ofNat 2))) fun x9 => 
  bV (bInt .quo x9 (.int .i64 (.ofNat 2))) fun x10 => 
  bV (fAd 1 x1) fun x11 => 
  bV (ld1 x11 H) fun x12 => 
  bV (lnSl x12) fun x13 => 
  bV (bInt .sub x13 (.int .i64 (.ofNat 1))) fun x14 => 
  bV (fAd 0 x1) fun x15 => 
  bV (ld1 x15 H) fun x16 => 
  bV (aun .not x16) fun x17 => 
  jn (cnd x17 (bV (bInt .sub x14 (.int .i64 (.ofNat 1))) fun x19 => 
  some (.norm [x1, x10, x19, (.int .i64 (.ofNat 16))], H))
  (some (.norm [x1, x10, x14, (.int .i64 (.ofNat 0))], H))) (f294j3 D n))
def h294 : Hint := (.s .o (.s .o (.s .o (.s .o (.s (.s .o (.c [1, 3, 4, 5] (.s .o .o) .o)) (.s (.s .o (.b [4] (.l [1, 3, 4, 5, 20, 21] (.s .o (.s (.cr .o .o) (.s (.b0 (.s .o (.s .o (.s (.s .o (.c [1, 3, 4, 5, 6, 20, 21] .o .o)) (.s .o (.cl (.s .o .o) .o)))))) .o)))))) (.s .o .o)))))))
theorem f294_eq (D : Dyn) (n : Nat) : f294 D n = funK (s294 D n) D n 294 Tryz.f294 h294 := by kernel_rfl
theorem f294_ok {D : Dyn} (hD : DG D) (n : Nat) : FI 294 (f294 D n) := fun_ok X_ok hD (SOk.cons (f254_ok hD n).fs (SOk.nil)) Tryz.func294 (by kernel_rfl) (f294_eq D n)

def s103 (D : Dyn) (n : Nat) : Tb := ⟨X, []⟩
/-- slices.Clone[[]string,string] -/
def f103 (D : Dyn) (n : Nat) (vs : List AV) (H : AH) : Option (AV × AH) :=
  outR (hd vs fun x0 vs => nl vs <|
  bV (cmpO .eql (eqS x0 .nilSlice)) fun x4 => 
  cnd x4 (bV (some .nilSlice) fun x2 => some (.ret x2, H))
  (bA (bldL 9 1 0 [(.str 0 0)] []) H fun x5 H => 
  bR (apP 9 1 16 x5 x0 H) fun x7 H => 
  bV (some x7) fun x2_2 => some (.ret x2_2, H)))
def h103 : Hint := (.s .o (.s (.s .o (.cl (.s .o .o) .o)) (.s .o .o)))
theorem f103_eq (D : Dyn) (n : Nat) : f103 D n = funK (s103 D n) D n 103 Tryz.f103 h103 := by kernel_rfl
theorem f103_ok {D : Dyn} (hD : DG D) (n : Nat) : FI 103 (f103 D n) := fun_ok X_ok hD (SOk.nil) Tryz.func103 (by kernel_rfl) (f103_eq D n)

def s104 (D : Dyn) (n : Nat) : Tb := ⟨X, []⟩
/-- slices.Clone[[]jetty/api.Ptr,jetty/api.Ptr] -/
def f104 (D : Dyn) (n : Nat) (vs : List AV) (H : AH) : Option (AV × AH) :=
  outR (hd vs fun x0 vs => nl vs <|
  bV (cmpO .eql (eqS x0 .nilSlice)) fun x4 => 
  cnd x4 (bV (some .nilSlice) fun x2 => some (.ret x2, H))
  (bA (bldL 52 3 0 [(.int .i64 (.ofNat 0)), (.int .i64 (.ofNat 0)), (.int .u64 (.ofNat 0))] []) H fun x5 H => 
  bR (apP 52 3 24 x5 x0 H) fun x7 H => 
  bV (some x7) fun x2_2 => some (.ret x2_2, H)))
def h104 : Hint := (.s .o (.s (.s .o (.cl (.s .o .o) .o)) (.s .o .o)))
theorem f104_eq (D : Dyn) (n : Nat) : f104 D n = funK (s104 D n) D n 104 Tryz.f104 h104 := by kernel_rfl
theorem f104_ok {D : Dyn} (hD : DG D) (n : Nat) : FI 104 (f104 D n) := fun_ok X_ok hD (SOk.nil) Tryz.func104 (by kernel_rfl) (f104_eq D n)

def s285 (D : Dyn) (n : Nat) : Tb := ⟨X, [(190, f190 D n), (294, f294 D n), (103, f103 D n), (104, f104 D n)]⟩
def f285j0 (D : Dyn) (n : Nat) (vs : List AV) (H : AH) : Rs :=
  hd vs fun x1_2 vs => hd vs fun x2_2 vs => hd vs fun x4_2 vs => hd vs fun x6 vs => 
  bV (ldN 4 x2_2 H) fun x88 => 
  bV (fAd 1 x1_2) fun x89 => 
  bV (ld1 x89 H) fun x90 => 
  bV (ixSl 1 x90 x6) fun x92 => 
  bV (ld1 x92 H) fun x93 => 
  bV (ldN 4 x4_2 H) fun x94 => 
  bR (stN 4 x2_2 x88 H) fun x9999_12 H => chk (ld1 x89 H) x90 <| chk (ld1 x92 H) x93 <| chk (ldN 4 x4_2 H) x94 <| 
  bR (stN 4 x4_2 x94 H) fun x9999_13 H => 
  bV (ldN 4 x2_2 H) fun x9002_2 => bV (some x93) fun x3_2 => bV (ldN 4 x4_2 H) fun x9004_2 => bV (some (.int .i64 (.ofNat 0))) fun x5_2 => some (.ret (.tuple [x9002_2, x3_2, x9004_2, x5_2]), H)
/-- jetty/node.Cut -/
def f285 (D : Dyn) (n : Nat) (vs : List AV) (H : AH) : Option (AV × AH) :=
  outR (hd vs fun x0 vs => nl vs <|
  bA (bxV 57 x0) H fun x1 H => 
  bA (bxV 57 (.agg [(.bool false), .nilSlice, .nilSlice, .nilSlice])) H fun x2 H => 
  bA (bxV 57 (.agg [(.bool false), .nilSlice, .nilSlice, .nilSlice])) H fun x4 H => 
  bV (ldN 4 x1 H) fun x7 => 
  bR (f190 D n [x7] H) fun x8 H => 
  bV (aun .not x8) fun x9 => 
  jn (wnt x9 false (bV (fAd 1 x1) fun x11 => 
  bV (ld1 x11 H) fun x12 => 
  bV (lnSl x12) fun x13 => 
  bV (bInt .lss x13 (.int .i64 (.ofNat 2))) fun x14 => 
  some (.norm [x14], H)) (some (.norm [undefA], H))) fun vs H => hd vs fun x14_2 vs => 
  bV (pk3 (some x9) (some (.bool true)) (some x14_2)) fun x15 => 
  jn (wnt x15 false (bV (fAd 0 x1) fun x17 => 
  bV (ld1 x17 H) fun x18 => 
  bV (aun .not x18) fun x19 => 
  some (.norm [x19], H)) (some (.norm [undefA], H))) fun vs H => hd vs fun x20 vs => 
  jn (wnt x20 true (bV (fAd 1 x1) fun x21 => 
  bV (ld1 x21 H) fun x22 => 
  bV (lnSl x22) fun x23 => 
  bV (bInt .lss x23 (.int .i64 (.ofNat 3))) fun x24 => 
  some (.norm [x24], H)) (some (.norm [undefA], H))) fun vs H => hd vs fun x24_2 vs => 
  jn (wnt x15 false (bV (pk3 (some x20) (some x24_2) (some (.bool false))) fun x25 => 
  some (.norm [x25], H)) (some (.norm [undefA], H))) fun vs H => hd vs fun x25_2 vs => 
  bV (pk3 (some x15) (some (.bool true)) (some x25_2)) fun x26 => 
  cnd x26 (bV (bldS [(0, 1), (1, 1), (2, 1), (3, 1)] [(.bool false), .nilSlice, .nilSlice, .nilSlice] []) fun x27 => 
  bV (bldS [(0, 1), (1, 1), (2, 1), (3, 1)] [(.bool false), .nilSlice, .nilSlice, .nilSlice] []) fun x28 => 
  bR (stN 4 x2 x27 H) fun x9999 H => 
  bR (stN 4 x4 x28 H) fun x9999_2 H => 
  bV (ldN 4 x2 H) fun x9002 => bV (some (.str 0 0)) fun x3 => bV (ldN 4 x4 H) fun x9004 => bV (some (.int .i64 (.ofNat 1))) fun x5 => some (.ret (.tuple [x9002, x3, x9004, x5]), H))
  (bV (ldN 4 x1 H) fun x29 => 
  bR (f294 D n [x29] H) fun x30 H => 
  bV (fAd 0 x1) fun x31 => 
  bV (ld1 x31 H) fun x32 => 
  bV (fAd 0 x1) fun x33 => 
  bV (ld1 x33 H) fun x34 => 
  bV (fAd 0 x2) fun x35 => 
  bR (stN 1 x35 x32 H) fun x9999_3 H => chk (ld1 x33 H) x34 <| 
  bV (fAd 0 x4) fun x36 => 
  bR (stN 1 x36 x34 H) fun x9999_4 H => 
  bV (fAd 1 x1) fun x37 => 
  bV (ld1 x37 H) fun x38 => 
  bV (slSl 1 x38 none (some x30) (some x30) H) fun x41 => 
  bR (f103 D n [x41] H) fun x42 H => 
  bV (fAd 1 x2) fun x43 => 
  bR (stN 1 x43 x42 H) fun x9999_5 H => 
  bV (fAd 0 x1) fun x44 => 
  bV (ld1 x44 H) fun x45 => 
  jn (cnd x45 (bV (fAd 1 x1) fun x46 => 
  bV (ld1 x46 H) fun x47 => 
  bV (slSl 1 x47 (some x30) none none H) fun x49 => 
  bR (f103 D n [x49] H) fun x50 H => 
  bV (fAd 1 x4) fun x51 => 
  bR (stN 1 x51 x50 H) fun x9999_6 H => 
  bV (fAd 2 x1) fun x52 => 
  bV (ld1 x52 H) fun x53 => 
  bV (slSl 1 x53 none (some x30) (some x30) H) fun x56 => 
  bV (fAd 2 x1) fun x58 => 
  bV (ld1 x58 H) fun x59 => 
  bV (slSl 1 x59 (some x30) none none H) fun x61 => 
  bR (f103 D n [x56] H) fun x57 H => chk (ld1 x58 H) x59 <| chk (slSl 1 x59 (some x30) none none H) x61 <| 
  bV (fAd 2 x2) fun x63 => 
  bR (f103 D n [x61] H) fun x62 H => 
  bR (stN 1 x63 x57 H) fun x9999_7 H => 
  bV (fAd 2 x4) fun x64 => 
  bR (stN 1 x64 x62 H) fun x9999_8 H => 
  some (.norm [x1, x2, x4, x30], H))
  (bV (fAd 1 x1) fun x65 => 
  bV (ld1 x65 H) fun x66 => 
  bV (bInt .add x30 (.int .i64 (.ofNat 1))) fun x68 => 
  bV (slSl 1 x66 (some x68) none none H) fun x69 => 
  bR (f103 D n [x69] H) fun x70 H => 
  bV (fAd 1 x4) fun x71 => 
  bR (stN 1 x71 x70 H) fun x9999_9 H => 
  bV (fAd 3 x1) fun x72 => 
  bV (ld1 x72 H) fun x73 => 
  bV (bInt .add x30 (.int .i64 (.ofNat 1))) fun x75 => 
  bV (bInt .add x30 (.int .i64 (.ofNat 1))) fun x77 => 
  bV (slSl 3 x73 none (some x75) (some x77) H) fun x78 => 
  bV (fAd 3 x1) fun x80 => 
  bV (ld1 x80 H) fun x81 => 
  bV (bInt .add x30 (.int .i64 (.ofNat 1))) fun x83 => 
  bV (slSl 3 x81 (some x83) none none H) fun x84 => 
  bR (f104 D n [x78] H) fun x79 H => chk (ld1 x80 H) x81 <| chk (slSl 3 x81 (some x83) none none H) x84 <| 
  bV (fAd 3 x2) fun x86 => 
  bR (f104 D n [x84] H) fun x85 H => 
  bR (stN 1 x86 x79 H) fun x9999_10 H => 
  bV (fAd 3 x4) fun x87 => 
  bR (stN 1 x87 x85 H) fun x9999_11 H => 
  some (.norm [x1, x2, x4, x30], H))) (f285j0 D n)))
def h285 : Hint := (.s .o (.s (.s .o (.cl (.s .o .o) .o)) (.s .o (.s .o (.s .o (.s (.s .o (.c [1, 2, 4, 6] (.s .o .o) (.s .o .o))) (.s .o .o)))))))
theorem f285_eq (D : Dyn) (n : Nat) : f285 D n = funK (s285 D n) D n 285 Tryz.f285 h285 := by kernel_rfl
theorem f285_ok {D : Dyn} (hD : DG D) (n : Nat) : FI 285 (f285 D n) := fun_ok X_ok hD (SOk.cons (f190_ok hD n).fs (SOk.cons (f294_ok hD n).fs (SOk.cons (f103_ok hD n).fs (SOk.cons (f104_ok hD n).fs (SOk.nil))))) Tryz.func285 (by kernel_rfl) (f285_eq D n)

def s256 (D : Dyn) (n : Nat) : Tb := ⟨X, [(254, f254 D n), (285, f285 D n)]⟩
def f256l0 (D : Dyn) (n : Nat) (vs : List AV) (H : AH) : Rs :=
  hd vs fun x1_2 vs => hd vs fun x5 vs => hd vs fun x6 vs => 
  bV (ldN 4 x1_2 H) fun x11 => 
  bR (f254 D n [x11] H) fun x12 H => 
  bV (bInt .gtr x12 (.int .i64 (.ofNat 500))) fun x13 => 
  cnd x13 (bV (ldN 4 x1_2 H) fun x15 => 
  bR (f285 D n [x15] H) fun x16 H => 
  bV (pExtract x16 0) fun x17 => 
  bV (pExtract x16 1) fun x18 => 
  bV (pExtract x16 2) fun x19 => 
  bV (pExtract x16 3) fun x20 => 
  bA (bxV 57 (.agg [(.bool false), .nilSlice, .nilSlice, .nilSlice])) H fun x7 H => 
  bA (bxV 57 (.agg [(.bool false), .nilSlice, .nilSlice, .nilSlice])) H fun x9 H => 
  bR (stN 4 x7 x17 H) fun x9999 H => 
  bR (stN 4 x9 x19 H) fun x9999_2 H => 
  bV (bInt .neq x20 (.int .i64 (.ofNat 0))) fun x22 => 
  cnd x22 (bV (some .nilSlice) fun x2 => bV (some .nilSlice) fun x3 => bV (some (.int .i64 (.ofNat 4))) fun x4 => some (.ret (.tuple [x2, x3, x4]), H))
  (bV (ldN 4 x7 H) fun x24 => 
  bA (bldL 57 4 1 [(.bool false), .nilSlice, .nilSlice, .nilSlice] [(0, x24)]) H fun x25 H => 
  bR (apP 57 4 80 x5 x25 H) fun x26 H => 
  bA (bldL 9 1 1 [(.str 0 0)] [(0, x18)]) H fun x29 H => 
  bR (apP 9 1 16 x6 x29 H) fun x30 H => 
  bV (ldN 4 x9 H) fun x31 => 
  bR (stN 4 x1_2 x31 H) fun x9999_3 H => 
  some (.norm [x1_2, x26, x30], H)))
  (some (.exit 0 [x1_2, x5, x6], H))
def f256b1 (D : Dyn) (n : Nat) (vs : List AV) (H : AH) : Rs :=
  hd vs fun x1_3 vs => hd vs fun x5_2 vs => hd vs fun x6_2 vs => 
  bV (ldN 4 x1_3 H) fun x33 => 
  bA (bldL 57 4 1 [(.bool false), .nilSlice, .nilSlice, .nilSlice] [(0, x33)]) H fun x34 H => 
  bR (apP 57 4 80 x5_2 x34 H) fun x35 H => 
  bV (some x35) fun x2_2 => bV (some x6_2) fun x3_2 => bV (some (.int .i64 (.ofNat 0))) fun x4_2 => some (.ret (.tuple [x2_2, x3_2, x4_2]), H)
/-- jetty/tree.cut -/
def f256 (D : Dyn) (n : Nat) (vs : List AV) (H : AH) : Option (AV × AH) :=
  outR (hd vs fun x0 vs => nl vs <|
  bA (bxV 57 x0) H fun x1 H => 
  jb 0 (loopK n (f256l0 D n) [x1, .nilSlice, .nilSlice] H) (f256b1 D n))
def h256 : Hint := (.s .o (.s .o (.s .o (.s (.b [1, 5, 6] (.l [1, 5, 6] (.s (.s .o (.cr .o .o)) (.b0 (.s .o (.s (.s .o (.cl (.s .o .o) .o)) (.s .o (.s .o .o)))))))) (.s .o .o)))))
theorem f256_eq (D : Dyn) (n : Nat) : f256 D n = funK (s256 D n) D n 256 Tryz.f256 h256 := by kernel_rfl
theorem f256_ok {D : Dyn} (hD : DG D) (n : Nat) : FI 256 (f256 D n) := fun_ok X_ok hD (SOk.cons (f254_ok hD n).fs (SOk.cons (f285_ok hD n).fs (SOk.nil))) Tryz.func256 (by kernel_rfl) (f256_eq D n)

def s258 (D : Dyn) (n : Nat) : Tb := ⟨X, [(185, f185 D n)]⟩
def f258l0 (D : Dyn) (n : Nat) (vs : List AV) (H : AH) : Rs :=
  hd vs fun x0_2 vs => hd vs fun x5 vs => hd vs fun x8 vs => hd vs fun x9_2 vs => hd vs fun x10 vs => 
  bV (bInt .lss x10 x9_2) fun x11 => 
  cnd x11 (bV (ixSl 4 x8 x10) fun x12 => 
  bV (ldN 4 x12 H) fun x13 => 
  bA (bxV 57 (.agg [(.bool false), .nilSlice, .nilSlice, .nilSlice])) H fun x7 H => 
  bR (stN 4 x7 x13 H) fun x9999 H => 
  bV (ldN 4 x7 H) fun x16 => 
  bR (f185 D n [x0_2, x16] H) fun x17 H => 
  bA (bldL 52 3 1 [(.int .i64 (.ofNat 0)), (.int .i64 (.ofNat 0)), (.int .u64 (.ofNat 0))] [(0, x17)]) H fun x18 H => 
  bR (apP 52 3 24 x5 x18 H) fun x19 H => 
  bV (bInt .add x10 (.int .i64 (.ofNat 1))) fun x20 => 
  some (.norm [x0_2, x19, x8, x9_2, x20], H))
  (some (.exit 0 [x5], H))
def f258b1 (D : Dyn) (n : Nat) (vs : List AV) (H : AH) : Rs :=
  hd vs fun x5_2 vs => 
  bV (some x5_2) fun x4 => some (.ret x4, H)
/-- (*jetty/tree.change).addAll -/
def f258 (D : Dyn) (n : Nat) (vs : List AV) (H : AH) : Option (AV × AH) :=
  outR (hd vs fun x0 vs => hd vs fun x1 vs => nl vs <|
  bV (lnSl x1) fun x9 => 
  jb 0 (loopK n (f258l0 D n) [x0, .nilSlice, x1, x9, (.int .i64 (.ofNat 0))] H) (f258b1 D n))
def h258 : Hint := (.s .o (.s .o (.s (.s .o (.b [5] (.l [0, 5, 8, 9, 10] (.s .o (.s (.cr .o .o) (.s (.b0 (.s .o .o)) .o)))))) (.s .o .o))))
theorem f258_eq (D : Dyn) (n : Nat) : f258 D n = funK (s258 D n) D n 258 Tryz.f258 h258 := by kernel_rfl
theorem f258_ok {D : Dyn} (hD : DG D) (n : Nat) : FI 258 (f258 D n) := fun_ok X_ok hD (SOk.cons (f185_ok hD n).fs (SOk.nil)) Tryz.func258 (by kernel_rfl) (f258_eq D n)

def s189 (D : Dyn) (n : Nat) : Tb := ⟨X, [(184, f184 D n), (256, f256 D n), (258, f258 D n), (185, f185 D n)]⟩
def f189j0 (D : Dyn) (n : Nat) (vs : List AV) (H : AH) : Rs :=
  
  bV (some (.int .i64 (.ofNat 0))) fun x4 => some (.ret x4, H)
def f189j1 (D : Dyn) (n : Nat) (vs : List AV) (H : AH) : Rs :=
  
  bV (some (.int .i64 (.ofNat 0))) fun x4_3 => some (.ret x4_3, H)
/-- (*jetty/tree.change).crown -/
def f189 (D : Dyn) (n : Nat) (vs : List AV) (H : AH) : Option (AV × AH) :=
  outR (hd vs fun x0 vs => hd vs fun x1 vs => nl vs <|
  bA (bxV 57 x1) H fun x3 H => 
  bV (fAd 1 x3) fun x9 => 
  bV (ld1 x9 H) fun x10 => 
  bV (lnSl x10) fun x11 => 
  bV (bInt .eql x11 (.int .i64 (.ofNat 0))) fun x12 => 
  cnd x12 (bV (fAd 0 x3) fun x13 => 
  bV (ld1 x13 H) fun x14 => 
  jn (cnd x14 (bV (bldS [(0, 1), (1, 1), (2, 1)] [(.int .i64 (.ofNat 0)), (.int .i64 (.ofNat 0)), (.int .u64 (.ofNat 0))] []) fun x16 => 
  bR (f184 D n [x0, x16] H) fun x17 H => 
  some (.norm [], H))
  (bV (fAd 3 x3) fun x19 => 
  bV (ld1 x19 H) fun x20 => 
  bV (ixSl 3 x20 (.int .i64 (.ofNat 0))) fun x21 => 
  bV (ldN 3 x21 H) fun x22 => 
  bR (f184 D n [x0, x22] H) fun x23 H => 
  some (.norm [], H))) (f189j0 D n))
  (bV (ldN 4 x3 H) fun x25 => 
  bR (f256 D n [x25] H) fun x26 H => 
  bV (pExtract x26 0) fun x27 => 
  bV (pExtract x26 1) fun x28 => 
  bV (pExtract x26 2) fun x29 => 
  bV (bInt .neq x29 (.int .i64 (.ofNat 0))) fun x31 => 
  cnd x31 (bV (some x29) fun x4_2 => some (.ret x4_2, H))
  (bR (f258 D n [x0, x27] H) fun x35 H => 
  bV (lnSl x35) fun x37 => 
  bV (bInt .eql x37 (.int .i64 (.ofNat 1))) fun x38 => 
  jn (cnd x38 (bV (ixSl 3 x35 (.int .i64 (.ofNat 0))) fun x41 => 
  bV (ldN 3 x41 H) fun x42 => 
  bR (f184 D n [x0, x42] H) fun x43 H => 
  some (.norm [], H))
  (bV (bldS [(0, 1), (1, 1), (2, 1), (3, 1)] [(.bool false), .nilSlice, .nilSlice, .nilSlice] [(1, x28), (3, x35)]) fun x48 => 
  bR (f185 D n [x0, x48] H) fun x49 H => 
  bR (f184 D n [x0, x49] H) fun x50 H => 
  some (.norm [], H))) (f189j1 D n))))
def h189 : Hint := (.s .o (.s (.s .o (.cl (.s (.s .o (.c [] .o .o)) (.s .o .o)) .o)) (.s .o (.s (.s .o (.cl (.s .o .o) .o)) (.s .o (.s (.s .o (.c [] .o .o)) (.s .o .o)))))))
theorem f189_eq (D : Dyn) (n : Nat) : f189 D n = funK (s189 D n) D n 189 Tryz.f189 h189 := by kernel_rfl
theorem f189_ok {D : Dyn} (hD : DG D) (n : Nat) : FI 189 (f189 D n) := fun_ok X_ok hD (SOk.cons (f184_ok hD n).fs (SOk.cons (f256_ok hD n).fs (SOk.cons (f258_ok hD n).fs (SOk.cons (f185_ok hD n).fs (SOk.nil))))) Tryz.func189 (by kernel_rfl) (f189_eq D n)

def s89 (D : Dyn) (n : Nat) : Tb := ⟨X, []⟩
/-- (*jetty/tree.Tree).most -/
def f89 (D : Dyn) (n : Nat) (vs : List AV) (H : AH) : Option (AV × AH) :=
  outR (hd vs fun x0 vs => nl vs <|
  bV (pNil x0) fun x4 => 
  bV (fAd 5 x4) fun x5 => 
  bV (ld1 x5 H) fun x6 => 
  bV (lnMap x6 H) fun x7 => 
  bV (bInt .add (.int .i64 (.ofNat 8192)) x7) fun x8 => 
  bV (some x8) fun x2 => some (.ret x2, H))
def h89 : Hint := (.s .o (.s .o .o))
theorem f89_eq (D : Dyn) (n : Nat) : f89 D n = funK (s89 D n) D n 89 Tryz.f89 h89 := by kernel_rfl
theorem f89_ok {D : Dyn} (hD : DG D) (n : Nat) : FI 89 (f89 D n) := fun_ok X_ok hD (SOk.nil) Tryz.func89 (by kernel_rfl) (f89_eq D n)

def s199 (D : Dyn) (n : Nat) : Tb := ⟨X, []⟩
/-- (*jetty/arc.Cache).none -/
def f199 (D : Dyn) (n : Nat) (vs : List AV) (H : AH) : Option (AV × AH) :=
  outR (hd vs fun x0 vs => nl vs <|
  bV (cmpO .eql (eqP x0 .nilPtr)) fun x4 => 
  jn (wnt x4 false (bV (pNil x0) fun x7 => 
  bV (fAd 13 x7) fun x8 => 
  bV (ld1 x8 H) fun x9 => 
  bV (bInt .lss x9 (.int .i64 (.ofNat 1))) fun x10 => 
  some (.norm [x10], H)) (some (.norm [undefA], H))) fun vs H => hd vs fun x10_2 vs => 
  bV (pk3 (some x4) (some (.bool true)) (some x10_2)) fun x11 => 
  jn (wnt x11 false (bV (pNil x0) fun x14 => 
  bV (fAd 0 x14) fun x15 => 
  bV (fAd 12 x15) fun x16 => 
  bV (ld1 x16 H) fun x17 => 
  bV (cmpO .eql (eqM x17 .nilMap)) fun x18 => 
  some (.norm [x18], H)) (some (.norm [undefA], H))) fun vs H => hd vs fun x18_2 vs => 
  bV (pk3 (some x11) (some (.bool true)) (some x18_2)) fun x19 => 
  bV (some x19) fun x2 => some (.ret x2, H))
def h199 : Hint := (.s .o (.s .o .o))
theorem f199_eq (D : Dyn) (n : Nat) : f199 D n = funK (s199 D n) D n 199 Tryz.f199 h199 := by kernel_rfl
theorem f199_ok {D : Dyn} (hD : DG D) (n : Nat) : FI 199 (f199 D n) := fun_ok X_ok hD (SOk.nil) Tryz.func199 (by kernel_rfl) (f199_eq D n)

def s264 (D : Dyn) (n : Nat) : Tb := ⟨X, []⟩
/-- (*jetty/arc.rows).size -/
def f264 (D : Dyn) (n : Nat) (vs : List AV) (H : AH) : Option (AV × AH) :=
  outR (hd vs fun x0 vs => hd vs fun x1 vs => nl vs <|
  bV (pNil x0) fun x7 => 
  bV (fAd 0 x7) fun x8 => 
  bV (ixArr 4 3 x8 x1) fun x9 => 
  bV (fAd 2 x9) fun x10 => 
  bV (ld1 x10 H) fun x11 => 
  bV (some x11) fun x4 => some (.ret x4, H))
def h264 : Hint := (.s .o (.s .o .o))
theorem f264_eq (D : Dyn) (n : Nat) : f264 D n = funK (s264 D n) D n 264 Tryz.f264 h264 := by kernel_rfl
theorem f264_ok {D : Dyn} (hD : DG D) (n : Nat) : FI 264 (f264 D n) := fun_ok X_ok hD (SOk.nil) Tryz.func264 (by kernel_rfl) (f264_eq D n)

def s266 (D : Dyn) (n : Nat) : Tb := ⟨X, []⟩
def f266j0 (D : Dyn) (n : Nat) (vs : List AV) (H : AH) : Rs :=
  hd vs fun x1_3 vs => hd vs fun x4_2 vs => 
  bV (pNil x1_3) fun x59 => 
  bV (fAd 3 x59) fun x60 => 
  bR (stN 1 x60 .nilPtr H) fun x9999_5 H => 
  bV (pNil x1_3) fun x61 => 
  bV (fAd 4 x61) fun x62 => 
  bR (stN 1 x62 .nilPtr H) fun x9999_6 H => 
  bV (pNil x4_2) fun x64 => 
  bV (fAd 2 x64) fun x65 => 
  bV (ld1 x65 H) fun x66 => 
  bV (bInt .sub x66 (.int .i64 (.ofNat 1))) fun x67 => 
  bV (pNil x4_2) fun x68 => 
  bV (fAd 2 x68) fun x69 => 
  bR (stN 1 x69 x67 H) fun x9999_7 H => 
  some (.ret (.tuple []), H)
def f266j1 (D : Dyn) (n : Nat) (vs : List AV) (H : AH) : Rs :=
  hd vs fun x1_2 vs => hd vs fun x4 vs => 
  bV (pNil x1_2) fun x36 => 
  bV (fAd 4 x36) fun x37 => 
  bV (ld1 x37 H) fun x38 => 
  bV (cmpO .eql (eqP x38 .nilPtr)) fun x39 => 
  jn (cnd x39 (bV (pNil x1_2) fun x42 => 
  bV (fAd 3 x42) fun x43 => 
  bV (ld1 x43 H) fun x44 => 
  bV (pNil x4) fun x45 => 
  bV (fAd 1 x45) fun x46 => 
  bR (stN 1 x46 x44 H) fun x9999_3 H => 
  some (.norm [x1_2, x4], H))
  (bV (pNil x1_2) fun x48 => 
  bV (fAd 4 x48) fun x49 => 
  bV (ld1 x49 H) fun x50 => 
  bV (pNil x1_2) fun x52 => 
  bV (fAd 3 x52) fun x53 => 
  bV (ld1 x53 H) fun x54 => 
  bV (pNil x50) fun x55 => 
  bV (fAd 3 x55) fun x56 => 
  bR (stN 1 x56 x54 H) fun x9999_4 H => 
  some (.norm [x1_2, x4], H))) (f266j0 D n)
/-- (*jetty/arc.rows).detach -/
def f266 (D : Dyn) (n : Nat) (vs : List AV) (H : AH) : Option (AV × AH) :=
  outR (hd vs fun x0 vs => hd vs fun x1 vs => nl vs <|
  bV (pNil x1) fun x7 => 
  bV (fAd 1 x7) fun x8 => 
  bV (ld1 x8 H) fun x9 => 
  bV (pNil x0) fun x10 => 
  bV (fAd 0 x10) fun x11 => 
  bV (ixArr 4 3 x11 x9) fun x12 => 
  bV (pNil x1) fun x14 => 
  bV (fAd 3 x14) fun x15 => 
  bV (ld1 x15 H) fun x16 => 
  bV (cmpO .eql (eqP x16 .nilPtr)) fun x17 => 
  jn (cnd x17 (bV (pNil x1) fun x20 => 
  bV (fAd 4 x20) fun x21 => 
  bV (ld1 x21 H) fun x22 => 
  bV (pNil x12) fun x23 => 
  bV (fAd 0 x23) fun x24 => 
  bR (stN 1 x24 x22 H) fun x9999 H => 
  some (.norm [x1, x12], H))
  (bV (pNil x1) fun x26 => 
  bV (fAd 3 x26) fun x27 => 
  bV (ld1 x27 H) fun x28 => 
  bV (pNil x1) fun x30 => 
  bV (fAd 4 x30) fun x31 => 
  bV (ld1 x31 H) fun x32 => 
  bV (pNil x28) fun x33 => 
  bV (fAd 4 x33) fun x34 => 
  bR (stN 1 x34 x32 H) fun x9999_2 H => 
  some (.norm [x1, x12], H))) (f266j1 D n))
def h266 : Hint := (.s .o (.s (.s .o (.c [1, 4] .o .o)) (.s (.s .o (.c [1, 4] .o .o)) (.s .o .o))))
theorem f266_eq (D : Dyn) (n : Nat) : f266 D n = funK (s266 D n) D n 266 Tryz.f266 h266 := by kernel_rfl
theorem f266_ok {D : Dyn} (hD : DG D) (n : Nat) : FI 266 (f266 D n) := fun_ok X_ok hD (SOk.nil) Tryz.func266 (by kernel_rfl) (f266_eq D n)

def s288 (D : Dyn) (n : Nat) : Tb := ⟨X, [(266, f266 D n)]⟩
/-- (*jetty/arc.rows).forget -/
def f288 (D : Dyn) (n : Nat) (vs : List AV) (H : AH) : Option (AV × AH) :=
  outR (hd vs fun x0 vs => hd vs fun x1 vs => nl vs <|
  bV (pNil x0) fun x7 => 
  bV (fAd 0 x7) fun x8 => 
  bV (ixArr 4 3 x8 x1) fun x9 => 
  bV (fAd 0 x9) fun x10 => 
  bV (ld1 x10 H) fun x11 => 
  bV (cmpO .eql (eqP x11 .nilPtr)) fun x13 => 
  cnd x13 (some (.ret (.tuple []), H))
  (bR (f266 D n [x0, x11] H) fun x16 H => 
  bV (pNil x0) fun x18 => 
  bV (fAd 12 x18) fun x19 => 
  bV (ld1 x19 H) fun x20 => 
  bV (pNil x11) fun x22 => 
  bV (fAd 0 x22) fun x23 => 
  bV (ld1 x23 H) fun x24 => 
  bR (dlM [6] x20 x24 H) fun x9999 H => 
  some (.ret (.tuple []), H)))
def h288 : Hint := (.s .o (.s (.s .o (.cl .o .o)) (.s .o .o)))
theorem f288_eq (D : Dyn) (n : Nat) : f288 D n = funK (s288 D n) D n 288 Tryz.f288 h288 := by kernel_rfl
theorem f288_ok {D : Dyn} (hD : DG D) (n : Nat) : FI 288 (f288 D n) := fun_ok X_ok hD (SOk.cons (f266_ok hD n).fs (SOk.nil)) Tryz.func288 (by kernel_rfl) (f288_eq D n)

def s267 (D : Dyn) (n : Nat) : Tb := ⟨X, []⟩
def f267j0 (D : Dyn) (n : Nat) (vs : List AV) (H : AH) : Rs :=
  hd vs fun x2_2 vs => hd vs fun x6 vs => 
  bV (pNil x6) fun x44 => 
  bV (fAd 1 x44) fun x45 => 
  bR (stN 1 x45 x2_2 H) fun x9999_6 H => 
  bV (pNil x6) fun x47 => 
  bV (fAd 2 x47) fun x48 => 
  bV (ld1 x48 H) fun x49 => 
  bV (bInt .add x49 (.int .i64 (.ofNat 1))) fun x50 => 
  bV (pNil x6) fun x51 => 
  bV (fAd 2 x51) fun x52 => 
  bR (stN 1 x52 x50 H) fun x9999_7 H => 
  some (.ret (.tuple []), H)
/-- (*jetty/arc.rows).attach -/
def f267 (D : Dyn) (n : Nat) (vs : List AV) (H : AH) : Option (AV × AH) :=
  outR (hd vs fun x0 vs => hd vs fun x1 vs => hd vs fun x2 vs => nl vs <|
  bV (pNil x0) fun x9 => 
  bV (fAd 0 x9) fun x10 => 
  bV (ixArr 4 3 x10 x1) fun x11 => 
  bV (pNil x2) fun x14 => 
  bV (fAd 1 x14) fun x15 => 
  bR (stN 1 x15 x1 H) fun x9999 H => 
  bV (pNil x11) fun x19 => 
  bV (fAd 1 x19) fun x20 => 
  bV (ld1 x20 H) fun x21 => 
  bV (pNil x2) fun x22 => 
  bV (fAd 3 x22) fun x23 => 
  bR (stN 1 x23 x21 H) fun x9999_2 H => 
  bV (pNil x2) fun x24 => 
  bV (fAd 4 x24) fun x25 => 
  bR (stN 1 x25 .nilPtr H) fun x9999_3 H => 
  bV (pNil x11) fun x27 => 
  bV (fAd 1 x27) fun x28 => 
  bV (ld1 x28 H) fun x29 => 
  bV (cmpO .eql (eqP x29 .nilPtr)) fun x30 => 
  jn (cnd x30 (bV (pNil x11) fun x33 => 
  bV (fAd 0 x33) fun x34 => 
  bR (stN 1 x34 x2 H) fun x9999_4 H => 
  some (.norm [x2, x11], H))
  (bV (pNil x11) fun x36 => 
  bV (fAd 1 x36) fun x37 => 
  bV (ld1 x37 H) fun x38 => 
  bV (pNil x38) fun x40 => 
  bV (fAd 4 x40) fun x41 => 
  bR (stN 1 x41 x2 H) fun x9999_5 H => 
  some (.norm [x2, x11], H))) (f267j0 D n))
def h267 : Hint := (.s .o (.s .o (.s .o (.s (.s .o (.c [2, 6] .o .o)) (.s .o .o)))))
theorem f267_eq (D : Dyn) (n : Nat) : f267 D n = funK (s267 D n) D n 267 Tryz.f267 h267 := by kernel_rfl
theorem f267_ok {D : Dyn} (hD : DG D) (n : Nat) : FI 267 (f267 D n) := fun_ok X_ok hD (SOk.nil) Tryz.func267 (by kernel_rfl) (f267_eq D n)

def s289 (D : Dyn) (n : Nat) : Tb := ⟨X, [(266, f266 D n), (267, f267 D n)]⟩
/-- (*jetty/arc.rows).ghost -/
def f289 (D : Dyn) (n : Nat) (vs : List AV) (H : AH) : Option (AV × AH) :=
  outR (hd vs fun x0 vs => hd vs fun x1 vs => hd vs fun x2 vs => nl vs <|
  bV (pNil x0) fun x9 => 
  bV (fAd 0 x9) fun x10 => 
  bV (ixArr 4 3 x10 x1) fun x11 => 
  bV (fAd 0 x11) fun x12 => 
  bV (ld1 x12 H) fun x13 => 
  bV (cmpO .eql (eqP x13 .nilPtr)) fun x15 => 
  cnd x15 (some (.ret (.tuple []), H))
  (bR (f266 D n [x0, x13] H) fun x18 H => 
  bV (pNil x13) fun x20 => 
  bV (fAd 2 x20) fun x21 => 
  bR (stN 1 x21 .nilPtr H) fun x9999 H => 
  bR (f267 D n [x0, x2, x13] H) fun x25 H => 
  some (.ret (.tuple []), H)))
def h289 : Hint := (.s .o (.s (.s .o (.cl .o .o)) (.s .o (.s .o .o))))
theorem f289_eq (D : Dyn) (n : Nat) : f289 D n = funK (s289 D n) D n 289 Tryz.f289 h289 := by kernel_rfl
theorem f289_ok {D : Dyn} (hD : DG D) (n : Nat) : FI 289 (f289 D n) := fun_ok X_ok hD (SOk.cons (f266_ok hD n).fs (SOk.cons (f267_ok hD n).fs (SOk.nil))) Tryz.func289 (by kernel_rfl) (f289_eq D n)

def s265 (D : Dyn) (n : Nat) : Tb := ⟨X, [(264, f264 D n), (289, f289 D n)]⟩
/-- (*jetty/arc.Cache).makeRoom -/
def f265 (D : Dyn) (n : Nat) (vs : List AV) (H : AH) : Option (AV × AH) :=
  outR (hd vs fun x0 vs => hd vs fun x1 vs => nl vs <|
  bV (pNil x0) fun x7 => 
  bV (fAd 0 x7) fun x8 => 
  bV (pNil x0) fun x11 => 
  bV (fAd 0 x11) fun x12 => 
  bR (f264 D n [x8, (.int .i64 (.ofNat 0))] H) fun x9 H => 
  bR (f264 D n [x12, (.int .i64 (.ofNat 1))] H) fun x13 H => 
  bV (bInt .add x9 x13) fun x16 => 
  bV (pNil x0) fun x18 => 
  bV (fAd 13 x18) fun x19 => 
  bV (ld1 x19 H) fun x20 => 
  bV (bInt .lss x16 x20) fun x21 => 
  cnd x21 (some (.ret (.tuple []), H))
  (bV (bInt .gtr x9 (.int .i64 (.ofNat 0))) fun x23 => 
  jn (wnt x23 true (bV (bInt .eql x13 (.int .i64 (.ofNat 0))) fun x26 => 
  some (.norm [x26], H)) (some (.norm [undefA], H))) fun vs H => hd vs fun x27 vs => 
  jn (wnt x27 false (bV (pNil x0) fun x30 => 
  bV (fAd 14 x30) fun x31 => 
  bV (ld1 x31 H) fun x32 => 
  bV (bInt .gtr x9 x32) fun x33 => 
  some (.norm [x33], H)) (some (.norm [undefA], H))) fun vs H => hd vs fun x33_2 vs => 
  jn (wnt x23 true (bV (pk3 (some x27) (some (.bool true)) (some x33_2)) fun x34 => 
  some (.norm [x34], H)) (some (.norm [undefA], H))) fun vs H => hd vs fun x35 vs => 
  jn (wnt x35 false (some (.norm [x1], H)) (some (.norm [undefA], H))) fun vs H => hd vs fun x37 vs => 
  jn (wnt x37 true (bV (pNil x0) fun x40 => 
  bV (fAd 14 x40) fun x41 => 
  bV (ld1 x41 H) fun x42 => 
  bV (bInt .eql x9 x42) fun x43 => 
  some (.norm [x43], H)) (some (.norm [undefA], H))) fun vs H => hd vs fun x43_2 vs => 
  jn (wnt x35 false (bV (pk3 (some x37) (some x43_2) (some (.bool false))) fun x44 => 
  some (.norm [x44], H)) (some (.norm [undefA], H))) fun vs H => hd vs fun x44_2 vs => 
  jn (wnt x23 true (bV (pk3 (some x35) (some (.bool true)) (some x44_2)) fun x45 => 
  some (.norm [x45], H)) (some (.norm [undefA], H))) fun vs H => hd vs fun x45_2 vs => 
  bV (pk3 (some x23) (some x45_2) (some (.bool false))) fun x46 => 
  cnd x46 (bV (pNil x0) fun x48 => 
  bV (fAd 0 x48) fun x49 => 
  bR (f289 D n [x49, (.int .i64 (.ofNat 0)), (.int .i64 (.ofNat 2))] H) fun x50 H => 
  some (.ret (.tuple []), H))
  (bV (pNil x0) fun x52 => 
  bV (fAd 0 x52) fun x53 => 
  bR (f289 D n [x53, (.int .i64 (.ofNat 1)), (.int .i64 (.ofNat 3))] H) fun x54 H => 
  some (.ret (.tuple []), H))))
def h265 : Hint := (.s .o (.s (.s .o (.cl .o .o)) (.s (.s .o (.cl (.s .o .o) .o)) .o)))
theorem f265_eq (D : Dyn) (n : Nat) : f265 D n = funK (s265 D n) D n 265 Tryz.f265 h265 := by kernel_rfl
theorem f265_ok {D : Dyn} (hD : DG D) (n : Nat) : FI 265 (f265 D n) := fun_ok X_ok hD (SOk.cons (f264_ok hD n).fs (SOk.cons (f289_ok hD n).fs (SOk.nil))) Tryz.func265 (by kernel_rfl) (f265_eq D n)
end Go.Eng.Sh
