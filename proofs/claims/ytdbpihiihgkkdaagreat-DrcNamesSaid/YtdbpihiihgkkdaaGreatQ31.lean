/- Shallow functions, by program (gen.py). -/
import Derived.Test.YtdbpihiihgkkdaaGreatQ30
import Derived.Test.YtdbpihiihgkkdaaGreatProg
import Derived.KernelRfl
noncomputable section
namespace Go.Eng.Sh
open Go.Proofs
set_option maxRecDepth 100000
set_option linter.all false
def s100 (D : Dyn) (n : Nat) : Tb := ⟨X, []⟩
/-- jetty/disk.with -/
def f100 (D : Dyn) (n : Nat) (vs : List AV) (H : AH) : Option (AV × AH) :=
  outR (hd vs fun x0 vs => hd vs fun x1 vs => nl vs <|
  bA (mkM [6]) H fun x7 H => 
  bV (bldS [(0, 1), (1, 1), (2, 1), (3, 1), (4, 1), (5, 1), (6, 1)] [(.int .i64 (.ofNat 0)), .nilMap, .nilSlice, .nilMap, (.int .i64 (.ofNat 0)), .nilSlice, (.bool false)] [(0, x0), (1, x1), (3, x7)]) fun x8 => 
  bA (bxV 270 x8) H fun x9 H => 
  bV (some x9) fun x4 => some (.ret x4, H))
def h100 : Hint := (.s .o (.s .o .o))
theorem f100_eq (D : Dyn) (n : Nat) : f100 D n = funK (s100 D n) D n 100 Tryz.f100 h100 := by kernel_rfl
theorem f100_ok {D : Dyn} (hD : DG D) (n : Nat) : FI 100 (f100 D n) := fun_ok X_ok hD (SOk.nil) Tryz.func100 (by kernel_rfl) (f100_eq D n)

def s20 (D : Dyn) (n : Nat) : Tb := ⟨X, [(100, f100 D n)]⟩
/-- jetty/disk.New -/
def f20 (D : Dyn) (n : Nat) (vs : List AV) (H : AH) : Option (AV × AH) :=
  outR (hd vs fun x0 vs => nl vs <|
  bV (bInt .lss x0 (.int .i64 (.ofNat 64))) fun x5 => 
  jn (wnt x5 false (bV (bInt .gtr x0 (.int .i64 (.ofNat 8192))) fun x8 => 
  some (.norm [x8], H)) (some (.norm [undefA], H))) fun vs H => hd vs fun x8_2 vs => 
  bV (pk3 (some x5) (some (.bool true)) (some x8_2)) fun x9 => 
  cnd x9 (bV (some .nilPtr) fun x2 => bV (some (.int .i64 (.ofNat 1))) fun x3 => some (.ret (.tuple [x2, x3]), H))
  (bA (mkM [6]) H fun x11 H => 
  bR (f100 D n [x0, x11] H) fun x12 H => 
  bV (some x12) fun x2_2 => bV (some (.int .i64 (.ofNat 0))) fun x3_2 => some (.ret (.tuple [x2_2, x3_2]), H)))
def h20 : Hint := (.s .o (.s (.s .o (.cl (.s .o .o) .o)) (.s .o .o)))
theorem f20_eq (D : Dyn) (n : Nat) : f20 D n = funK (s20 D n) D n 20 Tryz.f20 h20 := by kernel_rfl
theorem f20_ok {D : Dyn} (hD : DG D) (n : Nat) : FI 20 (f20 D n) := fun_ok X_ok hD (SOk.cons (f100_ok hD n).fs (SOk.nil)) Tryz.func20 (by kernel_rfl) (f20_eq D n)

def s150 (D : Dyn) (n : Nat) : Tb := ⟨X, []⟩
/-- jetty/block.may -/
def f150 (D : Dyn) (n : Nat) (vs : List AV) (H : AH) : Option (AV × AH) :=
  outR (hd vs fun x0 vs => nl vs <|
  bA (bxV 52 x0) H fun x1 H => 
  bV (fAd 0 x1) fun x3 => 
  bV (ld1 x3 H) fun x4 => 
  bV (bInt .eql x4 (.int .i64 (.ofNat 0))) fun x5 => 
  cnd x5 (bV (ldN 3 x1 H) fun x6 => 
  bV (bldS [(0, 1), (1, 1), (2, 1)] [(.int .i64 (.ofNat 0)), (.int .i64 (.ofNat 0)), (.int .u64 (.ofNat 0))] []) fun x7 => 
  bV (cmpO .eql (eqA [6, 6, 10] x6 x7)) fun x8 => 
  bV (some x8) fun x2 => some (.ret x2, H))
  (bV (fAd 0 x1) fun x9 => 
  bV (ld1 x9 H) fun x10 => 
  bV (bInt .gtr x10 (.int .i64 (.ofNat 0))) fun x11 => 
  jn (wnt x11 true (bV (fAd 0 x1) fun x13 => 
  bV (ld1 x13 H) fun x14 => 
  bV (bInt .lss x14 (.int .i64 (.ofNat 8192))) fun x15 => 
  some (.norm [x15], H)) (some (.norm [undefA], H))) fun vs H => hd vs fun x15_2 vs => 
  bV (pk3 (some x11) (some x15_2) (some (.bool false))) fun x16 => 
  jn (wnt x16 true (bV (fAd 1 x1) fun x18 => 
  bV (ld1 x18 H) fun x19 => 
  bV (bInt .geq x19 (.int .i64 (.ofNat 0))) fun x20 => 
  some (.norm [x20], H)) (some (.norm [undefA], H))) fun vs H => hd vs fun x20_2 vs => 
  bV (pk3 (some x16) (some x20_2) (some (.bool false))) fun x21 => 
  jn (wnt x21 true (bV (fAd 1 x1) fun x23 => 
  bV (ld1 x23 H) fun x24 => 
  bV (bInt .leq x24 (.int .i64 (.ofNat 2147483647))) fun x25 => 
  some (.norm [x25], H)) (some (.norm [undefA], H))) fun vs H => hd vs fun x25_2 vs => 
  bV (pk3 (some x21) (some x25_2) (some (.bool false))) fun x26 => 
  bV (some x26) fun x2_2 => some (.ret x2_2, H)))
def h150 : Hint := (.s .o (.s (.s .o (.cl (.s .o .o) .o)) (.s .o .o)))
theorem f150_eq (D : Dyn) (n : Nat) : f150 D n = funK (s150 D n) D n 150 Tryz.f150 h150 := by kernel_rfl
theorem f150_ok {D : Dyn} (hD : DG D) (n : Nat) : FI 150 (f150 D n) := fun_ok X_ok hD (SOk.nil) Tryz.func150 (by kernel_rfl) (f150_eq D n)

def s151 (D : Dyn) (n : Nat) : Tb := ⟨X, []⟩
def f151l0 (D : Dyn) (n : Nat) (vs : List AV) (H : AH) : Rs :=
  hd vs fun x0_2 vs => hd vs fun x1_2 vs => hd vs fun x6_2 vs => hd vs fun x7 vs => 
  bV (bInt .lss x7 x6_2) fun x8 => 
  cnd x8 (bV (lnSl x0_2) fun x12 => 
  bV (bInt .sub x12 (.int .i64 (.ofNat 1))) fun x13 => 
  bV (bInt .sub x13 x7) fun x15 => 
  bV (bInt .mul (.int .i64 (.ofNat 8)) x7) fun x18 => 
  bV (bInt .shr x1_2 x18) fun x19 => 
  bV (cvI .u8 x19) fun x20 => 
  bV (ixSl 1 x0_2 x15) fun x21 => 
  bR (stN 1 x21 x20 H) fun x9999 H => 
  bV (bInt .add x7 (.int .i64 (.ofNat 1))) fun x22 => 
  some (.norm [x0_2, x1_2, x6_2, x22], H))
  (some (.exit 0 [], H))
def f151b1 (D : Dyn) (n : Nat) (vs : List AV) (H : AH) : Rs :=
  
  some (.ret (.tuple []), H)
/-- jetty/block.put -/
def f151 (D : Dyn) (n : Nat) (vs : List AV) (H : AH) : Option (AV × AH) :=
  outR (hd vs fun x0 vs => hd vs fun x1 vs => nl vs <|
  bV (lnSl x0) fun x6 => 
  jb 0 (loopK n (f151l0 D n) [x0, x1, x6, (.int .i64 (.ofNat 0))] H) (f151b1 D n))
def h151 : Hint := (.s .o (.b [] (.l [0, 1, 6, 7] (.s .o (.s (.cr .o .o) (.s (.b0 (.s .o .o)) .o))))))
theorem f151_eq (D : Dyn) (n : Nat) : f151 D n = funK (s151 D n) D n 151 Tryz.f151 h151 := by kernel_rfl
theorem f151_ok {D : Dyn} (hD : DG D) (n : Nat) : FI 151 (f151 D n) := fun_ok X_ok hD (SOk.nil) Tryz.func151 (by kernel_rfl) (f151_eq D n)

def s61 (D : Dyn) (n : Nat) : Tb := ⟨X, [(150, f150 D n), (151, f151 D n)]⟩
/-- jetty/block.Encode -/
def f61 (D : Dyn) (n : Nat) (vs : List AV) (H : AH) : Option (AV × AH) :=
  outR (hd vs fun x0 vs => nl vs <|
  bA (bxV 52 x0) H fun x1 H => 
  bV (ldN 3 x1 H) fun x5 => 
  bR (f150 D n [x5] H) fun x6 H => 
  bV (aun .not x6) fun x7 => 
  cnd x7 (bV (some (.str 0 0)) fun x2 => bV (some (.int .i64 (.ofNat 4))) fun x3 => some (.ret (.tuple [x2, x3]), H))
  (bA (bxV 217 (.agg (rep 16 [(.int .u8 (.ofNat 0))]))) H fun x4 H => 
  bV (slArr 16 1 x4 none (some (.int .i64 (.ofNat 4))) none) fun x8 => 
  bV (fAd 0 x1) fun x9 => 
  bV (ld1 x9 H) fun x10 => 
  bV (cvI .u64 x10) fun x11 => 
  bR (f151 D n [x8, x11] H) fun x12 H => 
  bV (slArr 16 1 x4 (some (.int .i64 (.ofNat 4))) (some (.int .i64 (.ofNat 8))) none) fun x13 => 
  bV (fAd 1 x1) fun x14 => 
  bV (ld1 x14 H) fun x15 => 
  bV (cvI .u64 x15) fun x16 => 
  bR (f151 D n [x13, x16] H) fun x17 H => 
  bV (slArr 16 1 x4 (some (.int .i64 (.ofNat 8))) none none) fun x18 => 
  bV (fAd 2 x1) fun x19 => 
  bV (ld1 x19 H) fun x20 => 
  bR (f151 D n [x18, x20] H) fun x21 H => 
  bV (slArr 16 1 x4 none none none) fun x22 => 
  bV (cvBS x22 H) fun x23 => 
  bV (some x23) fun x2_2 => bV (some (.int .i64 (.ofNat 0))) fun x3_2 => some (.ret (.tuple [x2_2, x3_2]), H)))
def h61 : Hint := (.s .o (.s (.s .o (.cl (.s .o .o) .o)) (.s .o (.s .o (.s .o (.s .o (.s .o .o)))))))
theorem f61_eq (D : Dyn) (n : Nat) : f61 D n = funK (s61 D n) D n 61 Tryz.f61 h61 := by kernel_rfl
theorem f61_ok {D : Dyn} (hD : DG D) (n : Nat) : FI 61 (f61 D n) := fun_ok X_ok hD (SOk.cons (f150_ok hD n).fs (SOk.cons (f151_ok hD n).fs (SOk.nil))) Tryz.func61 (by kernel_rfl) (f61_eq D n)

def s22 (D : Dyn) (n : Nat) : Tb := ⟨X, [(61, f61 D n)]⟩
/-- jetty/tree.Open -/
def f22 (D : Dyn) (n : Nat) (vs : List AV) (H : AH) : Option (AV × AH) :=
  outR (hd vs fun x0 vs => hd vs fun x1 vs => hd vs fun x2 vs => nl vs <|
  bA (bxV 52 x2) H fun x5 H => 
  bV (cmpO .eql (eqP x0 .nilPtr)) fun x11 => 
  cnd x11 (bV (some .nilPtr) fun x6 => bV (some (.int .i64 (.ofNat 2))) fun x7 => some (.ret (.tuple [x6, x7]), H))
  (bV (ldN 3 x5 H) fun x13 => 
  bR (f61 D n [x13] H) fun x14 H => 
  bV (pExtract x14 0) fun x15 => 
  bV (pExtract x14 1) fun x16 => 
  bV (bInt .neq x16 (.int .i64 (.ofNat 0))) fun x18 => 
  jn (wnt x18 false (bV (fAd 0 x5) fun x20 => 
  bV (ld1 x20 H) fun x21 => 
  bV (bInt .eql x21 (.int .i64 (.ofNat 1))) fun x22 => 
  some (.norm [x22], H)) (some (.norm [undefA], H))) fun vs H => hd vs fun x22_2 vs => 
  bV (pk3 (some x18) (some (.bool true)) (some x22_2)) fun x23 => 
  cnd x23 (bV (some .nilPtr) fun x6_2 => bV (some (.int .i64 (.ofNat 1))) fun x7_2 => some (.ret (.tuple [x6_2, x7_2]), H))
  (bV (ldN 3 x5 H) fun x26 => 
  bA (mkM [10]) H fun x27 H => 
  bV (bldS [(0, 1), (1, 1), (2, 3), (5, 1), (6, 1), (7, 1)] [.nilPtr, .nilPtr, (.int .i64 (.ofNat 0)), (.int .i64 (.ofNat 0)), (.int .u64 (.ofNat 0)), .nilMap, (.int .u64 (.ofNat 0)), .nilSlice] [(0, x0), (1, x1), (2, x26), (3, x27)]) fun x28 => 
  bA (bxV 135 x28) H fun x29 H => 
  bV (some x29) fun x6_3 => bV (some (.int .i64 (.ofNat 0))) fun x7_3 => some (.ret (.tuple [x6_3, x7_3]), H))))
def h22 : Hint := (.s .o (.s (.s .o (.cl (.s .o .o) .o)) (.s (.s .o (.s .o (.cl (.s .o .o) .o))) (.s .o .o))))
theorem f22_eq (D : Dyn) (n : Nat) : f22 D n = funK (s22 D n) D n 22 Tryz.f22 h22 := by kernel_rfl
theorem f22_ok {D : Dyn} (hD : DG D) (n : Nat) : FI 22 (f22 D n) := fun_ok X_ok hD (SOk.cons (f61_ok hD n).fs (SOk.nil)) Tryz.func22 (by kernel_rfl) (f22_eq D n)

def s9 (D : Dyn) (n : Nat) : Tb := ⟨X, [(20, f20 D n), (22, f22 D n)]⟩
/-- jetty/jettylaw27.begun -/
def f9 (D : Dyn) (n : Nat) (vs : List AV) (H : AH) : Option (AV × AH) :=
  outR (nl vs <|
  bR (f20 D n [(.int .i64 (.ofNat 64))] H) fun x5 H => 
  bV (pExtract x5 0) fun x6 => 
  bV (pExtract x5 1) fun x7 => 
  bV (bInt .neq x7 (.int .i64 (.ofNat 0))) fun x9 => 
  cnd x9 (bV (some .nilPtr) fun x0 => some (.ret x0, H))
  (bV (bldS [(0, 1), (1, 1), (2, 1)] [(.int .i64 (.ofNat 0)), (.int .i64 (.ofNat 0)), (.int .u64 (.ofNat 0))] []) fun x12 => 
  bR (f22 D n [x6, .nilPtr, x12] H) fun x13 H => 
  bV (pExtract x13 0) fun x14 => 
  bV (pExtract x13 1) fun x15 => 
  bV (bInt .neq x15 (.int .i64 (.ofNat 0))) fun x17 => 
  cnd x17 (bV (some .nilPtr) fun x0_2 => some (.ret x0_2, H))
  (bV (some x14) fun x0_3 => some (.ret x0_3, H))))
def h9 : Hint := (.s .o (.s .o (.s (.s .o (.cl (.s .o .o) .o)) (.s .o (.s (.s .o (.cl (.s .o .o) .o)) (.s .o .o))))))
theorem f9_eq (D : Dyn) (n : Nat) : f9 D n = funK (s9 D n) D n 9 Tryz.f9 h9 := by kernel_rfl
theorem f9_ok {D : Dyn} (hD : DG D) (n : Nat) : FI 9 (f9 D n) := fun_ok X_ok hD (SOk.cons (f20_ok hD n).fs (SOk.cons (f22_ok hD n).fs (SOk.nil))) Tryz.func9 (by kernel_rfl) (f9_eq D n)

def s180 (D : Dyn) (n : Nat) : Tb := ⟨X, []⟩
/-- jetty/drc.head -/
def f180 (D : Dyn) (n : Nat) (vs : List AV) (H : AH) : Option (AV × AH) :=
  outR (hd vs fun x0 vs => nl vs <|
  bV (cvI .u8 x0) fun x4 => 
  bA (bldL 5 1 2 [(.int .u8 (.ofNat 0))] [(0, (.int .u8 (.ofNat 114))), (1, x4)]) H fun x5 H => 
  bV (cvBS x5 H) fun x6 => 
  bV (some x6) fun x2 => some (.ret x2, H))
def h180 : Hint := (.s .o (.s .o .o))
theorem f180_eq (D : Dyn) (n : Nat) : f180 D n = funK (s180 D n) D n 180 Tryz.f180 h180 := by kernel_rfl
theorem f180_ok {D : Dyn} (hD : DG D) (n : Nat) : FI 180 (f180 D n) := fun_ok X_ok hD (SOk.nil) Tryz.func180 (by kernel_rfl) (f180_eq D n)

def s38 (D : Dyn) (n : Nat) : Tb := ⟨X, []⟩
def f38l0 (D : Dyn) (n : Nat) (vs : List AV) (H : AH) : Rs :=
  hd vs fun x0_2 vs => hd vs fun x3 vs => 
  bV (bInt .geq x3 (.int .i64 (.ofNat 0))) fun x8 => 
  cnd x8 (bV (ixStr x0_2 x3) fun x13 => 
  bV (bInt .neq x13 (.int .u8 (.ofNat 255))) fun x14 => 
  cnd x14 (bV (slStr x0_2 none (some x3)) fun x17 => 
  bV (ixStr x0_2 x3) fun x20 => 
  bV (bInt .add x20 (.int .u8 (.ofNat 1))) fun x21 => 
  bA (bldL 5 1 1 [(.int .u8 (.ofNat 0))] [(0, x21)]) H fun x22 H => 
  bV (cvBS x22 H) fun x23 => 
  bV (bStr .add x17 x23) fun x24 => 
  bV (some x24) fun x2 => some (.ret x2, H))
  (bV (bInt .sub x3 (.int .i64 (.ofNat 1))) fun x10 => 
  some (.norm [x0_2, x10], H)))
  (some (.exit 0 [], H))
def f38b1 (D : Dyn) (n : Nat) (vs : List AV) (H : AH) : Rs :=
  
  bV (some (.str 0 0)) fun x2_2 => some (.ret x2_2, H)
/-- jetty/walk.Behind -/
def f38 (D : Dyn) (n : Nat) (vs : List AV) (H : AH) : Option (AV × AH) :=
  outR (hd vs fun x0 vs => nl vs <|
  bV (lnStr x0) fun x5 => 
  bV (bInt .sub x5 (.int .i64 (.ofNat 1))) fun x6 => 
  jb 0 (loopK n (f38l0 D n) [x0, x6] H) (f38b1 D n))
def h38 : Hint := (.s .o (.s (.s .o (.b [] (.l [0, 3] (.s (.s .o (.cr .o .o)) (.s (.b0 (.s .o (.cl (.s .o .o) .o))) .o))))) (.s .o .o)))
theorem f38_eq (D : Dyn) (n : Nat) : f38 D n = funK (s38 D n) D n 38 Tryz.f38 h38 := by kernel_rfl
theorem f38_ok {D : Dyn} (hD : DG D) (n : Nat) : FI 38 (f38 D n) := fun_ok X_ok hD (SOk.nil) Tryz.func38 (by kernel_rfl) (f38_eq D n)

def s88 (D : Dyn) (n : Nat) : Tb := ⟨X, []⟩
/-- (*jetty/tree.Tree).none -/
def f88 (D : Dyn) (n : Nat) (vs : List AV) (H : AH) : Option (AV × AH) :=
  outR (hd vs fun x0 vs => nl vs <|
  bV (cmpO .eql (eqP x0 .nilPtr)) fun x4 => 
  jn (wnt x4 false (bV (pNil x0) fun x7 => 
  bV (fAd 0 x7) fun x8 => 
  bV (ld1 x8 H) fun x9 => 
  bV (cmpO .eql (eqP x9 .nilPtr)) fun x10 => 
  some (.norm [x10], H)) (some (.norm [undefA], H))) fun vs H => hd vs fun x10_2 vs => 
  bV (pk3 (some x4) (some (.bool true)) (some x10_2)) fun x11 => 
  jn (wnt x11 false (bV (pNil x0) fun x14 => 
  bV (fAd 5 x14) fun x15 => 
  bV (ld1 x15 H) fun x16 => 
  bV (cmpO .eql (eqM x16 .nilMap)) fun x17 => 
  some (.norm [x17], H)) (some (.norm [undefA], H))) fun vs H => hd vs fun x17_2 vs => 
  bV (pk3 (some x11) (some (.bool true)) (some x17_2)) fun x18 => 
  bV (some x18) fun x2 => some (.ret x2, H))
def h88 : Hint := (.s .o (.s .o .o))
theorem f88_eq (D : Dyn) (n : Nat) : f88 D n = funK (s88 D n) D n 88 Tryz.f88 h88 := by kernel_rfl
theorem f88_ok {D : Dyn} (hD : DG D) (n : Nat) : FI 88 (f88 D n) := fun_ok X_ok hD (SOk.nil) Tryz.func88 (by kernel_rfl) (f88_eq D n)

def s98 (D : Dyn) (n : Nat) : Tb := ⟨X, [(88, f88 D n)]⟩
/-- (*jetty/tree.Tree).Dirty -/
def f98 (D : Dyn) (n : Nat) (vs : List AV) (H : AH) : Option (AV × AH) :=
  outR (hd vs fun x0 vs => nl vs <|
  bR (f88 D n [x0] H) fun x4 H => 
  cnd x4 (bV (some (.int .i64 (.ofNat 0))) fun x2 => some (.ret x2, H))
  (bV (pNil x0) fun x6 => 
  bV (fAd 5 x6) fun x7 => 
  bV (ld1 x7 H) fun x8 => 
  bV (lnMap x8 H) fun x9 => 
  bV (some x9) fun x2_2 => some (.ret x2_2, H)))
def h98 : Hint := (.s .o (.s (.s .o (.cl (.s .o .o) .o)) (.s .o .o)))
theorem f98_eq (D : Dyn) (n : Nat) : f98 D n = funK (s98 D n) D n 98 Tryz.f98 h98 := by kernel_rfl
theorem f98_ok {D : Dyn} (hD : DG D) (n : Nat) : FI 98 (f98 D n) := fun_ok X_ok hD (SOk.cons (f88_ok hD n).fs (SOk.nil)) Tryz.func98 (by kernel_rfl) (f98_eq D n)

def s123 (D : Dyn) (n : Nat) : Tb := ⟨X, [(98, f98 D n)]⟩
/-- jetty/walk.through -/
def f123 (D : Dyn) (n : Nat) (vs : List AV) (H : AH) : Option (AV × AH) :=
  outR (hd vs fun x0 vs => nl vs <|
  bR (f98 D n [x0] H) fun x5 H => 
  bV (bInt .add (.int .i64 (.ofNat 8192)) x5) fun x6 => 
  bV (bldS [(0, 1), (1, 1), (2, 1), (3, 1)] [.nilPtr, .nilMap, (.int .i64 (.ofNat 0)), (.int .i64 (.ofNat 0))] [(0, x0), (2, x6)]) fun x7 => 
  bA (bxV 187 x7) H fun x8 H => 
  bV (some x8) fun x2 => some (.ret x2, H))
def h123 : Hint := (.s .o (.s .o .o))
theorem f123_eq (D : Dyn) (n : Nat) : f123 D n = funK (s123 D n) D n 123 Tryz.f123 h123 := by kernel_rfl
theorem f123_ok {D : Dyn} (hD : DG D) (n : Nat) : FI 123 (f123 D n) := fun_ok X_ok hD (SOk.cons (f98_ok hD n).fs (SOk.nil)) Tryz.func123 (by kernel_rfl) (f123_eq D n)

def s97 (D : Dyn) (n : Nat) : Tb := ⟨X, [(88, f88 D n)]⟩
/-- (*jetty/tree.Tree).Root -/
def f97 (D : Dyn) (n : Nat) (vs : List AV) (H : AH) : Option (AV × AH) :=
  outR (hd vs fun x0 vs => nl vs <|
  bA (bxV 52 (.agg [(.int .i64 (.ofNat 0)), (.int .i64 (.ofNat 0)), (.int .u64 (.ofNat 0))])) H fun x2 H => 
  bR (f88 D n [x0] H) fun x4 H => 
  cnd x4 (bV (bldS [(0, 1), (1, 1), (2, 1)] [(.int .i64 (.ofNat 0)), (.int .i64 (.ofNat 0)), (.int .u64 (.ofNat 0))] []) fun x5 => 
  bR (stN 3 x2 x5 H) fun x9999 H => 
  bV (ldN 3 x2 H) fun x9002 => some (.ret x9002, H))
  (bV (pNil x0) fun x7 => 
  bV (fAd 2 x7) fun x8 => 
  bV (ldN 3 x8 H) fun x9 => 
  bR (stN 3 x2 x9 H) fun x9999_2 H => 
  bV (ldN 3 x2 H) fun x9002_2 => some (.ret x9002_2, H)))
def h97 : Hint := (.s .o (.s (.s .o (.cl (.s .o .o) .o)) (.s .o .o)))
theorem f97_eq (D : Dyn) (n : Nat) : f97 D n = funK (s97 D n) D n 97 Tryz.f97 h97 := by kernel_rfl
theorem f97_ok {D : Dyn} (hD : DG D) (n : Nat) : FI 97 (f97 D n) := fun_ok X_ok hD (SOk.cons (f88_ok hD n).fs (SOk.nil)) Tryz.func97 (by kernel_rfl) (f97_eq D n)

def s199 (D : Dyn) (n : Nat) : Tb := ⟨X, []⟩
/-- (*jetty/arc.Cache).none -/
def f199 (D : Dyn) (n : Nat) (vs : List AV) (H : AH) : Option (AV × AH) :=
  outR (hd vs fun x0 vs => nl vs <|
  bV (cmpO .eql (eqP x0 .nilPtr)) fun x4 => 
  jn (wnt x4 false (bV (pNil x0) fun x7 => 
  bV (fAd 13 x7) fun x8 => 
  bV (ld1 x8 H) fun x9 => 
  bV (bInt .lss x9 (.int .i64 (.ofNat 1))) fun x10 => 
  some (.norm [x10], H)) (some (.norm [undefA], H))) fun vs H => hd vs fun x10_2 vs => 
  bV (pk3 (some x4) (some (.bool true)) (some x10_2)) fun x11 => 
  jn (wnt x11 false (bV (pNil x0) fun x14 => 
  bV (fAd 0 x14) fun x15 => 
  bV (fAd 12 x15) fun x16 => 
  bV (ld1 x16 H) fun x17 => 
  bV (cmpO .eql (eqM x17 .nilMap)) fun x18 => 
  some (.norm [x18], H)) (some (.norm [undefA], H))) fun vs H => hd vs fun x18_2 vs => 
  bV (pk3 (some x11) (some (.bool true)) (some x18_2)) fun x19 => 
  bV (some x19) fun x2 => some (.ret x2, H))
def h199 : Hint := (.s .o (.s .o .o))
theorem f199_eq (D : Dyn) (n : Nat) : f199 D n = funK (s199 D n) D n 199 Tryz.f199 h199 := by kernel_rfl
theorem f199_ok {D : Dyn} (hD : DG D) (n : Nat) : FI 199 (f199 D n) := fun_ok X_ok hD (SOk.nil) Tryz.func199 (by kernel_rfl) (f199_eq D n)

def s264 (D : Dyn) (n : Nat) : Tb := ⟨X, []⟩
/-- (*jetty/arc.rows).size -/
def f264 (D : Dyn) (n : Nat) (vs : List AV) (H : AH) : Option (AV × AH) :=
  outR (hd vs fun x0 vs => hd vs fun x1 vs => nl vs <|
  bV (pNil x0) fun x7 => 
  bV (fAd 0 x7) fun x8 => 
  bV (ixArr 4 3 x8 x1) fun x9 => 
  bV (fAd 2 x9) fun x10 => 
  bV (ld1 x10 H) fun x11 => 
  bV (some x11) fun x4 => some (.ret x4, H))
def h264 : Hint := (.s .o (.s .o .o))
theorem f264_eq (D : Dyn) (n : Nat) : f264 D n = funK (s264 D n) D n 264 Tryz.f264 h264 := by kernel_rfl
theorem f264_ok {D : Dyn} (hD : DG D) (n : Nat) : FI 264 (f264 D n) := fun_ok X_ok hD (SOk.nil) Tryz.func264 (by kernel_rfl) (f264_eq D n)

def s266 (D : Dyn) (n : Nat) : Tb := ⟨X, []⟩
def f266j0 (D : Dyn) (n : Nat) (vs : List AV) (H : AH) : Rs :=
  hd vs fun x1_3 vs => hd vs fun x4_2 vs => 
  bV (pNil x1_3) fun x59 => 
  bV (fAd 3 x59) fun x60 => 
  bR (stN 1 x60 .nilPtr H) fun x9999_5 H => 
  bV (pNil x1_3) fun x61 => 
  bV (fAd 4 x61) fun x62 => 
  bR (stN 1 x62 .nilPtr H) fun x9999_6 H => 
  bV (pNil x4_2) fun x64 => 
  bV (fAd 2 x64) fun x65 => 
  bV (ld1 x65 H) fun x66 => 
  bV (bInt .sub x66 (.int .i64 (.ofNat 1))) fun x67 => 
  bV (pNil x4_2) fun x68 => 
  bV (fAd 2 x68) fun x69 => 
  bR (stN 1 x69 x67 H) fun x9999_7 H => 
  some (.ret (.tuple []), H)
def f266j1 (D : Dyn) (n : Nat) (vs : List AV) (H : AH) : Rs :=
  hd vs fun x1_2 vs => hd vs fun x4 vs => 
  bV (pNil x1_2) fun x36 => 
  bV (fAd 4 x36) fun x37 => 
  bV (ld1 x37 H) fun x38 => 
  bV (cmpO .eql (eqP x38 .nilPtr)) fun x39 => 
  jn (cnd x39 (bV (pNil x1_2) fun x42 => 
  bV (fAd 3 x42) fun x43 => 
  bV (ld1 x43 H) fun x44 => 
  bV (pNil x4) fun x45 => 
  bV (fAd 1 x45) fun x46 => 
  bR (stN 1 x46 x44 H) fun x9999_3 H => 
  some (.norm [x1_2, x4], H))
  (bV (pNil x1_2) fun x48 => 
  bV (fAd 4 x48) fun x49 => 
  bV (ld1 x49 H) fun x50 => 
  bV (pNil x1_2) fun x52 => 
  bV (fAd 3 x52) fun x53 => 
  bV (ld1 x53 H) fun x54 => 
  bV (pNil x50) fun x55 => 
  bV (fAd 3 x55) fun x56 => 
  bR (stN 1 x56 x54 H) fun x9999_4 H => 
  some (.norm [x1_2, x4], H))) (f266j0 D n)
/-- (*jetty/arc.rows).detach -/
def f266 (D : Dyn) (n : Nat) (vs : List AV) (H : AH) : Option (AV × AH) :=
  outR (hd vs fun x0 vs => hd vs fun x1 vs => nl vs <|
  bV (pNil x1) fun x7 => 
  bV (fAd 1 x7) fun x8 => 
  bV (ld1 x8 H) fun x9 => 
  bV (pNil x0) fun x10 => 
  bV (fAd 0 x10) fun x11 => 
  bV (ixArr 4 3 x11 x9) fun x12 => 
  bV (pNil x1) fun x14 => 
  bV (fAd 3 x14) fun x15 => 
  bV (ld1 x15 H) fun x16 => 
  bV (cmpO .eql (eqP x16 .nilPtr)) fun x17 => 
  jn (cnd x17 (bV (pNil x1) fun x20 => 
  bV (fAd 4 x20) fun x21 => 
  bV (ld1 x21 H) fun x22 => 
  bV (pNil x12) fun x23 => 
  bV (fAd 0 x23) fun x24 => 
  bR (stN 1 x24 x22 H) fun x9999 H => 
  some (.norm [x1, x12], H))
  (bV (pNil x1) fun x26 => 
  bV (fAd 3 x26) fun x27 => 
  bV (ld1 x27 H) fun x28 => 
  bV (pNil x1) fun x30 => 
  bV (fAd 4 x30) fun x31 => 
  bV (ld1 x31 H) fun x32 => 
  bV (pNil x28) fun x33 => 
  bV (fAd 4 x33) fun x34 => 
  bR (stN 1 x34 x32 H) fun x9999_2 H => 
  some (.norm [x1, x12], H))) (f266j1 D n))
def h266 : Hint := (.s .o (.s (.s .o (.c [1, 4] .o .o)) (.s (.s .o (.c [1, 4] .o .o)) (.s .o .o))))
theorem f266_eq (D : Dyn) (n : Nat) : f266 D n = funK (s266 D n) D n 266 Tryz.f266 h266 := by kernel_rfl
theorem f266_ok {D : Dyn} (hD : DG D) (n : Nat) : FI 266 (f266 D n) := fun_ok X_ok hD (SOk.nil) Tryz.func266 (by kernel_rfl) (f266_eq D n)

def s288 (D : Dyn) (n : Nat) : Tb := ⟨X, [(266, f266 D n)]⟩
/-- (*jetty/arc.rows).forget -/
def f288 (D : Dyn) (n : Nat) (vs : List AV) (H : AH) : Option (AV × AH) :=
  outR (hd vs fun x0 vs => hd vs fun x1 vs => nl vs <|
  bV (pNil x0) fun x7 => 
  bV (fAd 0 x7) fun x8 => 
  bV (ixArr 4 3 x8 x1) fun x9 => 
  bV (fAd 0 x9) fun x10 => 
  bV (ld1 x10 H) fun x11 => 
  bV (cmpO .eql (eqP x11 .nilPtr)) fun x13 => 
  cnd x13 (some (.ret (.tuple []), H))
  (bR (f266 D n [x0, x11] H) fun x16 H => 
  bV (pNil x0) fun x18 => 
  bV (fAd 12 x18) fun x19 => 
  bV (ld1 x19 H) fun x20 => 
  bV (pNil x11) fun x22 => 
  bV (fAd 0 x22) fun x23 => 
  bV (ld1 x23 H) fun x24 => 
  bR (dlM [6] x20 x24 H) fun x9999 H => 
  some (.ret (.tuple []), H)))
def h288 : Hint := (.s .o (.s (.s .o (.cl .o .o)) (.s .o .o)))
theorem f288_eq (D : Dyn) (n : Nat) : f288 D n = funK (s288 D n) D n 288 Tryz.f288 h288 := by kernel_rfl
theorem f288_ok {D : Dyn} (hD : DG D) (n : Nat) : FI 288 (f288 D n) := fun_ok X_ok hD (SOk.cons (f266_ok hD n).fs (SOk.nil)) Tryz.func288 (by kernel_rfl) (f288_eq D n)

def s267 (D : Dyn) (n : Nat) : Tb := ⟨X, []⟩
def f267j0 (D : Dyn) (n : Nat) (vs : List AV) (H : AH) : Rs :=
  hd vs fun x2_2 vs => hd vs fun x6 vs => 
  bV (pNil x6) fun x44 => 
  bV (fAd 1 x44) fun x45 => 
  bR (stN 1 x45 x2_2 H) fun x9999_6 H => 
  bV (pNil x6) fun x47 => 
  bV (fAd 2 x47) fun x48 => 
  bV (ld1 x48 H) fun x49 => 
  bV (bInt .add x49 (.int .i64 (.ofNat 1))) fun x50 => 
  bV (pNil x6) fun x51 => 
  bV (fAd 2 x51) fun x52 => 
  bR (stN 1 x52 x50 H) fun x9999_7 H => 
  some (.ret (.tuple []), H)
/-- (*jetty/arc.rows).attach -/
def f267 (D : Dyn) (n : Nat) (vs : List AV) (H : AH) : Option (AV × AH) :=
  outR (hd vs fun x0 vs => hd vs fun x1 vs => hd vs fun x2 vs => nl vs <|
  bV (pNil x0) fun x9 => 
  bV (fAd 0 x9) fun x10 => 
  bV (ixArr 4 3 x10 x1) fun x11 => 
  bV (pNil x2) fun x14 => 
  bV (fAd 1 x14) fun x15 => 
  bR (stN 1 x15 x1 H) fun x9999 H => 
  bV (pNil x11) fun x19 => 
  bV (fAd 1 x19) fun x20 => 
  bV (ld1 x20 H) fun x21 => 
  bV (pNil x2) fun x22 => 
  bV (fAd 3 x22) fun x23 => 
  bR (stN 1 x23 x21 H) fun x9999_2 H => 
  bV (pNil x2) fun x24 => 
  bV (fAd 4 x24) fun x25 => 
  bR (stN 1 x25 .nilPtr H) fun x9999_3 H => 
  bV (pNil x11) fun x27 => 
  bV (fAd 1 x27) fun x28 => 
  bV (ld1 x28 H) fun x29 => 
  bV (cmpO .eql (eqP x29 .nilPtr)) fun x30 => 
  jn (cnd x30 (bV (pNil x11) fun x33 => 
  bV (fAd 0 x33) fun x34 => 
  bR (stN 1 x34 x2 H) fun x9999_4 H => 
  some (.norm [x2, x11], H))
  (bV (pNil x11) fun x36 => 
  bV (fAd 1 x36) fun x37 => 
  bV (ld1 x37 H) fun x38 => 
  bV (pNil x38) fun x40 => 
  bV (fAd 4 x40) fun x41 => 
  bR (stN 1 x41 x2 H) fun x9999_5 H => 
  some (.norm [x2, x11], H))) (f267j0 D n))
def h267 : Hint := (.s .o (.s .o (.s .o (.s (.s .o (.c [2, 6] .o .o)) (.s .o .o)))))
theorem f267_eq (D : Dyn) (n : Nat) : f267 D n = funK (s267 D n) D n 267 Tryz.f267 h267 := by kernel_rfl
theorem f267_ok {D : Dyn} (hD : DG D) (n : Nat) : FI 267 (f267 D n) := fun_ok X_ok hD (SOk.nil) Tryz.func267 (by kernel_rfl) (f267_eq D n)

def s289 (D : Dyn) (n : Nat) : Tb := ⟨X, [(266, f266 D n), (267, f267 D n)]⟩
/-- (*jetty/arc.rows).ghost -/
def f289 (D : Dyn) (n : Nat) (vs : List AV) (H : AH) : Option (AV × AH) :=
  outR (hd vs fun x0 vs => hd vs fun x1 vs => hd vs fun x2 vs => nl vs <|
  bV (pNil x0) fun x9 => 
  bV (fAd 0 x9) fun x10 => 
  bV (ixArr 4 3 x10 x1) fun x11 => 
  bV (fAd 0 x11) fun x12 => 
  bV (ld1 x12 H) fun x13 => 
  bV (cmpO .eql (eqP x13 .nilPtr)) fun x15 => 
  cnd x15 (some (.ret (.tuple []), H))
  (bR (f266 D n [x0, x13] H) fun x18 H => 
  bV (pNil x13) fun x20 => 
  bV (fAd 2 x20) fun x21 => 
  bR (stN 1 x21 .nilPtr H) fun x9999 H => 
  bR (f267 D n [x0, x2, x13] H) fun x25 H => 
  some (.ret (.tuple []), H)))
def h289 : Hint := (.s .o (.s (.s .o (.cl .o .o)) (.s .o (.s .o .o))))
theorem f289_eq (D : Dyn) (n : Nat) : f289 D n = funK (s289 D n) D n 289 Tryz.f289 h289 := by kernel_rfl
theorem f289_ok {D : Dyn} (hD : DG D) (n : Nat) : FI 289 (f289 D n) := fun_ok X_ok hD (SOk.cons (f266_ok hD n).fs (SOk.cons (f267_ok hD n).fs (SOk.nil))) Tryz.func289 (by kernel_rfl) (f289_eq D n)

def s265 (D : Dyn) (n : Nat) : Tb := ⟨X, [(264, f264 D n), (289, f289 D n)]⟩
/-- (*jetty/arc.Cache).makeRoom -/
def f265 (D : Dyn) (n : Nat) (vs : List AV) (H : AH) : Option (AV × AH) :=
  outR (hd vs fun x0 vs => hd vs fun x1 vs => nl vs <|
  bV (pNil x0) fun x7 => 
  bV (fAd 0 x7) fun x8 => 
  bV (pNil x0) fun x11 => 
  bV (fAd 0 x11) fun x12 => 
  bR (f264 D n [x8, (.int .i64 (.ofNat 0))] H) fun x9 H => 
  bR (f264 D n [x12, (.int .i64 (.ofNat 1))] H) fun x13 H => 
  bV (bInt .add x9 x13) fun x16 => 
  bV (pNil x0) fun x18 => 
  bV (fAd 13 x18) fun x19 => 
  bV (ld1 x19 H) fun x20 => 
  bV (bInt .lss x16 x20) fun x21 => 
  cnd x21 (some (.ret (.tuple []), H))
  (bV (bInt .gtr x9 (.int .i64 (.ofNat 0))) fun x23 => 
  jn (wnt x23 true (bV (bInt .eql x13 (.int .i64 (.ofNat 0))) fun x26 => 
  some (.norm [x26], H)) (some (.norm [undefA], H))) fun vs H => hd vs fun x27 vs => 
  jn (wnt x27 false (bV (pNil x0) fun x30 => 
  bV (fAd 14 x30) fun x31 => 
  bV (ld1 x31 H) fun x32 => 
  bV (bInt .gtr x9 x32) fun x33 => 
  some (.norm [x33], H)) (some (.norm [undefA], H))) fun vs H => hd vs fun x33_2 vs => 
  jn (wnt x23 true (bV (pk3 (some x27) (some (.bool true)) (some x33_2)) fun x34 => 
  some (.norm [x34], H)) (some (.norm [undefA], H))) fun vs H => hd vs fun x35 vs => 
  jn (wnt x35 false (some (.norm [x1], H)) (some (.norm [undefA], H))) fun vs H => hd vs fun x37 vs => 
  jn (wnt x37 true (bV (pNil x0) fun x40 => 
  bV (fAd 14 x40) fun x41 => 
  bV (ld1 x41 H) fun x42 => 
  bV (bInt .eql x9 x42) fun x43 => 
  some (.norm [x43], H)) (some (.norm [undefA], H))) fun vs H => hd vs fun x43_2 vs => 
  jn (wnt x35 false (bV (pk3 (some x37) (some x43_2) (some (.bool false))) fun x44 => 
  some (.norm [x44], H)) (some (.norm [undefA], H))) fun vs H => hd vs fun x44_2 vs => 
  jn (wnt x23 true (bV (pk3 (some x35) (some (.bool true)) (some x44_2)) fun x45 => 
  some (.norm [x45], H)) (some (.norm [undefA], H))) fun vs H => hd vs fun x45_2 vs => 
  bV (pk3 (some x23) (some x45_2) (some (.bool false))) fun x46 => 
  cnd x46 (bV (pNil x0) fun x48 => 
  bV (fAd 0 x48) fun x49 => 
  bR (f289 D n [x49, (.int .i64 (.ofNat 0)), (.int .i64 (.ofNat 2))] H) fun x50 H => 
  some (.ret (.tuple []), H))
  (bV (pNil x0) fun x52 => 
  bV (fAd 0 x52) fun x53 => 
  bR (f289 D n [x53, (.int .i64 (.ofNat 1)), (.int .i64 (.ofNat 3))] H) fun x54 H => 
  some (.ret (.tuple []), H))))
def h265 : Hint := (.s .o (.s (.s .o (.cl .o .o)) (.s (.s .o (.cl (.s .o .o) .o)) .o)))
theorem f265_eq (D : Dyn) (n : Nat) : f265 D n = funK (s265 D n) D n 265 Tryz.f265 h265 := by kernel_rfl
theorem f265_ok {D : Dyn} (hD : DG D) (n : Nat) : FI 265 (f265 D n) := fun_ok X_ok hD (SOk.cons (f264_ok hD n).fs (SOk.cons (f289_ok hD n).fs (SOk.nil))) Tryz.func265 (by kernel_rfl) (f265_eq D n)

def s263 (D : Dyn) (n : Nat) : Tb := ⟨X, [(264, f264 D n), (288, f288 D n), (265, f265 D n), (267, f267 D n)]⟩
def f263j0 (D : Dyn) (n : Nat) (vs : List AV) (H : AH) : Rs :=
  hd vs fun x0_2 vs => hd vs fun x1_2 vs => hd vs fun x2_2 vs => 
  some (.norm [x0_2, x1_2, x2_2], H)
def f263j1 (D : Dyn) (n : Nat) (vs : List AV) (H : AH) : Rs :=
  hd vs fun x0_3 vs => hd vs fun x1_3 vs => hd vs fun x2_3 vs => 
  bR (f265 D n [x0_3, (.bool false)] H) fun x79 H => 
  some (.norm [x0_3, x1_3, x2_3], H)
def f263j2 (D : Dyn) (n : Nat) (vs : List AV) (H : AH) : Rs :=
  hd vs fun x0_4 vs => hd vs fun x1_4 vs => hd vs fun x2_4 vs => 
  some (.norm [x0_4, x1_4, x2_4], H)
def f263j3 (D : Dyn) (n : Nat) (vs : List AV) (H : AH) : Rs :=
  hd vs fun x0_5 vs => hd vs fun x1_5 vs => hd vs fun x2_5 vs => 
  bV (bldS [(0, 1), (1, 1), (2, 1), (3, 1), (4, 1)] [(.int .i64 (.ofNat 0)), (.int .i64 (.ofNat 0)), .nilPtr, .nilPtr, .nilPtr] [(0, x1_5), (2, x2_5)]) fun x82 => 
  bA (bxV 350 x82) H fun x83 H => 
  bV (pNil x0_5) fun x85 => 
  bV (fAd 0 x85) fun x86 => 
  bV (fAd 12 x86) fun x87 => 
  bV (ld1 x87 H) fun x88 => 
  bR (upM [6] x88 x1_5 x83 H) fun x9999 H => 
  bV (pNil x0_5) fun x92 => 
  bV (fAd 0 x92) fun x93 => 
  bR (f267 D n [x93, (.int .i64 (.ofNat 0)), x83] H) fun x95 H => 
  some (.ret (.tuple []), H)
/-- (*jetty/arc.Cache).meet -/
def f263 (D : Dyn) (n : Nat) (vs : List AV) (H : AH) : Option (AV × AH) :=
  outR (hd vs fun x0 vs => hd vs fun x1 vs => hd vs fun x2 vs => nl vs <|
  bV (pNil x0) fun x13 => 
  bV (fAd 0 x13) fun x14 => 
  bV (pNil x0) fun x17 => 
  bV (fAd 0 x17) fun x18 => 
  bR (f264 D n [x14, (.int .i64 (.ofNat 0))] H) fun x15 H => 
  bR (f264 D n [x18, (.int .i64 (.ofNat 1))] H) fun x19 H => 
  bV (pNil x0) fun x21 => 
  bV (fAd 0 x21) fun x22 => 
  bV (pNil x0) fun x25 => 
  bV (fAd 0 x25) fun x26 => 
  bR (f264 D n [x22, (.int .i64 (.ofNat 2))] H) fun x23 H => 
  bR (f264 D n [x26, (.int .i64 (.ofNat 3))] H) fun x27 H => 
  bV (bInt .add x15 x19) fun x30 => 
  bV (bInt .add x30 x23) fun x32 => 
  bV (bInt .add x32 x27) fun x34 => 
  bV (bInt .add x15 x23) fun x38 => 
  bV (pNil x0) fun x40 => 
  bV (fAd 13 x40) fun x41 => 
  bV (ld1 x41 H) fun x42 => 
  bV (bInt .geq x38 x42) fun x43 => 
  jn (cnd x43 (bV (pNil x0) fun x46 => 
  bV (fAd 13 x46) fun x47 => 
  bV (ld1 x47 H) fun x48 => 
  bV (bInt .lss x15 x48) fun x49 => 
  jn (cnd x49 (bV (pNil x0) fun x51 => 
  bV (fAd 0 x51) fun x52 => 
  bR (f288 D n [x52, (.int .i64 (.ofNat 2))] H) fun x53 H => 
  bR (f265 D n [x0, (.bool false)] H) fun x55 H => 
  some (.norm [x0, x1, x2], H))
  (bV (pNil x0) fun x57 => 
  bV (fAd 0 x57) fun x58 => 
  bR (f288 D n [x58, (.int .i64 (.ofNat 0))] H) fun x59 H => 
  some (.norm [x0, x1, x2], H))) (f263j0 D n))
  (bV (pNil x0) fun x63 => 
  bV (fAd 13 x63) fun x64 => 
  bV (ld1 x64 H) fun x65 => 
  bV (bInt .geq x34 x65) fun x66 => 
  jn (cnd x66 (bV (pNil x0) fun x69 => 
  bV (fAd 13 x69) fun x70 => 
  bV (ld1 x70 H) fun x71 => 
  bV (bInt .mul (.int .i64 (.ofNat 2)) x71) fun x72 => 
  bV (bInt .geq x34 x72) fun x73 => 
  jn (cnd x73 (bV (pNil x0) fun x75 => 
  bV (fAd 0 x75) fun x76 => 
  bR (f288 D n [x76, (.int .i64 (.ofNat 3))] H) fun x77 H => 
  some (.norm [x0, x1, x2], H))
  (some (.norm [x0, x1, x2], H))) (f263j1 D n))
  (some (.norm [x0, x1, x2], H))) (f263j2 D n))) (f263j3 D n))
def h263 : Hint := (.s .o (.s .o (.s (.s .o (.b0 (.s .o (.c [0, 1, 2] (.s .o (.c [0, 1, 2] (.s .o .o) .o)) (.s .o (.c [0, 1, 2] (.s (.s .o (.c [0, 1, 2] .o .o)) .o) .o)))))) (.s .o (.s .o .o)))))
theorem f263_eq (D : Dyn) (n : Nat) : f263 D n = funK (s263 D n) D n 263 Tryz.f263 h263 := by kernel_rfl
theorem f263_ok {D : Dyn} (hD : DG D) (n : Nat) : FI 263 (f263 D n) := fun_ok X_ok hD (SOk.cons (f264_ok hD n).fs (SOk.cons (f288_ok hD n).fs (SOk.cons (f265_ok hD n).fs (SOk.cons (f267_ok hD n).fs (SOk.nil))))) Tryz.func263 (by kernel_rfl) (f263_eq D n)

def s200 (D : Dyn) (n : Nat) : Tb := ⟨X, [(263, f263 D n), (264, f264 D n), (265, f265 D n), (266, f266 D n), (267, f267 D n)]⟩
def f200j0 (D : Dyn) (n : Nat) (vs : List AV) (H : AH) : Rs :=
  hd vs fun x0_2 vs => hd vs fun x2_2 vs => hd vs fun x6 vs => 
  some (.norm [x0_2, x2_2, x6], H)
def f200j1 (D : Dyn) (n : Nat) (vs : List AV) (H : AH) : Rs :=
  hd vs fun x0_3 vs => hd vs fun x2_3 vs => hd vs fun x6_2 vs => 
  bV (pNil x0_3) fun x79 => 
  bV (fAd 0 x79) fun x80 => 
  bR (f266 D n [x80, x6_2] H) fun x82 H => 
  bV (pNil x6_2) fun x85 => 
  bV (fAd 2 x85) fun x86 => 
  bR (stN 1 x86 x2_3 H) fun x9999_3 H => 
  bV (pNil x0_3) fun x88 => 
  bV (fAd 0 x88) fun x89 => 
  bR (f267 D n [x89, (.int .i64 (.ofNat 1)), x6_2] H) fun x91 H => 
  some (.ret (.tuple []), H)
/-- (*jetty/arc.Cache).have -/
def f200 (D : Dyn) (n : Nat) (vs : List AV) (H : AH) : Option (AV × AH) :=
  outR (hd vs fun x0 vs => hd vs fun x1 vs => hd vs fun x2 vs => nl vs <|
  bV (pNil x0) fun x10 => 
  bV (fAd 0 x10) fun x11 => 
  bV (fAd 12 x11) fun x12 => 
  bV (ld1 x12 H) fun x13 => 
  bV (lkM [6] .nilPtr false x13 x1 H) fun x15 => 
  bV (cmpO .eql (eqP x15 .nilPtr)) fun x17 => 
  cnd x17 (bR (f263 D n [x0, x1, x2] H) fun x21 H => 
  some (.ret (.tuple []), H))
  (bV (pNil x15) fun x23 => 
  bV (fAd 1 x23) fun x24 => 
  bV (ld1 x24 H) fun x25 => 
  bV (bInt .eql x25 (.int .i64 (.ofNat 2))) fun x27 => 
  jn (cnd x27 (bV (pNil x0) fun x29 => 
  bV (fAd 0 x29) fun x30 => 
  bV (pNil x0) fun x33 => 
  bV (fAd 0 x33) fun x34 => 
  bR (f264 D n [x30, (.int .i64 (.ofNat 3))] H) fun x31 H => 
  bR (f264 D n [x34, (.int .i64 (.ofNat 2))] H) fun x35 H => 
  bV (bInt .quo x31 x35) fun x36 => 
  bV (mx2 (.int .i64 (.ofNat 1)) x36) fun x37 => 
  bV (pNil x0) fun x40 => 
  bV (fAd 13 x40) fun x41 => 
  bV (ld1 x41 H) fun x42 => 
  bV (pNil x0) fun x44 => 
  bV (fAd 14 x44) fun x45 => 
  bV (ld1 x45 H) fun x46 => 
  bV (bInt .add x46 x37) fun x48 => 
  bV (mn2 x42 x48) fun x49 => 
  bV (pNil x0) fun x50 => 
  bV (fAd 14 x50) fun x51 => 
  bR (stN 1 x51 x49 H) fun x9999 H => 
  bR (f265 D n [x0, (.bool false)] H) fun x53 H => 
  some (.norm [x0, x2, x15], H))
  (bV (bInt .eql x25 (.int .i64 (.ofNat 3))) fun x55 => 
  jn (cnd x55 (bV (pNil x0) fun x57 => 
  bV (fAd 0 x57) fun x58 => 
  bV (pNil x0) fun x61 => 
  bV (fAd 0 x61) fun x62 => 
  bR (f264 D n [x58, (.int .i64 (.ofNat 2))] H) fun x59 H => 
  bR (f264 D n [x62, (.int .i64 (.ofNat 3))] H) fun x63 H => 
  bV (bInt .quo x59 x63) fun x64 => 
  bV (mx2 (.int .i64 (.ofNat 1)) x64) fun x65 => 
  bV (pNil x0) fun x68 => 
  bV (fAd 14 x68) fun x69 => 
  bV (ld1 x69 H) fun x70 => 
  bV (bInt .sub x70 x65) fun x72 => 
  bV (mx2 (.int .i64 (.ofNat 0)) x72) fun x73 => 
  bV (pNil x0) fun x74 => 
  bV (fAd 14 x74) fun x75 => 
  bR (stN 1 x75 x73 H) fun x9999_2 H => 
  bR (f265 D n [x0, (.bool true)] H) fun x77 H => 
  some (.norm [x0, x2, x15], H))
  (some (.norm [x0, x2, x15], H))) (f200j0 D n))) (f200j1 D n)))
def h200 : Hint := (.s .o (.s (.s .o (.cl (.s .o .o) .o)) (.s (.s .o (.b0 (.s .o (.c [0, 2, 6] (.s .o (.s .o .o)) (.s .o (.c [0, 2, 6] (.s .o (.s .o .o)) .o)))))) (.s .o (.s .o .o)))))
theorem f200_eq (D : Dyn) (n : Nat) : f200 D n = funK (s200 D n) D n 200 Tryz.f200 h200 := by kernel_rfl
theorem f200_ok {D : Dyn} (hD : DG D) (n : Nat) : FI 200 (f200 D n) := fun_ok X_ok hD (SOk.cons (f263_ok hD n).fs (SOk.cons (f264_ok hD n).fs (SOk.cons (f265_ok hD n).fs (SOk.cons (f266_ok hD n).fs (SOk.cons (f267_ok hD n).fs (SOk.nil)))))) Tryz.func200 (by kernel_rfl) (f200_eq D n)

def s247 (D : Dyn) (n : Nat) : Tb := ⟨X, [(199, f199 D n), (200, f200 D n)]⟩
/-- (*jetty/arc.Cache).Get -/
def f247 (D : Dyn) (n : Nat) (vs : List AV) (H : AH) : Option (AV × AH) :=
  outR (hd vs fun x0 vs => hd vs fun x1 vs => nl vs <|
  bA (bxV 164 (.agg (rep 512 [(.int .u8 (.ofNat 0))]))) H fun x4 H => 
  bR (f199 D n [x0] H) fun x8 H => 
  cnd x8 (bV (bldA 1 (rep 512 [(.int .u8 (.ofNat 0))]) []) fun x9 => 
  bR (stN 512 x4 x9 H) fun x9999 H => 
  bV (ldN 512 x4 H) fun x9004 => bV (some (.int .i64 (.ofNat 2))) fun x5 => some (.ret (.tuple [x9004, x5]), H))
  (bV (pNil x0) fun x11 => 
  bV (fAd 0 x11) fun x12 => 
  bV (fAd 12 x12) fun x13 => 
  bV (ld1 x13 H) fun x14 => 
  bV (lkM [6] .nilPtr false x14 x1 H) fun x16 => 
  bV (cmpO .eql (eqP x16 .nilPtr)) fun x18 => 
  jn (wnt x18 false (bV (pNil x16) fun x21 => 
  bV (fAd 2 x21) fun x22 => 
  bV (ld1 x22 H) fun x23 => 
  bV (cmpO .eql (eqP x23 .nilPtr)) fun x24 => 
  some (.norm [x24], H)) (some (.norm [undefA], H))) fun vs H => hd vs fun x24_2 vs => 
  bV (pk3 (some x18) (some (.bool true)) (some x24_2)) fun x25 => 
  cnd x25 (bV (bldA 1 (rep 512 [(.int .u8 (.ofNat 0))]) []) fun x26 => 
  bR (stN 512 x4 x26 H) fun x9999_2 H => 
  bV (ldN 512 x4 H) fun x9004_2 => bV (some (.int .i64 (.ofNat 5))) fun x5_2 => some (.ret (.tuple [x9004_2, x5_2]), H))
  (bV (pNil x16) fun x30 => 
  bV (fAd 2 x30) fun x31 => 
  bV (ld1 x31 H) fun x32 => 
  bR (f200 D n [x0, x1, x32] H) fun x33 H => 
  bV (pNil x16) fun x35 => 
  bV (fAd 2 x35) fun x36 => 
  bV (ld1 x36 H) fun x37 => 
  bV (pNil x37) fun x38 => 
  bV (ldN 512 x38 H) fun x39 => 
  bR (stN 512 x4 x39 H) fun x9999_3 H => 
  bV (ldN 512 x4 H) fun x9004_3 => bV (some (.int .i64 (.ofNat 0))) fun x5_3 => some (.ret (.tuple [x9004_3, x5_3]), H))))
def h247 : Hint := (.s .o (.s (.s .o (.cl (.s .o .o) .o)) (.s .o (.s (.s .o (.cl (.s .o .o) .o)) (.s .o (.s .o .o))))))
theorem f247_eq (D : Dyn) (n : Nat) : f247 D n = funK (s247 D n) D n 247 Tryz.f247 h247 := by kernel_rfl
theorem f247_ok {D : Dyn} (hD : DG D) (n : Nat) : FI 247 (f247 D n) := fun_ok X_ok hD (SOk.cons (f199_ok hD n).fs (SOk.cons (f200_ok hD n).fs (SOk.nil))) Tryz.func247 (by kernel_rfl) (f247_eq D n)

def s193 (D : Dyn) (n : Nat) : Tb := ⟨X, []⟩
def f193l0 (D : Dyn) (n : Nat) (vs : List AV) (H : AH) : Rs :=
  hd vs fun x0_2 vs => hd vs fun x1_2 vs => hd vs fun x7_2 vs => hd vs fun x8 vs => 
  bV (bInt .lss x8 x7_2) fun x9 => 
  cnd x9 (bV (ixStr x1_2 x8) fun x14 => 
  bV (cvI .u64 x14) fun x15 => 
  bV (bInt .xor x0_2 x15) fun x16 => 
  bV (bInt .mul x16 (.int .u64 (.ofNat 1099511628211))) fun x17 => 
  bV (bInt .add x8 (.int .i64 (.ofNat 1))) fun x18 => 
  some (.norm [x17, x1_2, x7_2, x18], H))
  (some (.exit 0 [x0_2], H))
def f193b1 (D : Dyn) (n : Nat) (vs : List AV) (H : AH) : Rs :=
  hd vs fun x0_3 vs => 
  bV (some x0_3) fun x4 => some (.ret x4, H)
/-- jetty/digest.sum[string] -/
def f193 (D : Dyn) (n : Nat) (vs : List AV) (H : AH) : Option (AV × AH) :=
  outR (hd vs fun x0 vs => hd vs fun x1 vs => nl vs <|
  bV (lnStr x1) fun x7 => 
  jb 0 (loopK n (f193l0 D n) [x0, x1, x7, (.int .i64 (.ofNat 0))] H) (f193b1 D n))
def h193 : Hint := (.s .o (.s (.s .o (.b [0] (.l [0, 1, 7, 8] (.s .o (.s (.cr .o .o) (.s (.b0 (.s .o .o)) .o)))))) (.s .o .o)))
theorem f193_eq (D : Dyn) (n : Nat) : f193 D n = funK (s193 D n) D n 193 Tryz.f193 h193 := by kernel_rfl
theorem f193_ok {D : Dyn} (hD : DG D) (n : Nat) : FI 193 (f193 D n) := fun_ok X_ok hD (SOk.nil) Tryz.func193 (by kernel_rfl) (f193_eq D n)

def s224 (D : Dyn) (n : Nat) : Tb := ⟨X, [(193, f193 D n)]⟩
/-- jetty/digest.Sum -/
def f224 (D : Dyn) (n : Nat) (vs : List AV) (H : AH) : Option (AV × AH) :=
  outR (hd vs fun x0 vs => nl vs <|
  bR (f193 D n [(.int .u64 (.ofNat 14695981039346656037)), x0] H) fun x4 H => 
  bV (some x4) fun x2 => some (.ret x2, H))
def h224 : Hint := (.s .o (.s .o .o))
theorem f224_eq (D : Dyn) (n : Nat) : f224 D n = funK (s224 D n) D n 224 Tryz.f224 h224 := by kernel_rfl
theorem f224_ok {D : Dyn} (hD : DG D) (n : Nat) : FI 224 (f224 D n) := fun_ok X_ok hD (SOk.cons (f193_ok hD n).fs (SOk.nil)) Tryz.func224 (by kernel_rfl) (f224_eq D n)

def s211 (D : Dyn) (n : Nat) : Tb := ⟨X, [(224, f224 D n)]⟩
/-- jetty/block.Sum -/
def f211 (D : Dyn) (n : Nat) (vs : List AV) (H : AH) : Option (AV × AH) :=
  outR (hd vs fun x0 vs => nl vs <|
  bA (bxV 164 x0) H fun x1 H => 
  bV (slArr 512 1 x1 none none none) fun x3 => 
  bV (cvBS x3 H) fun x4 => 
  bR (f224 D n [x4] H) fun x5 H => 
  bV (some x5) fun x2 => some (.ret x2, H))
def h211 : Hint := (.s .o (.s .o .o))
theorem f211_eq (D : Dyn) (n : Nat) : f211 D n = funK (s211 D n) D n 211 Tryz.f211 h211 := by kernel_rfl
theorem f211_ok {D : Dyn} (hD : DG D) (n : Nat) : FI 211 (f211 D n) := fun_ok X_ok hD (SOk.cons (f224_ok hD n).fs (SOk.nil)) Tryz.func211 (by kernel_rfl) (f211_eq D n)

def s219 (D : Dyn) (n : Nat) : Tb := ⟨X, []⟩
def f219l0 (D : Dyn) (n : Nat) (vs : List AV) (H : AH) : Rs :=
  hd vs fun x3 vs => hd vs fun x6 vs => hd vs fun x7_2 vs => hd vs fun x8 vs => 
  bV (bInt .lss x8 x7_2) fun x9 => 
  cnd x9 (bV (ixSl 1 x6 x8) fun x10 => 
  bV (ld1 x10 H) fun x11 => 
  bV (bInt .shl x3 (.int .u64 (.ofNat 8))) fun x13 => 
  bV (cvI .u64 x11) fun x15 => 
  bV (bInt .or x13 x15) fun x16 => 
  bV (bInt .add x8 (.int .i64 (.ofNat 1))) fun x17 => 
  some (.norm [x16, x6, x7_2, x17], H))
  (some (.exit 0 [x3], H))
def f219b1 (D : Dyn) (n : Nat) (vs : List AV) (H : AH) : Rs :=
  hd vs fun x3_2 vs => 
  bV (some x3_2) fun x2 => some (.ret x2, H)
/-- jetty/block.get -/
def f219 (D : Dyn) (n : Nat) (vs : List AV) (H : AH) : Option (AV × AH) :=
  outR (hd vs fun x0 vs => nl vs <|
  bV (lnSl x0) fun x7 => 
  jb 0 (loopK n (f219l0 D n) [(.int .u64 (.ofNat 0)), x0, x7, (.int .i64 (.ofNat 0))] H) (f219b1 D n))
def h219 : Hint := (.s .o (.s .o (.s (.s .o (.b [3] (.l [3, 6, 7, 8] (.s .o (.s (.cr .o .o) (.s (.b0 (.s .o .o)) .o)))))) (.s .o .o))))
theorem f219_eq (D : Dyn) (n : Nat) : f219 D n = funK (s219 D n) D n 219 Tryz.f219 h219 := by kernel_rfl
theorem f219_ok {D : Dyn} (hD : DG D) (n : Nat) : FI 219 (f219 D n) := fun_ok X_ok hD (SOk.nil) Tryz.func219 (by kernel_rfl) (f219_eq D n)

def s120 (D : Dyn) (n : Nat) : Tb := ⟨X, [(151, f151 D n)]⟩
/-- jetty/block.Seal -/
def f120 (D : Dyn) (n : Nat) (vs : List AV) (H : AH) : Option (AV × AH) :=
  outR (hd vs fun x0 vs => hd vs fun x1 vs => hd vs fun x2 vs => nl vs <|
  bA (bxV 164 (.agg (rep 512 [(.int .u8 (.ofNat 0))]))) H fun x6 H => 
  bV (bInt .lss x1 (.int .i64 (.ofNat 0))) fun x10 => 
  jn (wnt x10 false (bV (bInt .gtr x1 (.int .i64 (.ofNat 2147483647))) fun x13 => 
  some (.norm [x13], H)) (some (.norm [undefA], H))) fun vs H => hd vs fun x13_2 vs => 
  bV (pk3 (some x10) (some (.bool true)) (some x13_2)) fun x14 => 
  cnd x14 (bV (bldA 1 (rep 512 [(.int .u8 (.ofNat 0))]) []) fun x15 => 
  bR (stN 512 x6 x15 H) fun x9999 H => 
  bV (ldN 512 x6 H) fun x9006 => bV (some (.int .i64 (.ofNat 1))) fun x7 => some (.ret (.tuple [x9006, x7]), H))
  (bV (lnStr x2) fun x17 => 
  bV (bInt .gtr x17 (.int .i64 (.ofNat 500))) fun x18 => 
  cnd x18 (bV (bldA 1 (rep 512 [(.int .u8 (.ofNat 0))]) []) fun x19 => 
  bR (stN 512 x6 x19 H) fun x9999_2 H => 
  bV (ldN 512 x6 H) fun x9006_2 => bV (some (.int .i64 (.ofNat 40))) fun x7_2 => some (.ret (.tuple [x9006_2, x7_2]), H))
  (bA (bxV 164 (.agg (rep 512 [(.int .u8 (.ofNat 0))]))) H fun x8 H => 
  bV (slArr 512 1 x8 none none none) fun x20 => 
  bR (cpy 1 x20 (.str 4 2037675114) H) fun x21 H => 
  bV (ixArr 512 1 x8 (.int .i64 (.ofNat 4))) fun x23 => 
  bR (stN 1 x23 x0 H) fun x9999_3 H => 
  bV (slArr 512 1 x8 (some (.int .i64 (.ofNat 6))) (some (.int .i64 (.ofNat 8))) none) fun x24 => 
  bV (lnStr x2) fun x26 => 
  bV (cvI .u64 x26) fun x27 => 
  bR (f151 D n [x24, x27] H) fun x28 H => 
  bV (slArr 512 1 x8 (some (.int .i64 (.ofNat 8))) (some (.int .i64 (.ofNat 12))) none) fun x29 => 
  bV (cvI .u64 x1) fun x31 => 
  bR (f151 D n [x29, x31] H) fun x32 H => 
  bV (slArr 512 1 x8 (some (.int .i64 (.ofNat 12))) none none) fun x33 => 
  bR (cpy 1 x33 x2 H) fun x35 H => 
  bV (ldN 512 x8 H) fun x36 => 
  bR (stN 512 x6 x36 H) fun x9999_4 H => 
  bV (ldN 512 x6 H) fun x9006_3 => bV (some (.int .i64 (.ofNat 0))) fun x7_3 => some (.ret (.tuple [x9006_3, x7_3]), H))))
def h120 : Hint := (.s .o (.s (.s .o (.cl (.s .o .o) .o)) (.s (.s .o (.cl (.s .o .o) .o)) (.s .o (.s .o (.s .o (.s .o (.s .o (.s .o (.s .o .o))))))))))
theorem f120_eq (D : Dyn) (n : Nat) : f120 D n = funK (s120 D n) D n 120 Tryz.f120 h120 := by kernel_rfl
theorem f120_ok {D : Dyn} (hD : DG D) (n : Nat) : FI 120 (f120 D n) := fun_ok X_ok hD (SOk.cons (f151_ok hD n).fs (SOk.nil)) Tryz.func120 (by kernel_rfl) (f120_eq D n)

def s210 (D : Dyn) (n : Nat) : Tb := ⟨X, [(219, f219 D n), (120, f120 D n)]⟩
/-- jetty/block.Open -/
def f210 (D : Dyn) (n : Nat) (vs : List AV) (H : AH) : Option (AV × AH) :=
  outR (hd vs fun x0 vs => nl vs <|
  bA (bxV 164 x0) H fun x1 H => 
  bV (slArr 512 1 x1 (some (.int .i64 (.ofNat 6))) (some (.int .i64 (.ofNat 8))) none) fun x8 => 
  bR (f219 D n [x8] H) fun x9 H => 
  bV (bInt .gtr x9 (.int .u64 (.ofNat 500))) fun x11 => 
  cnd x11 (bV (some (.int .u8 (.ofNat 0))) fun x2 => bV (some (.int .i64 (.ofNat 0))) fun x3 => bV (some (.str 0 0)) fun x4 => bV (some (.int .i64 (.ofNat 4))) fun x5 => some (.ret (.tuple [x2, x3, x4, x5]), H))
  (bV (ixArr 512 1 x1 (.int .i64 (.ofNat 4))) fun x12 => 
  bV (ld1 x12 H) fun x13 => 
  bV (slArr 512 1 x1 (some (.int .i64 (.ofNat 8))) (some (.int .i64 (.ofNat 12))) none) fun x14 => 
  bR (f219 D n [x14] H) fun x15 H => 
  bV (cvI .i64 x15) fun x16 => 
  bV (bInt .add (.int .u64 (.ofNat 12)) x9) fun x18 => 
  bV (slArr 512 1 x1 (some (.int .i64 (.ofNat 12))) (some x18) none) fun x19 => 
  bV (cvBS x19 H) fun x20 => 
  bR (f120 D n [x13, x16, x20] H) fun x25 H => 
  bV (pExtract x25 0) fun x26 => 
  bV (pExtract x25 1) fun x27 => 
  bA (bxV 164 (.agg (rep 512 [(.int .u8 (.ofNat 0))]))) H fun x7 H => 
  bR (stN 512 x7 x26 H) fun x9999 H => 
  bV (bInt .neq x27 (.int .i64 (.ofNat 0))) fun x29 => 
  jn (wnt x29 false (bV (ldN 512 x7 H) fun x31 => 
  bV (ldN 512 x1 H) fun x32 => 
  bV (cmpO .neq (eqA (List.replicate 512 7) x31 x32)) fun x33 => 
  some (.norm [x33], H)) (some (.norm [undefA], H))) fun vs H => hd vs fun x33_2 vs => 
  bV (pk3 (some x29) (some (.bool true)) (some x33_2)) fun x34 => 
  cnd x34 (bV (some (.int .u8 (.ofNat 0))) fun x2_2 => bV (some (.int .i64 (.ofNat 0))) fun x3_2 => bV (some (.str 0 0)) fun x4_2 => bV (some (.int .i64 (.ofNat 4))) fun x5_2 => some (.ret (.tuple [x2_2, x3_2, x4_2, x5_2]), H))
  (bV (some x13) fun x2_3 => bV (some x16) fun x3_3 => bV (some x20) fun x4_3 => bV (some (.int .i64 (.ofNat 0))) fun x5_3 => some (.ret (.tuple [x2_3, x3_3, x4_3, x5_3]), H))))
def h210 : Hint := (.s .o (.s .o (.s (.s .o (.cl (.s .o .o) .o)) (.s .o (.s .o (.s .o (.s .o (.s (.s .o (.cl (.s .o .o) .o)) (.s .o .o)))))))))
theorem f210_eq (D : Dyn) (n : Nat) : f210 D n = funK (s210 D n) D n 210 Tryz.f210 h210 := by kernel_rfl
theorem f210_ok {D : Dyn} (hD : DG D) (n : Nat) : FI 210 (f210 D n) := fun_ok X_ok hD (SOk.cons (f219_ok hD n).fs (SOk.cons (f120_ok hD n).fs (SOk.nil))) Tryz.func210 (by kernel_rfl) (f210_eq D n)

def s248 (D : Dyn) (n : Nat) : Tb := ⟨X, [(211, f211 D n), (210, f210 D n)]⟩
/-- jetty/block.Check -/
def f248 (D : Dyn) (n : Nat) (vs : List AV) (H : AH) : Option (AV × AH) :=
  outR (hd vs fun x0 vs => hd vs fun x1 vs => nl vs <|
  bA (bxV 52 x0) H fun x2 H => 
  bA (bxV 164 x1) H fun x3 H => 
  bV (fAd 0 x2) fun x8 => 
  bV (ld1 x8 H) fun x9 => 
  bV (bInt .eql x9 (.int .i64 (.ofNat 0))) fun x10 => 
  jn (wnt x10 false (bV (ldN 512 x3 H) fun x12 => 
  bV (fAd 2 x2) fun x14 => 
  bV (ld1 x14 H) fun x15 => 
  bR (f211 D n [x12] H) fun x13 H => chk (ld1 x14 H) x15 <| 
  bV (bInt .neq x13 x15) fun x16 => 
  some (.norm [x16], H)) (some (.norm [undefA], H))) fun vs H => hd vs fun x16_2 vs => 
  bV (pk3 (some x10) (some (.bool true)) (some x16_2)) fun x17 => 
  cnd x17 (bV (some (.int .u8 (.ofNat 0))) fun x4 => bV (some (.str 0 0)) fun x5 => bV (some (.int .i64 (.ofNat 52))) fun x6 => some (.ret (.tuple [x4, x5, x6]), H))
  (bV (ldN 512 x3 H) fun x19 => 
  bR (f210 D n [x19] H) fun x20 H => 
  bV (pExtract x20 0) fun x21 => 
  bV (pExtract x20 1) fun x22 => 
  bV (pExtract x20 2) fun x23 => 
  bV (pExtract x20 3) fun x24 => 
  bV (bInt .neq x24 (.int .i64 (.ofNat 0))) fun x26 => 
  cnd x26 (bV (some (.int .u8 (.ofNat 0))) fun x4_2 => bV (some (.str 0 0)) fun x5_2 => bV (some x24) fun x6_2 => some (.ret (.tuple [x4_2, x5_2, x6_2]), H))
  (bV (fAd 1 x2) fun x29 => 
  bV (ld1 x29 H) fun x30 => 
  bV (bInt .neq x22 x30) fun x31 => 
  cnd x31 (bV (some (.int .u8 (.ofNat 0))) fun x4_3 => bV (some (.str 0 0)) fun x5_3 => bV (some (.int .i64 (.ofNat 52))) fun x6_3 => some (.ret (.tuple [x4_3, x5_3, x6_3]), H))
  (bV (some x21) fun x4_4 => bV (some x23) fun x5_4 => bV (some (.int .i64 (.ofNat 0))) fun x6_4 => some (.ret (.tuple [x4_4, x5_4, x6_4]), H)))))
def h248 : Hint := (.s .o (.s (.s .o (.cl (.s .o .o) .o)) (.s .o (.s (.s .o (.cl (.s .o .o) .o)) (.s (.s .o (.cl (.s .o .o) .o)) (.s .o .o))))))
theorem f248_eq (D : Dyn) (n : Nat) : f248 D n = funK (s248 D n) D n 248 Tryz.f248 h248 := by kernel_rfl
theorem f248_ok {D : Dyn} (hD : DG D) (n : Nat) : FI 248 (f248 D n) := fun_ok X_ok hD (SOk.cons (f211_ok hD n).fs (SOk.cons (f210_ok hD n).fs (SOk.nil))) Tryz.func248 (by kernel_rfl) (f248_eq D n)

def s152 (D : Dyn) (n : Nat) : Tb := ⟨X, []⟩
/-- (*jetty/disk.Disk).ask -/
def f152 (D : Dyn) (n : Nat) (vs : List AV) (H : AH) : Option (AV × AH) :=
  outR (hd vs fun x0 vs => nl vs <|
  bV (cmpO .eql (eqP x0 .nilPtr)) fun x4 => 
  cnd x4 (bV (some (.int .i64 (.ofNat 2))) fun x2 => some (.ret x2, H))
  (bV (pNil x0) fun x6 => 
  bV (fAd 6 x6) fun x7 => 
  bV (ld1 x7 H) fun x8 => 
  cnd x8 (bV (some (.int .i64 (.ofNat 51))) fun x2_2 => some (.ret x2_2, H))
  (bV (some (.int .i64 (.ofNat 0))) fun x2_3 => some (.ret x2_3, H))))
def h152 : Hint := (.s .o (.s (.s .o (.cl (.s .o .o) .o)) (.s (.s .o (.cl (.s .o .o) .o)) (.s .o .o))))
theorem f152_eq (D : Dyn) (n : Nat) : f152 D n = funK (s152 D n) D n 152 Tryz.f152 h152 := by kernel_rfl
theorem f152_ok {D : Dyn} (hD : DG D) (n : Nat) : FI 152 (f152 D n) := fun_ok X_ok hD (SOk.nil) Tryz.func152 (by kernel_rfl) (f152_eq D n)

def s208 (D : Dyn) (n : Nat) : Tb := ⟨X, [(152, f152 D n)]⟩
/-- (*jetty/disk.Disk).askAt -/
def f208 (D : Dyn) (n : Nat) (vs : List AV) (H : AH) : Option (AV × AH) :=
  outR (hd vs fun x0 vs => hd vs fun x1 vs => nl vs <|
  bR (f152 D n [x0] H) fun x7 H => 
  bV (bInt .neq x7 (.int .i64 (.ofNat 0))) fun x9 => 
  cnd x9 (bV (some x7) fun x4 => some (.ret x4, H))
  (bV (bInt .lss x1 (.int .i64 (.ofNat 0))) fun x12 => 
  jn (wnt x12 false (bV (pNil x0) fun x16 => 
  bV (fAd 0 x16) fun x17 => 
  bV (ld1 x17 H) fun x18 => 
  bV (bInt .geq x1 x18) fun x19 => 
  some (.norm [x19], H)) (some (.norm [undefA], H))) fun vs H => hd vs fun x19_2 vs => 
  bV (pk3 (some x12) (some (.bool true)) (some x19_2)) fun x20 => 
  cnd x20 (bV (some (.int .i64 (.ofNat 1))) fun x4_2 => some (.ret x4_2, H))
  (bV (some (.int .i64 (.ofNat 0))) fun x4_3 => some (.ret x4_3, H))))
def h208 : Hint := (.s .o (.s (.s .o (.s .o (.cl (.s .o .o) .o))) (.s (.s .o (.cl (.s .o .o) .o)) (.s .o .o))))
theorem f208_eq (D : Dyn) (n : Nat) : f208 D n = funK (s208 D n) D n 208 Tryz.f208 h208 := by kernel_rfl
theorem f208_ok {D : Dyn} (hD : DG D) (n : Nat) : FI 208 (f208 D n) := fun_ok X_ok hD (SOk.cons (f152_ok hD n).fs (SOk.nil)) Tryz.func208 (by kernel_rfl) (f208_eq D n)

def s117 (D : Dyn) (n : Nat) : Tb := ⟨X, [(208, f208 D n)]⟩
/-- (*jetty/disk.Disk).Read -/
def f117 (D : Dyn) (n : Nat) (vs : List AV) (H : AH) : Option (AV × AH) :=
  outR (hd vs fun x0 vs => hd vs fun x1 vs => nl vs <|
  bA (bxV 164 (.agg (rep 512 [(.int .u8 (.ofNat 0))]))) H fun x4 H => 
  bR (f208 D n [x0, x1] H) fun x11 H => 
  bV (bInt .neq x11 (.int .i64 (.ofNat 0))) fun x13 => 
  cnd x13 (bV (bldA 1 (rep 512 [(.int .u8 (.ofNat 0))]) []) fun x14 => 
  bR (stN 512 x4 x14 H) fun x9999 H => 
  bV (ldN 512 x4 H) fun x9004 => bV (some x11) fun x5 => some (.ret (.tuple [x9004, x5]), H))
  (bV (pNil x0) fun x18 => 
  bV (fAd 3 x18) fun x19 => 
  bV (ld1 x19 H) fun x20 => 
  bV (lkM [6] (.int .i64 (.ofNat 0)) true x20 x1 H) fun x22 => 
  bV (pExtract x22 0) fun x23 => 
  bV (pExtract x22 1) fun x24 => 
  cnd x24 (bV (pNil x0) fun x27 => 
  bV (fAd 2 x27) fun x28 => 
  bV (ld1 x28 H) fun x29 => 
  bV (ixSl 513 x29 x23) fun x31 => 
  bV (fAd 1 x31) fun x32 => 
  bV (ldN 512 x32 H) fun x33 => 
  bR (stN 512 x4 x33 H) fun x9999_2 H => 
  bV (ldN 512 x4 H) fun x9004_2 => bV (some (.int .i64 (.ofNat 0))) fun x5_2 => some (.ret (.tuple [x9004_2, x5_2]), H))
  (bV (pNil x0) fun x35 => 
  bV (fAd 1 x35) fun x36 => 
  bV (ld1 x36 H) fun x37 => 
  bV (lkM [6] (.agg (rep 512 [(.int .u8 (.ofNat 0))])) false x37 x1 H) fun x39 => 
  bR (stN 512 x4 x39 H) fun x9999_3 H => 
  bV (ldN 512 x4 H) fun x9004_3 => bV (some (.int .i64 (.ofNat 0))) fun x5_3 => some (.ret (.tuple [x9004_3, x5_3]), H))))
def h117 : Hint := (.s .o (.s (.s .o (.s .o (.cl (.s .o .o) .o))) (.s (.s .o (.s .o (.cl (.s .o .o) .o))) (.s .o .o))))
theorem f117_eq (D : Dyn) (n : Nat) : f117 D n = funK (s117 D n) D n 117 Tryz.f117 h117 := by kernel_rfl
theorem f117_ok {D : Dyn} (hD : DG D) (n : Nat) : FI 117 (f117 D n) := fun_ok X_ok hD (SOk.cons (f208_ok hD n).fs (SOk.nil)) Tryz.func117 (by kernel_rfl) (f117_eq D n)

def s108 (D : Dyn) (n : Nat) : Tb := ⟨X, [(199, f199 D n), (200, f200 D n)]⟩
/-- (*jetty/arc.Cache).Put -/
def f108 (D : Dyn) (n : Nat) (vs : List AV) (H : AH) : Option (AV × AH) :=
  outR (hd vs fun x0 vs => hd vs fun x1 vs => hd vs fun x2 vs => nl vs <|
  bA (bxV 164 x2) H fun x5 H => 
  bR (f199 D n [x0] H) fun x8 H => 
  cnd x8 (bV (some (.int .i64 (.ofNat 2))) fun x6 => some (.ret x6, H))
  (bR (f200 D n [x0, x1, x5] H) fun x11 H => 
  bV (some (.int .i64 (.ofNat 0))) fun x6_2 => some (.ret x6_2, H)))
def h108 : Hint := (.s .o (.s (.s .o (.cl (.s .o .o) .o)) (.s .o (.s .o .o))))
theorem f108_eq (D : Dyn) (n : Nat) : f108 D n = funK (s108 D n) D n 108 Tryz.f108 h108 := by kernel_rfl
theorem f108_ok {D : Dyn} (hD : DG D) (n : Nat) : FI 108 (f108 D n) := fun_ok X_ok hD (SOk.cons (f199_ok hD n).fs (SOk.cons (f200_ok hD n).fs (SOk.nil))) Tryz.func108 (by kernel_rfl) (f108_eq D n)

def s181 (D : Dyn) (n : Nat) : Tb := ⟨X, [(247, f247 D n), (248, f248 D n), (117, f117 D n), (108, f108 D n)]⟩
def f181j0 (D : Dyn) (n : Nat) (vs : List AV) (H : AH) : Rs :=
  hd vs fun x0_2 vs => hd vs fun x3_2 vs => 
  some (.norm [x0_2, x3_2], H)
def f181j1 (D : Dyn) (n : Nat) (vs : List AV) (H : AH) : Rs :=
  hd vs fun x14 vs => hd vs fun x15 vs => 
  bV (some x14) fun x4_4 => bV (some x15) fun x5_4 => bV (some (.int .i64 (.ofNat 0))) fun x6_4 => some (.ret (.tuple [x4_4, x5_4, x6_4]), H)
def f181j2 (D : Dyn) (n : Nat) (vs : List AV) (H : AH) : Rs :=
  hd vs fun x0_3 vs => hd vs fun x3_3 vs => 
  bV (pNil x0_3) fun x46 => 
  bV (fAd 0 x46) fun x47 => 
  bV (ld1 x47 H) fun x48 => 
  bV (fAd 0 x3_3) fun x49 => 
  bV (ld1 x49 H) fun x50 => 
  bA (bxV 164 (.agg (rep 512 [(.int .u8 (.ofNat 0))]))) H fun x12 H => 
  bR (f117 D n [x48, x50] H) fun x51 H => 
  bV (pExtract x51 0) fun x52 => 
  bV (pExtract x51 1) fun x53 => 
  bR (stN 512 x12 x52 H) fun x9999_2 H => 
  bV (bInt .neq x53 (.int .i64 (.ofNat 0))) fun x55 => 
  cnd x55 (bV (some (.int .u8 (.ofNat 0))) fun x4_2 => bV (some (.str 0 0)) fun x5_2 => bV (some x53) fun x6_2 => some (.ret (.tuple [x4_2, x5_2, x6_2]), H))
  (bV (ldN 3 x3_3 H) fun x58 => 
  bV (ldN 512 x12 H) fun x59 => 
  bR (f248 D n [x58, x59] H) fun x60 H => 
  bV (pExtract x60 0) fun x61 => 
  bV (pExtract x60 1) fun x62 => 
  bV (pExtract x60 2) fun x63 => 
  bV (bInt .neq x63 (.int .i64 (.ofNat 0))) fun x65 => 
  cnd x65 (bV (some (.int .u8 (.ofNat 0))) fun x4_3 => bV (some (.str 0 0)) fun x5_3 => bV (some x63) fun x6_3 => some (.ret (.tuple [x4_3, x5_3, x6_3]), H))
  (bV (pNil x0_3) fun x68 => 
  bV (fAd 1 x68) fun x69 => 
  bV (ld1 x69 H) fun x70 => 
  bV (cmpO .neq (eqP x70 .nilPtr)) fun x71 => 
  jn (cnd x71 (bV (pNil x0_3) fun x73 => 
  bV (fAd 1 x73) fun x74 => 
  bV (ld1 x74 H) fun x75 => 
  bV (fAd 0 x3_3) fun x76 => 
  bV (ld1 x76 H) fun x77 => 
  bV (ldN 512 x12 H) fun x78 => 
  bR (f108 D n [x75, x77, x78] H) fun x79 H => 
  some (.norm [x61, x62], H))
  (some (.norm [x61, x62], H))) (f181j1 D n)))
/-- (*jetty/tree.Tree).body -/
def f181 (D : Dyn) (n : Nat) (vs : List AV) (H : AH) : Option (AV × AH) :=
  outR (hd vs fun x0 vs => hd vs fun x1 vs => nl vs <|
  bA (bxV 52 x1) H fun x3 H => 
  bV (pNil x0) fun x17 => 
  bV (fAd 1 x17) fun x18 => 
  bV (ld1 x18 H) fun x19 => 
  bV (cmpO .neq (eqP x19 .nilPtr)) fun x20 => 
  jn (cnd x20 (bV (pNil x0) fun x23 => 
  bV (fAd 1 x23) fun x24 => 
  bV (ld1 x24 H) fun x25 => 
  bV (fAd 0 x3) fun x26 => 
  bV (ld1 x26 H) fun x27 => 
  bA (bxV 164 (.agg (rep 512 [(.int .u8 (.ofNat 0))]))) H fun x7 H => 
  bR (f247 D n [x25, x27] H) fun x28 H => 
  bV (pExtract x28 0) fun x29 => 
  bV (pExtract x28 1) fun x30 => 
  bR (stN 512 x7 x29 H) fun x9999 H => 
  bV (bInt .eql x30 (.int .i64 (.ofNat 0))) fun x32 => 
  jn (cnd x32 (bV (ldN 3 x3 H) fun x34 => 
  bV (ldN 512 x7 H) fun x35 => 
  bR (f248 D n [x34, x35] H) fun x36 H => 
  bV (pExtract x36 0) fun x37 => 
  bV (pExtract x36 1) fun x38 => 
  bV (pExtract x36 2) fun x39 => 
  bV (bInt .eql x39 (.int .i64 (.ofNat 0))) fun x41 => 
  cnd x41 (bV (some x37) fun x4 => bV (some x38) fun x5 => bV (some (.int .i64 (.ofNat 0))) fun x6 => some (.ret (.tuple [x4, x5, x6]), H))
  (some (.norm [x0, x3], H)))
  (some (.norm [x0, x3], H))) (f181j0 D n))
  (some (.norm [x0, x3], H))) (f181j2 D n))
def h181 : Hint := (.s .o (.s (.s .o (.c [0, 3] (.s .o (.s .o (.c [0, 3] (.s .o (.s .o (.cl (.s .o .o) .o))) .o))) .o)) (.s .o (.s (.s .o (.cl (.s .o .o) .o)) (.s .o (.s (.s .o (.cl (.s .o .o) .o)) (.s (.s .o (.c [14, 15] .o .o)) (.s .o .o))))))))
theorem f181_eq (D : Dyn) (n : Nat) : f181 D n = funK (s181 D n) D n 181 Tryz.f181 h181 := by kernel_rfl
theorem f181_ok {D : Dyn} (hD : DG D) (n : Nat) : FI 181 (f181 D n) := fun_ok X_ok hD (SOk.cons (f247_ok hD n).fs (SOk.cons (f248_ok hD n).fs (SOk.cons (f117_ok hD n).fs (SOk.cons (f108_ok hD n).fs (SOk.nil))))) Tryz.func181 (by kernel_rfl) (f181_eq D n)

def s249 (D : Dyn) (n : Nat) : Tb := ⟨X, []⟩
/-- (*jetty/node.reader).take -/
def f249 (D : Dyn) (n : Nat) (vs : List AV) (H : AH) : Option (AV × AH) :=
  outR (hd vs fun x0 vs => hd vs fun x1 vs => nl vs <|
  bV (pNil x0) fun x7 => 
  bV (fAd 1 x7) fun x8 => 
  bV (ld1 x8 H) fun x9 => 
  jn (wnt x9 false (bV (pNil x0) fun x12 => 
  bV (fAd 0 x12) fun x13 => 
  bV (ld1 x13 H) fun x14 => 
  bV (lnStr x14) fun x15 => 
  bV (bInt .lss x15 x1) fun x17 => 
  some (.norm [x17], H)) (some (.norm [undefA], H))) fun vs H => hd vs fun x17_2 vs => 
  bV (pk3 (some x9) (some (.bool true)) (some x17_2)) fun x18 => 
  cnd x18 (bV (pNil x0) fun x20 => 
  bV (fAd 1 x20) fun x21 => 
  bR (stN 1 x21 (.bool true) H) fun x9999 H => 
  bV (some (.str 0 0)) fun x4 => some (.ret x4, H))
  (bV (pNil x0) fun x23 => 
  bV (fAd 0 x23) fun x24 => 
  bV (ld1 x24 H) fun x25 => 
  bV (slStr x25 none (some x1)) fun x27 => 
  bV (pNil x0) fun x30 => 
  bV (fAd 0 x30) fun x31 => 
  bV (ld1 x31 H) fun x32 => 
  bV (slStr x32 (some x1) none) fun x34 => 
  bV (pNil x0) fun x35 => 
  bV (fAd 0 x35) fun x36 => 
  bR (stN 1 x36 x34 H) fun x9999_2 H => 
  bV (some x27) fun x4_2 => some (.ret x4_2, H)))
def h249 : Hint := (.s .o (.s (.s .o (.cl (.s .o (.s .o .o)) .o)) (.s .o (.s .o (.s .o .o)))))
theorem f249_eq (D : Dyn) (n : Nat) : f249 D n = funK (s249 D n) D n 249 Tryz.f249 h249 := by kernel_rfl
theorem f249_ok {D : Dyn} (hD : DG D) (n : Nat) : FI 249 (f249 D n) := fun_ok X_ok hD (SOk.nil) Tryz.func249 (by kernel_rfl) (f249_eq D n)
end Go.Eng.Sh
