/- Shallow functions, by program (gen.py). -/
import Derived.Test.YtdbpihiihgkkdaaGreatDoorR31
import Derived.Test.YtdbpihiihgkkdaaGreatDoorProg
import Derived.KernelRfl
noncomputable section
namespace Go.Eng.Sh
open Go.Proofs
set_option maxRecDepth 100000
set_option linter.all false
def s22 (D : Dyn) (n : Nat) : Tb := ⟨X, [(32, f32 D n), (36, f36 D n), (37, f37 D n), (38, f38 D n), (39, f39 D n)]⟩
def f22l0 (D : Dyn) (n : Nat) (vs : List AV) (H : AH) : Rs :=
  hd vs fun x0_2 vs => hd vs fun x1_2 vs => hd vs fun x6_2 vs => hd vs fun x32_2 vs => hd vs fun x33 vs => 
  bV (bInt .lss x33 x32_2) fun x34 => 
  cnd x34 (bV (ldNp 3 x6_2 H) fun x37 => 
  bR (f37 D n [x0_2, x37] H) fun x38 H => 
  bV (pExtract x38 0) fun x39 => 
  bV (pExtract x38 1) fun x40 => 
  bA (bxV 80 (.agg [(.bool false), .nilSlice, .nilSlice, .nilSlice])) H fun x7 H => 
  bR (stNp 4 x7 x39 H) fun x9999_2 H => 
  bV (bInt .neq x40 (.int .i64 (.ofNat 0))) fun x42 => 
  cnd x42 (bV (some (.str 0 0)) fun x4_4 => bV (some x40) fun x5_4 => some (.ret (.tuple [x4_4, x5_4]), H))
  (bV (fAd 0 x7) fun x44 => 
  bV (ld1p x44 H) fun x45 => 
  cnd x45 (bV (ldNp 4 x7 H) fun x47 => 
  bR (f38 D n [x47, x1_2] H) fun x49 H => 
  bV (pExtract x49 0) fun x50 => 
  bV (pExtract x49 1) fun x51 => 
  bV (aun .not x51) fun x53 => 
  cnd x53 (bV (some (.str 0 0)) fun x4_5 => bV (some (.int .i64 (.ofNat 5))) fun x5_5 => some (.ret (.tuple [x4_5, x5_5]), H))
  (bV (some x50) fun x4_6 => bV (some (.int .i64 (.ofNat 0))) fun x5_6 => some (.ret (.tuple [x4_6, x5_6]), H)))
  (bV (fAd 3 x7) fun x55 => 
  bV (ld1p x55 H) fun x56 => 
  bV (ldNp 4 x7 H) fun x57 => 
  bR (f39 D n [x57, x1_2] H) fun x59 H => chk (ld1p x55 H) x56 <| 
  bV (ixSl 3 x56 x59) fun x60 => 
  bV (ldNp 3 x60 H) fun x61 => 
  bR (stNp 3 x6_2 x61 H) fun x9999_3 H => 
  bV (bInt .add x33 (.int .i64 (.ofNat 1))) fun x62 => 
  some (.norm [x0_2, x1_2, x6_2, x32_2, x62], H))))
  (some (.exit 0 [], H))
def f22b1 (D : Dyn) (n : Nat) (vs : List AV) (H : AH) : Rs :=
  
  bV (some (.str 0 0)) fun x4_7 => bV (some (.int .i64 (.ofNat 4))) fun x5_7 => some (.ret (.tuple [x4_7, x5_7]), H)
/-- (*jetty/tree.Tree).Get -/
def f22 (D : Dyn) (n : Nat) (vs : List AV) (H : AH) : Option (AV × AH) :=
  outR (hd vs fun x0 vs => hd vs fun x1 vs => nl vs <|
  bR (f32 D n [x0] H) fun x12 H => 
  cnd x12 (bV (some (.str 0 0)) fun x4 => bV (some (.int .i64 (.ofNat 2))) fun x5 => some (.ret (.tuple [x4, x5]), H))
  (bV (lnStr x1) fun x14 => 
  bV (bInt .lss x14 (.int .i64 (.ofNat 1))) fun x15 => 
  jn (wnt x15 false (bV (lnStr x1) fun x18 => 
  bV (bInt .gtr x18 (.int .i64 (.ofNat 40))) fun x19 => 
  some (.norm [x19], H)) (some (.norm [undefA], H))) fun vs H => hd vs fun x19_2 vs => 
  bV (pk3 (some x15) (some (.bool true)) (some x19_2)) fun x20 => 
  cnd x20 (bV (some (.str 0 0)) fun x4_2 => bV (some (.int .i64 (.ofNat 1))) fun x5_2 => some (.ret (.tuple [x4_2, x5_2]), H))
  (bV (pNil x0) fun x22 => 
  bV (fAd 2 x22) fun x23 => 
  bV (fAd 0 x23) fun x24 => 
  bV (ld1p x24 H) fun x25 => 
  bV (bInt .eql x25 (.int .i64 (.ofNat 0))) fun x26 => 
  cnd x26 (bV (some (.str 0 0)) fun x4_3 => bV (some (.int .i64 (.ofNat 5))) fun x5_3 => some (.ret (.tuple [x4_3, x5_3]), H))
  (bV (pNil x0) fun x28 => 
  bV (fAd 2 x28) fun x29 => 
  bV (ldNp 3 x29 H) fun x30 => 
  bA (bxV 52 (.agg [(.int .i64 (.ofNat 0)), (.int .i64 (.ofNat 0)), (.int .u64 (.ofNat 0))])) H fun x6 H => 
  bR (stNp 3 x6 x30 H) fun x9999 H => 
  bR (f36 D n [x0] H) fun x32 H => 
  jb 0 (loopK n (f22l0 D n) [x0, x1, x6, x32, (.int .i64 (.ofNat 0))] H) (f22b1 D n)))))
def h22 : Hint := (.s .o (.s (.s .o (.cl (.s .o .o) .o)) (.s (.s .o (.cl (.s .o .o) .o)) (.s (.s .o (.cl (.s .o .o) .o)) (.s .o (.s (.s .o (.b [] (.l [0, 1, 6, 32, 33] (.s .o (.s (.cr .o .o) (.s (.b0 (.s .o (.s (.s .o (.cl (.s .o .o) .o)) (.s (.s .o (.cl (.s .o (.s (.s .o (.cl (.s .o .o) .o)) (.s .o .o))) .o)) .o)))) .o)))))) (.s .o .o)))))))
theorem f22_eq (D : Dyn) (n : Nat) : f22 D n = funKp (s22 D n) D n 22 Tryz.f22 h22 := by kernel_rfl
theorem f22_ok {D : Dyn} (hD : DP D) (n : Nat) : FP 22 (f22 D n) := fun_okP X_ok hD (SP.cons (f32_ok hD n) (SP.cons (f36_ok hD n) (SP.cons (f37_ok hD n) (SP.cons (f38_ok hD n) (SP.cons (f39_ok hD n) (SP.nil)))))) Tryz.func22 (by kernel_rfl) (by kernel_rfl) (f22_eq D n)

def s12 (D : Dyn) (n : Nat) : Tb := ⟨X, [(20, f20 D n), (22, f22 D n)]⟩
/-- jetty/extent.load -/
def f12 (D : Dyn) (n : Nat) (vs : List AV) (H : AH) : Option (AV × AH) :=
  outR (hd vs fun x0 vs => hd vs fun x1 vs => hd vs fun x2 vs => nl vs <|
  bA (bxV 39 (.agg [.pk 128 0])) H fun x6 H => 
  bA (bxV 39 (.agg [.pk 128 0])) H fun x9 H => 
  bR (f20 D n [x1, x2] H) fun x16 H => 
  bR (f22 D n [x0, x16] H) fun x17 H => 
  bV (pExtract x17 0) fun x18 => 
  bV (pExtract x17 1) fun x19 => 
  bV (bInt .eql x19 (.int .i64 (.ofNat 5))) fun x21 => 
  cnd x21 (bV (ldNp 128 x9 H) fun x22 => 
  bR (stNp 128 x6 x22 H) fun x9999 H => 
  bV (ldNp 128 x6 H) fun x9006 => bV (some (.bool false)) fun x7 => bV (some (.int .i64 (.ofNat 0))) fun x8 => some (.ret (.tuple [x9006, x7, x8]), H))
  (bV (slArr 128 1 x9 none none none) fun x23 => 
  bR (cpyp 1 x23 x18 H) fun x25 H => 
  bV (ldNp 128 x9 H) fun x26 => 
  bV (bInt .eql x19 (.int .i64 (.ofNat 0))) fun x28 => 
  bR (stNp 128 x6 x26 H) fun x9999_2 H => 
  bV (ldNp 128 x6 H) fun x9006_2 => bV (some x28) fun x7_2 => bV (some x19) fun x8_2 => some (.ret (.tuple [x9006_2, x7_2, x8_2]), H)))
def h12 : Hint := (.s .o (.s .o (.s .o (.s (.s .o (.cl (.s .o .o) .o)) (.s .o (.s .o .o))))))
theorem f12_eq (D : Dyn) (n : Nat) : f12 D n = funKp (s12 D n) D n 12 Tryz.f12 h12 := by kernel_rfl
theorem f12_ok {D : Dyn} (hD : DP D) (n : Nat) : FP 12 (f12 D n) := fun_okP X_ok hD (SP.cons (f20_ok hD n) (SP.cons (f22_ok hD n) (SP.nil))) Tryz.func12 (by kernel_rfl) (by kernel_rfl) (f12_eq D n)

def s4 (D : Dyn) (n : Nat) : Tb := ⟨X, [(10, f10 D n), (11, f11 D n), (12, f12 D n)]⟩
/-- jetty/extent.Read -/
def f4 (D : Dyn) (n : Nat) (vs : List AV) (H : AH) : Option (AV × AH) :=
  outR (hd vs fun x0 vs => hd vs fun x1 vs => hd vs fun x2 vs => hd vs fun x3 vs => hd vs fun x4 vs => nl vs <|
  bA (bxV 27 x0) H fun x5 H => 
  bA (bxV 3 x1) H fun x6 H => 
  bA (bxV 9 (.str 0 0)) H fun x10 H => 
  bA (bxV 22 (.int .i64 (.ofNat 0))) H fun x11 H => 
  bV (ld1p x5 H) fun x17 => 
  bV (cmpO .eql (eqP x17 .nilPtr)) fun x18 => 
  cnd x18 (bR (stNp 1 x10 (.str 0 0) H) fun x9999 H => 
  bR (stNp 1 x11 (.int .i64 (.ofNat 2)) H) fun x9999_2 H => 
  bV (ld1p x10 H) fun x9010 => bV (ld1p x11 H) fun x9011 => some (.ret (.tuple [x9010, x9011]), H))
  (bV (ld1p x6 H) fun x19 => 
  bR (f10 D n [x19] H) fun x20 H => 
  bV (aun .not x20) fun x21 => 
  jn (wnt x21 false (bV (bInt .lss x2 (.int .i64 (.ofNat 0))) fun x24 => 
  some (.norm [x24], H)) (some (.norm [undefA], H))) fun vs H => hd vs fun x24_2 vs => 
  bV (pk3 (some x21) (some (.bool true)) (some x24_2)) fun x25 => 
  jn (wnt x25 false (bV (bInt .gtr x2 (.int .i64 (.ofNat 32768))) fun x28 => 
  some (.norm [x28], H)) (some (.norm [undefA], H))) fun vs H => hd vs fun x28_2 vs => 
  bV (pk3 (some x25) (some (.bool true)) (some x28_2)) fun x29 => 
  jn (wnt x29 false (bV (bInt .lss x3 (.int .i64 (.ofNat 0))) fun x32 => 
  some (.norm [x32], H)) (some (.norm [undefA], H))) fun vs H => hd vs fun x32_2 vs => 
  bV (pk3 (some x29) (some (.bool true)) (some x32_2)) fun x33 => 
  jn (wnt x33 false (bV (bInt .lss x4 (.int .i64 (.ofNat 0))) fun x36 => 
  some (.norm [x36], H)) (some (.norm [undefA], H))) fun vs H => hd vs fun x36_2 vs => 
  bV (pk3 (some x33) (some (.bool true)) (some x36_2)) fun x37 => 
  cnd x37 (bR (stNp 1 x10 (.str 0 0) H) fun x9999_3 H => 
  bR (stNp 1 x11 (.int .i64 (.ofNat 1)) H) fun x9999_4 H => 
  bV (ld1p x10 H) fun x9010_2 => bV (ld1p x11 H) fun x9011_2 => some (.ret (.tuple [x9010_2, x9011_2]), H))
  (bV (bInt .geq x3 x2) fun x40 => 
  cnd x40 (bR (stNp 1 x10 (.str 0 0) H) fun x9999_5 H => 
  bR (stNp 1 x11 (.int .i64 (.ofNat 0)) H) fun x9999_6 H => 
  bV (ld1p x10 H) fun x9010_3 => bV (ld1p x11 H) fun x9011_3 => some (.ret (.tuple [x9010_3, x9011_3]), H))
  (bA (bxV 33 .nilSlice) H fun x12 H => 
  bV (bInt .sub x2 x3) fun x45 => 
  bV (mn2 x4 x45) fun x46 => 
  bR (f11 D n [x3, x46] H) fun x47 H => 
  newB H (.loop ⟨.ready, none, 4, 0, [5, 6, 10, 11, 12], [x5, x6, x10, x11, x12]⟩) fun A H => bR (rfC (s4 D n).S D x47 A H) fun _ H => endLp A H fun j H => jmpK j (
  bV (ld1p x12 H) fun x68 => 
  bV (cvBSp x68 H) fun x69 => 
  bR (stNp 1 x10 x69 H) fun x9999_7 H => 
  bR (stNp 1 x11 (.int .i64 (.ofNat 0)) H) fun x9999_8 H => 
  bV (ld1p x10 H) fun x9010_5 => bV (ld1p x11 H) fun x9011_5 => some (.ret (.tuple [x9010_5, x9011_5]), H))
  (fun id => none) (bV (ld1p x10 H) fun x9010_4 => bV (ld1p x11 H) fun x9011_4 => some (.ret (.tuple [x9010_4, x9011_4]), H))))))
def h4 : Hint := (.s .o (.s (.s .o (.cl (.s .o .o) .o)) (.s (.s .o (.cl (.s .o .o) .o)) (.s (.s .o (.cl (.s .o .o) .o)) (.s .o (.s (.s .o (.b0 (.rf 0 [5, 6, 10, 11, 12]))) (.s .o .o)))))))
theorem f4_eq (D : Dyn) (n : Nat) : f4 D n = funKp (s4 D n) D n 4 Tryz.f4 h4 := by kernel_rfl
theorem f4_ok {D : Dyn} (hD : DP D) (n : Nat) : FP 4 (f4 D n) := fun_okP X_ok hD (SP.cons (f10_ok hD n) (SP.cons (f11_ok hD n) (SP.cons (f12_ok hD n) (SP.nil)))) Tryz.func4 (by kernel_rfl) (by kernel_rfl) (f4_eq D n)
def r4_0 (D : Dyn) (n : Nat) (A : Nat) (l : ALoop) (az : List AV) (H : AH) : Option (AV × AH) :=
  bif eqNL [5, 6, 10, 11, 12] l.live then endQ A (hd l.vals fun x5 vs => hd vs fun x6 vs => hd vs fun x10 vs => hd vs fun x11 vs => hd vs fun x12 vs => hd az fun x48 az => nl az <|
  bA (bxV 38 (.agg [(.int .i64 (.ofNat 0)), (.int .i64 (.ofNat 0)), (.int .i64 (.ofNat 0))])) H fun x13 H => 
  bR (stNp 3 x13 x48 H) fun x9999 H => 
  beginK A H fun H => 
  bV (ld1p x5 H) fun x50 => 
  bV (ld1p x6 H) fun x51 => 
  bV (fAd 0 x13) fun x52 => 
  bV (ld1p x52 H) fun x53 => 
  bR (f12 D n [x50, x51, x53] H) fun x54 H => 
  bV (pExtract x54 0) fun x55 => 
  bV (pExtract x54 1) fun x56 => 
  bV (pExtract x54 2) fun x57 => 
  bA (bxV 39 (.agg [.pk 128 0])) H fun x14 H => 
  bR (stNp 128 x14 x55 H) fun x9999_2 H => 
  bV (bInt .neq x57 (.int .i64 (.ofNat 0))) fun x59 => 
  cnd x59 (bR (stNp 1 x10 (.str 0 0) H) fun x9999_3 H => 
  bR (stNp 1 x11 x57 H) fun x9999_4 H => 
  some (.ret (.tuple []), H))
  (bV (ld1p x12 H) fun x61 => 
  bV (fAd 1 x13) fun x62 => 
  bV (ld1p x62 H) fun x63 => 
  bV (fAd 2 x13) fun x64 => 
  bV (ld1p x64 H) fun x65 => 
  bV (slArr 128 1 x14 (some x63) (some x65) none) fun x66 => 
  bR (apPp 5 1 1 x61 x66 H) fun x67 H => 
  bR (stNp 1 x12 x67 H) fun x9999_5 H => 
  some (.norm [], H))) else none
def r4_0a : Hint := .o
def r4_0b : Hint := (.b0 (.s .o (.s (.s .o (.cl (.s .o .o) .o)) .o)))
theorem r4_0_eq (D : Dyn) (n : Nat) : r4_0 D n = rndKp (s4 D n) D n 4 0 [5, 6, 10, 11, 12] [] r4_0a r4_0b := by kernel_rfl
theorem r4_0_ok {D : Dyn} (hD : DP D) (n : Nat) : RdP 4 0 (r4_0 D n) := round_okP X_ok hD (SP.cons (f10_ok hD n) (SP.cons (f11_ok hD n) (SP.cons (f12_ok hD n) (SP.nil)))) (by kernel_rfl) (r4_0_eq D n)

def s25 (D : Dyn) (n : Nat) : Tb := ⟨X, []⟩
def f25l0 (D : Dyn) (n : Nat) (vs : List AV) (H : AH) : Rs :=
  hd vs fun x0_2 vs => hd vs fun x3 vs => 
  bV (bInt .geq x3 (.int .i64 (.ofNat 0))) fun x8 => 
  cnd x8 (bV (ixStr x0_2 x3) fun x13 => 
  bV (bInt .neq x13 (.int .u8 (.ofNat 255))) fun x14 => 
  cnd x14 (bV (slStr x0_2 none (some x3)) fun x17 => 
  bV (ixStr x0_2 x3) fun x20 => 
  bV (bInt .add x20 (.int .u8 (.ofNat 1))) fun x21 => 
  bA (bldLp 5 1 1 [(.int .u8 (.ofNat 0))] [(0, x21)]) H fun x22 H => 
  bV (cvBSp x22 H) fun x23 => 
  bV (bStr .add x17 x23) fun x24 => 
  bV (some x24) fun x2 => some (.ret x2, H))
  (bV (bInt .sub x3 (.int .i64 (.ofNat 1))) fun x10 => 
  some (.norm [x0_2, x10], H)))
  (some (.exit 0 [], H))
def f25b1 (D : Dyn) (n : Nat) (vs : List AV) (H : AH) : Rs :=
  
  bV (some (.str 0 0)) fun x2_2 => some (.ret x2_2, H)
/-- jetty/walk.Behind -/
def f25 (D : Dyn) (n : Nat) (vs : List AV) (H : AH) : Option (AV × AH) :=
  outR (hd vs fun x0 vs => nl vs <|
  bV (lnStr x0) fun x5 => 
  bV (bInt .sub x5 (.int .i64 (.ofNat 1))) fun x6 => 
  jb 0 (loopK n (f25l0 D n) [x0, x6] H) (f25b1 D n))
def h25 : Hint := (.s .o (.s (.s .o (.b [] (.l [0, 3] (.s (.s .o (.cr .o .o)) (.s (.b0 (.s .o (.cl (.s .o .o) .o))) .o))))) (.s .o .o)))
theorem f25_eq (D : Dyn) (n : Nat) : f25 D n = funKp (s25 D n) D n 25 Tryz.f25 h25 := by kernel_rfl
theorem f25_ok {D : Dyn} (hD : DP D) (n : Nat) : FP 25 (f25 D n) := fun_okP X_ok hD (SP.nil) Tryz.func25 (by kernel_rfl) (by kernel_rfl) (f25_eq D n)

def s64 (D : Dyn) (n : Nat) : Tb := ⟨X, [(32, f32 D n)]⟩
/-- (*jetty/tree.Tree).Dirty -/
def f64 (D : Dyn) (n : Nat) (vs : List AV) (H : AH) : Option (AV × AH) :=
  outR (hd vs fun x0 vs => nl vs <|
  bR (f32 D n [x0] H) fun x4 H => 
  cnd x4 (bV (some (.int .i64 (.ofNat 0))) fun x2 => some (.ret x2, H))
  (bV (pNil x0) fun x6 => 
  bV (fAd 5 x6) fun x7 => 
  bV (ld1p x7 H) fun x8 => 
  bV (lnMap x8 H) fun x9 => 
  bV (some x9) fun x2_2 => some (.ret x2_2, H)))
def h64 : Hint := (.s .o (.s (.s .o (.cl (.s .o .o) .o)) (.s .o .o)))
theorem f64_eq (D : Dyn) (n : Nat) : f64 D n = funKp (s64 D n) D n 64 Tryz.f64 h64 := by kernel_rfl
theorem f64_ok {D : Dyn} (hD : DP D) (n : Nat) : FP 64 (f64 D n) := fun_okP X_ok hD (SP.cons (f32_ok hD n) (SP.nil)) Tryz.func64 (by kernel_rfl) (by kernel_rfl) (f64_eq D n)

def s40 (D : Dyn) (n : Nat) : Tb := ⟨X, [(64, f64 D n)]⟩
/-- jetty/walk.through -/
def f40 (D : Dyn) (n : Nat) (vs : List AV) (H : AH) : Option (AV × AH) :=
  outR (hd vs fun x0 vs => nl vs <|
  bR (f64 D n [x0] H) fun x5 H => 
  bV (bInt .add (.int .i64 (.ofNat 8192)) x5) fun x6 => 
  bV (bldSp [(0, 1), (1, 1), (2, 1), (3, 1)] [.nilPtr, .nilMap, (.int .i64 (.ofNat 0)), (.int .i64 (.ofNat 0))] [(0, x0), (2, x6)]) fun x7 => 
  bA (bxV 97 x7) H fun x8 H => 
  bV (some x8) fun x2 => some (.ret x2, H))
def h40 : Hint := (.s .o (.s .o .o))
theorem f40_eq (D : Dyn) (n : Nat) : f40 D n = funKp (s40 D n) D n 40 Tryz.f40 h40 := by kernel_rfl
theorem f40_ok {D : Dyn} (hD : DP D) (n : Nat) : FP 40 (f40 D n) := fun_okP X_ok hD (SP.cons (f64_ok hD n) (SP.nil)) Tryz.func40 (by kernel_rfl) (by kernel_rfl) (f40_eq D n)

def s90 (D : Dyn) (n : Nat) : Tb := ⟨X, [(32, f32 D n)]⟩
/-- (*jetty/tree.Tree).Root -/
def f90 (D : Dyn) (n : Nat) (vs : List AV) (H : AH) : Option (AV × AH) :=
  outR (hd vs fun x0 vs => nl vs <|
  bA (bxV 52 (.agg [(.int .i64 (.ofNat 0)), (.int .i64 (.ofNat 0)), (.int .u64 (.ofNat 0))])) H fun x2 H => 
  bR (f32 D n [x0] H) fun x4 H => 
  cnd x4 (bV (bldSp [(0, 1), (1, 1), (2, 1)] [(.int .i64 (.ofNat 0)), (.int .i64 (.ofNat 0)), (.int .u64 (.ofNat 0))] []) fun x5 => 
  bR (stNp 3 x2 x5 H) fun x9999 H => 
  bV (ldNp 3 x2 H) fun x9002 => some (.ret x9002, H))
  (bV (pNil x0) fun x7 => 
  bV (fAd 2 x7) fun x8 => 
  bV (ldNp 3 x8 H) fun x9 => 
  bR (stNp 3 x2 x9 H) fun x9999_2 H => 
  bV (ldNp 3 x2 H) fun x9002_2 => some (.ret x9002_2, H)))
def h90 : Hint := (.s .o (.s (.s .o (.cl (.s .o .o) .o)) (.s .o .o)))
theorem f90_eq (D : Dyn) (n : Nat) : f90 D n = funKp (s90 D n) D n 90 Tryz.f90 h90 := by kernel_rfl
theorem f90_ok {D : Dyn} (hD : DP D) (n : Nat) : FP 90 (f90 D n) := fun_okP X_ok hD (SP.cons (f32_ok hD n) (SP.nil)) Tryz.func90 (by kernel_rfl) (by kernel_rfl) (f90_eq D n)

def s72 (D : Dyn) (n : Nat) : Tb := ⟨X, []⟩
/-- slices.Clone[[]string,string] -/
def f72 (D : Dyn) (n : Nat) (vs : List AV) (H : AH) : Option (AV × AH) :=
  outR (hd vs fun x0 vs => nl vs <|
  bV (cmpO .eql (eqS x0 .nilSlice)) fun x4 => 
  cnd x4 (bV (some .nilSlice) fun x2 => some (.ret x2, H))
  (bA (bldLp 9 1 0 [(.str 0 0)] []) H fun x5 H => 
  bR (apPp 9 1 16 x5 x0 H) fun x7 H => 
  bV (some x7) fun x2_2 => some (.ret x2_2, H)))
def h72 : Hint := (.s .o (.s (.s .o (.cl (.s .o .o) .o)) (.s .o .o)))
theorem f72_eq (D : Dyn) (n : Nat) : f72 D n = funKp (s72 D n) D n 72 Tryz.f72 h72 := by kernel_rfl
theorem f72_ok {D : Dyn} (hD : DP D) (n : Nat) : FP 72 (f72 D n) := fun_okP X_ok hD (SP.nil) Tryz.func72 (by kernel_rfl) (by kernel_rfl) (f72_eq D n)

def s46 (D : Dyn) (n : Nat) : Tb := ⟨X, []⟩
/-- slices.Clone[[]jetty/api.Ptr,jetty/api.Ptr] -/
def f46 (D : Dyn) (n : Nat) (vs : List AV) (H : AH) : Option (AV × AH) :=
  outR (hd vs fun x0 vs => nl vs <|
  bV (cmpO .eql (eqS x0 .nilSlice)) fun x4 => 
  cnd x4 (bV (some .nilSlice) fun x2 => some (.ret x2, H))
  (bA (bldLp 52 3 0 [(.int .i64 (.ofNat 0)), (.int .i64 (.ofNat 0)), (.int .u64 (.ofNat 0))] []) H fun x5 H => 
  bR (apPp 52 3 24 x5 x0 H) fun x7 H => 
  bV (some x7) fun x2_2 => some (.ret x2_2, H)))
def h46 : Hint := (.s .o (.s (.s .o (.cl (.s .o .o) .o)) (.s .o .o)))
theorem f46_eq (D : Dyn) (n : Nat) : f46 D n = funKp (s46 D n) D n 46 Tryz.f46 h46 := by kernel_rfl
theorem f46_ok {D : Dyn} (hD : DP D) (n : Nat) : FP 46 (f46 D n) := fun_okP X_ok hD (SP.nil) Tryz.func46 (by kernel_rfl) (by kernel_rfl) (f46_eq D n)

def s107 (D : Dyn) (n : Nat) : Tb := ⟨X, [(32, f32 D n), (37, f37 D n), (72, f72 D n), (46, f46 D n)]⟩
/-- (*jetty/tree.Tree).Load -/
def f107 (D : Dyn) (n : Nat) (vs : List AV) (H : AH) : Option (AV × AH) :=
  outR (hd vs fun x0 vs => hd vs fun x1 vs => nl vs <|
  bA (bxV 52 x1) H fun x3 H => 
  bA (bxV 80 (.agg [(.bool false), .nilSlice, .nilSlice, .nilSlice])) H fun x4 H => 
  bR (f32 D n [x0] H) fun x9 H => 
  cnd x9 (bV (bldSp [(0, 1), (1, 1), (2, 1), (3, 1)] [(.bool false), .nilSlice, .nilSlice, .nilSlice] []) fun x10 => 
  bR (stNp 4 x4 x10 H) fun x9999 H => 
  bV (ldNp 4 x4 H) fun x9004 => bV (some (.int .i64 (.ofNat 2))) fun x5 => some (.ret (.tuple [x9004, x5]), H))
  (bV (fAd 0 x3) fun x11 => 
  bV (ld1p x11 H) fun x12 => 
  bV (bInt .eql x12 (.int .i64 (.ofNat 0))) fun x13 => 
  cnd x13 (bV (bldSp [(0, 1), (1, 1), (2, 1), (3, 1)] [(.bool false), .nilSlice, .nilSlice, .nilSlice] []) fun x14 => 
  bR (stNp 4 x4 x14 H) fun x9999_2 H => 
  bV (ldNp 4 x4 H) fun x9004_2 => bV (some (.int .i64 (.ofNat 1))) fun x5_2 => some (.ret (.tuple [x9004_2, x5_2]), H))
  (bV (ldNp 3 x3 H) fun x17 => 
  bR (f37 D n [x0, x17] H) fun x18 H => 
  bV (pExtract x18 0) fun x19 => 
  bV (pExtract x18 1) fun x20 => 
  bA (bxV 80 (.agg [(.bool false), .nilSlice, .nilSlice, .nilSlice])) H fun x6 H => 
  bR (stNp 4 x6 x19 H) fun x9999_3 H => 
  bV (bInt .neq x20 (.int .i64 (.ofNat 0))) fun x22 => 
  cnd x22 (bV (bldSp [(0, 1), (1, 1), (2, 1), (3, 1)] [(.bool false), .nilSlice, .nilSlice, .nilSlice] []) fun x23 => 
  bR (stNp 4 x4 x23 H) fun x9999_4 H => 
  bV (ldNp 4 x4 H) fun x9004_3 => bV (some x20) fun x5_3 => some (.ret (.tuple [x9004_3, x5_3]), H))
  (bV (fAd 0 x6) fun x25 => 
  bV (ld1p x25 H) fun x26 => 
  bV (fAd 1 x6) fun x27 => 
  bV (ld1p x27 H) fun x28 => 
  bV (fAd 2 x6) fun x30 => 
  bV (ld1p x30 H) fun x31 => 
  bV (fAd 3 x6) fun x33 => 
  bV (ld1p x33 H) fun x34 => 
  bR (f72 D n [x28] H) fun x29 H => chk (ld1p x25 H) x26 <| chk (ld1p x30 H) x31 <| chk (ld1p x33 H) x34 <| 
  bR (f72 D n [x31] H) fun x32 H => chk (ld1p x25 H) x26 <| chk (ld1p x33 H) x34 <| 
  bR (f46 D n [x34] H) fun x35 H => chk (ld1p x25 H) x26 <| 
  bV (bldSp [(0, 1), (1, 1), (2, 1), (3, 1)] [(.bool false), .nilSlice, .nilSlice, .nilSlice] [(0, x26), (1, x29), (2, x32), (3, x35)]) fun x36 => 
  bR (stNp 4 x4 x36 H) fun x9999_5 H => 
  bV (ldNp 4 x4 H) fun x9004_4 => bV (some (.int .i64 (.ofNat 0))) fun x5_4 => some (.ret (.tuple [x9004_4, x5_4]), H)))))
def h107 : Hint := (.s .o (.s (.s .o (.cl (.s .o .o) .o)) (.s (.s .o (.cl (.s .o .o) .o)) (.s .o (.s (.s .o (.cl (.s .o .o) .o)) (.s .o .o))))))
theorem f107_eq (D : Dyn) (n : Nat) : f107 D n = funKp (s107 D n) D n 107 Tryz.f107 h107 := by kernel_rfl
theorem f107_ok {D : Dyn} (hD : DP D) (n : Nat) : FP 107 (f107 D n) := fun_okP X_ok hD (SP.cons (f32_ok hD n) (SP.cons (f37_ok hD n) (SP.cons (f72_ok hD n) (SP.cons (f46_ok hD n) (SP.nil))))) Tryz.func107 (by kernel_rfl) (by kernel_rfl) (f107_eq D n)

def s91 (D : Dyn) (n : Nat) : Tb := ⟨X, [(107, f107 D n), (39, f39 D n)]⟩
def f91l0 (D : Dyn) (n : Nat) (vs : List AV) (H : AH) : Rs :=
  hd vs fun x0_3 vs => hd vs fun x2_3 vs => hd vs fun x3_3 vs => hd vs fun x4_3 vs => hd vs fun x5_3 vs => hd vs fun x13_3 vs => hd vs fun x15 vs => hd vs fun x16 vs => 
  bV (fAd 3 x13_3) fun x77 => 
  bV (ld1p x77 H) fun x78 => 
  bV (lnSl x78) fun x79 => 
  bV (bInt .lss x16 x79) fun x80 => 
  cnd x80 (bV (bInt .gtr x16 x15) fun x85 => 
  jn (wnt x85 true (bV (bStr .neq x3_3 (.str 0 0)) fun x88 => 
  some (.norm [x88], H)) (some (.norm [undefA], H))) fun vs H => hd vs fun x88_2 vs => 
  bV (pk3 (some x85) (some x88_2) (some (.bool false))) fun x89 => 
  jn (wnt x89 true (bV (fAd 1 x13_3) fun x91 => 
  bV (ld1p x91 H) fun x92 => 
  bV (bInt .sub x16 (.int .i64 (.ofNat 1))) fun x94 => 
  bV (ixSl 1 x92 x94) fun x95 => 
  bV (ld1p x95 H) fun x96 => 
  bV (bStr .geq x96 x3_3) fun x98 => 
  some (.norm [x98], H)) (some (.norm [undefA], H))) fun vs H => hd vs fun x98_2 vs => 
  bV (pk3 (some x89) (some x98_2) (some (.bool false))) fun x99 => 
  cnd x99 (some (.exit 0 [], H))
  (bV (fAd 3 x13_3) fun x101 => 
  bV (ld1p x101 H) fun x102 => 
  bV (ixSl 3 x102 x16) fun x104 => 
  bV (ldNp 3 x104 H) fun x105 => 
  bR (D.fn 91 [x0_3, x105, x2_3, x3_3, x4_3, x5_3] H) fun x110 H => 
  bV (aun .not x110) fun x111 => 
  cnd x111 (bV (some (.bool false)) fun x12_5 => some (.ret x12_5, H))
  (bV (bInt .add x16 (.int .i64 (.ofNat 1))) fun x82 => 
  some (.norm [x0_3, x2_3, x3_3, x4_3, x5_3, x13_3, x15, x82], H))))
  (some (.exit 0 [], H))
def f91b1 (D : Dyn) (n : Nat) (vs : List AV) (H : AH) : Rs :=
  
  bV (some (.bool true)) fun x12_6 => some (.ret x12_6, H)
def f91j2 (D : Dyn) (n : Nat) (vs : List AV) (H : AH) : Rs :=
  hd vs fun x0_2 vs => hd vs fun x2_2 vs => hd vs fun x3_2 vs => hd vs fun x4_2 vs => hd vs fun x5_2 vs => hd vs fun x7_2 vs => hd vs fun x13_2 vs => 
  bV (pNil x0_2) fun x59 => 
  bV (fAd 3 x59) fun x60 => 
  bV (ld1p x60 H) fun x61 => 
  bV (bInt .neq x61 (.int .i64 (.ofNat 0))) fun x62 => 
  jn (wnt x62 false (bV (ldNp 3 x7_2 H) fun x65 => 
  bV (ldNp 4 x13_2 H) fun x66 => 
  bR (callV (s91 D n).S D x5_2 [x65, x66] H) fun x67 H => 
  bV (aun .not x67) fun x68 => 
  some (.norm [x68], H)) (some (.norm [undefA], H))) fun vs H => hd vs fun x68_2 vs => 
  bV (pk3 (some x62) (some (.bool true)) (some x68_2)) fun x69 => 
  cnd x69 (bV (some (.bool false)) fun x12_3 => some (.ret x12_3, H))
  (bV (fAd 0 x13_2) fun x70 => 
  bV (ld1p x70 H) fun x71 => 
  cnd x71 (bV (some (.bool true)) fun x12_4 => some (.ret x12_4, H))
  (bV (ldNp 4 x13_2 H) fun x72 => 
  bR (f39 D n [x72, x2_2] H) fun x74 H => 
  jb 0 (loopK n (f91l0 D n) [x0_2, x2_2, x3_2, x4_2, x5_2, x13_2, x74, x74] H) (f91b1 D n)))
/-- (*jetty/walk.walker).down -/
def f91 (D : Dyn) (n : Nat) (vs : List AV) (H : AH) : Option (AV × AH) :=
  outR (hd vs fun x0 vs => hd vs fun x1 vs => hd vs fun x2 vs => hd vs fun x3 vs => hd vs fun x4 vs => hd vs fun x5 vs => nl vs <|
  bA (bxV 52 x1) H fun x7 H => 
  bV (ldNp 3 x7 H) fun x18 => 
  bR (callV (s91 D n).S D x4 [x18] H) fun x19 H => 
  cnd x19 (bV (some (.bool true)) fun x12 => some (.ret x12, H))
  (bV (pNil x0) fun x21 => 
  bV (fAd 2 x21) fun x22 => 
  bV (ld1p x22 H) fun x23 => 
  bV (bInt .sub x23 (.int .i64 (.ofNat 1))) fun x24 => 
  bV (pNil x0) fun x25 => 
  bV (fAd 2 x25) fun x26 => 
  bR (stNp 1 x26 x24 H) fun x9999 H => 
  bV (pNil x0) fun x28 => 
  bV (fAd 2 x28) fun x29 => 
  bV (ld1p x29 H) fun x30 => 
  bV (bInt .lss x30 (.int .i64 (.ofNat 0))) fun x31 => 
  cnd x31 (bV (pNil x0) fun x33 => 
  bV (fAd 3 x33) fun x34 => 
  bR (stNp 1 x34 (.int .i64 (.ofNat 4)) H) fun x9999_2 H => 
  bV (some (.bool false)) fun x12_2 => some (.ret x12_2, H))
  (bV (pNil x0) fun x37 => 
  bV (fAd 1 x37) fun x38 => 
  bV (ld1p x38 H) fun x39 => 
  bV (ldNp 3 x7 H) fun x40 => 
  bV (lkM (1 :: [6, 6, 10]) (.agg [(.bool false), .nilSlice, .nilSlice, .nilSlice]) true x39 x40 H) fun x41 => 
  bV (pExtract x41 0) fun x42 => 
  bV (pExtract x41 1) fun x43 => 
  bA (bxV 80 (.agg [(.bool false), .nilSlice, .nilSlice, .nilSlice])) H fun x13 H => 
  bR (stNp 4 x13 x42 H) fun x9999_3 H => 
  bV (aun .not x43) fun x45 => 
  jn (cnd x45 (bV (pNil x0) fun x49 => 
  bV (fAd 0 x49) fun x50 => 
  bV (ld1p x50 H) fun x51 => 
  bV (ldNp 3 x7 H) fun x52 => 
  bR (f107 D n [x51, x52] H) fun x53 H => 
  bV (pExtract x53 0) fun x54 => 
  bV (pExtract x53 1) fun x55 => 
  bR (stNp 4 x13 x54 H) fun x9999_4 H => 
  bV (pNil x0) fun x56 => 
  bV (fAd 3 x56) fun x57 => 
  bR (stNp 1 x57 x55 H) fun x9999_5 H => 
  some (.norm [x0, x2, x3, x4, x5, x7, x13], H))
  (some (.norm [x0, x2, x3, x4, x5, x7, x13], H))) (f91j2 D n))))
def h91 : Hint := (.s .o (.s (.s .o (.cl (.s .o .o) .o)) (.s (.s .o (.s .o (.cl (.s .o (.s .o .o)) .o))) (.s .o (.s (.s .o (.c [0, 2, 3, 4, 5, 7, 13] .o .o)) (.s (.s .o (.cl (.s .o .o) .o)) (.s (.s .o (.cl (.s .o .o) .o)) (.s .o (.s (.s .o (.b [] (.l [0, 2, 3, 4, 5, 13, 15, 16] (.s (.s .o (.cr .o .o)) (.s (.b0 (.s (.s .o (.cl .o .o)) (.s .o (.cl (.s .o .o) .o)))) .o))))) (.s .o .o))))))))))
theorem f91_eq (D : Dyn) (n : Nat) : f91 D n = funKp (s91 D n) D n 91 Tryz.f91 h91 := by kernel_rfl
theorem f91_ok {D : Dyn} (hD : DP D) (n : Nat) : FP 91 (f91 D n) := fun_okP X_ok hD (SP.cons (f107_ok hD n) (SP.cons (f39_ok hD n) (SP.nil))) Tryz.func91 (by kernel_rfl) (by kernel_rfl) (f91_eq D n)

def s89 (D : Dyn) (n : Nat) : Tb := ⟨X, [(90, f90 D n), (91, f91 D n)]⟩
def f89j0 (D : Dyn) (n : Nat) (vs : List AV) (H : AH) : Rs :=
  
  some (.ret (.tuple []), H)
/-- (*jetty/walk.walker).nodes$1 -/
def f89 (D : Dyn) (n : Nat) (vs : List AV) (H : AH) : Option (AV × AH) :=
  outR (hd vs fun x0 vs => hd vs fun x1 vs => hd vs fun x2 vs => hd vs fun x3 vs => hd vs fun x4 vs => nl vs <|
  bV (ld1p x1 H) fun x7 => 
  bV (pNil x7) fun x8 => 
  bV (fAd 0 x8) fun x9 => 
  bV (ld1p x9 H) fun x10 => 
  bR (f90 D n [x10] H) fun x11 H => 
  bA (bxV 52 (.agg [(.int .i64 (.ofNat 0)), (.int .i64 (.ofNat 0)), (.int .u64 (.ofNat 0))])) H fun x6 H => 
  bR (stNp 3 x6 x11 H) fun x9999 H => 
  bV (fAd 0 x6) fun x12 => 
  bV (ld1p x12 H) fun x13 => 
  bV (bInt .neq x13 (.int .i64 (.ofNat 0))) fun x14 => 
  jn (wnt x14 true (bV (ld1p x2 H) fun x16 => 
  bV (bStr .eql x16 (.str 0 0)) fun x17 => 
  some (.norm [x17], H)) (some (.norm [undefA], H))) fun vs H => hd vs fun x18 vs => 
  jn (wnt x18 false (bV (ld1p x3 H) fun x19 => 
  bV (ld1p x2 H) fun x20 => 
  bV (bStr .lss x19 x20) fun x21 => 
  some (.norm [x21], H)) (some (.norm [undefA], H))) fun vs H => hd vs fun x21_2 vs => 
  jn (wnt x14 true (bV (pk3 (some x18) (some (.bool true)) (some x21_2)) fun x22 => 
  some (.norm [x22], H)) (some (.norm [undefA], H))) fun vs H => hd vs fun x22_2 vs => 
  bV (pk3 (some x14) (some x22_2) (some (.bool false))) fun x23 => 
  jn (cnd x23 (bV (ld1p x1 H) fun x24 => 
  bV (ldNp 3 x6 H) fun x25 => 
  bV (ld1p x3 H) fun x26 => 
  bV (ld1p x2 H) fun x27 => 
  bV (ld1p x4 H) fun x28 => 
  bR (f91 D n [x24, x25, x26, x27, x28, x0] H) fun x30 H => 
  some (.norm [], H))
  (some (.norm [], H))) (f89j0 D n))
def h89 : Hint := (.s .o (.s .o (.c [] .o .o)))
theorem f89_eq (D : Dyn) (n : Nat) : f89 D n = funKp (s89 D n) D n 89 Tryz.f89 h89 := by kernel_rfl
theorem f89_ok {D : Dyn} (hD : DP D) (n : Nat) : FP 89 (f89 D n) := fun_okP X_ok hD (SP.cons (f90_ok hD n) (SP.cons (f91_ok hD n) (SP.nil))) Tryz.func89 (by kernel_rfl) (by kernel_rfl) (f89_eq D n)

def s66 (D : Dyn) (n : Nat) : Tb := ⟨X, []⟩
/-- (*jetty/walk.walker).nodes -/
def f66 (D : Dyn) (n : Nat) (vs : List AV) (H : AH) : Option (AV × AH) :=
  outR (hd vs fun x0 vs => hd vs fun x1 vs => hd vs fun x2 vs => hd vs fun x3 vs => nl vs <|
  bA (bxV 89 x0) H fun x4 H => 
  bA (bxV 9 x1) H fun x5 H => 
  bA (bxV 9 x2) H fun x6 H => 
  bA (bxV 94 x3) H fun x7 H => 
  bV (some (.func 89 [] [x4, x6, x5, x7])) fun x8 => some (.ret x8, H))
def h66 : Hint := (.s .o (.s .o .o))
theorem f66_eq (D : Dyn) (n : Nat) : f66 D n = funKp (s66 D n) D n 66 Tryz.f66 h66 := by kernel_rfl
theorem f66_ok {D : Dyn} (hD : DP D) (n : Nat) : FP 66 (f66 D n) := fun_okP X_ok hD (SP.nil) Tryz.func66 (by kernel_rfl) (by kernel_rfl) (f66_eq D n)

def s65 (D : Dyn) (n : Nat) : Tb := ⟨X, [(66, f66 D n), (39, f39 D n)]⟩
/-- (*jetty/walk.walker).pairs$1 -/
def f65 (D : Dyn) (n : Nat) (vs : List AV) (H : AH) : Option (AV × AH) :=
  outR (hd vs fun x0 vs => hd vs fun x1 vs => hd vs fun x2 vs => hd vs fun x3 vs => hd vs fun x4 vs => nl vs <|
  bA (bxV 129 x0) H fun x5 H => 
  bV (ld1p x1 H) fun x9 => 
  bV (ld1p x2 H) fun x10 => 
  bV (ld1p x3 H) fun x11 => 
  bV (ld1p x4 H) fun x12 => 
  bR (f66 D n [x9, x10, x11, x12] H) fun x13 H => 
  newB H (.loop ⟨.ready, none, 65, 0, [2, 3, 5], [x2, x3, x5]⟩) fun A H => bR (rfC (s65 D n).S D x13 A H) fun _ H => endLp A H fun j H => jmpK j (
  some (.ret (.tuple []), H))
  (fun id => none) (some (.ret (.tuple []), H)))
def h65 : Hint := (.s .o (.s .o (.b0 (.rf 0 [2, 3, 5]))))
theorem f65_eq (D : Dyn) (n : Nat) : f65 D n = funKp (s65 D n) D n 65 Tryz.f65 h65 := by kernel_rfl
theorem f65_ok {D : Dyn} (hD : DP D) (n : Nat) : FP 65 (f65 D n) := fun_okP X_ok hD (SP.cons (f66_ok hD n) (SP.cons (f39_ok hD n) (SP.nil))) Tryz.func65 (by kernel_rfl) (by kernel_rfl) (f65_eq D n)
def f65l0 (D : Dyn) (n : Nat) (vs : List AV) (H : AH) : Rs :=
  hd vs fun x3_2 vs => hd vs fun x5_2 vs => hd vs fun x7_2 vs => hd vs fun x8 vs => 
  bV (fAd 1 x7_2) fun x23 => 
  bV (ld1p x23 H) fun x24 => 
  bV (lnSl x24) fun x25 => 
  bV (bInt .lss x8 x25) fun x26 => 
  cnd x26 (bV (ld1p x3_2 H) fun x29 => 
  bV (bStr .neq x29 (.str 0 0)) fun x30 => 
  jn (wnt x30 true (bV (fAd 1 x7_2) fun x32 => 
  bV (ld1p x32 H) fun x33 => 
  bV (ixSl 1 x33 x8) fun x35 => 
  bV (ld1p x35 H) fun x36 => 
  bV (ld1p x3_2 H) fun x37 => 
  bV (bStr .geq x36 x37) fun x38 => 
  some (.norm [x38], H)) (some (.norm [undefA], H))) fun vs H => hd vs fun x38_2 vs => 
  bV (pk3 (some x30) (some x38_2) (some (.bool false))) fun x39 => 
  jn (wnt x39 false (bV (ld1p x5_2 H) fun x41 => 
  bV (fAd 1 x7_2) fun x42 => 
  bV (ld1p x42 H) fun x43 => 
  bV (ixSl 1 x43 x8) fun x45 => 
  bV (ld1p x45 H) fun x46 => 
  bV (fAd 2 x7_2) fun x47 => 
  bV (ld1p x47 H) fun x48 => 
  bV (ixSl 1 x48 x8) fun x50 => 
  bV (ld1p x50 H) fun x51 => 
  bV (bldSp [(0, 1), (1, 1)] [(.str 0 0), (.str 0 0)] [(0, x46), (1, x51)]) fun x52 => 
  bR (callV (s65 D n).S D x41 [x52] H) fun x53 H => 
  bV (aun .not x53) fun x54 => 
  some (.norm [x54], H)) (some (.norm [undefA], H))) fun vs H => hd vs fun x54_2 vs => 
  bV (pk3 (some x39) (some (.bool true)) (some x54_2)) fun x55 => 
  cnd x55 (some (.ret (.tuple []), H))
  (bV (bInt .add x8 (.int .i64 (.ofNat 1))) fun x28 => 
  some (.norm [x3_2, x5_2, x7_2, x28], H)))
  (some (.exit 2 [], H))
def f65b1 (D : Dyn) (n : Nat) (vs : List AV) (H : AH) : Rs :=
  
  some (.norm [], H)
def f65b2 (D : Dyn) (n : Nat) (vs : List AV) (H : AH) : Rs :=
  
  some (.norm [], H)
def r65_0 (D : Dyn) (n : Nat) (A : Nat) (l : ALoop) (az : List AV) (H : AH) : Option (AV × AH) :=
  bif eqNL [2, 3, 5] l.live then endQ A (hd l.vals fun x2 vs => hd vs fun x3 vs => hd vs fun x5 vs => hd az fun x14 az => hd az fun x15 az => nl az <|
  bA (bxV 80 (.agg [(.bool false), .nilSlice, .nilSlice, .nilSlice])) H fun x7 H => 
  bR (stNp 4 x7 x15 H) fun x9999 H => 
  beginK A H fun H => 
  jb 1 (bV (fAd 0 x7) fun x16 => 
  bV (ld1p x16 H) fun x17 => 
  bV (aun .not x17) fun x18 => 
  cnd x18 (some (.exit 1 [], H))
  (bV (ldNp 4 x7 H) fun x19 => 
  bV (ld1p x2 H) fun x20 => 
  bR (f39 D n [x19, x20] H) fun x21 H => 
  jb 2 (loopK n (f65l0 D n) [x3, x5, x7, x21] H) (f65b1 D n))) (f65b2 D n)) else none
def r65_0a : Hint := .o
def r65_0b : Hint := (.b [] (.s (.s .o (.cl .o .o)) (.s .o (.b [] (.l [3, 5, 7, 8] (.s (.s .o (.cr .o .o)) (.s (.b0 (.s .o (.cl .o .o))) .o)))))))
theorem r65_0_eq (D : Dyn) (n : Nat) : r65_0 D n = rndKp (s65 D n) D n 65 0 [2, 3, 5] [] r65_0a r65_0b := by kernel_rfl
theorem r65_0_ok {D : Dyn} (hD : DP D) (n : Nat) : RdP 65 0 (r65_0 D n) := round_okP X_ok hD (SP.cons (f66_ok hD n) (SP.cons (f39_ok hD n) (SP.nil))) (by kernel_rfl) (r65_0_eq D n)

def s41 (D : Dyn) (n : Nat) : Tb := ⟨X, []⟩
/-- (*jetty/walk.walker).pairs -/
def f41 (D : Dyn) (n : Nat) (vs : List AV) (H : AH) : Option (AV × AH) :=
  outR (hd vs fun x0 vs => hd vs fun x1 vs => hd vs fun x2 vs => hd vs fun x3 vs => nl vs <|
  bA (bxV 89 x0) H fun x4 H => 
  bA (bxV 9 x1) H fun x5 H => 
  bA (bxV 9 x2) H fun x6 H => 
  bA (bxV 94 x3) H fun x7 H => 
  bV (some (.func 65 [] [x4, x5, x6, x7])) fun x8 => some (.ret x8, H))
def h41 : Hint := (.s .o (.s .o .o))
theorem f41_eq (D : Dyn) (n : Nat) : f41 D n = funKp (s41 D n) D n 41 Tryz.f41 h41 := by kernel_rfl
theorem f41_ok {D : Dyn} (hD : DP D) (n : Nat) : FP 41 (f41 D n) := fun_okP X_ok hD (SP.nil) Tryz.func41 (by kernel_rfl) (by kernel_rfl) (f41_eq D n)

def s42 (D : Dyn) (n : Nat) : Tb := ⟨X, []⟩
/-- jetty/walk.all -/
def f42 (D : Dyn) (n : Nat) (vs : List AV) (H : AH) : Option (AV × AH) :=
  outR (hd vs fun x0 vs => nl vs <|
  bA (bxV 52 x0) H fun x1 H => 
  bV (some (.bool false)) fun x2 => some (.ret x2, H))
def h42 : Hint := (.s .o (.s .o .o))
theorem f42_eq (D : Dyn) (n : Nat) : f42 D n = funKp (s42 D n) D n 42 Tryz.f42 h42 := by kernel_rfl
theorem f42_ok {D : Dyn} (hD : DP D) (n : Nat) : FP 42 (f42 D n) := fun_okP X_ok hD (SP.nil) Tryz.func42 (by kernel_rfl) (by kernel_rfl) (f42_eq D n)

def s24 (D : Dyn) (n : Nat) : Tb := ⟨X, [(40, f40 D n), (41, f41 D n)]⟩
def f24b0 (D : Dyn) (n : Nat) (vs : List AV) (H : AH) : Rs :=
  hd vs fun x11 vs => hd vs fun x12_2 vs => hd vs fun x13_2 vs => 
  bV (pNil x11) fun x35 => 
  bV (fAd 3 x35) fun x36 => 
  bV (ld1p x36 H) fun x37 => 
  bV (bInt .neq x37 (.int .i64 (.ofNat 0))) fun x38 => 
  cnd x38 (bV (pNil x11) fun x40 => 
  bV (fAd 3 x40) fun x41 => 
  bV (ld1p x41 H) fun x42 => 
  bV (some .nilSlice) fun x8_4 => bV (some (.bool false)) fun x9_4 => bV (some x42) fun x10_4 => some (.ret (.tuple [x8_4, x9_4, x10_4]), H))
  (bV (ld1p x12_2 H) fun x43 => 
  bV (ld1p x13_2 H) fun x44 => 
  bV (some x43) fun x8_5 => bV (some x44) fun x9_5 => bV (some (.int .i64 (.ofNat 0))) fun x10_5 => some (.ret (.tuple [x8_5, x9_5, x10_5]), H))
/-- jetty/walk.Range -/
def f24 (D : Dyn) (n : Nat) (vs : List AV) (H : AH) : Option (AV × AH) :=
  outR (hd vs fun x0 vs => hd vs fun x1 vs => hd vs fun x2 vs => hd vs fun x3 vs => nl vs <|
  bA (bxV 3 x3) H fun x7 H => 
  bV (cmpO .eql (eqP x0 .nilPtr)) fun x16 => 
  cnd x16 (bV (some .nilSlice) fun x8 => bV (some (.bool false)) fun x9 => bV (some (.int .i64 (.ofNat 2))) fun x10 => some (.ret (.tuple [x8, x9, x10]), H))
  (bV (ld1p x7 H) fun x17 => 
  bV (bInt .lss x17 (.int .i64 (.ofNat 0))) fun x18 => 
  cnd x18 (bV (some .nilSlice) fun x8_2 => bV (some (.bool false)) fun x9_2 => bV (some (.int .i64 (.ofNat 1))) fun x10_2 => some (.ret (.tuple [x8_2, x9_2, x10_2]), H))
  (bR (f40 D n [x0] H) fun x20 H => 
  bA (bxV 42 .nilSlice) H fun x12 H => 
  bA (bxV 4 (.bool false)) H fun x13 H => 
  bR (stNp 1 x13 (.bool false) H) fun x9999 H => 
  bR (f41 D n [x20, x1, x2, (.func 42 [] [])] H) fun x24 H => 
  jb 0 (newB H (.loop ⟨.ready, none, 24, 0, [7, 12, 13], [x7, x12, x13]⟩) fun A H => bR (rfC (s24 D n).S D x24 A H) fun _ H => endLp A H fun j H => jmpK j (
  some (.norm [x20, x12, x13], H))
  (fun id => cond (Nat.beq 0 id) (some (.exit id [x20, x12, x13], H)) (none)) (bV (some .nilSlice) fun x8_3 => bV (some (.bool false)) fun x9_3 => bV (some (.int .i64 (.ofNat 0))) fun x10_3 => some (.ret (.tuple [x8_3, x9_3, x10_3]), H))) (f24b0 D n))))
def h24 : Hint := (.s .o (.s (.s .o (.cl (.s .o .o) .o)) (.s (.s .o (.cl (.s .o .o) .o)) (.s .o (.s .o (.s .o (.s (.s .o (.b [11, 12, 13] (.rf 0 [7, 12, 13]))) (.s (.s .o (.cl (.s .o .o) .o)) (.s .o .o)))))))))
theorem f24_eq (D : Dyn) (n : Nat) : f24 D n = funKp (s24 D n) D n 24 Tryz.f24 h24 := by kernel_rfl
theorem f24_ok {D : Dyn} (hD : DP D) (n : Nat) : FP 24 (f24 D n) := fun_okP X_ok hD (SP.cons (f40_ok hD n) (SP.cons (f41_ok hD n) (SP.nil))) Tryz.func24 (by kernel_rfl) (by kernel_rfl) (f24_eq D n)
def r24_0 (D : Dyn) (n : Nat) (A : Nat) (l : ALoop) (az : List AV) (H : AH) : Option (AV × AH) :=
  bif eqNL [7, 12, 13] l.live then endQ A (hd l.vals fun x7 vs => hd vs fun x12 vs => hd vs fun x13 vs => hd az fun x25 az => nl az <|
  bA (bxV 57 (.agg [(.str 0 0), (.str 0 0)])) H fun x14 H => 
  bR (stNp 2 x14 x25 H) fun x9999 H => 
  beginK A H fun H => 
  bV (ld1p x12 H) fun x26 => 
  bV (lnSl x26) fun x27 => 
  bV (ld1p x7 H) fun x28 => 
  bV (bInt .eql x27 x28) fun x29 => 
  cnd x29 (bR (stNp 1 x13 (.bool true) H) fun x9999_2 H => 
  some (.exit 0 [], H))
  (bV (ld1p x12 H) fun x30 => 
  bV (ldNp 2 x14 H) fun x31 => 
  bA (bldLp 57 2 1 [(.str 0 0), (.str 0 0)] [(0, x31)]) H fun x32 H => 
  bR (apPp 57 2 32 x30 x32 H) fun x33 H => 
  bR (stNp 1 x12 x33 H) fun x9999_3 H => 
  some (.norm [], H))) else none
def r24_0a : Hint := .o
def r24_0b : Hint := (.b0 (.s (.s .o (.cl (.s .o .o) .o)) .o))
theorem r24_0_eq (D : Dyn) (n : Nat) : r24_0 D n = rndKp (s24 D n) D n 24 0 [7, 12, 13] [0] r24_0a r24_0b := by kernel_rfl
theorem r24_0_ok {D : Dyn} (hD : DP D) (n : Nat) : RdP 24 0 (r24_0 D n) := round_okP X_ok hD (SP.cons (f40_ok hD n) (SP.cons (f41_ok hD n) (SP.nil))) (by kernel_rfl) (r24_0_eq D n)

def s13 (D : Dyn) (n : Nat) : Tb := ⟨X, [(20, f20 D n), (26, f26 D n), (25, f25 D n), (24, f24 D n)]⟩
def f13j0 (D : Dyn) (n : Nat) (vs : List AV) (H : AH) : Rs :=
  hd vs fun x11_2 vs => hd vs fun x31_2 vs => hd vs fun x32_3 vs => hd vs fun x33_2 vs => 
  bV (bInt .add x33_2 (.int .i64 (.ofNat 1))) fun x45 => 
  some (.norm [x11_2, x31_2, x32_3, x45], H)
def f13l1 (D : Dyn) (n : Nat) (vs : List AV) (H : AH) : Rs :=
  hd vs fun x11 vs => hd vs fun x31 vs => hd vs fun x32_2 vs => hd vs fun x33 vs => 
  bV (bInt .lss x33 x32_2) fun x34 => 
  cnd x34 (bV (ixSl 2 x31 x33) fun x35 => 
  bV (ldNp 2 x35 H) fun x36 => 
  bA (bxV 57 (.agg [(.str 0 0), (.str 0 0)])) H fun x13 H => 
  bR (stNp 2 x13 x36 H) fun x9999 H => 
  bV (fAd 0 x13) fun x37 => 
  bV (ld1p x37 H) fun x38 => 
  bV (lnStr x38) fun x39 => 
  bV (bInt .eql x39 (.int .i64 (.ofNat 9))) fun x40 => 
  jn (cnd x40 (bV (ldNp 2 x13 H) fun x42 => 
  bA (bldLp 57 2 1 [(.str 0 0), (.str 0 0)] [(0, x42)]) H fun x43 H => 
  bR (apPp 57 2 32 x11 x43 H) fun x44 H => 
  some (.norm [x44, x31, x32_2, x33], H))
  (some (.norm [x11, x31, x32_2, x33], H))) (f13j0 D n))
  (some (.exit 0 [x11], H))
def f13b2 (D : Dyn) (n : Nat) (vs : List AV) (H : AH) : Rs :=
  hd vs fun x11_3 vs => 
  bV (some x11_3) fun x6_3 => bV (some (.int .i64 (.ofNat 0))) fun x7_3 => some (.ret (.tuple [x6_3, x7_3]), H)
/-- jetty/extent.stored -/
def f13 (D : Dyn) (n : Nat) (vs : List AV) (H : AH) : Option (AV × AH) :=
  outR (hd vs fun x0 vs => hd vs fun x1 vs => hd vs fun x2 vs => nl vs <|
  bV (bInt .gtr x2 (.int .i64 (.ofNat 4294967295))) fun x15 => 
  cnd x15 (bV (some .nilSlice) fun x6 => bV (some (.int .i64 (.ofNat 0))) fun x7 => some (.ret (.tuple [x6, x7]), H))
  (bR (f20 D n [x1, x2] H) fun x20 H => 
  bR (f26 D n [x1] H) fun x22 H => 
  bR (f25 D n [x22] H) fun x23 H => 
  bR (f24 D n [x0, x20, x23, (.int .i64 (.ofNat 9223372036854775807))] H) fun x24 H => 
  bV (pExtract x24 0) fun x25 => 
  bV (pExtract x24 1) fun x26 => 
  bV (pExtract x24 2) fun x27 => 
  bV (bInt .neq x27 (.int .i64 (.ofNat 0))) fun x29 => 
  cnd x29 (bV (some .nilSlice) fun x6_2 => bV (some x27) fun x7_2 => some (.ret (.tuple [x6_2, x7_2]), H))
  (bV (lnSl x25) fun x32 => 
  jb 0 (loopK n (f13l1 D n) [.nilSlice, x25, x32, (.int .i64 (.ofNat 0))] H) (f13b2 D n))))
def h13 : Hint := (.s .o (.s (.s .o (.cl (.s .o .o) .o)) (.s .o (.s (.s .o (.cl (.s .o .o) .o)) (.s .o (.s (.s .o (.b [11] (.l [11, 31, 32, 33] (.s .o (.s (.cr .o .o) (.s (.b0 (.s .o (.s .o (.c [11, 31, 32, 33] .o .o)))) .o)))))) (.s .o .o)))))))
theorem f13_eq (D : Dyn) (n : Nat) : f13 D n = funKp (s13 D n) D n 13 Tryz.f13 h13 := by kernel_rfl
theorem f13_ok {D : Dyn} (hD : DP D) (n : Nat) : FP 13 (f13 D n) := fun_okP X_ok hD (SP.cons (f20_ok hD n) (SP.cons (f26_ok hD n) (SP.cons (f25_ok hD n) (SP.cons (f24_ok hD n) (SP.nil))))) Tryz.func13 (by kernel_rfl) (by kernel_rfl) (f13_eq D n)

def s5 (D : Dyn) (n : Nat) : Tb := ⟨X, [(10, f10 D n), (13, f13 D n)]⟩
/-- jetty/extent.Pieces -/
def f5 (D : Dyn) (n : Nat) (vs : List AV) (H : AH) : Option (AV × AH) :=
  outR (hd vs fun x0 vs => hd vs fun x1 vs => nl vs <|
  bV (cmpO .eql (eqP x0 .nilPtr)) fun x9 => 
  cnd x9 (bV (some (.int .i64 (.ofNat 0))) fun x4 => bV (some (.int .i64 (.ofNat 2))) fun x5 => some (.ret (.tuple [x4, x5]), H))
  (bR (f10 D n [x1] H) fun x11 H => 
  bV (aun .not x11) fun x12 => 
  cnd x12 (bV (some (.int .i64 (.ofNat 0))) fun x4_2 => bV (some (.int .i64 (.ofNat 1))) fun x5_2 => some (.ret (.tuple [x4_2, x5_2]), H))
  (bR (f13 D n [x0, x1, (.int .i64 (.ofNat 0))] H) fun x16 H => 
  bV (pExtract x16 0) fun x17 => 
  bV (pExtract x16 1) fun x18 => 
  bV (lnSl x17) fun x20 => 
  bV (some x20) fun x4_3 => bV (some x18) fun x5_3 => some (.ret (.tuple [x4_3, x5_3]), H))))
def h5 : Hint := (.s .o (.s (.s .o (.cl (.s .o .o) .o)) (.s (.s .o (.cl (.s .o .o) .o)) (.s .o (.s .o .o)))))
theorem f5_eq (D : Dyn) (n : Nat) : f5 D n = funKp (s5 D n) D n 5 Tryz.f5 h5 := by kernel_rfl
theorem f5_ok {D : Dyn} (hD : DP D) (n : Nat) : FP 5 (f5 D n) := fun_okP X_ok hD (SP.cons (f10_ok hD n) (SP.cons (f13_ok hD n) (SP.nil))) Tryz.func5 (by kernel_rfl) (by kernel_rfl) (f5_eq D n)

def s27 (D : Dyn) (n : Nat) : Tb := ⟨X, []⟩
/-- jetty/disk.with -/
def f27 (D : Dyn) (n : Nat) (vs : List AV) (H : AH) : Option (AV × AH) :=
  outR (hd vs fun x0 vs => hd vs fun x1 vs => nl vs <|
  bA (mkM [6]) H fun x7 H => 
  bV (bldSp [(0, 1), (1, 1), (2, 1), (3, 1), (4, 1), (5, 1), (6, 1)] [(.int .i64 (.ofNat 0)), .nilMap, .nilSlice, .nilMap, (.int .i64 (.ofNat 0)), .nilSlice, (.bool false)] [(0, x0), (1, x1), (3, x7)]) fun x8 => 
  bA (bxV 102 x8) H fun x9 H => 
  bV (some x9) fun x4 => some (.ret x4, H))
def h27 : Hint := (.s .o (.s .o .o))
theorem f27_eq (D : Dyn) (n : Nat) : f27 D n = funKp (s27 D n) D n 27 Tryz.f27 h27 := by kernel_rfl
theorem f27_ok {D : Dyn} (hD : DP D) (n : Nat) : FP 27 (f27 D n) := fun_okP X_ok hD (SP.nil) Tryz.func27 (by kernel_rfl) (by kernel_rfl) (f27_eq D n)

def s14 (D : Dyn) (n : Nat) : Tb := ⟨X, [(27, f27 D n)]⟩
/-- jetty/disk.New -/
def f14 (D : Dyn) (n : Nat) (vs : List AV) (H : AH) : Option (AV × AH) :=
  outR (hd vs fun x0 vs => nl vs <|
  bV (bInt .lss x0 (.int .i64 (.ofNat 64))) fun x5 => 
  jn (wnt x5 false (bV (bInt .gtr x0 (.int .i64 (.ofNat 8192))) fun x8 => 
  some (.norm [x8], H)) (some (.norm [undefA], H))) fun vs H => hd vs fun x8_2 vs => 
  bV (pk3 (some x5) (some (.bool true)) (some x8_2)) fun x9 => 
  cnd x9 (bV (some .nilPtr) fun x2 => bV (some (.int .i64 (.ofNat 1))) fun x3 => some (.ret (.tuple [x2, x3]), H))
  (bA (mkM [6]) H fun x11 H => 
  bR (f27 D n [x0, x11] H) fun x12 H => 
  bV (some x12) fun x2_2 => bV (some (.int .i64 (.ofNat 0))) fun x3_2 => some (.ret (.tuple [x2_2, x3_2]), H)))
def h14 : Hint := (.s .o (.s (.s .o (.cl (.s .o .o) .o)) (.s .o .o)))
theorem f14_eq (D : Dyn) (n : Nat) : f14 D n = funKp (s14 D n) D n 14 Tryz.f14 h14 := by kernel_rfl
theorem f14_ok {D : Dyn} (hD : DP D) (n : Nat) : FP 14 (f14 D n) := fun_okP X_ok hD (SP.cons (f27_ok hD n) (SP.nil)) Tryz.func14 (by kernel_rfl) (by kernel_rfl) (f14_eq D n)

def s28 (D : Dyn) (n : Nat) : Tb := ⟨X, [(43, f43 D n), (44, f44 D n)]⟩
/-- jetty/block.Encode -/
def f28 (D : Dyn) (n : Nat) (vs : List AV) (H : AH) : Option (AV × AH) :=
  outR (hd vs fun x0 vs => nl vs <|
  bA (bxV 52 x0) H fun x1 H => 
  bV (ldNp 3 x1 H) fun x5 => 
  bR (f43 D n [x5] H) fun x6 H => 
  bV (aun .not x6) fun x7 => 
  cnd x7 (bV (some (.str 0 0)) fun x2 => bV (some (.int .i64 (.ofNat 4))) fun x3 => some (.ret (.tuple [x2, x3]), H))
  (bA (bxV 103 (.agg [.pk 16 0])) H fun x4 H => 
  bV (slArr 16 1 x4 none (some (.int .i64 (.ofNat 4))) none) fun x8 => 
  bV (fAd 0 x1) fun x9 => 
  bV (ld1p x9 H) fun x10 => 
  bV (cvI .u64 x10) fun x11 => 
  bR (f44 D n [x8, x11] H) fun x12 H => 
  bV (slArr 16 1 x4 (some (.int .i64 (.ofNat 4))) (some (.int .i64 (.ofNat 8))) none) fun x13 => 
  bV (fAd 1 x1) fun x14 => 
  bV (ld1p x14 H) fun x15 => 
  bV (cvI .u64 x15) fun x16 => 
  bR (f44 D n [x13, x16] H) fun x17 H => 
  bV (slArr 16 1 x4 (some (.int .i64 (.ofNat 8))) none none) fun x18 => 
  bV (fAd 2 x1) fun x19 => 
  bV (ld1p x19 H) fun x20 => 
  bR (f44 D n [x18, x20] H) fun x21 H => 
  bV (slArr 16 1 x4 none none none) fun x22 => 
  bV (cvBSp x22 H) fun x23 => 
  bV (some x23) fun x2_2 => bV (some (.int .i64 (.ofNat 0))) fun x3_2 => some (.ret (.tuple [x2_2, x3_2]), H)))
def h28 : Hint := (.s .o (.s (.s .o (.cl (.s .o .o) .o)) (.s .o (.s .o (.s .o (.s .o (.s .o .o)))))))
theorem f28_eq (D : Dyn) (n : Nat) : f28 D n = funKp (s28 D n) D n 28 Tryz.f28 h28 := by kernel_rfl
theorem f28_ok {D : Dyn} (hD : DP D) (n : Nat) : FP 28 (f28 D n) := fun_okP X_ok hD (SP.cons (f43_ok hD n) (SP.cons (f44_ok hD n) (SP.nil))) Tryz.func28 (by kernel_rfl) (by kernel_rfl) (f28_eq D n)

def s15 (D : Dyn) (n : Nat) : Tb := ⟨X, [(28, f28 D n)]⟩
/-- jetty/tree.Open -/
def f15 (D : Dyn) (n : Nat) (vs : List AV) (H : AH) : Option (AV × AH) :=
  outR (hd vs fun x0 vs => hd vs fun x1 vs => hd vs fun x2 vs => nl vs <|
  bA (bxV 52 x2) H fun x5 H => 
  bV (cmpO .eql (eqP x0 .nilPtr)) fun x11 => 
  cnd x11 (bV (some .nilPtr) fun x6 => bV (some (.int .i64 (.ofNat 2))) fun x7 => some (.ret (.tuple [x6, x7]), H))
  (bV (ldNp 3 x5 H) fun x13 => 
  bR (f28 D n [x13] H) fun x14 H => 
  bV (pExtract x14 0) fun x15 => 
  bV (pExtract x14 1) fun x16 => 
  bV (bInt .neq x16 (.int .i64 (.ofNat 0))) fun x18 => 
  jn (wnt x18 false (bV (fAd 0 x5) fun x20 => 
  bV (ld1p x20 H) fun x21 => 
  bV (bInt .eql x21 (.int .i64 (.ofNat 1))) fun x22 => 
  some (.norm [x22], H)) (some (.norm [undefA], H))) fun vs H => hd vs fun x22_2 vs => 
  bV (pk3 (some x18) (some (.bool true)) (some x22_2)) fun x23 => 
  cnd x23 (bV (some .nilPtr) fun x6_2 => bV (some (.int .i64 (.ofNat 1))) fun x7_2 => some (.ret (.tuple [x6_2, x7_2]), H))
  (bV (ldNp 3 x5 H) fun x26 => 
  bA (mkM [10]) H fun x27 H => 
  bV (bldSp [(0, 1), (1, 1), (2, 3), (5, 1), (6, 1), (7, 1)] [.nilPtr, .nilPtr, (.int .i64 (.ofNat 0)), (.int .i64 (.ofNat 0)), (.int .u64 (.ofNat 0)), .nilMap, (.int .u64 (.ofNat 0)), .nilSlice] [(0, x0), (1, x1), (2, x26), (3, x27)]) fun x28 => 
  bA (bxV 73 x28) H fun x29 H => 
  bV (some x29) fun x6_3 => bV (some (.int .i64 (.ofNat 0))) fun x7_3 => some (.ret (.tuple [x6_3, x7_3]), H))))
def h15 : Hint := (.s .o (.s (.s .o (.cl (.s .o .o) .o)) (.s (.s .o (.s .o (.cl (.s .o .o) .o))) (.s .o .o))))
theorem f15_eq (D : Dyn) (n : Nat) : f15 D n = funKp (s15 D n) D n 15 Tryz.f15 h15 := by kernel_rfl
theorem f15_ok {D : Dyn} (hD : DP D) (n : Nat) : FP 15 (f15 D n) := fun_okP X_ok hD (SP.cons (f28_ok hD n) (SP.nil)) Tryz.func15 (by kernel_rfl) (by kernel_rfl) (f15_eq D n)

def s6 (D : Dyn) (n : Nat) : Tb := ⟨X, [(14, f14 D n), (15, f15 D n)]⟩
/-- jetty/jettylaw21.empty -/
def f6 (D : Dyn) (n : Nat) (vs : List AV) (H : AH) : Option (AV × AH) :=
  outR (nl vs <|
  bR (f14 D n [(.int .i64 (.ofNat 64))] H) fun x5 H => 
  bV (pExtract x5 0) fun x6 => 
  bV (pExtract x5 1) fun x7 => 
  bV (bInt .neq x7 (.int .i64 (.ofNat 0))) fun x9 => 
  cnd x9 (bV (some .nilPtr) fun x0 => some (.ret x0, H))
  (bV (bldSp [(0, 1), (1, 1), (2, 1)] [(.int .i64 (.ofNat 0)), (.int .i64 (.ofNat 0)), (.int .u64 (.ofNat 0))] []) fun x12 => 
  bR (f15 D n [x6, .nilPtr, x12] H) fun x13 H => 
  bV (pExtract x13 0) fun x14 => 
  bV (pExtract x13 1) fun x15 => 
  bV (bInt .neq x15 (.int .i64 (.ofNat 0))) fun x17 => 
  cnd x17 (bV (some .nilPtr) fun x0_2 => some (.ret x0_2, H))
  (bV (some x14) fun x0_3 => some (.ret x0_3, H))))
def h6 : Hint := (.s .o (.s .o (.s (.s .o (.cl (.s .o .o) .o)) (.s .o (.s (.s .o (.cl (.s .o .o) .o)) (.s .o .o))))))
theorem f6_eq (D : Dyn) (n : Nat) : f6 D n = funKp (s6 D n) D n 6 Tryz.f6 h6 := by kernel_rfl
theorem f6_ok {D : Dyn} (hD : DP D) (n : Nat) : FP 6 (f6 D n) := fun_okP X_ok hD (SP.cons (f14_ok hD n) (SP.cons (f15_ok hD n) (SP.nil))) Tryz.func6 (by kernel_rfl) (by kernel_rfl) (f6_eq D n)

def s45 (D : Dyn) (n : Nat) : Tb := ⟨X, []⟩
/-- maps.Clone[map[uint64]jetty/node.Node,uint64,jetty/node.Node] -/
def f45 (D : Dyn) (n : Nat) (vs : List AV) (H : AH) : Option (AV × AH) :=
  outR (hd vs fun x0 vs => nl vs <|
  bV (cmpO .eql (eqM x0 .nilMap)) fun x4 => 
  cnd x4 (bV (some .nilMap) fun x2 => some (.ret x2, H))
  (none))
def h45 : Hint := (.s .o (.s (.s .o (.cl (.s .o .o) .o)) (.s .o .o)))
theorem f45_eq (D : Dyn) (n : Nat) : f45 D n = funKp (s45 D n) D n 45 Tryz.f45 h45 := by kernel_rfl
theorem f45_ok {D : Dyn} (hD : DP D) (n : Nat) : FP 45 (f45 D n) := fun_okP X_ok hD (SP.nil) Tryz.func45 (by kernel_rfl) (by kernel_rfl) (f45_eq D n)
def m45 (D : Dyn) (n : Nat) (vs : List AV) (H : AH) : Option (AV × AH) := clnK (f45 D n) vs H
theorem m45_ok {D : Dyn} (hD : DP D) (n : Nat) : FP 45 (m45 D n) := clnK_okP ⟨_, Tryz.func45, rfl⟩ (AnyW.maps_Clone Tryz.clone45) (f45_ok hD n)

def s29 (D : Dyn) (n : Nat) : Tb := ⟨X, [(45, m45 D n), (46, f46 D n)]⟩
/-- (*jetty/tree.Tree).Copy -/
def f29 (D : Dyn) (n : Nat) (vs : List AV) (H : AH) : Option (AV × AH) :=
  outR (hd vs fun x0 vs => nl vs <|
  bV (cmpO .eql (eqP x0 .nilPtr)) fun x5 => 
  cnd x5 (bV (some .nilPtr) fun x2 => some (.ret x2, H))
  (bV (pNil x0) fun x7 => 
  bV (ldNp 8 x7 H) fun x8 => 
  bA (bxV 73 (.agg [.nilPtr, .nilPtr, (.int .i64 (.ofNat 0)), (.int .i64 (.ofNat 0)), (.int .u64 (.ofNat 0)), .nilMap, (.int .u64 (.ofNat 0)), .nilSlice])) H fun x3 H => 
  bR (stNp 8 x3 x8 H) fun x9999 H => 
  bV (pNil x0) fun x10 => 
  bV (fAd 5 x10) fun x11 => 
  bV (ld1p x11 H) fun x12 => 
  bR (m45 D n [x12] H) fun x13 H => 
  bV (fAd 5 x3) fun x14 => 
  bR (stNp 1 x14 x13 H) fun x9999_2 H => 
  bV (pNil x0) fun x16 => 
  bV (fAd 7 x16) fun x17 => 
  bV (ld1p x17 H) fun x18 => 
  bR (f46 D n [x18] H) fun x19 H => 
  bV (fAd 7 x3) fun x20 => 
  bR (stNp 1 x20 x19 H) fun x9999_3 H => 
  bV (some x3) fun x2_2 => some (.ret x2_2, H)))
def h29 : Hint := (.s .o (.s (.s .o (.cl (.s .o .o) .o)) (.s .o (.s .o (.s .o (.s .o .o))))))
theorem f29_eq (D : Dyn) (n : Nat) : f29 D n = funKp (s29 D n) D n 29 Tryz.f29 h29 := by kernel_rfl
theorem f29_ok {D : Dyn} (hD : DP D) (n : Nat) : FP 29 (f29 D n) := fun_okP X_ok hD (SP.cons (m45_ok hD n) (SP.cons (f46_ok hD n) (SP.nil))) Tryz.func29 (by kernel_rfl) (by kernel_rfl) (f29_eq D n)

def s16 (D : Dyn) (n : Nat) : Tb := ⟨X, [(29, f29 D n)]⟩
def f16j0 (D : Dyn) (n : Nat) (vs : List AV) (H : AH) : Rs :=
  hd vs fun x6 vs => 
  bV (some x6) fun x4 => some (.ret x4, H)
/-- jetty/extent.whole -/
def f16 (D : Dyn) (n : Nat) (vs : List AV) (H : AH) : Option (AV × AH) :=
  outR (hd vs fun x0 vs => hd vs fun x1 vs => nl vs <|
  bR (f29 D n [x0] H) fun x8 H => 
  bR (callV (s16 D n).S D x1 [] H) fun x10 H => 
  bV (bInt .neq x10 (.int .i64 (.ofNat 0))) fun x12 => 
  jn (cnd x12 (bV (pNil x8) fun x15 => 
  bV (ldNp 8 x15 H) fun x16 => 
  bV (pNil x0) fun x17 => 
  bR (stNp 8 x17 x16 H) fun x9999 H => 
  some (.norm [x10], H))
  (some (.norm [x10], H))) (f16j0 D n))
def h16 : Hint := (.s .o (.s .o (.s .o (.s (.s .o (.c [6] .o .o)) (.s .o .o)))))
theorem f16_eq (D : Dyn) (n : Nat) : f16 D n = funKp (s16 D n) D n 16 Tryz.f16 h16 := by kernel_rfl
theorem f16_ok {D : Dyn} (hD : DP D) (n : Nat) : FP 16 (f16 D n) := fun_okP X_ok hD (SP.cons (f29_ok hD n) (SP.nil)) Tryz.func16 (by kernel_rfl) (by kernel_rfl) (f16_eq D n)

def s47 (D : Dyn) (n : Nat) : Tb := ⟨X, []⟩
def f47l0 (D : Dyn) (n : Nat) (vs : List AV) (H : AH) : Rs :=
  hd vs fun x0_2 vs => hd vs fun x1_2 vs => 
  bV (lnStr x0_2) fun x6 => 
  bV (bInt .gtr x6 (.int .i64 (.ofNat 0))) fun x7 => 
  jn (wnt x7 true (bV (lnStr x0_2) fun x11 => 
  bV (bInt .sub x11 (.int .i64 (.ofNat 1))) fun x12 => 
  bV (ixStr x0_2 x12) fun x13 => 
  bV (bInt .eql x13 x1_2) fun x15 => 
  some (.norm [x15], H)) (some (.norm [undefA], H))) fun vs H => hd vs fun x15_2 vs => 
  bV (pk3 (some x7) (some x15_2) (some (.bool false))) fun x16 => 
  cnd x16 (bV (lnStr x0_2) fun x19 => 
  bV (bInt .sub x19 (.int .i64 (.ofNat 1))) fun x20 => 
  bV (slStr x0_2 none (some x20)) fun x21 => 
  some (.norm [x21, x1_2], H))
  (some (.exit 0 [x0_2], H))
def f47b1 (D : Dyn) (n : Nat) (vs : List AV) (H : AH) : Rs :=
  hd vs fun x0_3 vs => 
  bV (some x0_3) fun x4 => some (.ret x4, H)
/-- strings.trimRightByte -/
def f47 (D : Dyn) (n : Nat) (vs : List AV) (H : AH) : Option (AV × AH) :=
  outR (hd vs fun x0 vs => hd vs fun x1 vs => nl vs <|
  jb 0 (loopK n (f47l0 D n) [x0, x1] H) (f47b1 D n))
def h47 : Hint := (.s .o (.s (.b [0] (.l [0, 1] (.s (.s .o (.cr .o .o)) (.b0 .o)))) (.s .o .o)))
theorem f47_eq (D : Dyn) (n : Nat) : f47 D n = funKp (s47 D n) D n 47 Tryz.f47 h47 := by kernel_rfl
theorem f47_ok {D : Dyn} (hD : DP D) (n : Nat) : FP 47 (f47 D n) := fun_okP X_ok hD (SP.nil) Tryz.func47 (by kernel_rfl) (by kernel_rfl) (f47_eq D n)

def s48 (D : Dyn) (n : Nat) : Tb := ⟨X, []⟩
def f48l0 (D : Dyn) (n : Nat) (vs : List AV) (H : AH) : Rs :=
  hd vs fun x0_2 vs => hd vs fun x2_2 vs => hd vs fun x4 vs => 
  bV (lnStr x0_2) fun x8 => 
  bV (bInt .lss x4 x8) fun x9 => 
  cnd x9 (bV (ixStr x0_2 x4) fun x14 => 
  bV (bInt .geq x14 (.int .u8 (.ofNat 128))) fun x16 => 
  cnd x16 (bV (ldNp 256 x2_2 H) fun x17 => 
  bR (stNp 256 x2_2 x17 H) fun x9999 H => 
  bV (ldNp 256 x2_2 H) fun x9002 => bV (some (.bool false)) fun x3 => some (.ret (.tuple [x9002, x3]), H))
  (bV (ixArr 256 1 x2_2 x14) fun x19 => 
  bR (stNp 1 x19 (.bool true) H) fun x9999_2 H => 
  bV (bInt .add x4 (.int .i64 (.ofNat 1))) fun x11 => 
  some (.norm [x0_2, x2_2, x11], H)))
  (some (.exit 0 [x2_2], H))
def f48b1 (D : Dyn) (n : Nat) (vs : List AV) (H : AH) : Rs :=
  hd vs fun x2_3 vs => 
  bV (ldNp 256 x2_3 H) fun x20 => 
  bR (stNp 256 x2_3 x20 H) fun x9999_3 H => 
  bV (ldNp 256 x2_3 H) fun x9002_2 => bV (some (.bool true)) fun x3_2 => some (.ret (.tuple [x9002_2, x3_2]), H)
/-- strings.makeASCIISet -/
def f48 (D : Dyn) (n : Nat) (vs : List AV) (H : AH) : Option (AV × AH) :=
  outR (hd vs fun x0 vs => nl vs <|
  bA (bxV 109 (.agg (rep 256 [(.bool false)]))) H fun x2 H => 
  jb 0 (loopK n (f48l0 D n) [x0, x2, (.int .i64 (.ofNat 0))] H) (f48b1 D n))
def h48 : Hint := (.s .o (.s (.s .o (.b [2] (.l [0, 2, 4] (.s (.s .o (.cr .o .o)) (.s (.b0 (.s .o (.s (.s .o (.cl (.s .o .o) .o)) .o))) .o))))) (.s .o .o)))
theorem f48_eq (D : Dyn) (n : Nat) : f48 D n = funKp (s48 D n) D n 48 Tryz.f48 h48 := by kernel_rfl
theorem f48_ok {D : Dyn} (hD : DP D) (n : Nat) : FP 48 (f48 D n) := fun_okP X_ok hD (SP.nil) Tryz.func48 (by kernel_rfl) (by kernel_rfl) (f48_eq D n)

def s68 (D : Dyn) (n : Nat) : Tb := ⟨X, []⟩
/-- (*strings.asciiSet).contains -/
def f68 (D : Dyn) (n : Nat) (vs : List AV) (H : AH) : Option (AV × AH) :=
  outR (hd vs fun x0 vs => hd vs fun x1 vs => nl vs <|
  bV (pNil x0) fun x7 => 
  bV (ixArr 256 1 x7 x1) fun x8 => 
  bV (ld1p x8 H) fun x9 => 
  bV (some x9) fun x4 => some (.ret x4, H))
def h68 : Hint := (.s .o (.s .o .o))
theorem f68_eq (D : Dyn) (n : Nat) : f68 D n = funKp (s68 D n) D n 68 Tryz.f68 h68 := by kernel_rfl
theorem f68_ok {D : Dyn} (hD : DP D) (n : Nat) : FP 68 (f68 D n) := fun_okP X_ok hD (SP.nil) Tryz.func68 (by kernel_rfl) (by kernel_rfl) (f68_eq D n)

def s49 (D : Dyn) (n : Nat) : Tb := ⟨X, [(68, f68 D n)]⟩
def f49l0 (D : Dyn) (n : Nat) (vs : List AV) (H : AH) : Rs :=
  hd vs fun x0_2 vs => hd vs fun x1_2 vs => 
  bV (lnStr x0_2) fun x6 => 
  bV (bInt .gtr x6 (.int .i64 (.ofNat 0))) fun x7 => 
  cnd x7 (bV (lnStr x0_2) fun x11 => 
  bV (bInt .sub x11 (.int .i64 (.ofNat 1))) fun x12 => 
  bV (ixStr x0_2 x12) fun x13 => 
  bR (f68 D n [x1_2, x13] H) fun x14 H => 
  bV (aun .not x14) fun x15 => 
  cnd x15 (some (.exit 0 [x0_2], H))
  (bV (lnStr x0_2) fun x18 => 
  bV (bInt .sub x18 (.int .i64 (.ofNat 1))) fun x19 => 
  bV (slStr x0_2 none (some x19)) fun x20 => 
  some (.norm [x20, x1_2], H)))
  (some (.exit 0 [x0_2], H))
def f49b1 (D : Dyn) (n : Nat) (vs : List AV) (H : AH) : Rs :=
  hd vs fun x0_3 vs => 
  bV (some x0_3) fun x4 => some (.ret x4, H)
/-- strings.trimRightASCII -/
def f49 (D : Dyn) (n : Nat) (vs : List AV) (H : AH) : Option (AV × AH) :=
  outR (hd vs fun x0 vs => hd vs fun x1 vs => nl vs <|
  jb 0 (loopK n (f49l0 D n) [x0, x1] H) (f49b1 D n))
def h49 : Hint := (.s .o (.s (.b [0] (.l [0, 1] (.s (.s .o (.cr .o .o)) (.b0 (.s (.s .o (.cl .o .o)) .o))))) (.s .o .o)))
theorem f49_eq (D : Dyn) (n : Nat) : f49 D n = funKp (s49 D n) D n 49 Tryz.f49 h49 := by kernel_rfl
theorem f49_ok {D : Dyn} (hD : DP D) (n : Nat) : FP 49 (f49 D n) := fun_okP X_ok hD (SP.cons (f68_ok hD n) (SP.nil)) Tryz.func49 (by kernel_rfl) (by kernel_rfl) (f49_eq D n)

def s92 (D : Dyn) (n : Nat) : Tb := ⟨X, []⟩
/-- unicode/utf8.RuneStart -/
def f92 (D : Dyn) (n : Nat) (vs : List AV) (H : AH) : Option (AV × AH) :=
  outR (hd vs fun x0 vs => nl vs <|
  bV (bInt .and x0 (.int .u8 (.ofNat 192))) fun x4 => 
  bV (bInt .neq x4 (.int .u8 (.ofNat 128))) fun x5 => 
  bV (some x5) fun x2 => some (.ret x2, H))
def h92 : Hint := (.s .o (.s .o .o))
theorem f92_eq (D : Dyn) (n : Nat) : f92 D n = funKp (s92 D n) D n 92 Tryz.f92 h92 := by kernel_rfl
theorem f92_ok {D : Dyn} (hD : DP D) (n : Nat) : FP 92 (f92 D n) := fun_okP X_ok hD (SP.nil) Tryz.func92 (by kernel_rfl) (by kernel_rfl) (f92_eq D n)

def s108 (D : Dyn) (n : Nat) : Tb := ⟨X, []⟩
/-- unicode/utf8.decodeRuneInStringSlow -/
def f108 (D : Dyn) (n : Nat) (vs : List AV) (H : AH) : Option (AV × AH) :=
  outR (hd vs fun x0 vs => nl vs <|
  bV (lnStr x0) fun x14 => 
  bV (bInt .lss x14 (.int .i64 (.ofNat 1))) fun x16 => 
  cnd x16 (bV (some (.int .i32 (.ofNat 65533))) fun x2 => bV (some (.int .i64 (.ofNat 0))) fun x3 => some (.ret (.tuple [x2, x3]), H))
  (bV (ixStr x0 (.int .i64 (.ofNat 0))) fun x18 => 
  none))
def h108 : Hint := (.s .o (.s .o (.s (.s .o (.cl (.s .o .o) .o)) (.s .o (.s .o (.s (.s .o (.cl (.s .o (.s .o .o)) .o)) (.s .o (.s .o (.s (.s .o (.cl (.s .o .o) .o)) (.s .o (.s (.s .o (.cl (.s .o .o) .o)) (.s (.s .o (.cl (.s .o .o) .o)) (.s .o (.s (.s .o (.cl (.s .o .o) .o)) (.s (.s .o (.cl (.s .o .o) .o)) (.s .o (.s (.s .o (.cl (.s .o .o) .o)) (.s .o .o))))))))))))))))))
theorem f108_eq (D : Dyn) (n : Nat) : f108 D n = funKp (s108 D n) D n 108 Tryz.f108 h108 := by kernel_rfl
theorem f108_ok {D : Dyn} (hD : DP D) (n : Nat) : FP 108 (f108 D n) := fun_okP X_ok hD (SP.nil) Tryz.func108 (by kernel_rfl) (by kernel_rfl) (f108_eq D n)

def s93 (D : Dyn) (n : Nat) : Tb := ⟨X, [(108, f108 D n)]⟩
/-- unicode/utf8.DecodeRuneInString -/
def f93 (D : Dyn) (n : Nat) (vs : List AV) (H : AH) : Option (AV × AH) :=
  outR (hd vs fun x0 vs => nl vs <|
  bV (bStr .neq x0 (.str 0 0)) fun x5 => 
  jn (wnt x5 true (bV (ixStr x0 (.int .i64 (.ofNat 0))) fun x8 => 
  bV (bInt .lss x8 (.int .u8 (.ofNat 128))) fun x9 => 
  some (.norm [x9], H)) (some (.norm [undefA], H))) fun vs H => hd vs fun x9_2 vs => 
  bV (pk3 (some x5) (some x9_2) (some (.bool false))) fun x10 => 
  cnd x10 (bV (ixStr x0 (.int .i64 (.ofNat 0))) fun x12 => 
  bV (cvI .i32 x12) fun x13 => 
  bV (some x13) fun x2 => bV (some (.int .i64 (.ofNat 1))) fun x3 => some (.ret (.tuple [x2, x3]), H))
  (bR (f108 D n [x0] H) fun x16 H => 
  bV (pExtract x16 0) fun x17 => 
  bV (pExtract x16 1) fun x18 => 
  bV (some x17) fun x2_2 => bV (some x18) fun x3_2 => some (.ret (.tuple [x2_2, x3_2]), H)))
def h93 : Hint := (.s .o (.s (.s .o (.cl (.s .o .o) .o)) .o))
theorem f93_eq (D : Dyn) (n : Nat) : f93 D n = funKp (s93 D n) D n 93 Tryz.f93 h93 := by kernel_rfl
theorem f93_ok {D : Dyn} (hD : DP D) (n : Nat) : FP 93 (f93 D n) := fun_okP X_ok hD (SP.cons (f108_ok hD n) (SP.nil)) Tryz.func93 (by kernel_rfl) (by kernel_rfl) (f93_eq D n)

def s69 (D : Dyn) (n : Nat) : Tb := ⟨X, [(92, f92 D n), (93, f93 D n)]⟩
def f69l0 (D : Dyn) (n : Nat) (vs : List AV) (H : AH) : Rs :=
  hd vs fun x0_2 vs => hd vs fun x4 vs => hd vs fun x5 vs => hd vs fun x6 vs => 
  bV (bInt .geq x5 x6) fun x27 => 
  cnd x27 (bV (ixStr x0_2 x5) fun x32 => 
  bR (f92 D n [x32] H) fun x33 H => 
  cnd x33 (some (.exit 0 [x0_2, x4, x5], H))
  (bV (bInt .sub x5 (.int .i64 (.ofNat 1))) fun x29 => 
  some (.norm [x0_2, x4, x29, x6], H)))
  (some (.exit 0 [x0_2, x4, x5], H))
def f69j1 (D : Dyn) (n : Nat) (vs : List AV) (H : AH) : Rs :=
  hd vs fun x0_4 vs => hd vs fun x4_3 vs => hd vs fun x5_3 vs => 
  bV (slStr x0_4 (some x5_3) (some x4_3)) fun x40 => 
  bR (f93 D n [x40] H) fun x41 H => 
  bV (pExtract x41 0) fun x42 => 
  bV (pExtract x41 1) fun x43 => 
  bV (bInt .add x5_3 x43) fun x46 => 
  bV (bInt .neq x46 x4_3) fun x48 => 
  cnd x48 (bV (some (.int .i32 (.ofNat 65533))) fun x2_3 => bV (some (.int .i64 (.ofNat 1))) fun x3_3 => some (.ret (.tuple [x2_3, x3_3]), H))
  (bV (some x42) fun x2_4 => bV (some x43) fun x3_4 => some (.ret (.tuple [x2_4, x3_4]), H))
def f69b2 (D : Dyn) (n : Nat) (vs : List AV) (H : AH) : Rs :=
  hd vs fun x0_3 vs => hd vs fun x4_2 vs => hd vs fun x5_2 vs => 
  bV (bInt .lss x5_2 (.int .i64 (.ofNat 0))) fun x35 => 
  jn (cnd x35 (some (.norm [x0_3, x4_2, (.int .i64 (.ofNat 0))], H))
  (some (.norm [x0_3, x4_2, x5_2], H))) (f69j1 D n)
/-- unicode/utf8.DecodeLastRuneInString -/
def f69 (D : Dyn) (n : Nat) (vs : List AV) (H : AH) : Option (AV × AH) :=
  outR (hd vs fun x0 vs => nl vs <|
  bV (lnStr x0) fun x8 => 
  bV (bInt .eql x8 (.int .i64 (.ofNat 0))) fun x10 => 
  cnd x10 (bV (some (.int .i32 (.ofNat 65533))) fun x2 => bV (some (.int .i64 (.ofNat 0))) fun x3 => some (.ret (.tuple [x2, x3]), H))
  (bV (bInt .sub x8 (.int .i64 (.ofNat 1))) fun x12 => 
  bV (ixStr x0 x12) fun x15 => 
  bV (cvI .i32 x15) fun x16 => 
  bV (bInt .lss x16 (.int .i32 (.ofNat 128))) fun x18 => 
  cnd x18 (bV (some x16) fun x2_2 => bV (some (.int .i64 (.ofNat 1))) fun x3_2 => some (.ret (.tuple [x2_2, x3_2]), H))
  (bV (bInt .sub x8 (.int .i64 (.ofNat 4))) fun x21 => 
  bV (mx2 x21 (.int .i64 (.ofNat 0))) fun x22 => 
  bV (bInt .sub x12 (.int .i64 (.ofNat 1))) fun x24 => 
  jb 0 (loopK n (f69l0 D n) [x0, x8, x24, x22] H) (f69b2 D n))))
def h69 : Hint := (.s .o (.s .o (.s (.s .o (.cl (.s .o .o) .o)) (.s .o (.s .o (.s (.s .o (.cl (.s .o .o) .o)) (.s .o (.s (.s .o (.b [0, 4, 5] (.l [0, 4, 5, 6] (.s (.s .o (.cr .o .o)) (.s (.b0 (.s .o (.cl .o .o))) .o))))) (.s (.s .o (.c [0, 4, 5] .o .o)) (.s .o (.s (.s .o (.cl (.s .o .o) .o)) (.s .o .o))))))))))))
theorem f69_eq (D : Dyn) (n : Nat) : f69 D n = funKp (s69 D n) D n 69 Tryz.f69 h69 := by kernel_rfl
theorem f69_ok {D : Dyn} (hD : DP D) (n : Nat) : FP 69 (f69 D n) := fun_okP X_ok hD (SP.cons (f92_ok hD n) (SP.cons (f93_ok hD n) (SP.nil))) Tryz.func69 (by kernel_rfl) (by kernel_rfl) (f69_eq D n)

def s124 (D : Dyn) (n : Nat) : Tb := ⟨X, []⟩
/-- internal/stringslite.IndexByte -/
def f124 (D : Dyn) (n : Nat) (vs : List AV) (H : AH) : Option (AV × AH) :=
  outR (hd vs fun x0 vs => hd vs fun x1 vs => nl vs <|
  bR (D.fn 129 [x0, x1] H) fun x7 H => 
  bV (some x7) fun x4 => some (.ret x4, H))
def h124 : Hint := (.s .o (.s .o .o))
theorem f124_eq (D : Dyn) (n : Nat) : f124 D n = funKp (s124 D n) D n 124 Tryz.f124 h124 := by kernel_rfl
theorem f124_ok {D : Dyn} (hD : DP D) (n : Nat) : FP 124 (f124 D n) := fun_okP X_ok hD (SP.nil) Tryz.func124 (by kernel_rfl) (by kernel_rfl) (f124_eq D n)

def s109 (D : Dyn) (n : Nat) : Tb := ⟨X, [(124, f124 D n)]⟩
/-- strings.IndexByte -/
def f109 (D : Dyn) (n : Nat) (vs : List AV) (H : AH) : Option (AV × AH) :=
  outR (hd vs fun x0 vs => hd vs fun x1 vs => nl vs <|
  bR (f124 D n [x0, x1] H) fun x7 H => 
  bV (some x7) fun x4 => some (.ret x4, H))
def h109 : Hint := (.s .o (.s .o .o))
theorem f109_eq (D : Dyn) (n : Nat) : f109 D n = funKp (s109 D n) D n 109 Tryz.f109 h109 := by kernel_rfl
theorem f109_ok {D : Dyn} (hD : DP D) (n : Nat) : FP 109 (f109 D n) := fun_okP X_ok hD (SP.cons (f124_ok hD n) (SP.nil)) Tryz.func109 (by kernel_rfl) (by kernel_rfl) (f109_eq D n)

def s110 (D : Dyn) (n : Nat) : Tb := ⟨X, []⟩
/-- unicode/utf8.ValidRune -/
def f110 (D : Dyn) (n : Nat) (vs : List AV) (H : AH) : Option (AV × AH) :=
  outR (hd vs fun x0 vs => nl vs <|
  bV (bInt .leq (.int .i32 (.ofNat 0)) x0) fun x5 => 
  jn (wnt x5 true (bV (bInt .lss x0 (.int .i32 (.ofNat 55296))) fun x8 => 
  some (.norm [x8], H)) (some (.norm [undefA], H))) fun vs H => hd vs fun x8_2 vs => 
  bV (pk3 (some x5) (some x8_2) (some (.bool false))) fun x9 => 
  cnd x9 (bV (some (.bool true)) fun x2 => some (.ret x2, H))
  (bV (bInt .lss (.int .i32 (.ofNat 57343)) x0) fun x12 => 
  jn (wnt x12 true (bV (bInt .leq x0 (.int .i32 (.ofNat 1114111))) fun x15 => 
  some (.norm [x15], H)) (some (.norm [undefA], H))) fun vs H => hd vs fun x15_2 vs => 
  bV (pk3 (some x12) (some x15_2) (some (.bool false))) fun x16 => 
  cnd x16 (bV (some (.bool true)) fun x2_2 => some (.ret x2_2, H))
  (bV (some (.bool false)) fun x2_3 => some (.ret x2_3, H))))
def h110 : Hint := (.s .o (.s (.b0 (.s .o (.cl (.s .o .o) (.s .o (.cl (.s .o .o) .o))))) (.s .o .o)))
theorem f110_eq (D : Dyn) (n : Nat) : f110 D n = funKp (s110 D n) D n 110 Tryz.f110 h110 := by kernel_rfl
theorem f110_ok {D : Dyn} (hD : DP D) (n : Nat) : FP 110 (f110 D n) := fun_okP X_ok hD (SP.nil) Tryz.func110 (by kernel_rfl) (by kernel_rfl) (f110_eq D n)

def s111 (D : Dyn) (n : Nat) : Tb := ⟨X, []⟩
/-- internal/bytealg.Cutover -/
def f111 (D : Dyn) (n : Nat) (vs : List AV) (H : AH) : Option (AV × AH) :=
  outR (hd vs fun x0 vs => nl vs <|
  bV (bInt .add x0 (.int .i64 (.ofNat 16))) fun x4 => 
  bV (bInt .quo x4 (.int .i64 (.ofNat 8))) fun x5 => 
  bV (some x5) fun x2 => some (.ret x2, H))
def h111 : Hint := (.s .o (.s .o .o))
theorem f111_eq (D : Dyn) (n : Nat) : f111 D n = funKp (s111 D n) D n 111 Tryz.f111 h111 := by kernel_rfl
theorem f111_ok {D : Dyn} (hD : DP D) (n : Nat) : FP 111 (f111 D n) := fun_okP X_ok hD (SP.nil) Tryz.func111 (by kernel_rfl) (by kernel_rfl) (f111_eq D n)

def s70 (D : Dyn) (n : Nat) : Tb := ⟨X, []⟩
/-- strings.ContainsRune -/
def f70 (D : Dyn) (n : Nat) (vs : List AV) (H : AH) : Option (AV × AH) :=
  outR (hd vs fun x0 vs => hd vs fun x1 vs => nl vs <|
  bR (D.fn 94 [x0, x1] H) fun x7 H => 
  bV (bInt .geq x7 (.int .i64 (.ofNat 0))) fun x8 => 
  bV (some x8) fun x4 => some (.ret x4, H))
def h70 : Hint := (.s .o (.s .o .o))
theorem f70_eq (D : Dyn) (n : Nat) : f70 D n = funKp (s70 D n) D n 70 Tryz.f70 h70 := by kernel_rfl
theorem f70_ok {D : Dyn} (hD : DP D) (n : Nat) : FP 70 (f70 D n) := fun_okP X_ok hD (SP.nil) Tryz.func70 (by kernel_rfl) (by kernel_rfl) (f70_eq D n)

def s50 (D : Dyn) (n : Nat) : Tb := ⟨X, [(69, f69 D n), (70, f70 D n)]⟩
def f50j0 (D : Dyn) (n : Nat) (vs : List AV) (H : AH) : Rs :=
  hd vs fun x0_3 vs => hd vs fun x1_3 vs => hd vs fun x5 vs => hd vs fun x6 vs => 
  bR (f70 D n [x1_3, x5] H) fun x25 H => 
  bV (aun .not x25) fun x26 => 
  cnd x26 (some (.exit 0 [x0_3], H))
  (bV (lnStr x0_3) fun x29 => 
  bV (bInt .sub x29 x6) fun x31 => 
  bV (slStr x0_3 none (some x31)) fun x32 => 
  some (.norm [x32, x1_3], H))
def f50l1 (D : Dyn) (n : Nat) (vs : List AV) (H : AH) : Rs :=
  hd vs fun x0_2 vs => hd vs fun x1_2 vs => 
  bV (lnStr x0_2) fun x8 => 
  bV (bInt .gtr x8 (.int .i64 (.ofNat 0))) fun x9 => 
  cnd x9 (bV (lnStr x0_2) fun x12 => 
  bV (bInt .sub x12 (.int .i64 (.ofNat 1))) fun x13 => 
  bV (ixStr x0_2 x13) fun x14 => 
  bV (cvI .i32 x14) fun x15 => 
  bV (bInt .geq x15 (.int .i32 (.ofNat 128))) fun x17 => 
  jn (cnd x17 (bR (f69 D n [x0_2] H) fun x20 H => 
  bV (pExtract x20 0) fun x21 => 
  bV (pExtract x20 1) fun x22 => 
  some (.norm [x0_2, x1_2, x21, x22], H))
  (some (.norm [x0_2, x1_2, x15, (.int .i64 (.ofNat 1))], H))) (f50j0 D n))
  (some (.exit 0 [x0_2], H))
def f50b2 (D : Dyn) (n : Nat) (vs : List AV) (H : AH) : Rs :=
  hd vs fun x0_4 vs => 
  bV (some x0_4) fun x4 => some (.ret x4, H)
/-- strings.trimRightUnicode -/
def f50 (D : Dyn) (n : Nat) (vs : List AV) (H : AH) : Option (AV × AH) :=
  outR (hd vs fun x0 vs => hd vs fun x1 vs => nl vs <|
  jb 0 (loopK n (f50l1 D n) [x0, x1] H) (f50b2 D n))
def h50 : Hint := (.s .o (.s (.b [0] (.l [0, 1] (.s (.s .o (.cr .o .o)) (.b0 (.s .o (.s (.s .o (.c [0, 1, 5, 6] .o .o)) (.s (.s .o (.cl .o .o)) .o))))))) (.s .o .o)))
theorem f50_eq (D : Dyn) (n : Nat) : f50 D n = funKp (s50 D n) D n 50 Tryz.f50 h50 := by kernel_rfl
theorem f50_ok {D : Dyn} (hD : DP D) (n : Nat) : FP 50 (f50 D n) := fun_okP X_ok hD (SP.cons (f69_ok hD n) (SP.cons (f70_ok hD n) (SP.nil))) Tryz.func50 (by kernel_rfl) (by kernel_rfl) (f50_eq D n)

def s30 (D : Dyn) (n : Nat) : Tb := ⟨X, [(47, f47 D n), (48, f48 D n), (49, f49 D n), (50, f50 D n)]⟩
/-- strings.TrimRight -/
def f30 (D : Dyn) (n : Nat) (vs : List AV) (H : AH) : Option (AV × AH) :=
  outR (hd vs fun x0 vs => hd vs fun x1 vs => nl vs <|
  bV (bStr .eql x0 (.str 0 0)) fun x8 => 
  jn (wnt x8 false (bV (bStr .eql x1 (.str 0 0)) fun x11 => 
  some (.norm [x11], H)) (some (.norm [undefA], H))) fun vs H => hd vs fun x11_2 vs => 
  bV (pk3 (some x8) (some (.bool true)) (some x11_2)) fun x12 => 
  cnd x12 (bV (some x0) fun x4 => some (.ret x4, H))
  (bV (lnStr x1) fun x15 => 
  bV (bInt .eql x15 (.int .i64 (.ofNat 1))) fun x16 => 
  jn (wnt x16 true (bV (ixStr x1 (.int .i64 (.ofNat 0))) fun x19 => 
  bV (bInt .lss x19 (.int .u8 (.ofNat 128))) fun x20 => 
  some (.norm [x20], H)) (some (.norm [undefA], H))) fun vs H => hd vs fun x20_2 vs => 
  bV (pk3 (some x16) (some x20_2) (some (.bool false))) fun x21 => 
  cnd x21 (bV (ixStr x1 (.int .i64 (.ofNat 0))) fun x24 => 
  bR (f47 D n [x0, x24] H) fun x25 H => 
  bV (some x25) fun x4_2 => some (.ret x4_2, H))
  (bR (f48 D n [x1] H) fun x28 H => 
  bV (pExtract x28 0) fun x29 => 
  bV (pExtract x28 1) fun x30 => 
  bA (bxV 109 (.agg (rep 256 [(.bool false)]))) H fun x5 H => 
  bR (stNp 256 x5 x29 H) fun x9999 H => 
  cnd x30 (bR (f49 D n [x0, x5] H) fun x33 H => 
  bV (some x33) fun x4_3 => some (.ret x4_3, H))
  (bR (f50 D n [x0, x1] H) fun x36 H => 
  bV (some x36) fun x4_4 => some (.ret x4_4, H)))))
def h30 : Hint := (.s .o (.s (.s .o (.cl (.s .o .o) .o)) (.s (.s .o (.cl (.s .o .o) .o)) (.s (.s .o (.s .o (.cl (.s .o .o) .o))) (.s .o .o)))))
theorem f30_eq (D : Dyn) (n : Nat) : f30 D n = funKp (s30 D n) D n 30 Tryz.f30 h30 := by kernel_rfl
theorem f30_ok {D : Dyn} (hD : DP D) (n : Nat) : FP 30 (f30 D n) := fun_okP X_ok hD (SP.cons (f47_ok hD n) (SP.cons (f48_ok hD n) (SP.cons (f49_ok hD n) (SP.cons (f50_ok hD n) (SP.nil))))) Tryz.func30 (by kernel_rfl) (by kernel_rfl) (f30_eq D n)

def s54 (D : Dyn) (n : Nat) : Tb := ⟨X, []⟩
/-- (*jetty/tree.change).add -/
def f54 (D : Dyn) (n : Nat) (vs : List AV) (H : AH) : Option (AV × AH) :=
  outR (hd vs fun x0 vs => hd vs fun x1 vs => nl vs <|
  bA (bxV 80 x1) H fun x3 H => 
  bA (bxV 52 (.agg [(.int .i64 (.ofNat 0)), (.int .i64 (.ofNat 0)), (.int .u64 (.ofNat 0))])) H fun x4 H => 
  bV (pNil x0) fun x6 => 
  bV (fAd 1 x6) fun x7 => 
  bV (ld1p x7 H) fun x8 => 
  bV (bInt .add x8 (.int .u64 (.ofNat 1))) fun x9 => 
  bV (pNil x0) fun x10 => 
  bV (fAd 1 x10) fun x11 => 
  bR (stNp 1 x11 x9 H) fun x9999 H => 
  bV (pNil x0) fun x13 => 
  bV (fAd 2 x13) fun x14 => 
  bV (ld1p x14 H) fun x15 => 
  bV (pNil x0) fun x17 => 
  bV (fAd 1 x17) fun x18 => 
  bV (ld1p x18 H) fun x19 => 
  bV (ldNp 4 x3 H) fun x20 => 
  bR (upM [10] x15 x19 x20 H) fun x9999_2 H => 
  bV (pNil x0) fun x22 => 
  bV (fAd 1 x22) fun x23 => 
  bV (ld1p x23 H) fun x24 => 
  bV (bldSp [(0, 1), (1, 1), (2, 1)] [(.int .i64 (.ofNat 0)), (.int .i64 (.ofNat 0)), (.int .u64 (.ofNat 0))] [(0, (.int .i64 (.ofNat 1))), (2, x24)]) fun x25 => 
  bR (stNp 3 x4 x25 H) fun x9999_3 H => 
  bV (ldNp 3 x4 H) fun x9004 => some (.ret x9004, H))
def h54 : Hint := (.s .o (.s .o (.s .o (.s .o .o))))
theorem f54_eq (D : Dyn) (n : Nat) : f54 D n = funKp (s54 D n) D n 54 Tryz.f54 h54 := by kernel_rfl
theorem f54_ok {D : Dyn} (hD : DP D) (n : Nat) : FP 54 (f54 D n) := fun_okP X_ok hD (SP.nil) Tryz.func54 (by kernel_rfl) (by kernel_rfl) (f54_eq D n)

def s53 (D : Dyn) (n : Nat) : Tb := ⟨X, []⟩
def f53j0 (D : Dyn) (n : Nat) (vs : List AV) (H : AH) : Rs :=
  hd vs fun x0_3 vs => hd vs fun x3_3 vs => hd vs fun x4_2 vs => hd vs fun x16_3 vs => hd vs fun x17_3 vs => hd vs fun x18_2 vs => 
  bV (bInt .add x18_2 (.int .i64 (.ofNat 1))) fun x41 => 
  some (.norm [x0_3, x3_3, x4_2, x16_3, x17_3, x41], H)
def f53l1 (D : Dyn) (n : Nat) (vs : List AV) (H : AH) : Rs :=
  hd vs fun x0_2 vs => hd vs fun x3_2 vs => hd vs fun x4 vs => hd vs fun x16_2 vs => hd vs fun x17_2 vs => hd vs fun x18 vs => 
  bV (bInt .lss x18 x17_2) fun x19 => 
  cnd x19 (bV (ixSl 3 x16_2 x18) fun x20 => 
  bV (ldNp 3 x20 H) fun x21 => 
  bA (bxV 52 (.agg [(.int .i64 (.ofNat 0)), (.int .i64 (.ofNat 0)), (.int .u64 (.ofNat 0))])) H fun x6 H => 
  bR (stNp 3 x6 x21 H) fun x9999 H => 
  bV (fAd 0 x6) fun x22 => 
  bV (ld1p x22 H) fun x23 => 
  bV (bInt .eql x23 (.int .i64 (.ofNat 1))) fun x24 => 
  jn (cnd x24 (bV (pNil x4) fun x26 => 
  bV (fAd 5 x26) fun x27 => 
  bV (ld1p x27 H) fun x28 => 
  bV (fAd 2 x6) fun x29 => 
  bV (ld1p x29 H) fun x30 => 
  bR (dlM [10] x28 x30 H) fun x9999_2 H => 
  some (.norm [x0_2, x3_2, x4, x16_2, x17_2, x18], H))
  (bV (pNil x4) fun x33 => 
  bV (fAd 7 x33) fun x34 => 
  bV (ld1p x34 H) fun x35 => 
  bV (ldNp 3 x6 H) fun x36 => 
  bA (bldLp 52 3 1 [(.int .i64 (.ofNat 0)), (.int .i64 (.ofNat 0)), (.int .u64 (.ofNat 0))] [(0, x36)]) H fun x37 H => 
  bR (apPp 52 3 24 x35 x37 H) fun x38 H => 
  bV (pNil x4) fun x39 => 
  bV (fAd 7 x39) fun x40 => 
  bR (stNp 1 x40 x38 H) fun x9999_3 H => 
  some (.norm [x0_2, x3_2, x4, x16_2, x17_2, x18], H))) (f53j0 D n))
  (some (.exit 0 [x0_2, x3_2, x4], H))
def f53b2 (D : Dyn) (n : Nat) (vs : List AV) (H : AH) : Rs :=
  hd vs fun x0_4 vs => hd vs fun x3_4 vs => hd vs fun x4_3 vs => 
  tld (mtp53_0 [x0_4, x3_4, x4_3] H) H.next fun H => 
  bV (pNil x0_4) fun x60 => 
  bV (fAd 1 x60) fun x61 => 
  bV (ld1p x61 H) fun x62 => 
  bV (pNil x4_3) fun x63 => 
  bV (fAd 6 x63) fun x64 => 
  bR (stNp 1 x64 x62 H) fun x9999_4 H => 
  bV (ldNp 3 x3_4 H) fun x66 => 
  bV (pNil x4_3) fun x67 => 
  bV (fAd 2 x67) fun x68 => 
  bR (stNp 3 x68 x66 H) fun x9999_5 H => 
  some (.ret (.tuple []), H)
/-- (*jetty/tree.change).done -/
def f53 (D : Dyn) (n : Nat) (vs : List AV) (H : AH) : Option (AV × AH) :=
  outR (hd vs fun x0 vs => hd vs fun x1 vs => nl vs <|
  bA (bxV 52 x1) H fun x3 H => 
  bV (pNil x0) fun x10 => 
  bV (fAd 0 x10) fun x11 => 
  bV (ld1p x11 H) fun x12 => 
  bV (pNil x0) fun x14 => 
  bV (fAd 3 x14) fun x15 => 
  bV (ld1p x15 H) fun x16 => 
  bV (lnSl x16) fun x17 => 
  jb 0 (loopK n (f53l1 D n) [x0, x3, x12, x16, x17, (.int .i64 (.ofNat 0))] H) (f53b2 D n))
def h53 : Hint := (.s .o (.s .o (.s (.s .o (.b [0, 3, 4] (.l [0, 3, 4, 16, 17, 18] (.s .o (.s (.cr .o .o) (.s (.b0 (.s .o (.s .o (.c [0, 3, 4, 16, 17, 18] .o .o)))) .o)))))) (.s (.t [0, 3, 4] mtp53_0) (.s .o .o)))))
def ho53 : Hint := (.s .o (.s .o (.s (.s .o (.b [0, 3, 4] (.l [0, 3, 4, 16, 17, 18] (.s .o (.s (.cr .o .o) (.s (.b0 (.s .o (.s .o (.c [0, 3, 4, 16, 17, 18] .o .o)))) .o)))))) (.s (.t [0, 3, 4] mt53_0) (.s .o .o)))))
theorem f53_eq (D : Dyn) (n : Nat) : f53 D n = funKp (s53 D n) D n 53 Tryz.f53 h53 := by kernel_rfl
theorem f53_tolds : toldsF Tryz.f53 ho53 = [(q53_0.code, [0, 3, 4], mt53_0)] := by kernel_rfl
theorem f53_told : ∀ x ∈ toldsF Tryz.f53 ho53, ToldOk PP Tryz.f53.ntmps 53 x.1 x.2.1 x.2.2 := by
  rw [f53_tolds]; intro x hx
  simp only [List.mem_cons, List.not_mem_nil, or_false] at hx
  subst hx; exact told53_0
theorem f53_hs : HS h53 ho53 := by
  unfold h53 ho53
  repeat (first | exact HS.t mtp53_0_sim | constructor)
theorem f53_ok {D : Dyn} (hD : DP D) (n : Nat) : FP 53 (f53 D n) := fun_okPT X_ok hD (SP.nil) Tryz.func53 (sitesT_ok (by kernel_rfl) f53_told) f53_hs (f53_eq D n)

def s114 (D : Dyn) (n : Nat) : Tb := ⟨X, [(74, f74 D n)]⟩
def f114j0 (D : Dyn) (n : Nat) (vs : List AV) (H : AH) : Rs :=
  hd vs fun x1_4 vs => hd vs fun x3_3 vs => hd vs fun x4_3 vs => hd vs fun x5_3 vs => hd vs fun x6 vs => hd vs fun x20_2 vs => hd vs fun x21_2 vs => 
  bV (bInt .gtr x6 (.int .i64 (.ofNat 0))) fun x47 => 
  jn (wnt x47 true (bV (bInt .gtr x5_3 x3_3) fun x51 => 
  some (.norm [x51], H)) (some (.norm [undefA], H))) fun vs H => hd vs fun x51_2 vs => 
  bV (pk3 (some x47) (some x51_2) (some (.bool false))) fun x52 => 
  cnd x52 (bV (some x6) fun x2 => some (.ret x2, H))
  (bV (bInt .add x21_2 (.int .i64 (.ofNat 1))) fun x54 => 
  some (.norm [x1_4, x3_3, x4_3, x5_3, x20_2, x54], H))
def f114l1 (D : Dyn) (n : Nat) (vs : List AV) (H : AH) : Rs :=
  hd vs fun x1_3 vs => hd vs fun x3_2 vs => hd vs fun x4_2 vs => hd vs fun x5_2 vs => hd vs fun x20 vs => hd vs fun x21 vs => 
  bV (bInt .lss x21 x20) fun x22 => 
  cnd x22 (bV (fAd 1 x1_3) fun x25 => 
  bV (ld1p x25 H) fun x26 => 
  bV (ixSl 1 x26 x21) fun x28 => 
  bV (ld1p x28 H) fun x29 => 
  bV (lnStr x29) fun x30 => 
  bV (bInt .add (.int .i64 (.ofNat 1)) x30) fun x31 => 
  bV (bInt .add x5_2 x31) fun x32 => 
  bV (fAd 0 x1_3) fun x33 => 
  bV (ld1p x33 H) fun x34 => 
  jn (cnd x34 (bV (fAd 2 x1_3) fun x36 => 
  bV (ld1p x36 H) fun x37 => 
  bV (ixSl 1 x37 x21) fun x39 => 
  bV (ld1p x39 H) fun x40 => 
  bV (lnStr x40) fun x41 => 
  bV (bInt .add (.int .i64 (.ofNat 1)) x41) fun x42 => 
  bV (bInt .add x32 x42) fun x43 => 
  some (.norm [x1_3, x3_2, x4_2, x43, x21, x20, x21], H))
  (bV (bInt .add x32 (.int .i64 (.ofNat 16))) fun x45 => 
  some (.norm [x1_3, x3_2, x4_2, x45, x21, x20, x21], H))) (f114j0 D n))
  (some (.exit 0 [x4_2], H))
def f114b2 (D : Dyn) (n : Nat) (vs : List AV) (H : AH) : Rs :=
  hd vs fun x4_4 vs => 
  bV (some x4_4) fun x2_2 => some (.ret x2_2, H)
def f114j3 (D : Dyn) (n : Nat) (vs : List AV) (H : AH) : Rs :=
  hd vs fun x1_2 vs => hd vs fun x3 vs => hd vs fun x4 vs => hd vs fun x5 vs => 
  jb 0 (loopK n (f114l1 D n) [x1_2, x3, x4, x5, x4, (.int .i64 (.ofNat 0))] H) (f114b2 D n)
/-- jetty/node.half -/
def f114 (D : Dyn) (n : Nat) (vs : List AV) (H : AH) : Option (AV × AH) :=
  outR (hd vs fun x0 vs => nl vs <|
  bA (bxV 80 x0) H fun x1 H => 
  bV (ldNp 4 x1 H) fun x7 => 
  bR (f74 D n [x7] H) fun x8 H => 
  bV (bInt .sub x8 (.int .i64 (.ofNat 2))) fun x9 => 
  bV (bInt .quo x9 (.int .i64 (.ofNat 2))) fun x10 => 
  bV (fAd 1 x1) fun x11 => 
  bV (ld1p x11 H) fun x12 => 
  bV (lnSl x12) fun x13 => 
  bV (bInt .sub x13 (.int .i64 (.ofNat 1))) fun x14 => 
  bV (fAd 0 x1) fun x15 => 
  bV (ld1p x15 H) fun x16 => 
  bV (aun .not x16) fun x17 => 
  jn (cnd x17 (bV (bInt .sub x14 (.int .i64 (.ofNat 1))) fun x19 => 
  some (.norm [x1, x10, x19, (.int .i64 (.ofNat 16))], H))
  (some (.norm [x1, x10, x14, (.int .i64 (.ofNat 0))], H))) (f114j3 D n))
def h114 : Hint := (.s .o (.s .o (.s .o (.s .o (.s (.s .o (.c [1, 3, 4, 5] (.s .o .o) .o)) (.s (.s .o (.b [4] (.l [1, 3, 4, 5, 20, 21] (.s .o (.s (.cr .o .o) (.s (.b0 (.s .o (.s .o (.s (.s .o (.c [1, 3, 4, 5, 6, 20, 21] .o .o)) (.s .o (.cl (.s .o .o) .o)))))) .o)))))) (.s .o .o)))))))
theorem f114_eq (D : Dyn) (n : Nat) : f114 D n = funKp (s114 D n) D n 114 Tryz.f114 h114 := by kernel_rfl
theorem f114_ok {D : Dyn} (hD : DP D) (n : Nat) : FP 114 (f114 D n) := fun_okP X_ok hD (SP.cons (f74_ok hD n) (SP.nil)) Tryz.func114 (by kernel_rfl) (by kernel_rfl) (f114_eq D n)

def s98 (D : Dyn) (n : Nat) : Tb := ⟨X, [(59, f59 D n), (114, f114 D n), (72, f72 D n), (46, f46 D n)]⟩
def f98j0 (D : Dyn) (n : Nat) (vs : List AV) (H : AH) : Rs :=
  hd vs fun x1_2 vs => hd vs fun x2_2 vs => hd vs fun x4_2 vs => hd vs fun x6 vs => 
  bV (ldNp 4 x2_2 H) fun x88 => 
  bV (fAd 1 x1_2) fun x89 => 
  bV (ld1p x89 H) fun x90 => 
  bV (ixSl 1 x90 x6) fun x92 => 
  bV (ld1p x92 H) fun x93 => 
  bV (ldNp 4 x4_2 H) fun x94 => 
  bR (stNp 4 x2_2 x88 H) fun x9999_12 H => chk (ld1p x89 H) x90 <| chk (ld1p x92 H) x93 <| chk (ldNp 4 x4_2 H) x94 <| 
  bR (stNp 4 x4_2 x94 H) fun x9999_13 H => 
  bV (ldNp 4 x2_2 H) fun x9002_2 => bV (some x93) fun x3_2 => bV (ldNp 4 x4_2 H) fun x9004_2 => bV (some (.int .i64 (.ofNat 0))) fun x5_2 => some (.ret (.tuple [x9002_2, x3_2, x9004_2, x5_2]), H)
/-- jetty/node.Cut -/
def f98 (D : Dyn) (n : Nat) (vs : List AV) (H : AH) : Option (AV × AH) :=
  outR (hd vs fun x0 vs => nl vs <|
  bA (bxV 80 x0) H fun x1 H => 
  bA (bxV 80 (.agg [(.bool false), .nilSlice, .nilSlice, .nilSlice])) H fun x2 H => 
  bA (bxV 80 (.agg [(.bool false), .nilSlice, .nilSlice, .nilSlice])) H fun x4 H => 
  bV (ldNp 4 x1 H) fun x7 => 
  bR (f59 D n [x7] H) fun x8 H => 
  bV (aun .not x8) fun x9 => 
  jn (wnt x9 false (bV (fAd 1 x1) fun x11 => 
  bV (ld1p x11 H) fun x12 => 
  bV (lnSl x12) fun x13 => 
  bV (bInt .lss x13 (.int .i64 (.ofNat 2))) fun x14 => 
  some (.norm [x14], H)) (some (.norm [undefA], H))) fun vs H => hd vs fun x14_2 vs => 
  bV (pk3 (some x9) (some (.bool true)) (some x14_2)) fun x15 => 
  jn (wnt x15 false (bV (fAd 0 x1) fun x17 => 
  bV (ld1p x17 H) fun x18 => 
  bV (aun .not x18) fun x19 => 
  some (.norm [x19], H)) (some (.norm [undefA], H))) fun vs H => hd vs fun x20 vs => 
  jn (wnt x20 true (bV (fAd 1 x1) fun x21 => 
  bV (ld1p x21 H) fun x22 => 
  bV (lnSl x22) fun x23 => 
  bV (bInt .lss x23 (.int .i64 (.ofNat 3))) fun x24 => 
  some (.norm [x24], H)) (some (.norm [undefA], H))) fun vs H => hd vs fun x24_2 vs => 
  jn (wnt x15 false (bV (pk3 (some x20) (some x24_2) (some (.bool false))) fun x25 => 
  some (.norm [x25], H)) (some (.norm [undefA], H))) fun vs H => hd vs fun x25_2 vs => 
  bV (pk3 (some x15) (some (.bool true)) (some x25_2)) fun x26 => 
  cnd x26 (bV (bldSp [(0, 1), (1, 1), (2, 1), (3, 1)] [(.bool false), .nilSlice, .nilSlice, .nilSlice] []) fun x27 => 
  bV (bldSp [(0, 1), (1, 1), (2, 1), (3, 1)] [(.bool false), .nilSlice, .nilSlice, .nilSlice] []) fun x28 => 
  bR (stNp 4 x2 x27 H) fun x9999 H => 
  bR (stNp 4 x4 x28 H) fun x9999_2 H => 
  bV (ldNp 4 x2 H) fun x9002 => bV (some (.str 0 0)) fun x3 => bV (ldNp 4 x4 H) fun x9004 => bV (some (.int .i64 (.ofNat 1))) fun x5 => some (.ret (.tuple [x9002, x3, x9004, x5]), H))
  (bV (ldNp 4 x1 H) fun x29 => 
  bR (f114 D n [x29] H) fun x30 H => 
  bV (fAd 0 x1) fun x31 => 
  bV (ld1p x31 H) fun x32 => 
  bV (fAd 0 x1) fun x33 => 
  bV (ld1p x33 H) fun x34 => 
  bV (fAd 0 x2) fun x35 => 
  bR (stNp 1 x35 x32 H) fun x9999_3 H => chk (ld1p x33 H) x34 <| 
  bV (fAd 0 x4) fun x36 => 
  bR (stNp 1 x36 x34 H) fun x9999_4 H => 
  bV (fAd 1 x1) fun x37 => 
  bV (ld1p x37 H) fun x38 => 
  bV (slSlp 1 x38 none (some x30) (some x30) H) fun x41 => 
  bR (f72 D n [x41] H) fun x42 H => 
  bV (fAd 1 x2) fun x43 => 
  bR (stNp 1 x43 x42 H) fun x9999_5 H => 
  bV (fAd 0 x1) fun x44 => 
  bV (ld1p x44 H) fun x45 => 
  jn (cnd x45 (bV (fAd 1 x1) fun x46 => 
  bV (ld1p x46 H) fun x47 => 
  bV (slSlp 1 x47 (some x30) none none H) fun x49 => 
  bR (f72 D n [x49] H) fun x50 H => 
  bV (fAd 1 x4) fun x51 => 
  bR (stNp 1 x51 x50 H) fun x9999_6 H => 
  bV (fAd 2 x1) fun x52 => 
  bV (ld1p x52 H) fun x53 => 
  bV (slSlp 1 x53 none (some x30) (some x30) H) fun x56 => 
  bV (fAd 2 x1) fun x58 => 
  bV (ld1p x58 H) fun x59 => 
  bV (slSlp 1 x59 (some x30) none none H) fun x61 => 
  bR (f72 D n [x56] H) fun x57 H => chk (ld1p x58 H) x59 <| chk (slSlp 1 x59 (some x30) none none H) x61 <| 
  bV (fAd 2 x2) fun x63 => 
  bR (f72 D n [x61] H) fun x62 H => 
  bR (stNp 1 x63 x57 H) fun x9999_7 H => 
  bV (fAd 2 x4) fun x64 => 
  bR (stNp 1 x64 x62 H) fun x9999_8 H => 
  some (.norm [x1, x2, x4, x30], H))
  (bV (fAd 1 x1) fun x65 => 
  bV (ld1p x65 H) fun x66 => 
  bV (bInt .add x30 (.int .i64 (.ofNat 1))) fun x68 => 
  bV (slSlp 1 x66 (some x68) none none H) fun x69 => 
  bR (f72 D n [x69] H) fun x70 H => 
  bV (fAd 1 x4) fun x71 => 
  bR (stNp 1 x71 x70 H) fun x9999_9 H => 
  bV (fAd 3 x1) fun x72 => 
  bV (ld1p x72 H) fun x73 => 
  bV (bInt .add x30 (.int .i64 (.ofNat 1))) fun x75 => 
  bV (bInt .add x30 (.int .i64 (.ofNat 1))) fun x77 => 
  bV (slSlp 3 x73 none (some x75) (some x77) H) fun x78 => 
  bV (fAd 3 x1) fun x80 => 
  bV (ld1p x80 H) fun x81 => 
  bV (bInt .add x30 (.int .i64 (.ofNat 1))) fun x83 => 
  bV (slSlp 3 x81 (some x83) none none H) fun x84 => 
  bR (f46 D n [x78] H) fun x79 H => chk (ld1p x80 H) x81 <| chk (slSlp 3 x81 (some x83) none none H) x84 <| 
  bV (fAd 3 x2) fun x86 => 
  bR (f46 D n [x84] H) fun x85 H => 
  bR (stNp 1 x86 x79 H) fun x9999_10 H => 
  bV (fAd 3 x4) fun x87 => 
  bR (stNp 1 x87 x85 H) fun x9999_11 H => 
  some (.norm [x1, x2, x4, x30], H))) (f98j0 D n)))
def h98 : Hint := (.s .o (.s (.s .o (.cl (.s .o .o) .o)) (.s .o (.s .o (.s .o (.s (.s .o (.c [1, 2, 4, 6] (.s .o .o) (.s .o .o))) (.s .o .o)))))))
theorem f98_eq (D : Dyn) (n : Nat) : f98 D n = funKp (s98 D n) D n 98 Tryz.f98 h98 := by kernel_rfl
theorem f98_ok {D : Dyn} (hD : DP D) (n : Nat) : FP 98 (f98 D n) := fun_okP X_ok hD (SP.cons (f59_ok hD n) (SP.cons (f114_ok hD n) (SP.cons (f72_ok hD n) (SP.cons (f46_ok hD n) (SP.nil))))) Tryz.func98 (by kernel_rfl) (by kernel_rfl) (f98_eq D n)

def s76 (D : Dyn) (n : Nat) : Tb := ⟨X, [(74, f74 D n), (98, f98 D n)]⟩
def f76l0 (D : Dyn) (n : Nat) (vs : List AV) (H : AH) : Rs :=
  hd vs fun x1_2 vs => hd vs fun x5 vs => hd vs fun x6 vs => 
  bV (ldNp 4 x1_2 H) fun x11 => 
  bR (f74 D n [x11] H) fun x12 H => 
  bV (bInt .gtr x12 (.int .i64 (.ofNat 500))) fun x13 => 
  cnd x13 (bV (ldNp 4 x1_2 H) fun x15 => 
  bR (f98 D n [x15] H) fun x16 H => 
  bV (pExtract x16 0) fun x17 => 
  bV (pExtract x16 1) fun x18 => 
  bV (pExtract x16 2) fun x19 => 
  bV (pExtract x16 3) fun x20 => 
  bA (bxV 80 (.agg [(.bool false), .nilSlice, .nilSlice, .nilSlice])) H fun x7 H => 
  bA (bxV 80 (.agg [(.bool false), .nilSlice, .nilSlice, .nilSlice])) H fun x9 H => 
  bR (stNp 4 x7 x17 H) fun x9999 H => 
  bR (stNp 4 x9 x19 H) fun x9999_2 H => 
  bV (bInt .neq x20 (.int .i64 (.ofNat 0))) fun x22 => 
  cnd x22 (bV (some .nilSlice) fun x2 => bV (some .nilSlice) fun x3 => bV (some (.int .i64 (.ofNat 4))) fun x4 => some (.ret (.tuple [x2, x3, x4]), H))
  (bV (ldNp 4 x7 H) fun x24 => 
  bA (bldLp 80 4 1 [(.bool false), .nilSlice, .nilSlice, .nilSlice] [(0, x24)]) H fun x25 H => 
  bR (apPp 80 4 80 x5 x25 H) fun x26 H => 
  bA (bldLp 9 1 1 [(.str 0 0)] [(0, x18)]) H fun x29 H => 
  bR (apPp 9 1 16 x6 x29 H) fun x30 H => 
  bV (ldNp 4 x9 H) fun x31 => 
  bR (stNp 4 x1_2 x31 H) fun x9999_3 H => 
  some (.norm [x1_2, x26, x30], H)))
  (some (.exit 0 [x1_2, x5, x6], H))
def f76b1 (D : Dyn) (n : Nat) (vs : List AV) (H : AH) : Rs :=
  hd vs fun x1_3 vs => hd vs fun x5_2 vs => hd vs fun x6_2 vs => 
  bV (ldNp 4 x1_3 H) fun x33 => 
  bA (bldLp 80 4 1 [(.bool false), .nilSlice, .nilSlice, .nilSlice] [(0, x33)]) H fun x34 H => 
  bR (apPp 80 4 80 x5_2 x34 H) fun x35 H => 
  bV (some x35) fun x2_2 => bV (some x6_2) fun x3_2 => bV (some (.int .i64 (.ofNat 0))) fun x4_2 => some (.ret (.tuple [x2_2, x3_2, x4_2]), H)
/-- jetty/tree.cut -/
def f76 (D : Dyn) (n : Nat) (vs : List AV) (H : AH) : Option (AV × AH) :=
  outR (hd vs fun x0 vs => nl vs <|
  bA (bxV 80 x0) H fun x1 H => 
  jb 0 (loopK n (f76l0 D n) [x1, .nilSlice, .nilSlice] H) (f76b1 D n))
def h76 : Hint := (.s .o (.s .o (.s .o (.s (.b [1, 5, 6] (.l [1, 5, 6] (.s (.s .o (.cr .o .o)) (.b0 (.s .o (.s (.s .o (.cl (.s .o .o) .o)) (.s .o (.s .o .o)))))))) (.s .o .o)))))
theorem f76_eq (D : Dyn) (n : Nat) : f76 D n = funKp (s76 D n) D n 76 Tryz.f76 h76 := by kernel_rfl
theorem f76_ok {D : Dyn} (hD : DP D) (n : Nat) : FP 76 (f76 D n) := fun_okP X_ok hD (SP.cons (f74_ok hD n) (SP.cons (f98_ok hD n) (SP.nil))) Tryz.func76 (by kernel_rfl) (by kernel_rfl) (f76_eq D n)

def s78 (D : Dyn) (n : Nat) : Tb := ⟨X, [(54, f54 D n)]⟩
def f78l0 (D : Dyn) (n : Nat) (vs : List AV) (H : AH) : Rs :=
  hd vs fun x0_2 vs => hd vs fun x5 vs => hd vs fun x8 vs => hd vs fun x9_2 vs => hd vs fun x10 vs => 
  bV (bInt .lss x10 x9_2) fun x11 => 
  cnd x11 (bV (ixSl 4 x8 x10) fun x12 => 
  bV (ldNp 4 x12 H) fun x13 => 
  bA (bxV 80 (.agg [(.bool false), .nilSlice, .nilSlice, .nilSlice])) H fun x7 H => 
  bR (stNp 4 x7 x13 H) fun x9999 H => 
  bV (ldNp 4 x7 H) fun x16 => 
  bR (f54 D n [x0_2, x16] H) fun x17 H => 
  bA (bldLp 52 3 1 [(.int .i64 (.ofNat 0)), (.int .i64 (.ofNat 0)), (.int .u64 (.ofNat 0))] [(0, x17)]) H fun x18 H => 
  bR (apPp 52 3 24 x5 x18 H) fun x19 H => 
  bV (bInt .add x10 (.int .i64 (.ofNat 1))) fun x20 => 
  some (.norm [x0_2, x19, x8, x9_2, x20], H))
  (some (.exit 0 [x5], H))
def f78b1 (D : Dyn) (n : Nat) (vs : List AV) (H : AH) : Rs :=
  hd vs fun x5_2 vs => 
  bV (some x5_2) fun x4 => some (.ret x4, H)
/-- (*jetty/tree.change).addAll -/
def f78 (D : Dyn) (n : Nat) (vs : List AV) (H : AH) : Option (AV × AH) :=
  outR (hd vs fun x0 vs => hd vs fun x1 vs => nl vs <|
  bV (lnSl x1) fun x9 => 
  jb 0 (loopK n (f78l0 D n) [x0, .nilSlice, x1, x9, (.int .i64 (.ofNat 0))] H) (f78b1 D n))
def h78 : Hint := (.s .o (.s .o (.s (.s .o (.b [5] (.l [0, 5, 8, 9, 10] (.s .o (.s (.cr .o .o) (.s (.b0 (.s .o .o)) .o)))))) (.s .o .o))))
theorem f78_eq (D : Dyn) (n : Nat) : f78 D n = funKp (s78 D n) D n 78 Tryz.f78 h78 := by kernel_rfl
theorem f78_ok {D : Dyn} (hD : DP D) (n : Nat) : FP 78 (f78 D n) := fun_okP X_ok hD (SP.cons (f54_ok hD n) (SP.nil)) Tryz.func78 (by kernel_rfl) (by kernel_rfl) (f78_eq D n)
end Go.Eng.Sh
