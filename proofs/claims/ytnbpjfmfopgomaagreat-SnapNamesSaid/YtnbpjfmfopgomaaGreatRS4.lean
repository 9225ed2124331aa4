/- Shallow functions, by program (gen.py). -/
import Derived.Test.YtnbpjfmfopgomaaGreatRS3
import Derived.Test.YtnbpjfmfopgomaaGreatProg
import Derived.KernelRfl
noncomputable section
namespace Go.Eng.Sh
open Go.Proofs
set_option maxRecDepth 100000
set_option linter.all false
def s85 (D : Dyn) (n : Nat) : Tb := ⟨X, [(94, f94 D n), (150, f150 D n), (149, f149 D n), (98, f98 D n), (151, f151 D n)]⟩
/-- (*jetty/snap.Volume).mark -/
def f85 (D : Dyn) (n : Nat) (vs : List AV) (H : AH) : Option (AV × AH) :=
  outR (hd vs fun x0 vs => hd vs fun x1 vs => nl vs <|
  bA (bxV 54 x0) H fun x2 H => 
  bA (bxV 138 x1) H fun x3 H => 
  bA (bxV 24 (.int .i64 (.ofNat 0))) H fun x4 H => 
  bV (ld1p x2 H) fun x12 => 
  bV (pNil x12) fun x13 => 
  bV (fAd 0 x13) fun x14 => 
  bV (ld1p x14 H) fun x15 => 
  bV (fAd 0 x3) fun x16 => 
  bV (fAd 3 x16) fun x17 => 
  bV (ldNp 3 x17 H) fun x18 => 
  bR (noPan (f94 D n [x15, x18] H)) fun x19 H => 
  bV (pExtract x19 0) fun x20 => 
  bV (pExtract x19 1) fun x21 => 
  bV (bInt .neq x21 (.int .i64 (.ofNat 0))) fun x23 => 
  cnd x23 (bR (stNp 1 x4 x21 H) fun x9999 H => 
  bV (ld1p x4 H) fun x9004 => some (.ret x9004, H))
  (bA (bxV 24 (.int .i64 (.ofNat 0))) H fun x7 H => 
  bR (stNp 1 x7 (.int .i64 (.ofNat 0)) H) fun x9999_2 H => 
  bV (fAd 0 x3) fun x26 => 
  bV (fAd 3 x26) fun x27 => 
  bV (ldNp 3 x27 H) fun x28 => 
  bR (noPan (f150 D n [x20, x28, x7] H)) fun x29 H => 
  newB H (.loop ⟨.ready, none, 85, 0, [2, 3, 4], [x2, x3, x4]⟩) fun A H => bR (rfC (s85 D n).S D x29 A H) fun _ H => endLp A H fun j H => jmpK j (
  bV (ld1p x7 H) fun x57 => 
  bR (stNp 1 x4 x57 H) fun x9999_3 H => 
  bV (ld1p x4 H) fun x9004_3 => some (.ret x9004_3, H))
  (fun id => none) (bV (ld1p x4 H) fun x9004_2 => some (.ret x9004_2, H))))
def h85 : Hint := (.s .o (.s .o (.s (.s .o (.cl (.s .o .o) .o)) (.s .o (.s (.s .o (.b0 (.rf 0 [2, 3, 4]))) (.s .o .o))))))
theorem f85_eq (D : Dyn) (n : Nat) : f85 D n = funKp (s85 D n) D n 85 Tryz.f85 h85 := by kernel_rfl
theorem f85_ok {D : Dyn} (hD : DP D) (n : Nat) : FP 85 (f85 D n) := fun_okP X_ok hD (SP.cons (f94_ok hD n) (SP.cons (f150_ok hD n) (SP.cons (f149_ok hD n) (SP.cons (f98_ok hD n) (SP.cons (f151_ok hD n) (SP.nil)))))) Tryz.func85 (by kernel_rfl) (by kernel_rfl) (f85_eq D n)
def f85b0 (D : Dyn) (n : Nat) (vs : List AV) (H : AH) : Rs :=
  
  some (.norm [], H)
def r85_0 (D : Dyn) (n : Nat) (A : Nat) (l : ALoop) (az : List AV) (H : AH) : Option (AV × AH) :=
  bif eqNL [2, 3, 4] l.live then endQ A (hd l.vals fun x2 vs => hd vs fun x3 vs => hd vs fun x4 vs => hd az fun x30 az => nl az <|
  beginK A H fun H => 
  jb 1 (bV (ld1p x2 H) fun x31 => 
  bV (pNil x31) fun x32 => 
  bV (fAd 3 x32) fun x33 => 
  bV (ld1p x33 H) fun x34 => 
  bV (fAd 6 x3) fun x35 => 
  bV (ld1p x35 H) fun x36 => 
  bR (noPan (f149 D n [x34, x36, x30] H)) fun x38 H => 
  bV (bInt .neq x38 (.int .i64 (.ofNat 0))) fun x40 => 
  cnd x40 (bR (stNp 1 x4 x38 H) fun x9999 H => 
  some (.ret (.tuple []), H))
  (bV (ld1p x2 H) fun x42 => 
  bV (pNil x42) fun x43 => 
  bV (fAd 0 x43) fun x44 => 
  bV (ld1p x44 H) fun x45 => 
  bR (noPan (f98 D n [x45, x30] H)) fun x47 H => 
  cnd x47 (some (.exit 1 [], H))
  (bV (ld1p x2 H) fun x48 => 
  bV (pNil x48) fun x49 => 
  bV (fAd 0 x49) fun x50 => 
  bV (ld1p x50 H) fun x51 => 
  bR (noPan (f151 D n [x51, x30] H)) fun x53 H => 
  bV (bInt .neq x53 (.int .i64 (.ofNat 0))) fun x55 => 
  cnd x55 (bR (stNp 1 x4 x53 H) fun x9999_2 H => 
  some (.ret (.tuple []), H))
  (some (.norm [], H))))) (f85b0 D n)) else none
def r85_0a : Hint := .o
def r85_0b : Hint := (.b [] (.s (.s .o (.s .o (.cl (.s .o .o) .o))) (.s (.s .o (.cl .o .o)) (.s .o (.s .o (.cl (.s .o .o) .o))))))
theorem r85_0_eq (D : Dyn) (n : Nat) : r85_0 D n = rndKp (s85 D n) D n 85 0 [2, 3, 4] [] r85_0a r85_0b := by kernel_rfl
theorem r85_0_ok {D : Dyn} (hD : DP D) (n : Nat) : RdP 85 0 (r85_0 D n) := round_okP X_ok hD (SP.cons (f94_ok hD n) (SP.cons (f150_ok hD n) (SP.cons (f149_ok hD n) (SP.cons (f98_ok hD n) (SP.cons (f151_ok hD n) (SP.nil)))))) (by kernel_rfl) (r85_0_eq D n)

def s84 (D : Dyn) (n : Nat) : Tb := ⟨X, []⟩
/-- jetty/snap.Open$1 -/
def f84 (D : Dyn) (n : Nat) (vs : List AV) (H : AH) : Option (AV × AH) :=
  outR (hd vs fun x0 vs => nl vs <|
  bV (some (.bool false)) fun x2 => some (.ret x2, H))
def h84 : Hint := (.s .o (.s .o .o))
theorem f84_eq (D : Dyn) (n : Nat) : f84 D n = funKp (s84 D n) D n 84 Tryz.f84 h84 := by kernel_rfl
theorem f84_ok {D : Dyn} (hD : DP D) (n : Nat) : FP 84 (f84 D n) := fun_okP X_ok hD (SP.nil) Tryz.func84 (by kernel_rfl) (by kernel_rfl) (f84_eq D n)

def s24 (D : Dyn) (n : Nat) : Tb := ⟨X, [(78, f78 D n), (80, f80 D n), (81, f81 D n), (79, f79 D n), (82, f82 D n), (83, f83 D n), (85, f85 D n)]⟩
def f24l0 (D : Dyn) (n : Nat) (vs : List AV) (H : AH) : Rs :=
  hd vs fun x10 vs => hd vs fun x43 vs => hd vs fun x44_2 vs => hd vs fun x45 vs => 
  bV (bInt .lss x45 x44_2) fun x46 => 
  cnd x46 (bV (ixSl 6 x43 x45) fun x48 => 
  bV (ldNp 6 x48 H) fun x49 => 
  bA (bxV 59 (.agg [(.int .i64 (.ofNat 0)), (.str 0 0), (.int .i64 (.ofNat 0)), (.int .i64 (.ofNat 0)), (.int .i64 (.ofNat 0)), (.int .u64 (.ofNat 0))])) H fun x12 H => 
  bR (stNp 6 x12 x49 H) fun x9999 H => 
  bV (ldNp 6 x12 H) fun x50 => 
  bV (bInt .add x45 (.int .i64 (.ofNat 1))) fun x52 => 
  bV (bldSp [(0, 6), (6, 1)] [(.int .i64 (.ofNat 0)), (.str 0 0), (.int .i64 (.ofNat 0)), (.int .i64 (.ofNat 0)), (.int .i64 (.ofNat 0)), (.int .u64 (.ofNat 0)), (.int .i64 (.ofNat 0))] [(0, x50), (1, x52)]) fun x53 => 
  bA (bxV 138 (.agg [(.int .i64 (.ofNat 0)), (.str 0 0), (.int .i64 (.ofNat 0)), (.int .i64 (.ofNat 0)), (.int .i64 (.ofNat 0)), (.int .u64 (.ofNat 0)), (.int .i64 (.ofNat 0))])) H fun x13 H => 
  bR (stNp 7 x13 x53 H) fun x9999_2 H => 
  bV (ldNp 7 x13 H) fun x55 => 
  bR (noPan (f85 D n [x10, x55] H)) fun x56 H => 
  bV (bInt .neq x56 (.int .i64 (.ofNat 0))) fun x58 => 
  cnd x58 (bV (some .nilPtr) fun x4_3 => bV (some x56) fun x5_3 => some (.ret (.tuple [x4_3, x5_3]), H))
  (bV (pNil x10) fun x62 => 
  bV (fAd 2 x62) fun x63 => 
  bV (ld1p x63 H) fun x64 => 
  bV (ldNp 7 x13 H) fun x65 => 
  bA (bldLp 138 7 1 [(.int .i64 (.ofNat 0)), (.str 0 0), (.int .i64 (.ofNat 0)), (.int .i64 (.ofNat 0)), (.int .i64 (.ofNat 0)), (.int .u64 (.ofNat 0)), (.int .i64 (.ofNat 0))] [(0, x65)]) H fun x66 H => 
  bR (apPp 138 7 64 x64 x66 H) fun x67 H => 
  bV (pNil x10) fun x68 => 
  bV (fAd 2 x68) fun x69 => 
  bR (stNp 1 x69 x67 H) fun x9999_3 H => 
  bV (bInt .add x45 (.int .i64 (.ofNat 1))) fun x70 => 
  some (.norm [x10, x43, x44_2, x70], H)))
  (some (.exit 0 [x10], H))
def f24b1 (D : Dyn) (n : Nat) (vs : List AV) (H : AH) : Rs :=
  hd vs fun x10_2 vs => 
  bV (some x10_2) fun x4_4 => bV (some (.int .i64 (.ofNat 0))) fun x5_4 => some (.ret (.tuple [x4_4, x5_4]), H)
/-- jetty/snap.Open -/
def f24 (D : Dyn) (n : Nat) (vs : List AV) (H : AH) : Option (AV × AH) :=
  outR (hd vs fun x0 vs => hd vs fun x1 vs => nl vs <|
  bR (noPan (f78 D n [x0, x1] H)) fun x18 H => 
  bV (pExtract x18 0) fun x19 => 
  bV (pExtract x18 1) fun x20 => 
  bV (bInt .neq x20 (.int .i64 (.ofNat 0))) fun x22 => 
  cnd x22 (bV (some .nilPtr) fun x4 => bV (some x20) fun x5 => some (.ret (.tuple [x4, x5]), H))
  (bR (noPan (f80 D n [x19] H)) fun x26 H => 
  bR (noPan (f81 D n [x19] H)) fun x28 H => 
  bR (noPan (f79 D n [x26, x28] H)) fun x29 H => 
  bV (pExtract x29 0) fun x30 => 
  bV (pExtract x29 1) fun x31 => 
  bV (pExtract x29 2) fun x32 => 
  bV (bInt .neq x32 (.int .i64 (.ofNat 0))) fun x34 => 
  cnd x34 (bV (some .nilPtr) fun x4_2 => bV (some x32) fun x5_2 => some (.ret (.tuple [x4_2, x5_2]), H))
  (bR (noPan (f82 D n [] H)) fun x38 H => 
  bV (bldSp [(0, 1), (1, 1), (2, 1), (3, 1), (4, 1)] [.nilPtr, (.int .i64 (.ofNat 0)), .nilSlice, .nilPtr, .nilSlice] [(0, x19), (1, x30), (3, x38)]) fun x39 => 
  bA (bxV 134 x39) H fun x40 H => 
  bR (noPan (f83 D n [x40, (.func 84 [] [])] H)) fun x42 H => 
  bV (lnSl x31) fun x44 => 
  jb 0 (loopK n (f24l0 D n) [x40, x31, x44, (.int .i64 (.ofNat 0))] H) (f24b1 D n))))
def h24 : Hint := (.s .o (.s .o (.s (.s .o (.cl (.s .o .o) .o)) (.s .o (.s (.s .o (.cl (.s .o .o) .o)) (.s .o (.s .o (.s (.s .o (.b [10] (.l [10, 43, 44, 45] (.s .o (.s (.cr .o .o) (.s (.b0 (.s .o (.s .o (.s (.s .o (.s .o (.cl (.s .o .o) .o))) .o)))) .o)))))) (.s .o .o)))))))))
theorem f24_eq (D : Dyn) (n : Nat) : f24 D n = funKp (s24 D n) D n 24 Tryz.f24 h24 := by kernel_rfl
theorem f24_ok {D : Dyn} (hD : DP D) (n : Nat) : FP 24 (f24 D n) := fun_okP X_ok hD (SP.cons (f78_ok hD n) (SP.cons (f80_ok hD n) (SP.cons (f81_ok hD n) (SP.cons (f79_ok hD n) (SP.cons (f82_ok hD n) (SP.cons (f83_ok hD n) (SP.cons (f85_ok hD n) (SP.nil)))))))) Tryz.func24 (by kernel_rfl) (by kernel_rfl) (f24_eq D n)

def s23 (D : Dyn) (n : Nat) : Tb := ⟨X, [(24, f24 D n)]⟩
/-- jetty/jettylaw17.opened -/
def f23 (D : Dyn) (n : Nat) (vs : List AV) (H : AH) : Option (AV × AH) :=
  outR (hd vs fun x0 vs => nl vs <|
  bR (noPan (f24 D n [x0, (.int .i64 (.ofNat 0))] H)) fun x7 H => 
  bV (pExtract x7 0) fun x8 => 
  bV (pExtract x7 1) fun x9 => 
  bV (bInt .neq x9 (.int .i64 (.ofNat 0))) fun x11 => 
  cnd x11 (bV (some .nilPtr) fun x2 => some (.ret x2, H))
  (bV (some x8) fun x2_2 => some (.ret x2_2, H)))
def h23 : Hint := (.s .o (.s .o (.s (.s .o (.cl (.s .o .o) .o)) (.s .o .o))))
theorem f23_eq (D : Dyn) (n : Nat) : f23 D n = funKp (s23 D n) D n 23 Tryz.f23 h23 := by kernel_rfl
theorem f23_ok {D : Dyn} (hD : DP D) (n : Nat) : FP 23 (f23 D n) := fun_okP X_ok hD (SP.cons (f24_ok hD n) (SP.nil)) Tryz.func23 (by kernel_rfl) (by kernel_rfl) (f23_eq D n)

def s86 (D : Dyn) (n : Nat) : Tb := ⟨X, []⟩
/-- (*jetty/snap.Volume).none -/
def f86 (D : Dyn) (n : Nat) (vs : List AV) (H : AH) : Option (AV × AH) :=
  outR (hd vs fun x0 vs => nl vs <|
  bV (cmpO .eql (eqP x0 .nilPtr)) fun x4 => 
  jn (wnt x4 false (bV (pNil x0) fun x7 => 
  bV (fAd 0 x7) fun x8 => 
  bV (ld1p x8 H) fun x9 => 
  bV (cmpO .eql (eqP x9 .nilPtr)) fun x10 => 
  some (.norm [x10], H)) (some (.norm [undefA], H))) fun vs H => hd vs fun x10_2 vs => 
  bV (pk3 (some x4) (some (.bool true)) (some x10_2)) fun x11 => 
  bV (some x11) fun x2 => some (.ret x2, H))
def h86 : Hint := (.s .o (.s .o .o))
theorem f86_eq (D : Dyn) (n : Nat) : f86 D n = funKp (s86 D n) D n 86 Tryz.f86 h86 := by kernel_rfl
theorem f86_ok {D : Dyn} (hD : DP D) (n : Nat) : FP 86 (f86 D n) := fun_okP X_ok hD (SP.nil) Tryz.func86 (by kernel_rfl) (by kernel_rfl) (f86_eq D n)

def s71 (D : Dyn) (n : Nat) : Tb := ⟨X, [(86, f86 D n)]⟩
/-- (*jetty/snap.Volume).Store -/
def f71 (D : Dyn) (n : Nat) (vs : List AV) (H : AH) : Option (AV × AH) :=
  outR (hd vs fun x0 vs => nl vs <|
  bR (noPan (f86 D n [x0] H)) fun x4 H => 
  cnd x4 (bV (some .nilPtr) fun x2 => some (.ret x2, H))
  (bV (pNil x0) fun x6 => 
  bV (fAd 0 x6) fun x7 => 
  bV (ld1p x7 H) fun x8 => 
  bV (some x8) fun x2_2 => some (.ret x2_2, H)))
def h71 : Hint := (.s .o (.s (.s .o (.cl (.s .o .o) .o)) (.s .o .o)))
theorem f71_eq (D : Dyn) (n : Nat) : f71 D n = funKp (s71 D n) D n 71 Tryz.f71 h71 := by kernel_rfl
theorem f71_ok {D : Dyn} (hD : DP D) (n : Nat) : FP 71 (f71 D n) := fun_okP X_ok hD (SP.cons (f86_ok hD n) (SP.nil)) Tryz.func71 (by kernel_rfl) (by kernel_rfl) (f71_eq D n)

def s72 (D : Dyn) (n : Nat) : Tb := ⟨X, [(140, f140 D n)]⟩
/-- (*jetty/txg.Store).Tree -/
def f72 (D : Dyn) (n : Nat) (vs : List AV) (H : AH) : Option (AV × AH) :=
  outR (hd vs fun x0 vs => nl vs <|
  bR (noPan (f140 D n [x0] H)) fun x4 H => 
  cnd x4 (bV (some .nilPtr) fun x2 => some (.ret x2, H))
  (bV (pNil x0) fun x6 => 
  bV (fAd 2 x6) fun x7 => 
  bV (ld1p x7 H) fun x8 => 
  bV (some x8) fun x2_2 => some (.ret x2_2, H)))
def h72 : Hint := (.s .o (.s (.s .o (.cl (.s .o .o) .o)) (.s .o .o)))
theorem f72_eq (D : Dyn) (n : Nat) : f72 D n = funKp (s72 D n) D n 72 Tryz.f72 h72 := by kernel_rfl
theorem f72_ok {D : Dyn} (hD : DP D) (n : Nat) : FP 72 (f72 D n) := fun_okP X_ok hD (SP.cons (f140_ok hD n) (SP.nil)) Tryz.func72 (by kernel_rfl) (by kernel_rfl) (f72_eq D n)

def s119 (D : Dyn) (n : Nat) : Tb := ⟨X, []⟩
/-- (*jetty/tree.change).add -/
def f119 (D : Dyn) (n : Nat) (vs : List AV) (H : AH) : Option (AV × AH) :=
  outR (hd vs fun x0 vs => hd vs fun x1 vs => nl vs <|
  bA (bxV 46 x1) H fun x3 H => 
  bA (bxV 35 (.agg [(.int .i64 (.ofNat 0)), (.int .i64 (.ofNat 0)), (.int .u64 (.ofNat 0))])) H fun x4 H => 
  bV (pNil x0) fun x6 => 
  bV (fAd 1 x6) fun x7 => 
  bV (ld1p x7 H) fun x8 => 
  bV (bInt .add x8 (.int .u64 (.ofNat 1))) fun x9 => 
  bV (pNil x0) fun x10 => 
  bV (fAd 1 x10) fun x11 => 
  bR (stNp 1 x11 x9 H) fun x9999 H => 
  bV (pNil x0) fun x13 => 
  bV (fAd 2 x13) fun x14 => 
  bV (ld1p x14 H) fun x15 => 
  bV (pNil x0) fun x17 => 
  bV (fAd 1 x17) fun x18 => 
  bV (ld1p x18 H) fun x19 => 
  bV (ldNp 4 x3 H) fun x20 => 
  bR (upM [10] x15 x19 x20 H) fun x9999_2 H => 
  bV (pNil x0) fun x22 => 
  bV (fAd 1 x22) fun x23 => 
  bV (ld1p x23 H) fun x24 => 
  bV (bldSp [(0, 1), (1, 1), (2, 1)] [(.int .i64 (.ofNat 0)), (.int .i64 (.ofNat 0)), (.int .u64 (.ofNat 0))] [(0, (.int .i64 (.ofNat 1))), (2, x24)]) fun x25 => 
  bR (stNp 3 x4 x25 H) fun x9999_3 H => 
  bV (ldNp 3 x4 H) fun x9004 => some (.ret x9004, H))
def h119 : Hint := (.s .o (.s .o (.s .o (.s .o .o))))
theorem f119_eq (D : Dyn) (n : Nat) : f119 D n = funKp (s119 D n) D n 119 Tryz.f119 h119 := by kernel_rfl
theorem f119_ok {D : Dyn} (hD : DP D) (n : Nat) : FP 119 (f119 D n) := fun_okP X_ok hD (SP.nil) Tryz.func119 (by kernel_rfl) (by kernel_rfl) (f119_eq D n)

def s118 (D : Dyn) (n : Nat) : Tb := ⟨X, []⟩
def f118j0 (D : Dyn) (n : Nat) (vs : List AV) (H : AH) : Rs :=
  hd vs fun x0_3 vs => hd vs fun x3_3 vs => hd vs fun x4_2 vs => hd vs fun x16_3 vs => hd vs fun x17_3 vs => hd vs fun x18_2 vs => 
  bV (bInt .add x18_2 (.int .i64 (.ofNat 1))) fun x41 => 
  some (.norm [x0_3, x3_3, x4_2, x16_3, x17_3, x41], H)
def f118l1 (D : Dyn) (n : Nat) (vs : List AV) (H : AH) : Rs :=
  hd vs fun x0_2 vs => hd vs fun x3_2 vs => hd vs fun x4 vs => hd vs fun x16_2 vs => hd vs fun x17_2 vs => hd vs fun x18 vs => 
  bV (bInt .lss x18 x17_2) fun x19 => 
  cnd x19 (bV (ixSl 3 x16_2 x18) fun x20 => 
  bV (ldNp 3 x20 H) fun x21 => 
  bA (bxV 35 (.agg [(.int .i64 (.ofNat 0)), (.int .i64 (.ofNat 0)), (.int .u64 (.ofNat 0))])) H fun x6 H => 
  bR (stNp 3 x6 x21 H) fun x9999 H => 
  bV (fAd 0 x6) fun x22 => 
  bV (ld1p x22 H) fun x23 => 
  bV (bInt .eql x23 (.int .i64 (.ofNat 1))) fun x24 => 
  jn (cnd x24 (bV (pNil x4) fun x26 => 
  bV (fAd 5 x26) fun x27 => 
  bV (ld1p x27 H) fun x28 => 
  bV (fAd 2 x6) fun x29 => 
  bV (ld1p x29 H) fun x30 => 
  bR (dlM [10] x28 x30 H) fun x9999_2 H => 
  some (.norm [x0_2, x3_2, x4, x16_2, x17_2, x18], H))
  (bV (pNil x4) fun x33 => 
  bV (fAd 7 x33) fun x34 => 
  bV (ld1p x34 H) fun x35 => 
  bV (ldNp 3 x6 H) fun x36 => 
  bA (bldLp 35 3 1 [(.int .i64 (.ofNat 0)), (.int .i64 (.ofNat 0)), (.int .u64 (.ofNat 0))] [(0, x36)]) H fun x37 H => 
  bR (apPp 35 3 24 x35 x37 H) fun x38 H => 
  bV (pNil x4) fun x39 => 
  bV (fAd 7 x39) fun x40 => 
  bR (stNp 1 x40 x38 H) fun x9999_3 H => 
  some (.norm [x0_2, x3_2, x4, x16_2, x17_2, x18], H))) (f118j0 D n))
  (some (.exit 0 [x0_2, x3_2, x4], H))
def f118b2 (D : Dyn) (n : Nat) (vs : List AV) (H : AH) : Rs :=
  hd vs fun x0_4 vs => hd vs fun x3_4 vs => hd vs fun x4_3 vs => 
  tld (mtp118_0 [x0_4, x3_4, x4_3] H) H.next fun H => 
  bV (pNil x0_4) fun x60 => 
  bV (fAd 1 x60) fun x61 => 
  bV (ld1p x61 H) fun x62 => 
  bV (pNil x4_3) fun x63 => 
  bV (fAd 6 x63) fun x64 => 
  bR (stNp 1 x64 x62 H) fun x9999_4 H => 
  bV (ldNp 3 x3_4 H) fun x66 => 
  bV (pNil x4_3) fun x67 => 
  bV (fAd 2 x67) fun x68 => 
  bR (stNp 3 x68 x66 H) fun x9999_5 H => 
  some (.ret (.tuple []), H)
/-- (*jetty/tree.change).done -/
def f118 (D : Dyn) (n : Nat) (vs : List AV) (H : AH) : Option (AV × AH) :=
  outR (hd vs fun x0 vs => hd vs fun x1 vs => nl vs <|
  bA (bxV 35 x1) H fun x3 H => 
  bV (pNil x0) fun x10 => 
  bV (fAd 0 x10) fun x11 => 
  bV (ld1p x11 H) fun x12 => 
  bV (pNil x0) fun x14 => 
  bV (fAd 3 x14) fun x15 => 
  bV (ld1p x15 H) fun x16 => 
  bV (lnSl x16) fun x17 => 
  jb 0 (loopK n (f118l1 D n) [x0, x3, x12, x16, x17, (.int .i64 (.ofNat 0))] H) (f118b2 D n))
def h118 : Hint := (.s .o (.s .o (.s (.s .o (.b [0, 3, 4] (.l [0, 3, 4, 16, 17, 18] (.s .o (.s (.cr .o .o) (.s (.b0 (.s .o (.s .o (.c [0, 3, 4, 16, 17, 18] .o .o)))) .o)))))) (.s (.t [0, 3, 4] mtp118_0) (.s .o .o)))))
def ho118 : Hint := (.s .o (.s .o (.s (.s .o (.b [0, 3, 4] (.l [0, 3, 4, 16, 17, 18] (.s .o (.s (.cr .o .o) (.s (.b0 (.s .o (.s .o (.c [0, 3, 4, 16, 17, 18] .o .o)))) .o)))))) (.s (.t [0, 3, 4] mt118_0) (.s .o .o)))))
theorem f118_eq (D : Dyn) (n : Nat) : f118 D n = funKp (s118 D n) D n 118 Tryz.f118 h118 := by kernel_rfl
theorem f118_tolds : toldsF Tryz.f118 ho118 = [(q118_0.code, [0, 3, 4], mt118_0)] := by kernel_rfl
theorem f118_told : ∀ x ∈ toldsF Tryz.f118 ho118, ToldOk PP Tryz.f118.ntmps 118 x.1 x.2.1 x.2.2 := by
  rw [f118_tolds]; intro x hx
  simp only [List.mem_cons, List.not_mem_nil, or_false] at hx
  subst hx; exact told118_0
theorem f118_hs : HS h118 ho118 := by
  unfold h118 ho118
  repeat (first | exact HS.t mtp118_0_sim | constructor)
theorem f118_ok {D : Dyn} (hD : DP D) (n : Nat) : FP 118 (f118 D n) := fun_okPT X_ok hD (SP.nil) Tryz.func118 (sitesT_ok (by kernel_rfl) f118_told) f118_hs (f118_eq D n)

def s227 (D : Dyn) (n : Nat) : Tb := ⟨X, [(185, f185 D n)]⟩
def f227j0 (D : Dyn) (n : Nat) (vs : List AV) (H : AH) : Rs :=
  hd vs fun x1_4 vs => hd vs fun x3_3 vs => hd vs fun x4_3 vs => hd vs fun x5_3 vs => hd vs fun x6 vs => hd vs fun x20_2 vs => hd vs fun x21_2 vs => 
  bV (bInt .gtr x6 (.int .i64 (.ofNat 0))) fun x47 => 
  jn (wnt x47 true (bV (bInt .gtr x5_3 x3_3) fun x51 => 
  some (.norm [x51], H)) (some (.norm [undefA], H))) fun vs H => hd vs fun x51_2 vs => 
  bV (pk3 (some x47) (some x51_2) (some (.bool false))) fun x52 => 
  cnd x52 (bV (some x6) fun x2 => some (.ret x2, H))
  (bV (bInt .add x21_2 (.int .i64 (.ofNat 1))) fun x54 => 
  some (.norm [x1_4, x3_3, x4_3, x5_3, x20_2, x54], H))
def f227l1 (D : Dyn) (n : Nat) (vs : List AV) (H : AH) : Rs :=
  hd vs fun x1_3 vs => hd vs fun x3_2 vs => hd vs fun x4_2 vs => hd vs fun x5_2 vs => hd vs fun x20 vs => hd vs fun x21 vs => 
  bV (bInt .lss x21 x20) fun x22 => 
  cnd x22 (bV (fAd 1 x1_3) fun x25 => 
  bV (ld1p x25 H) fun x26 => 
  bV (ixSl 1 x26 x21) fun x28 => 
  bV (ld1p x28 H) fun x29 => 
  bV (lnStr x29) fun x30 => 
  bV (bInt .add (.int .i64 (.ofNat 1)) x30) fun x31 => 
  bV (bInt .add x5_2 x31) fun x32 => 
  bV (fAd 0 x1_3) fun x33 => 
  bV (ld1p x33 H) fun x34 => 
  jn (cnd x34 (bV (fAd 2 x1_3) fun x36 => 
  bV (ld1p x36 H) fun x37 => 
  bV (ixSl 1 x37 x21) fun x39 => 
  bV (ld1p x39 H) fun x40 => 
  bV (lnStr x40) fun x41 => 
  bV (bInt .add (.int .i64 (.ofNat 1)) x41) fun x42 => 
  bV (bInt .add x32 x42) fun x43 => 
  some (.norm [x1_3, x3_2, x4_2, x43, x21, x20, x21], H))
  (bV (bInt .add x32 (.int .i64 (.ofNat 16))) fun x45 => 
  some (.norm [x1_3, x3_2, x4_2, x45, x21, x20, x21], H))) (f227j0 D n))
  (some (.exit 0 [x4_2], H))
def f227b2 (D : Dyn) (n : Nat) (vs : List AV) (H : AH) : Rs :=
  hd vs fun x4_4 vs => 
  bV (some x4_4) fun x2_2 => some (.ret x2_2, H)
def f227j3 (D : Dyn) (n : Nat) (vs : List AV) (H : AH) : Rs :=
  hd vs fun x1_2 vs => hd vs fun x3 vs => hd vs fun x4 vs => hd vs fun x5 vs => 
  jb 0 (loopK n (f227l1 D n) [x1_2, x3, x4, x5, x4, (.int .i64 (.ofNat 0))] H) (f227b2 D n)
/-- jetty/node.half -/
def f227 (D : Dyn) (n : Nat) (vs : List AV) (H : AH) : Option (AV × AH) :=
  outR (hd vs fun x0 vs => nl vs <|
  bA (bxV 46 x0) H fun x1 H => 
  bV (ldNp 4 x1 H) fun x7 => 
  bR (noPan (f185 D n [x7] H)) fun x8 H => 
  bV (bInt .sub x8 (.int .i64 (.ofNat 2))) fun x9 => 
  bV (bInt .quo x9 (.int .i64 (.ofNat 2))) fun x10 => 
  bV (fAd 1 x1) fun x11 => 
  bV (ld1p x11 H) fun x12 => 
  bV (lnSl x12) fun x13 => 
  bV (bInt .sub x13 (.int .i64 (.ofNat 1))) fun x14 => 
  bV (fAd 0 x1) fun x15 => 
  bV (ld1p x15 H) fun x16 => 
  bV (aun .not x16) fun x17 => 
  jn (cnd x17 (bV (bInt .sub x14 (.int .i64 (.ofNat 1))) fun x19 => 
  some (.norm [x1, x10, x19, (.int .i64 (.ofNat 16))], H))
  (some (.norm [x1, x10, x14, (.int .i64 (.ofNat 0))], H))) (f227j3 D n))
def h227 : Hint := (.s .o (.s .o (.s .o (.s .o (.s (.s .o (.c [1, 3, 4, 5] (.s .o .o) .o)) (.s (.s .o (.b [4] (.l [1, 3, 4, 5, 20, 21] (.s .o (.s (.cr .o .o) (.s (.b0 (.s .o (.s .o (.s (.s .o (.c [1, 3, 4, 5, 6, 20, 21] .o .o)) (.s .o (.cl (.s .o .o) .o)))))) .o)))))) (.s .o .o)))))))
theorem f227_eq (D : Dyn) (n : Nat) : f227 D n = funKp (s227 D n) D n 227 Tryz.f227 h227 := by kernel_rfl
theorem f227_ok {D : Dyn} (hD : DP D) (n : Nat) : FP 227 (f227 D n) := fun_okP X_ok hD (SP.cons (f185_ok hD n) (SP.nil)) Tryz.func227 (by kernel_rfl) (by kernel_rfl) (f227_eq D n)

def s219 (D : Dyn) (n : Nat) : Tb := ⟨X, [(124, f124 D n), (227, f227 D n), (48, f48 D n), (49, f49 D n)]⟩
def f219j0 (D : Dyn) (n : Nat) (vs : List AV) (H : AH) : Rs :=
  hd vs fun x1_2 vs => hd vs fun x2_2 vs => hd vs fun x4_2 vs => hd vs fun x6 vs => 
  bV (ldNp 4 x2_2 H) fun x88 => 
  bV (fAd 1 x1_2) fun x89 => 
  bV (ld1p x89 H) fun x90 => 
  bV (ixSl 1 x90 x6) fun x92 => 
  bV (ld1p x92 H) fun x93 => 
  bV (ldNp 4 x4_2 H) fun x94 => 
  bR (stNp 4 x2_2 x88 H) fun x9999_12 H => chk (ld1p x89 H) x90 <| chk (ld1p x92 H) x93 <| chk (ldNp 4 x4_2 H) x94 <| 
  bR (stNp 4 x4_2 x94 H) fun x9999_13 H => 
  bV (ldNp 4 x2_2 H) fun x9002_2 => bV (some x93) fun x3_2 => bV (ldNp 4 x4_2 H) fun x9004_2 => bV (some (.int .i64 (.ofNat 0))) fun x5_2 => some (.ret (.tuple [x9002_2, x3_2, x9004_2, x5_2]), H)
/-- jetty/node.Cut -/
def f219 (D : Dyn) (n : Nat) (vs : List AV) (H : AH) : Option (AV × AH) :=
  outR (hd vs fun x0 vs => nl vs <|
  bA (bxV 46 x0) H fun x1 H => 
  bA (bxV 46 (.agg [(.bool false), .nilSlice, .nilSlice, .nilSlice])) H fun x2 H => 
  bA (bxV 46 (.agg [(.bool false), .nilSlice, .nilSlice, .nilSlice])) H fun x4 H => 
  bV (ldNp 4 x1 H) fun x7 => 
  bR (noPan (f124 D n [x7] H)) fun x8 H => 
  bV (aun .not x8) fun x9 => 
  jn (wnt x9 false (bV (fAd 1 x1) fun x11 => 
  bV (ld1p x11 H) fun x12 => 
  bV (lnSl x12) fun x13 => 
  bV (bInt .lss x13 (.int .i64 (.ofNat 2))) fun x14 => 
  some (.norm [x14], H)) (some (.norm [undefA], H))) fun vs H => hd vs fun x14_2 vs => 
  bV (pk3 (some x9) (some (.bool true)) (some x14_2)) fun x15 => 
  jn (wnt x15 false (bV (fAd 0 x1) fun x17 => 
  bV (ld1p x17 H) fun x18 => 
  bV (aun .not x18) fun x19 => 
  some (.norm [x19], H)) (some (.norm [undefA], H))) fun vs H => hd vs fun x20 vs => 
  jn (wnt x20 true (bV (fAd 1 x1) fun x21 => 
  bV (ld1p x21 H) fun x22 => 
  bV (lnSl x22) fun x23 => 
  bV (bInt .lss x23 (.int .i64 (.ofNat 3))) fun x24 => 
  some (.norm [x24], H)) (some (.norm [undefA], H))) fun vs H => hd vs fun x24_2 vs => 
  jn (wnt x15 false (bV (pk3 (some x20) (some x24_2) (some (.bool false))) fun x25 => 
  some (.norm [x25], H)) (some (.norm [undefA], H))) fun vs H => hd vs fun x25_2 vs => 
  bV (pk3 (some x15) (some (.bool true)) (some x25_2)) fun x26 => 
  cnd x26 (bV (bldSp [(0, 1), (1, 1), (2, 1), (3, 1)] [(.bool false), .nilSlice, .nilSlice, .nilSlice] []) fun x27 => 
  bV (bldSp [(0, 1), (1, 1), (2, 1), (3, 1)] [(.bool false), .nilSlice, .nilSlice, .nilSlice] []) fun x28 => 
  bR (stNp 4 x2 x27 H) fun x9999 H => 
  bR (stNp 4 x4 x28 H) fun x9999_2 H => 
  bV (ldNp 4 x2 H) fun x9002 => bV (some (.str 0 0)) fun x3 => bV (ldNp 4 x4 H) fun x9004 => bV (some (.int .i64 (.ofNat 1))) fun x5 => some (.ret (.tuple [x9002, x3, x9004, x5]), H))
  (bV (ldNp 4 x1 H) fun x29 => 
  bR (noPan (f227 D n [x29] H)) fun x30 H => 
  bV (fAd 0 x1) fun x31 => 
  bV (ld1p x31 H) fun x32 => 
  bV (fAd 0 x1) fun x33 => 
  bV (ld1p x33 H) fun x34 => 
  bV (fAd 0 x2) fun x35 => 
  bR (stNp 1 x35 x32 H) fun x9999_3 H => chk (ld1p x33 H) x34 <| 
  bV (fAd 0 x4) fun x36 => 
  bR (stNp 1 x36 x34 H) fun x9999_4 H => 
  bV (fAd 1 x1) fun x37 => 
  bV (ld1p x37 H) fun x38 => 
  bV (slSlp 1 x38 none (some x30) (some x30) H) fun x41 => 
  bR (noPan (f48 D n [x41] H)) fun x42 H => 
  bV (fAd 1 x2) fun x43 => 
  bR (stNp 1 x43 x42 H) fun x9999_5 H => 
  bV (fAd 0 x1) fun x44 => 
  bV (ld1p x44 H) fun x45 => 
  jn (cnd x45 (bV (fAd 1 x1) fun x46 => 
  bV (ld1p x46 H) fun x47 => 
  bV (slSlp 1 x47 (some x30) none none H) fun x49 => 
  bR (noPan (f48 D n [x49] H)) fun x50 H => 
  bV (fAd 1 x4) fun x51 => 
  bR (stNp 1 x51 x50 H) fun x9999_6 H => 
  bV (fAd 2 x1) fun x52 => 
  bV (ld1p x52 H) fun x53 => 
  bV (slSlp 1 x53 none (some x30) (some x30) H) fun x56 => 
  bV (fAd 2 x1) fun x58 => 
  bV (ld1p x58 H) fun x59 => 
  bV (slSlp 1 x59 (some x30) none none H) fun x61 => 
  bR (noPan (f48 D n [x56] H)) fun x57 H => chk (ld1p x58 H) x59 <| chk (slSlp 1 x59 (some x30) none none H) x61 <| 
  bV (fAd 2 x2) fun x63 => 
  bR (noPan (f48 D n [x61] H)) fun x62 H => 
  bR (stNp 1 x63 x57 H) fun x9999_7 H => 
  bV (fAd 2 x4) fun x64 => 
  bR (stNp 1 x64 x62 H) fun x9999_8 H => 
  some (.norm [x1, x2, x4, x30], H))
  (bV (fAd 1 x1) fun x65 => 
  bV (ld1p x65 H) fun x66 => 
  bV (bInt .add x30 (.int .i64 (.ofNat 1))) fun x68 => 
  bV (slSlp 1 x66 (some x68) none none H) fun x69 => 
  bR (noPan (f48 D n [x69] H)) fun x70 H => 
  bV (fAd 1 x4) fun x71 => 
  bR (stNp 1 x71 x70 H) fun x9999_9 H => 
  bV (fAd 3 x1) fun x72 => 
  bV (ld1p x72 H) fun x73 => 
  bV (bInt .add x30 (.int .i64 (.ofNat 1))) fun x75 => 
  bV (bInt .add x30 (.int .i64 (.ofNat 1))) fun x77 => 
  bV (slSlp 3 x73 none (some x75) (some x77) H) fun x78 => 
  bV (fAd 3 x1) fun x80 => 
  bV (ld1p x80 H) fun x81 => 
  bV (bInt .add x30 (.int .i64 (.ofNat 1))) fun x83 => 
  bV (slSlp 3 x81 (some x83) none none H) fun x84 => 
  bR (noPan (f49 D n [x78] H)) fun x79 H => chk (ld1p x80 H) x81 <| chk (slSlp 3 x81 (some x83) none none H) x84 <| 
  bV (fAd 3 x2) fun x86 => 
  bR (noPan (f49 D n [x84] H)) fun x85 H => 
  bR (stNp 1 x86 x79 H) fun x9999_10 H => 
  bV (fAd 3 x4) fun x87 => 
  bR (stNp 1 x87 x85 H) fun x9999_11 H => 
  some (.norm [x1, x2, x4, x30], H))) (f219j0 D n)))
def h219 : Hint := (.s .o (.s (.s .o (.cl (.s .o .o) .o)) (.s .o (.s .o (.s .o (.s (.s .o (.c [1, 2, 4, 6] (.s .o .o) (.s .o .o))) (.s .o .o)))))))
theorem f219_eq (D : Dyn) (n : Nat) : f219 D n = funKp (s219 D n) D n 219 Tryz.f219 h219 := by kernel_rfl
theorem f219_ok {D : Dyn} (hD : DP D) (n : Nat) : FP 219 (f219 D n) := fun_okP X_ok hD (SP.cons (f124_ok hD n) (SP.cons (f227_ok hD n) (SP.cons (f48_ok hD n) (SP.cons (f49_ok hD n) (SP.nil))))) Tryz.func219 (by kernel_rfl) (by kernel_rfl) (f219_eq D n)

def s194 (D : Dyn) (n : Nat) : Tb := ⟨X, [(185, f185 D n), (219, f219 D n)]⟩
def f194l0 (D : Dyn) (n : Nat) (vs : List AV) (H : AH) : Rs :=
  hd vs fun x1_2 vs => hd vs fun x5 vs => hd vs fun x6 vs => 
  bV (ldNp 4 x1_2 H) fun x11 => 
  bR (noPan (f185 D n [x11] H)) fun x12 H => 
  bV (bInt .gtr x12 (.int .i64 (.ofNat 500))) fun x13 => 
  cnd x13 (bV (ldNp 4 x1_2 H) fun x15 => 
  bR (noPan (f219 D n [x15] H)) fun x16 H => 
  bV (pExtract x16 0) fun x17 => 
  bV (pExtract x16 1) fun x18 => 
  bV (pExtract x16 2) fun x19 => 
  bV (pExtract x16 3) fun x20 => 
  bA (bxV 46 (.agg [(.bool false), .nilSlice, .nilSlice, .nilSlice])) H fun x7 H => 
  bA (bxV 46 (.agg [(.bool false), .nilSlice, .nilSlice, .nilSlice])) H fun x9 H => 
  bR (stNp 4 x7 x17 H) fun x9999 H => 
  bR (stNp 4 x9 x19 H) fun x9999_2 H => 
  bV (bInt .neq x20 (.int .i64 (.ofNat 0))) fun x22 => 
  cnd x22 (bV (some .nilSlice) fun x2 => bV (some .nilSlice) fun x3 => bV (some (.int .i64 (.ofNat 4))) fun x4 => some (.ret (.tuple [x2, x3, x4]), H))
  (bV (ldNp 4 x7 H) fun x24 => 
  bA (bldLp 46 4 1 [(.bool false), .nilSlice, .nilSlice, .nilSlice] [(0, x24)]) H fun x25 H => 
  bR (apPp 46 4 80 x5 x25 H) fun x26 H => 
  bA (bldLp 9 1 1 [(.str 0 0)] [(0, x18)]) H fun x29 H => 
  bR (apPp 9 1 16 x6 x29 H) fun x30 H => 
  bV (ldNp 4 x9 H) fun x31 => 
  bR (stNp 4 x1_2 x31 H) fun x9999_3 H => 
  some (.norm [x1_2, x26, x30], H)))
  (some (.exit 0 [x1_2, x5, x6], H))
def f194b1 (D : Dyn) (n : Nat) (vs : List AV) (H : AH) : Rs :=
  hd vs fun x1_3 vs => hd vs fun x5_2 vs => hd vs fun x6_2 vs => 
  bV (ldNp 4 x1_3 H) fun x33 => 
  bA (bldLp 46 4 1 [(.bool false), .nilSlice, .nilSlice, .nilSlice] [(0, x33)]) H fun x34 H => 
  bR (apPp 46 4 80 x5_2 x34 H) fun x35 H => 
  bV (some x35) fun x2_2 => bV (some x6_2) fun x3_2 => bV (some (.int .i64 (.ofNat 0))) fun x4_2 => some (.ret (.tuple [x2_2, x3_2, x4_2]), H)
/-- jetty/tree.cut -/
def f194 (D : Dyn) (n : Nat) (vs : List AV) (H : AH) : Option (AV × AH) :=
  outR (hd vs fun x0 vs => nl vs <|
  bA (bxV 46 x0) H fun x1 H => 
  jb 0 (loopK n (f194l0 D n) [x1, .nilSlice, .nilSlice] H) (f194b1 D n))
def h194 : Hint := (.s .o (.s .o (.s .o (.s (.b [1, 5, 6] (.l [1, 5, 6] (.s (.s .o (.cr .o .o)) (.b0 (.s .o (.s (.s .o (.cl (.s .o .o) .o)) (.s .o (.s .o .o)))))))) (.s .o .o)))))
theorem f194_eq (D : Dyn) (n : Nat) : f194 D n = funKp (s194 D n) D n 194 Tryz.f194 h194 := by kernel_rfl
theorem f194_ok {D : Dyn} (hD : DP D) (n : Nat) : FP 194 (f194 D n) := fun_okP X_ok hD (SP.cons (f185_ok hD n) (SP.cons (f219_ok hD n) (SP.nil))) Tryz.func194 (by kernel_rfl) (by kernel_rfl) (f194_eq D n)

def s196 (D : Dyn) (n : Nat) : Tb := ⟨X, [(119, f119 D n)]⟩
def f196l0 (D : Dyn) (n : Nat) (vs : List AV) (H : AH) : Rs :=
  hd vs fun x0_2 vs => hd vs fun x5 vs => hd vs fun x8 vs => hd vs fun x9_2 vs => hd vs fun x10 vs => 
  bV (bInt .lss x10 x9_2) fun x11 => 
  cnd x11 (bV (ixSl 4 x8 x10) fun x12 => 
  bV (ldNp 4 x12 H) fun x13 => 
  bA (bxV 46 (.agg [(.bool false), .nilSlice, .nilSlice, .nilSlice])) H fun x7 H => 
  bR (stNp 4 x7 x13 H) fun x9999 H => 
  bV (ldNp 4 x7 H) fun x16 => 
  bR (noPan (f119 D n [x0_2, x16] H)) fun x17 H => 
  bA (bldLp 35 3 1 [(.int .i64 (.ofNat 0)), (.int .i64 (.ofNat 0)), (.int .u64 (.ofNat 0))] [(0, x17)]) H fun x18 H => 
  bR (apPp 35 3 24 x5 x18 H) fun x19 H => 
  bV (bInt .add x10 (.int .i64 (.ofNat 1))) fun x20 => 
  some (.norm [x0_2, x19, x8, x9_2, x20], H))
  (some (.exit 0 [x5], H))
def f196b1 (D : Dyn) (n : Nat) (vs : List AV) (H : AH) : Rs :=
  hd vs fun x5_2 vs => 
  bV (some x5_2) fun x4 => some (.ret x4, H)
/-- (*jetty/tree.change).addAll -/
def f196 (D : Dyn) (n : Nat) (vs : List AV) (H : AH) : Option (AV × AH) :=
  outR (hd vs fun x0 vs => hd vs fun x1 vs => nl vs <|
  bV (lnSl x1) fun x9 => 
  jb 0 (loopK n (f196l0 D n) [x0, .nilSlice, x1, x9, (.int .i64 (.ofNat 0))] H) (f196b1 D n))
def h196 : Hint := (.s .o (.s .o (.s (.s .o (.b [5] (.l [0, 5, 8, 9, 10] (.s .o (.s (.cr .o .o) (.s (.b0 (.s .o .o)) .o)))))) (.s .o .o))))
theorem f196_eq (D : Dyn) (n : Nat) : f196 D n = funKp (s196 D n) D n 196 Tryz.f196 h196 := by kernel_rfl
theorem f196_ok {D : Dyn} (hD : DP D) (n : Nat) : FP 196 (f196 D n) := fun_okP X_ok hD (SP.cons (f119_ok hD n) (SP.nil)) Tryz.func196 (by kernel_rfl) (by kernel_rfl) (f196_eq D n)

def s123 (D : Dyn) (n : Nat) : Tb := ⟨X, [(118, f118 D n), (194, f194 D n), (196, f196 D n), (119, f119 D n)]⟩
def f123j0 (D : Dyn) (n : Nat) (vs : List AV) (H : AH) : Rs :=
  
  bV (some (.int .i64 (.ofNat 0))) fun x4 => some (.ret x4, H)
def f123j1 (D : Dyn) (n : Nat) (vs : List AV) (H : AH) : Rs :=
  
  bV (some (.int .i64 (.ofNat 0))) fun x4_3 => some (.ret x4_3, H)
/-- (*jetty/tree.change).crown -/
def f123 (D : Dyn) (n : Nat) (vs : List AV) (H : AH) : Option (AV × AH) :=
  outR (hd vs fun x0 vs => hd vs fun x1 vs => nl vs <|
  bA (bxV 46 x1) H fun x3 H => 
  bV (fAd 1 x3) fun x9 => 
  bV (ld1p x9 H) fun x10 => 
  bV (lnSl x10) fun x11 => 
  bV (bInt .eql x11 (.int .i64 (.ofNat 0))) fun x12 => 
  cnd x12 (bV (fAd 0 x3) fun x13 => 
  bV (ld1p x13 H) fun x14 => 
  jn (cnd x14 (bV (bldSp [(0, 1), (1, 1), (2, 1)] [(.int .i64 (.ofNat 0)), (.int .i64 (.ofNat 0)), (.int .u64 (.ofNat 0))] []) fun x16 => 
  bR (noPan (f118 D n [x0, x16] H)) fun x17 H => 
  some (.norm [], H))
  (bV (fAd 3 x3) fun x19 => 
  bV (ld1p x19 H) fun x20 => 
  bV (ixSl 3 x20 (.int .i64 (.ofNat 0))) fun x21 => 
  bV (ldNp 3 x21 H) fun x22 => 
  bR (noPan (f118 D n [x0, x22] H)) fun x23 H => 
  some (.norm [], H))) (f123j0 D n))
  (bV (ldNp 4 x3 H) fun x25 => 
  bR (noPan (f194 D n [x25] H)) fun x26 H => 
  bV (pExtract x26 0) fun x27 => 
  bV (pExtract x26 1) fun x28 => 
  bV (pExtract x26 2) fun x29 => 
  bV (bInt .neq x29 (.int .i64 (.ofNat 0))) fun x31 => 
  cnd x31 (bV (some x29) fun x4_2 => some (.ret x4_2, H))
  (bR (noPan (f196 D n [x0, x27] H)) fun x35 H => 
  bV (lnSl x35) fun x37 => 
  bV (bInt .eql x37 (.int .i64 (.ofNat 1))) fun x38 => 
  jn (cnd x38 (bV (ixSl 3 x35 (.int .i64 (.ofNat 0))) fun x41 => 
  bV (ldNp 3 x41 H) fun x42 => 
  bR (noPan (f118 D n [x0, x42] H)) fun x43 H => 
  some (.norm [], H))
  (bV (bldSp [(0, 1), (1, 1), (2, 1), (3, 1)] [(.bool false), .nilSlice, .nilSlice, .nilSlice] [(1, x28), (3, x35)]) fun x48 => 
  bR (noPan (f119 D n [x0, x48] H)) fun x49 H => 
  bR (noPan (f118 D n [x0, x49] H)) fun x50 H => 
  some (.norm [], H))) (f123j1 D n))))
def h123 : Hint := (.s .o (.s (.s .o (.cl (.s (.s .o (.c [] .o .o)) (.s .o .o)) .o)) (.s .o (.s (.s .o (.cl (.s .o .o) .o)) (.s .o (.s (.s .o (.c [] .o .o)) (.s .o .o)))))))
theorem f123_eq (D : Dyn) (n : Nat) : f123 D n = funKp (s123 D n) D n 123 Tryz.f123 h123 := by kernel_rfl
theorem f123_ok {D : Dyn} (hD : DP D) (n : Nat) : FP 123 (f123 D n) := fun_okP X_ok hD (SP.cons (f118_ok hD n) (SP.cons (f194_ok hD n) (SP.cons (f196_ok hD n) (SP.cons (f119_ok hD n) (SP.nil))))) Tryz.func123 (by kernel_rfl) (by kernel_rfl) (f123_eq D n)

def s43 (D : Dyn) (n : Nat) : Tb := ⟨X, []⟩
/-- (*jetty/tree.Tree).most -/
def f43 (D : Dyn) (n : Nat) (vs : List AV) (H : AH) : Option (AV × AH) :=
  outR (hd vs fun x0 vs => nl vs <|
  bV (pNil x0) fun x4 => 
  bV (fAd 5 x4) fun x5 => 
  bV (ld1p x5 H) fun x6 => 
  bV (lnMap x6 H) fun x7 => 
  bV (bInt .add (.int .i64 (.ofNat 8192)) x7) fun x8 => 
  bV (some x8) fun x2 => some (.ret x2, H))
def h43 : Hint := (.s .o (.s .o .o))
theorem f43_eq (D : Dyn) (n : Nat) : f43 D n = funKp (s43 D n) D n 43 Tryz.f43 h43 := by kernel_rfl
theorem f43_ok {D : Dyn} (hD : DP D) (n : Nat) : FP 43 (f43 D n) := fun_okP X_ok hD (SP.nil) Tryz.func43 (by kernel_rfl) (by kernel_rfl) (f43_eq D n)

def s46 (D : Dyn) (n : Nat) : Tb := ⟨X, []⟩
def f46j0 (D : Dyn) (n : Nat) (vs : List AV) (H : AH) : Rs :=
  hd vs fun x1_3 vs => hd vs fun x2_3 vs => hd vs fun x5_2 vs => hd vs fun x9_3 vs => hd vs fun x10_3 vs => hd vs fun x11_2 vs => 
  bV (bInt .add x11_2 (.int .i64 (.ofNat 1))) fun x30 => 
  some (.norm [x1_3, x2_3, x5_2, x9_3, x10_3, x30], H)
def f46l1 (D : Dyn) (n : Nat) (vs : List AV) (H : AH) : Rs :=
  hd vs fun x1_2 vs => hd vs fun x2_2 vs => hd vs fun x5 vs => hd vs fun x9_2 vs => hd vs fun x10_2 vs => hd vs fun x11 vs => 
  bV (bInt .lss x11 x10_2) fun x12 => 
  cnd x12 (bV (ixSl 1 x9_2 x11) fun x13 => 
  bV (ld1p x13 H) fun x14 => 
  bV (bStr .lss x14 x1_2) fun x17 => 
  jn (wnt x17 false (bV (fAd 0 x2_2) fun x19 => 
  bV (ld1p x19 H) fun x20 => 
  bV (aun .not x20) fun x21 => 
  some (.norm [x21], H)) (some (.norm [undefA], H))) fun vs H => hd vs fun x22 vs => 
  jn (wnt x22 true (bV (bStr .eql x14 x1_2) fun x25 => 
  some (.norm [x25], H)) (some (.norm [undefA], H))) fun vs H => hd vs fun x25_2 vs => 
  jn (wnt x17 false (bV (pk3 (some x22) (some x25_2) (some (.bool false))) fun x26 => 
  some (.norm [x26], H)) (some (.norm [undefA], H))) fun vs H => hd vs fun x26_2 vs => 
  bV (pk3 (some x17) (some (.bool true)) (some x26_2)) fun x27 => 
  jn (cnd x27 (bV (bInt .add x5 (.int .i64 (.ofNat 1))) fun x29 => 
  some (.norm [x1_2, x2_2, x29, x9_2, x10_2, x11], H))
  (some (.norm [x1_2, x2_2, x5, x9_2, x10_2, x11], H))) (f46j0 D n))
  (some (.exit 0 [x5], H))
def f46b2 (D : Dyn) (n : Nat) (vs : List AV) (H : AH) : Rs :=
  hd vs fun x5_3 vs => 
  bV (some x5_3) fun x4 => some (.ret x4, H)
/-- jetty/node.Where -/
def f46 (D : Dyn) (n : Nat) (vs : List AV) (H : AH) : Option (AV × AH) :=
  outR (hd vs fun x0 vs => hd vs fun x1 vs => nl vs <|
  bA (bxV 46 x0) H fun x2 H => 
  bV (fAd 1 x2) fun x8 => 
  bV (ld1p x8 H) fun x9 => 
  bV (lnSl x9) fun x10 => 
  jb 0 (loopK n (f46l1 D n) [x1, x2, (.int .i64 (.ofNat 0)), x9, x10, (.int .i64 (.ofNat 0))] H) (f46b2 D n))
def h46 : Hint := (.s .o (.s .o (.s (.s .o (.b [5] (.l [1, 2, 5, 9, 10, 11] (.s .o (.s (.cr .o .o) (.s (.b0 (.s .o (.s .o (.c [1, 2, 5, 9, 10, 11] .o .o)))) .o)))))) (.s .o .o))))
theorem f46_eq (D : Dyn) (n : Nat) : f46 D n = funKp (s46 D n) D n 46 Tryz.f46 h46 := by kernel_rfl
theorem f46_ok {D : Dyn} (hD : DP D) (n : Nat) : FP 46 (f46 D n) := fun_okP X_ok hD (SP.nil) Tryz.func46 (by kernel_rfl) (by kernel_rfl) (f46_eq D n)

def s122 (D : Dyn) (n : Nat) : Tb := ⟨X, []⟩
/-- (*jetty/tree.change).goes -/
def f122 (D : Dyn) (n : Nat) (vs : List AV) (H : AH) : Option (AV × AH) :=
  outR (hd vs fun x0 vs => hd vs fun x1 vs => nl vs <|
  bA (bxV 35 x1) H fun x3 H => 
  bV (pNil x0) fun x6 => 
  bV (fAd 3 x6) fun x7 => 
  bV (ld1p x7 H) fun x8 => 
  bV (ldNp 3 x3 H) fun x9 => 
  bA (bldLp 35 3 1 [(.int .i64 (.ofNat 0)), (.int .i64 (.ofNat 0)), (.int .u64 (.ofNat 0))] [(0, x9)]) H fun x10 H => 
  bR (apPp 35 3 24 x8 x10 H) fun x11 H => 
  bV (pNil x0) fun x12 => 
  bV (fAd 3 x12) fun x13 => 
  bR (stNp 1 x13 x11 H) fun x9999 H => 
  some (.ret (.tuple []), H))
def h122 : Hint := (.s .o .o)
theorem f122_eq (D : Dyn) (n : Nat) : f122 D n = funKp (s122 D n) D n 122 Tryz.f122 h122 := by kernel_rfl
theorem f122_ok {D : Dyn} (hD : DP D) (n : Nat) : FP 122 (f122 D n) := fun_okP X_ok hD (SP.nil) Tryz.func122 (by kernel_rfl) (by kernel_rfl) (f122_eq D n)

def s218 (D : Dyn) (n : Nat) : Tb := ⟨X, [(125, f125 D n)]⟩
/-- jetty/node.parted -/
def f218 (D : Dyn) (n : Nat) (vs : List AV) (H : AH) : Option (AV × AH) :=
  outR (hd vs fun x0 vs => hd vs fun x1 vs => hd vs fun x2 vs => nl vs <|
  bA (bxV 46 x0) H fun x3 H => 
  bA (bxV 46 x2) H fun x5 H => 
  bR (noPan (f125 D n [x1] H)) fun x9 H => 
  bV (aun .not x9) fun x10 => 
  jn (wnt x10 false (bV (fAd 0 x3) fun x12 => 
  bV (ld1p x12 H) fun x13 => 
  bV (fAd 0 x5) fun x14 => 
  bV (ld1p x14 H) fun x15 => 
  bV (bBool .neq x13 x15) fun x16 => 
  some (.norm [x16], H)) (some (.norm [undefA], H))) fun vs H => hd vs fun x16_2 vs => 
  bV (pk3 (some x10) (some (.bool true)) (some x16_2)) fun x17 => 
  cnd x17 (bV (some (.bool false)) fun x6 => some (.ret x6, H))
  (bV (fAd 1 x3) fun x18 => 
  bV (ld1p x18 H) fun x19 => 
  bV (lnSl x19) fun x20 => 
  bV (bInt .gtr x20 (.int .i64 (.ofNat 0))) fun x22 => 
  jn (wnt x22 true (bV (fAd 1 x3) fun x24 => 
  bV (ld1p x24 H) fun x25 => 
  bV (bInt .sub x20 (.int .i64 (.ofNat 1))) fun x27 => 
  bV (ixSl 1 x25 x27) fun x28 => 
  bV (ld1p x28 H) fun x29 => 
  bV (bStr .geq x29 x1) fun x31 => 
  some (.norm [x31], H)) (some (.norm [undefA], H))) fun vs H => hd vs fun x31_2 vs => 
  bV (pk3 (some x22) (some x31_2) (some (.bool false))) fun x32 => 
  cnd x32 (bV (some (.bool false)) fun x6_2 => some (.ret x6_2, H))
  (bV (fAd 1 x5) fun x33 => 
  bV (ld1p x33 H) fun x34 => 
  bV (lnSl x34) fun x35 => 
  bV (bInt .eql x35 (.int .i64 (.ofNat 0))) fun x36 => 
  cnd x36 (bV (some (.bool true)) fun x6_3 => some (.ret x6_3, H))
  (bV (fAd 1 x5) fun x38 => 
  bV (ld1p x38 H) fun x39 => 
  bV (ixSl 1 x39 (.int .i64 (.ofNat 0))) fun x40 => 
  bV (ld1p x40 H) fun x41 => 
  bV (bStr .lss x1 x41) fun x42 => 
  jn (wnt x42 false (bV (fAd 0 x3) fun x44 => 
  bV (ld1p x44 H) fun x45 => 
  some (.norm [x45], H)) (some (.norm [undefA], H))) fun vs H => hd vs fun x46 vs => 
  jn (wnt x46 true (bV (fAd 1 x5) fun x48 => 
  bV (ld1p x48 H) fun x49 => 
  bV (ixSl 1 x49 (.int .i64 (.ofNat 0))) fun x50 => 
  bV (ld1p x50 H) fun x51 => 
  bV (bStr .eql x1 x51) fun x52 => 
  some (.norm [x52], H)) (some (.norm [undefA], H))) fun vs H => hd vs fun x52_2 vs => 
  jn (wnt x42 false (bV (pk3 (some x46) (some x52_2) (some (.bool false))) fun x53 => 
  some (.norm [x53], H)) (some (.norm [undefA], H))) fun vs H => hd vs fun x53_2 vs => 
  bV (pk3 (some x42) (some (.bool true)) (some x53_2)) fun x54 => 
  bV (some x54) fun x6_4 => some (.ret x6_4, H)))))
def h218 : Hint := (.s .o (.s (.s .o (.cl (.s .o .o) .o)) (.s (.s .o (.s .o (.cl (.s .o .o) .o))) (.s (.s .o (.cl (.s .o .o) .o)) (.s .o .o)))))
theorem f218_eq (D : Dyn) (n : Nat) : f218 D n = funKp (s218 D n) D n 218 Tryz.f218 h218 := by kernel_rfl
theorem f218_ok {D : Dyn} (hD : DP D) (n : Nat) : FP 218 (f218 D n) := fun_okP X_ok hD (SP.cons (f125_ok hD n) (SP.nil)) Tryz.func218 (by kernel_rfl) (by kernel_rfl) (f218_eq D n)

def s199 (D : Dyn) (n : Nat) : Tb := ⟨X, []⟩
def f199j0 (D : Dyn) (n : Nat) (vs : List AV) (H : AH) : Rs :=
  hd vs fun x0_3 vs => 
  bV (some x0_3) fun x4 => some (.ret x4, H)
def f199j1 (D : Dyn) (n : Nat) (vs : List AV) (H : AH) : Rs :=
  hd vs fun x0_2 vs => hd vs fun x1_2 vs => 
  bV (acap X 43 x0_2) fun x10 => 
  bV (lnSl x0_2) fun x12 => 
  bV (bInt .sub x10 x12) fun x13 => 
  bV (bInt .sub x1_2 x13) fun x14 => 
  bV (bInt .gtr x14 (.int .i64 (.ofNat 0))) fun x16 => 
  jn (cnd x16 (bV (acap X 43 x0_2) fun x19 => 
  bV (slSlp 1 x0_2 none (some x19) none H) fun x20 => 
  bR (apZp 9 1 16 [(.str 0 0)] x20 x14 H) fun x22 H => 
  bV (lnSl x0_2) fun x24 => 
  bV (slSlp 1 x22 none (some x24) none H) fun x25 => 
  some (.norm [x25], H))
  (some (.norm [x0_2], H))) (f199j0 D n)
/-- slices.Grow[[]string,string] -/
def f199 (D : Dyn) (n : Nat) (vs : List AV) (H : AH) : Option (AV × AH) :=
  outR (hd vs fun x0 vs => hd vs fun x1 vs => nl vs <|
  bV (bInt .lss x1 (.int .i64 (.ofNat 0))) fun x6 => 
  jn (cnd x6 (none)
  (some (.norm [x0, x1], H))) (f199j1 D n))
def h199 : Hint := (.s .o (.s (.s .o (.c [0, 1] .o .o)) (.s (.s .o (.s .o (.c [0] .o .o))) (.s .o .o))))
theorem f199_eq (D : Dyn) (n : Nat) : f199 D n = funKp (s199 D n) D n 199 Tryz.f199 h199 := by kernel_rfl
theorem f199_ok {D : Dyn} (hD : DP D) (n : Nat) : FP 199 (f199 D n) := fun_okP X_ok hD (SP.nil) Tryz.func199 (by kernel_rfl) (by kernel_rfl) (f199_eq D n)

def s127 (D : Dyn) (n : Nat) : Tb := ⟨X, [(199, f199 D n)]⟩
def f127j0 (D : Dyn) (n : Nat) (vs : List AV) (H : AH) : Rs :=
  hd vs fun x0_3 vs => hd vs fun x3_2 vs => hd vs fun x9_2 vs => hd vs fun x10_3 vs => hd vs fun x11_2 vs => 
  bV (bInt .add x11_2 (.int .i64 (.ofNat 1))) fun x22 => 
  some (.norm [x0_3, x3_2, x9_2, x10_3, x22], H)
def f127l1 (D : Dyn) (n : Nat) (vs : List AV) (H : AH) : Rs :=
  hd vs fun x0_2 vs => hd vs fun x3 vs => hd vs fun x9 vs => hd vs fun x10_2 vs => hd vs fun x11 vs => 
  bV (bInt .lss x11 x10_2) fun x12 => 
  cnd x12 (bV (ixSl 1 x9 x11) fun x13 => 
  bV (ld1p x13 H) fun x14 => 
  bV (lnSl x14) fun x17 => 
  bV (bInt .add x3 x17) fun x18 => 
  bV (bInt .lss x18 (.int .i64 (.ofNat 0))) fun x20 => 
  jn (cnd x20 (none)
  (some (.norm [x0_2, x18, x9, x10_2, x11], H))) (f127j0 D n))
  (some (.exit 0 [x0_2, x3], H))
def f127l2 (D : Dyn) (n : Nat) (vs : List AV) (H : AH) : Rs :=
  hd vs fun x6 vs => hd vs fun x25 vs => hd vs fun x26_2 vs => hd vs fun x27 vs => 
  bV (bInt .lss x27 x26_2) fun x28 => 
  cnd x28 (bV (ixSl 1 x25 x27) fun x29 => 
  bV (ld1p x29 H) fun x30 => 
  bR (apPp 9 1 16 x6 x30 H) fun x33 H => 
  bV (bInt .add x27 (.int .i64 (.ofNat 1))) fun x34 => 
  some (.norm [x33, x25, x26_2, x34], H))
  (some (.exit 2 [x6], H))
def f127b3 (D : Dyn) (n : Nat) (vs : List AV) (H : AH) : Rs :=
  hd vs fun x6_2 vs => 
  bV (some x6_2) fun x2 => some (.ret x2, H)
def f127b4 (D : Dyn) (n : Nat) (vs : List AV) (H : AH) : Rs :=
  hd vs fun x0_4 vs => hd vs fun x3_3 vs => 
  bR (noPan (f199 D n [.nilSlice, x3_3] H)) fun x24 H => 
  bV (lnSl x0_4) fun x26 => 
  jb 2 (loopK n (f127l2 D n) [x24, x0_4, x26, (.int .i64 (.ofNat 0))] H) (f127b3 D n)
/-- slices.Concat[[]string,string] -/
def f127 (D : Dyn) (n : Nat) (vs : List AV) (H : AH) : Option (AV × AH) :=
  outR (hd vs fun x0 vs => nl vs <|
  bV (lnSl x0) fun x10 => 
  jb 0 (loopK n (f127l1 D n) [x0, (.int .i64 (.ofNat 0)), x0, x10, (.int .i64 (.ofNat 0))] H) (f127b4 D n))
def h127 : Hint := (.s .o (.s .o (.s (.s .o (.b [0, 3] (.l [0, 3, 9, 10, 11] (.s .o (.s (.cr .o .o) (.s (.b0 (.s .o (.s .o (.s .o (.c [0, 3, 9, 10, 11] .o .o))))) .o)))))) (.s .o (.s (.s .o (.b [6] (.l [6, 25, 26, 27] (.s .o (.s (.cr .o .o) (.s (.b0 (.s .o .o)) .o)))))) (.s .o .o))))))
theorem f127_eq (D : Dyn) (n : Nat) : f127 D n = funKp (s127 D n) D n 127 Tryz.f127 h127 := by kernel_rfl
theorem f127_ok {D : Dyn} (hD : DP D) (n : Nat) : FP 127 (f127 D n) := fun_okP X_ok hD (SP.cons (f199_ok hD n) (SP.nil)) Tryz.func127 (by kernel_rfl) (by kernel_rfl) (f127_eq D n)

def s220 (D : Dyn) (n : Nat) : Tb := ⟨X, []⟩
def f220j0 (D : Dyn) (n : Nat) (vs : List AV) (H : AH) : Rs :=
  hd vs fun x0_3 vs => 
  bV (some x0_3) fun x4 => some (.ret x4, H)
def f220j1 (D : Dyn) (n : Nat) (vs : List AV) (H : AH) : Rs :=
  hd vs fun x0_2 vs => hd vs fun x1_2 vs => 
  bV (acap X 44 x0_2) fun x10 => 
  bV (lnSl x0_2) fun x12 => 
  bV (bInt .sub x10 x12) fun x13 => 
  bV (bInt .sub x1_2 x13) fun x14 => 
  bV (bInt .gtr x14 (.int .i64 (.ofNat 0))) fun x16 => 
  jn (cnd x16 (bV (acap X 44 x0_2) fun x19 => 
  bV (slSlp 3 x0_2 none (some x19) none H) fun x20 => 
  bR (apZp 35 3 24 [(.int .i64 (.ofNat 0)), (.int .i64 (.ofNat 0)), (.int .u64 (.ofNat 0))] x20 x14 H) fun x22 H => 
  bV (lnSl x0_2) fun x24 => 
  bV (slSlp 3 x22 none (some x24) none H) fun x25 => 
  some (.norm [x25], H))
  (some (.norm [x0_2], H))) (f220j0 D n)
/-- slices.Grow[[]jetty/api.Ptr,jetty/api.Ptr] -/
def f220 (D : Dyn) (n : Nat) (vs : List AV) (H : AH) : Option (AV × AH) :=
  outR (hd vs fun x0 vs => hd vs fun x1 vs => nl vs <|
  bV (bInt .lss x1 (.int .i64 (.ofNat 0))) fun x6 => 
  jn (cnd x6 (none)
  (some (.norm [x0, x1], H))) (f220j1 D n))
def h220 : Hint := (.s .o (.s (.s .o (.c [0, 1] .o .o)) (.s (.s .o (.s .o (.c [0] .o .o))) (.s .o .o))))
theorem f220_eq (D : Dyn) (n : Nat) : f220 D n = funKp (s220 D n) D n 220 Tryz.f220 h220 := by kernel_rfl
theorem f220_ok {D : Dyn} (hD : DP D) (n : Nat) : FP 220 (f220 D n) := fun_okP X_ok hD (SP.nil) Tryz.func220 (by kernel_rfl) (by kernel_rfl) (f220_eq D n)

def s195 (D : Dyn) (n : Nat) : Tb := ⟨X, [(220, f220 D n)]⟩
def f195j0 (D : Dyn) (n : Nat) (vs : List AV) (H : AH) : Rs :=
  hd vs fun x0_3 vs => hd vs fun x3_2 vs => hd vs fun x9_2 vs => hd vs fun x10_3 vs => hd vs fun x11_2 vs => 
  bV (bInt .add x11_2 (.int .i64 (.ofNat 1))) fun x22 => 
  some (.norm [x0_3, x3_2, x9_2, x10_3, x22], H)
def f195l1 (D : Dyn) (n : Nat) (vs : List AV) (H : AH) : Rs :=
  hd vs fun x0_2 vs => hd vs fun x3 vs => hd vs fun x9 vs => hd vs fun x10_2 vs => hd vs fun x11 vs => 
  bV (bInt .lss x11 x10_2) fun x12 => 
  cnd x12 (bV (ixSl 1 x9 x11) fun x13 => 
  bV (ld1p x13 H) fun x14 => 
  bV (lnSl x14) fun x17 => 
  bV (bInt .add x3 x17) fun x18 => 
  bV (bInt .lss x18 (.int .i64 (.ofNat 0))) fun x20 => 
  jn (cnd x20 (none)
  (some (.norm [x0_2, x18, x9, x10_2, x11], H))) (f195j0 D n))
  (some (.exit 0 [x0_2, x3], H))
def f195l2 (D : Dyn) (n : Nat) (vs : List AV) (H : AH) : Rs :=
  hd vs fun x6 vs => hd vs fun x25 vs => hd vs fun x26_2 vs => hd vs fun x27 vs => 
  bV (bInt .lss x27 x26_2) fun x28 => 
  cnd x28 (bV (ixSl 1 x25 x27) fun x29 => 
  bV (ld1p x29 H) fun x30 => 
  bR (apPp 35 3 24 x6 x30 H) fun x33 H => 
  bV (bInt .add x27 (.int .i64 (.ofNat 1))) fun x34 => 
  some (.norm [x33, x25, x26_2, x34], H))
  (some (.exit 2 [x6], H))
def f195b3 (D : Dyn) (n : Nat) (vs : List AV) (H : AH) : Rs :=
  hd vs fun x6_2 vs => 
  bV (some x6_2) fun x2 => some (.ret x2, H)
def f195b4 (D : Dyn) (n : Nat) (vs : List AV) (H : AH) : Rs :=
  hd vs fun x0_4 vs => hd vs fun x3_3 vs => 
  bR (noPan (f220 D n [.nilSlice, x3_3] H)) fun x24 H => 
  bV (lnSl x0_4) fun x26 => 
  jb 2 (loopK n (f195l2 D n) [x24, x0_4, x26, (.int .i64 (.ofNat 0))] H) (f195b3 D n)
/-- slices.Concat[[]jetty/api.Ptr,jetty/api.Ptr] -/
def f195 (D : Dyn) (n : Nat) (vs : List AV) (H : AH) : Option (AV × AH) :=
  outR (hd vs fun x0 vs => nl vs <|
  bV (lnSl x0) fun x10 => 
  jb 0 (loopK n (f195l1 D n) [x0, (.int .i64 (.ofNat 0)), x0, x10, (.int .i64 (.ofNat 0))] H) (f195b4 D n))
def h195 : Hint := (.s .o (.s .o (.s (.s .o (.b [0, 3] (.l [0, 3, 9, 10, 11] (.s .o (.s (.cr .o .o) (.s (.b0 (.s .o (.s .o (.s .o (.c [0, 3, 9, 10, 11] .o .o))))) .o)))))) (.s .o (.s (.s .o (.b [6] (.l [6, 25, 26, 27] (.s .o (.s (.cr .o .o) (.s (.b0 (.s .o .o)) .o)))))) (.s .o .o))))))
theorem f195_eq (D : Dyn) (n : Nat) : f195 D n = funKp (s195 D n) D n 195 Tryz.f195 h195 := by kernel_rfl
theorem f195_ok {D : Dyn} (hD : DP D) (n : Nat) : FP 195 (f195 D n) := fun_okP X_ok hD (SP.cons (f220_ok hD n) (SP.nil)) Tryz.func195 (by kernel_rfl) (by kernel_rfl) (f195_eq D n)

def s193 (D : Dyn) (n : Nat) : Tb := ⟨X, [(124, f124 D n), (218, f218 D n), (127, f127 D n), (195, f195 D n)]⟩
/-- jetty/node.Join -/
def f193 (D : Dyn) (n : Nat) (vs : List AV) (H : AH) : Option (AV × AH) :=
  outR (hd vs fun x0 vs => hd vs fun x1 vs => hd vs fun x2 vs => nl vs <|
  bA (bxV 46 x0) H fun x3 H => 
  bA (bxV 46 x2) H fun x5 H => 
  bA (bxV 46 (.agg [(.bool false), .nilSlice, .nilSlice, .nilSlice])) H fun x6 H => 
  bV (ldNp 4 x3 H) fun x8 => 
  bR (noPan (f124 D n [x8] H)) fun x9 H => 
  bV (aun .not x9) fun x10 => 
  jn (wnt x10 false (bV (ldNp 4 x5 H) fun x12 => 
  bR (noPan (f124 D n [x12] H)) fun x13 H => 
  bV (aun .not x13) fun x14 => 
  some (.norm [x14], H)) (some (.norm [undefA], H))) fun vs H => hd vs fun x14_2 vs => 
  bV (pk3 (some x10) (some (.bool true)) (some x14_2)) fun x15 => 
  jn (wnt x15 false (bV (ldNp 4 x3 H) fun x17 => 
  bV (ldNp 4 x5 H) fun x19 => 
  bR (noPan (f218 D n [x17, x1, x19] H)) fun x20 H => 
  bV (aun .not x20) fun x21 => 
  some (.norm [x21], H)) (some (.norm [undefA], H))) fun vs H => hd vs fun x21_2 vs => 
  bV (pk3 (some x15) (some (.bool true)) (some x21_2)) fun x22 => 
  cnd x22 (bV (bldSp [(0, 1), (1, 1), (2, 1), (3, 1)] [(.bool false), .nilSlice, .nilSlice, .nilSlice] []) fun x23 => 
  bR (stNp 4 x6 x23 H) fun x9999 H => 
  bV (ldNp 4 x6 H) fun x9006 => bV (some (.int .i64 (.ofNat 1))) fun x7 => some (.ret (.tuple [x9006, x7]), H))
  (bV (fAd 0 x3) fun x24 => 
  bV (ld1p x24 H) fun x25 => 
  cnd x25 (bV (fAd 1 x3) fun x26 => 
  bV (ld1p x26 H) fun x27 => 
  bV (fAd 1 x5) fun x28 => 
  bV (ld1p x28 H) fun x29 => 
  bA (bldLp 43 1 2 [.nilSlice] [(0, x27), (1, x29)]) H fun x30 H => 
  bV (fAd 2 x3) fun x32 => 
  bV (ld1p x32 H) fun x33 => 
  bV (fAd 2 x5) fun x34 => 
  bV (ld1p x34 H) fun x35 => 
  bA (bldLp 43 1 2 [.nilSlice] [(0, x33), (1, x35)]) H fun x36 H => 
  bR (noPan (f127 D n [x30] H)) fun x31 H => chk (ld1p x32 H) x33 <| chk (ld1p x34 H) x35 <| 
  bR (noPan (f127 D n [x36] H)) fun x37 H => 
  bV (bldSp [(0, 1), (1, 1), (2, 1), (3, 1)] [(.bool false), .nilSlice, .nilSlice, .nilSlice] [(0, (.bool true)), (1, x31), (2, x37)]) fun x38 => 
  bR (stNp 4 x6 x38 H) fun x9999_2 H => 
  bV (ldNp 4 x6 H) fun x9006_2 => bV (some (.int .i64 (.ofNat 0))) fun x7_2 => some (.ret (.tuple [x9006_2, x7_2]), H))
  (bV (fAd 1 x3) fun x39 => 
  bV (ld1p x39 H) fun x40 => 
  bA (bldLp 9 1 1 [(.str 0 0)] [(0, x1)]) H fun x42 H => 
  bV (fAd 1 x5) fun x43 => 
  bV (ld1p x43 H) fun x44 => 
  bA (bldLp 43 1 3 [.nilSlice] [(0, x40), (1, x42), (2, x44)]) H fun x45 H => 
  bV (fAd 3 x3) fun x47 => 
  bV (ld1p x47 H) fun x48 => 
  bV (fAd 3 x5) fun x49 => 
  bV (ld1p x49 H) fun x50 => 
  bA (bldLp 44 1 2 [.nilSlice] [(0, x48), (1, x50)]) H fun x51 H => 
  bR (noPan (f127 D n [x45] H)) fun x46 H => chk (ld1p x47 H) x48 <| chk (ld1p x49 H) x50 <| 
  bR (noPan (f195 D n [x51] H)) fun x52 H => 
  bV (bldSp [(0, 1), (1, 1), (2, 1), (3, 1)] [(.bool false), .nilSlice, .nilSlice, .nilSlice] [(1, x46), (3, x52)]) fun x53 => 
  bR (stNp 4 x6 x53 H) fun x9999_3 H => 
  bV (ldNp 4 x6 H) fun x9006_3 => bV (some (.int .i64 (.ofNat 0))) fun x7_3 => some (.ret (.tuple [x9006_3, x7_3]), H))))
def h193 : Hint := (.s .o (.s (.s .o (.cl (.s .o .o) .o)) (.s (.s .o (.cl (.s .o .o) .o)) (.s .o .o))))
theorem f193_eq (D : Dyn) (n : Nat) : f193 D n = funKp (s193 D n) D n 193 Tryz.f193 h193 := by kernel_rfl
theorem f193_ok {D : Dyn} (hD : DP D) (n : Nat) : FP 193 (f193 D n) := fun_okP X_ok hD (SP.cons (f124_ok hD n) (SP.cons (f218_ok hD n) (SP.cons (f127_ok hD n) (SP.cons (f195_ok hD n) (SP.nil))))) Tryz.func193 (by kernel_rfl) (by kernel_rfl) (f193_eq D n)

def s121 (D : Dyn) (n : Nat) : Tb := ⟨X, [(185, f185 D n), (44, f44 D n), (122, f122 D n), (193, f193 D n), (194, f194 D n), (127, f127 D n), (196, f196 D n), (195, f195 D n)]⟩
def f121j0 (D : Dyn) (n : Nat) (vs : List AV) (H : AH) : Rs :=
  hd vs fun x0_3 vs => hd vs fun x5_3 vs => hd vs fun x7_3 vs => hd vs fun x8_3 vs => hd vs fun x10 vs => hd vs fun x11 vs => hd vs fun x14 vs => 
  bV (bInt .neq x14 (.int .i64 (.ofNat 0))) fun x85 => 
  cnd x85 (bV (bldSp [(0, 1), (1, 1), (2, 1), (3, 1)] [(.bool false), .nilSlice, .nilSlice, .nilSlice] []) fun x86 => 
  bR (stNp 4 x8_3 x86 H) fun x9999_5 H => 
  bV (ldNp 4 x8_3 H) fun x9008_2 => bV (some (.int .i64 (.ofNat 4))) fun x9_2 => some (.ret (.tuple [x9008_2, x9_2]), H))
  (some (.norm [x0_3, x5_3, x7_3, x8_3, x10, x11], H))
def f121j1 (D : Dyn) (n : Nat) (vs : List AV) (H : AH) : Rs :=
  hd vs fun x0_2 vs => hd vs fun x2_2 vs => hd vs fun x5_2 vs => hd vs fun x7_2 vs => hd vs fun x8_2 vs => hd vs fun x12 vs => 
  bV (pNil x0_2) fun x30 => 
  bV (fAd 0 x30) fun x31 => 
  bV (ld1p x31 H) fun x32 => 
  bV (fAd 3 x5_2) fun x33 => 
  bV (ld1p x33 H) fun x34 => 
  bV (ixSl 3 x34 x12) fun x36 => 
  bV (ldNp 3 x36 H) fun x37 => 
  bA (bxV 46 (.agg [(.bool false), .nilSlice, .nilSlice, .nilSlice])) H fun x13 H => 
  bR (noPan (f44 D n [x32, x37] H)) fun x38 H => 
  bV (pExtract x38 0) fun x39 => 
  bV (pExtract x38 1) fun x40 => 
  bR (stNp 4 x13 x39 H) fun x9999 H => 
  bV (bInt .neq x40 (.int .i64 (.ofNat 0))) fun x42 => 
  cnd x42 (bV (bldSp [(0, 1), (1, 1), (2, 1), (3, 1)] [(.bool false), .nilSlice, .nilSlice, .nilSlice] []) fun x43 => 
  bR (stNp 4 x8_2 x43 H) fun x9999_2 H => 
  bV (ldNp 4 x8_2 H) fun x9008 => bV (some x40) fun x9 => some (.ret (.tuple [x9008, x9]), H))
  (bV (fAd 3 x5_2) fun x46 => 
  bV (ld1p x46 H) fun x47 => 
  bV (ixSl 3 x47 x12) fun x49 => 
  bV (ldNp 3 x49 H) fun x50 => 
  bR (noPan (f122 D n [x0_2, x50] H)) fun x51 H => 
  bV (mn2 x2_2 x12) fun x54 => 
  bV (mx2 x2_2 x12) fun x57 => 
  bV (bInt .add x57 (.int .i64 (.ofNat 1))) fun x58 => 
  bV (bInt .lss x12 x2_2) fun x61 => 
  jn (cnd x61 (bV (ldNp 4 x13 H) fun x63 => 
  bV (fAd 1 x5_2) fun x64 => 
  bV (ld1p x64 H) fun x65 => 
  bV (ixSl 1 x65 x54) fun x67 => 
  bV (ld1p x67 H) fun x68 => 
  bV (ldNp 4 x7_2 H) fun x69 => 
  bR (noPan (f193 D n [x63, x68, x69] H)) fun x70 H => 
  bV (pExtract x70 0) fun x71 => 
  bV (pExtract x70 1) fun x72 => 
  bR (stNp 4 x7_2 x71 H) fun x9999_3 H => 
  some (.norm [x0_2, x5_2, x7_2, x8_2, x54, x58, x72], H))
  (bV (ldNp 4 x7_2 H) fun x74 => 
  bV (fAd 1 x5_2) fun x75 => 
  bV (ld1p x75 H) fun x76 => 
  bV (ixSl 1 x76 x54) fun x78 => 
  bV (ld1p x78 H) fun x79 => 
  bV (ldNp 4 x13 H) fun x80 => 
  bR (noPan (f193 D n [x74, x79, x80] H)) fun x81 H => 
  bV (pExtract x81 0) fun x82 => 
  bV (pExtract x81 1) fun x83 => 
  bR (stNp 4 x7_2 x82 H) fun x9999_4 H => 
  some (.norm [x0_2, x5_2, x7_2, x8_2, x54, x58, x83], H))) (f121j0 D n))
def f121j2 (D : Dyn) (n : Nat) (vs : List AV) (H : AH) : Rs :=
  hd vs fun x0_4 vs => hd vs fun x5_4 vs => hd vs fun x7_4 vs => hd vs fun x8_4 vs => hd vs fun x10_2 vs => hd vs fun x11_2 vs => 
  bV (ldNp 4 x7_4 H) fun x88 => 
  bR (noPan (f194 D n [x88] H)) fun x89 H => 
  bV (pExtract x89 0) fun x90 => 
  bV (pExtract x89 1) fun x91 => 
  bV (pExtract x89 2) fun x92 => 
  bV (bInt .neq x92 (.int .i64 (.ofNat 0))) fun x94 => 
  cnd x94 (bV (bldSp [(0, 1), (1, 1), (2, 1), (3, 1)] [(.bool false), .nilSlice, .nilSlice, .nilSlice] []) fun x95 => 
  bR (stNp 4 x8_4 x95 H) fun x9999_6 H => 
  bV (ldNp 4 x8_4 H) fun x9008_3 => bV (some x92) fun x9_3 => some (.ret (.tuple [x9008_3, x9_3]), H))
  (bV (fAd 1 x5_4) fun x97 => 
  bV (ld1p x97 H) fun x98 => 
  bV (slSlp 1 x98 none (some x10_2) (some x10_2) H) fun x101 => 
  bV (fAd 1 x5_4) fun x103 => 
  bV (ld1p x103 H) fun x104 => 
  bV (bInt .sub x11_2 (.int .i64 (.ofNat 1))) fun x106 => 
  bV (slSlp 1 x104 (some x106) none none H) fun x107 => 
  bA (bldLp 43 1 3 [.nilSlice] [(0, x101), (1, x91), (2, x107)]) H fun x108 H => 
  bV (fAd 3 x5_4) fun x110 => 
  bV (ld1p x110 H) fun x111 => 
  bV (slSlp 3 x111 none (some x10_2) (some x10_2) H) fun x114 => 
  bV (fAd 3 x5_4) fun x118 => 
  bV (ld1p x118 H) fun x119 => 
  bV (slSlp 3 x119 (some x11_2) none none H) fun x121 => 
  bR (noPan (f127 D n [x108] H)) fun x109 H => chk (ld1p x110 H) x111 <| chk (slSlp 3 x111 none (some x10_2) (some x10_2) H) x114 <| chk (ld1p x118 H) x119 <| chk (slSlp 3 x119 (some x11_2) none none H) x121 <| 
  bR (noPan (f196 D n [x0_4, x90] H)) fun x117 H => chk (ld1p x110 H) x111 <| chk (slSlp 3 x111 none (some x10_2) (some x10_2) H) x114 <| chk (ld1p x118 H) x119 <| chk (slSlp 3 x119 (some x11_2) none none H) x121 <| 
  bA (bldLp 44 1 3 [.nilSlice] [(0, x114), (1, x117), (2, x121)]) H fun x122 H => 
  bR (noPan (f195 D n [x122] H)) fun x123 H => 
  bV (bldSp [(0, 1), (1, 1), (2, 1), (3, 1)] [(.bool false), .nilSlice, .nilSlice, .nilSlice] [(1, x109), (3, x123)]) fun x124 => 
  bR (stNp 4 x8_4 x124 H) fun x9999_7 H => 
  bV (ldNp 4 x8_4 H) fun x9008_4 => bV (some (.int .i64 (.ofNat 0))) fun x9_4 => some (.ret (.tuple [x9008_4, x9_4]), H))
/-- (*jetty/tree.change).place -/
def f121 (D : Dyn) (n : Nat) (vs : List AV) (H : AH) : Option (AV × AH) :=
  outR (hd vs fun x0 vs => hd vs fun x1 vs => hd vs fun x2 vs => hd vs fun x3 vs => nl vs <|
  bA (bxV 46 x1) H fun x5 H => 
  bA (bxV 46 x3) H fun x7 H => 
  bA (bxV 46 (.agg [(.bool false), .nilSlice, .nilSlice, .nilSlice])) H fun x8 H => 
  bV (bInt .add x2 (.int .i64 (.ofNat 1))) fun x20 => 
  bV (ldNp 4 x7 H) fun x21 => 
  bR (noPan (f185 D n [x21] H)) fun x22 H => 
  bV (bInt .lss x22 (.int .i64 (.ofNat 160))) fun x23 => 
  jn (cnd x23 (bV (bInt .sub x2 (.int .i64 (.ofNat 1))) fun x25 => 
  bV (bInt .eql x2 (.int .i64 (.ofNat 0))) fun x27 => 
  jn (cnd x27 (some (.norm [x0, x2, x5, x7, x8, (.int .i64 (.ofNat 1))], H))
  (some (.norm [x0, x2, x5, x7, x8, x25], H))) (f121j1 D n))
  (some (.norm [x0, x5, x7, x8, x2, x20], H))) (f121j2 D n))
def h121 : Hint := (.s .o (.s .o (.s (.s .o (.c [0, 5, 7, 8, 10, 11] (.s .o (.s (.s .o (.c [0, 2, 5, 7, 8, 12] .o .o)) (.s .o (.s (.s .o (.cl (.s .o .o) .o)) (.s .o (.s .o (.s (.s .o (.c [0, 5, 7, 8, 10, 11, 14] .o .o)) (.s .o (.cl (.s .o .o) .o))))))))) .o)) (.s .o (.s (.s .o (.cl (.s .o .o) .o)) (.s .o .o))))))
theorem f121_eq (D : Dyn) (n : Nat) : f121 D n = funKp (s121 D n) D n 121 Tryz.f121 h121 := by kernel_rfl
theorem f121_ok {D : Dyn} (hD : DP D) (n : Nat) : FP 121 (f121 D n) := fun_okP X_ok hD (SP.cons (f185_ok hD n) (SP.cons (f44_ok hD n) (SP.cons (f122_ok hD n) (SP.cons (f193_ok hD n) (SP.cons (f194_ok hD n) (SP.cons (f127_ok hD n) (SP.cons (f196_ok hD n) (SP.cons (f195_ok hD n) (SP.nil))))))))) Tryz.func121 (by kernel_rfl) (by kernel_rfl) (f121_eq D n)
end Go.Eng.Sh
