/- Shallow functions, by program (gen.py). -/
import Derived.Test.YtnbpjfmfopgomaaGreatRS7
import Derived.Test.YtnbpjfmfopgomaaGreatProg
import Derived.KernelRfl
noncomputable section
namespace Go.Eng.Sh
open Go.Proofs
set_option maxRecDepth 100000
set_option linter.all false
def s9 (D : Dyn) (n : Nat) : Tb := ⟨X, [(42, f42 D n), (43, f43 D n), (44, f44 D n), (45, f45 D n), (46, f46 D n)]⟩
def f9l0 (D : Dyn) (n : Nat) (vs : List AV) (H : AH) : Rs :=
  hd vs fun x0_2 vs => hd vs fun x1_2 vs => hd vs fun x6_2 vs => hd vs fun x32_2 vs => hd vs fun x33 vs => 
  bV (bInt .lss x33 x32_2) fun x34 => 
  cnd x34 (bV (ldNp 3 x6_2 H) fun x37 => 
  bR (noPan (f44 D n [x0_2, x37] H)) fun x38 H => 
  bV (pExtract x38 0) fun x39 => 
  bV (pExtract x38 1) fun x40 => 
  bA (bxV 46 (.agg [(.bool false), .nilSlice, .nilSlice, .nilSlice])) H fun x7 H => 
  bR (stNp 4 x7 x39 H) fun x9999_2 H => 
  bV (bInt .neq x40 (.int .i64 (.ofNat 0))) fun x42 => 
  cnd x42 (bV (some (.str 0 0)) fun x4_4 => bV (some x40) fun x5_4 => some (.ret (.tuple [x4_4, x5_4]), H))
  (bV (fAd 0 x7) fun x44 => 
  bV (ld1p x44 H) fun x45 => 
  cnd x45 (bV (ldNp 4 x7 H) fun x47 => 
  bR (noPan (f45 D n [x47, x1_2] H)) fun x49 H => 
  bV (pExtract x49 0) fun x50 => 
  bV (pExtract x49 1) fun x51 => 
  bV (aun .not x51) fun x53 => 
  cnd x53 (bV (some (.str 0 0)) fun x4_5 => bV (some (.int .i64 (.ofNat 5))) fun x5_5 => some (.ret (.tuple [x4_5, x5_5]), H))
  (bV (some x50) fun x4_6 => bV (some (.int .i64 (.ofNat 0))) fun x5_6 => some (.ret (.tuple [x4_6, x5_6]), H)))
  (bV (fAd 3 x7) fun x55 => 
  bV (ld1p x55 H) fun x56 => 
  bV (ldNp 4 x7 H) fun x57 => 
  bR (noPan (f46 D n [x57, x1_2] H)) fun x59 H => chk (ld1p x55 H) x56 <| 
  bV (ixSl 3 x56 x59) fun x60 => 
  bV (ldNp 3 x60 H) fun x61 => 
  bR (stNp 3 x6_2 x61 H) fun x9999_3 H => 
  bV (bInt .add x33 (.int .i64 (.ofNat 1))) fun x62 => 
  some (.norm [x0_2, x1_2, x6_2, x32_2, x62], H))))
  (some (.exit 0 [], H))
def f9b1 (D : Dyn) (n : Nat) (vs : List AV) (H : AH) : Rs :=
  
  bV (some (.str 0 0)) fun x4_7 => bV (some (.int .i64 (.ofNat 4))) fun x5_7 => some (.ret (.tuple [x4_7, x5_7]), H)
/-- (*jetty/tree.Tree).Get -/
def f9 (D : Dyn) (n : Nat) (vs : List AV) (H : AH) : Option (AV × AH) :=
  outR (hd vs fun x0 vs => hd vs fun x1 vs => nl vs <|
  bR (noPan (f42 D n [x0] H)) fun x12 H => 
  cnd x12 (bV (some (.str 0 0)) fun x4 => bV (some (.int .i64 (.ofNat 2))) fun x5 => some (.ret (.tuple [x4, x5]), H))
  (bV (lnStr x1) fun x14 => 
  bV (bInt .lss x14 (.int .i64 (.ofNat 1))) fun x15 => 
  jn (wnt x15 false (bV (lnStr x1) fun x18 => 
  bV (bInt .gtr x18 (.int .i64 (.ofNat 40))) fun x19 => 
  some (.norm [x19], H)) (some (.norm [undefA], H))) fun vs H => hd vs fun x19_2 vs => 
  bV (pk3 (some x15) (some (.bool true)) (some x19_2)) fun x20 => 
  cnd x20 (bV (some (.str 0 0)) fun x4_2 => bV (some (.int .i64 (.ofNat 1))) fun x5_2 => some (.ret (.tuple [x4_2, x5_2]), H))
  (bV (pNil x0) fun x22 => 
  bV (fAd 2 x22) fun x23 => 
  bV (fAd 0 x23) fun x24 => 
  bV (ld1p x24 H) fun x25 => 
  bV (bInt .eql x25 (.int .i64 (.ofNat 0))) fun x26 => 
  cnd x26 (bV (some (.str 0 0)) fun x4_3 => bV (some (.int .i64 (.ofNat 5))) fun x5_3 => some (.ret (.tuple [x4_3, x5_3]), H))
  (bV (pNil x0) fun x28 => 
  bV (fAd 2 x28) fun x29 => 
  bV (ldNp 3 x29 H) fun x30 => 
  bA (bxV 35 (.agg [(.int .i64 (.ofNat 0)), (.int .i64 (.ofNat 0)), (.int .u64 (.ofNat 0))])) H fun x6 H => 
  bR (stNp 3 x6 x30 H) fun x9999 H => 
  bR (noPan (f43 D n [x0] H)) fun x32 H => 
  jb 0 (loopK n (f9l0 D n) [x0, x1, x6, x32, (.int .i64 (.ofNat 0))] H) (f9b1 D n)))))
def h9 : Hint := (.s .o (.s (.s .o (.cl (.s .o .o) .o)) (.s (.s .o (.cl (.s .o .o) .o)) (.s (.s .o (.cl (.s .o .o) .o)) (.s .o (.s (.s .o (.b [] (.l [0, 1, 6, 32, 33] (.s .o (.s (.cr .o .o) (.s (.b0 (.s .o (.s (.s .o (.cl (.s .o .o) .o)) (.s (.s .o (.cl (.s .o (.s (.s .o (.cl (.s .o .o) .o)) (.s .o .o))) .o)) .o)))) .o)))))) (.s .o .o)))))))
theorem f9_eq (D : Dyn) (n : Nat) : f9 D n = funKp (s9 D n) D n 9 Tryz.f9 h9 := by kernel_rfl
theorem f9_ok {D : Dyn} (hD : DP D) (n : Nat) : FP 9 (f9 D n) := fun_okP X_ok hD (SP.cons (f42_ok hD n) (SP.cons (f43_ok hD n) (SP.cons (f44_ok hD n) (SP.cons (f45_ok hD n) (SP.cons (f46_ok hD n) (SP.nil)))))) Tryz.func9 (by kernel_rfl) (by kernel_rfl) (f9_eq D n)

def s74 (D : Dyn) (n : Nat) : Tb := ⟨X, [(27, f27 D n), (9, f9 D n)]⟩
/-- jetty/jettylaw17.has -/
def f74 (D : Dyn) (n : Nat) (vs : List AV) (H : AH) : Option (AV × AH) :=
  outR (hd vs fun x0 vs => hd vs fun x1 vs => hd vs fun x2 vs => hd vs fun x3 vs => nl vs <|
  bR (noPan (f27 D n [x0, x1] H)) fun x16 H => 
  bV (pExtract x16 0) fun x17 => 
  bV (pExtract x16 1) fun x18 => 
  bV (bInt .neq x18 (.int .i64 (.ofNat 0))) fun x20 => 
  cnd x20 (bV (some (.bool false)) fun x8 => some (.ret x8, H))
  (bR (noPan (f9 D n [x17, x2] H)) fun x24 H => 
  bV (pExtract x24 0) fun x25 => 
  bV (pExtract x24 1) fun x26 => 
  bV (bInt .eql x26 (.int .i64 (.ofNat 0))) fun x28 => 
  jn (wnt x28 true (bV (bStr .eql x25 x3) fun x32 => 
  some (.norm [x32], H)) (some (.norm [undefA], H))) fun vs H => hd vs fun x32_2 vs => 
  bV (pk3 (some x28) (some x32_2) (some (.bool false))) fun x33 => 
  bV (some x33) fun x8_2 => some (.ret x8_2, H)))
def h74 : Hint := (.s .o (.s .o (.s (.s .o (.cl (.s .o .o) .o)) (.s .o (.s .o .o)))))
theorem f74_eq (D : Dyn) (n : Nat) : f74 D n = funKp (s74 D n) D n 74 Tryz.f74 h74 := by kernel_rfl
theorem f74_ok {D : Dyn} (hD : DP D) (n : Nat) : FP 74 (f74 D n) := fun_okP X_ok hD (SP.cons (f27_ok hD n) (SP.cons (f9_ok hD n) (SP.nil))) Tryz.func74 (by kernel_rfl) (by kernel_rfl) (f74_eq D n)

def s75 (D : Dyn) (n : Nat) : Tb := ⟨X, [(140, f140 D n), (50, f50 D n)]⟩
/-- (*jetty/txg.Store).Left -/
def f75 (D : Dyn) (n : Nat) (vs : List AV) (H : AH) : Option (AV × AH) :=
  outR (hd vs fun x0 vs => nl vs <|
  bR (noPan (f140 D n [x0] H)) fun x4 H => 
  cnd x4 (bV (some (.int .i64 (.ofNat 0))) fun x2 => some (.ret x2, H))
  (bV (pNil x0) fun x6 => 
  bV (fAd 4 x6) fun x7 => 
  bV (ld1p x7 H) fun x8 => 
  bR (noPan (f50 D n [x8] H)) fun x9 H => 
  bV (some x9) fun x2_2 => some (.ret x2_2, H)))
def h75 : Hint := (.s .o (.s (.s .o (.cl (.s .o .o) .o)) (.s .o .o)))
theorem f75_eq (D : Dyn) (n : Nat) : f75 D n = funKp (s75 D n) D n 75 Tryz.f75 h75 := by kernel_rfl
theorem f75_ok {D : Dyn} (hD : DP D) (n : Nat) : FP 75 (f75 D n) := fun_okP X_ok hD (SP.cons (f140_ok hD n) (SP.cons (f50_ok hD n) (SP.nil))) Tryz.func75 (by kernel_rfl) (by kernel_rfl) (f75_eq D n)

def s95 (D : Dyn) (n : Nat) : Tb := ⟨X, [(155, f155 D n), (156, f156 D n), (157, f157 D n), (158, f158 D n)]⟩
def f95j0 (D : Dyn) (n : Nat) (vs : List AV) (H : AH) : Rs :=
  hd vs fun x0_3 vs => hd vs fun x1_3 vs => hd vs fun x6_2 vs => hd vs fun x18_3 vs => hd vs fun x19_3 vs => hd vs fun x20_2 vs => 
  bV (bInt .add x20_2 (.int .i64 (.ofNat 1))) fun x50 => 
  some (.norm [x0_3, x1_3, x6_2, x18_3, x19_3, x50], H)
def f95l1 (D : Dyn) (n : Nat) (vs : List AV) (H : AH) : Rs :=
  hd vs fun x0_2 vs => hd vs fun x1_2 vs => hd vs fun x6 vs => hd vs fun x18_2 vs => hd vs fun x19_2 vs => hd vs fun x20 vs => 
  bV (bInt .lss x20 x19_2) fun x21 => 
  cnd x21 (bV (ixSl 1 x18_2 x20) fun x22 => 
  bV (ld1p x22 H) fun x23 => 
  bV (pNil x0_2) fun x27 => 
  bV (fAd 0 x27) fun x28 => 
  bV (ld1p x28 H) fun x29 => 
  bV (lkM [6] (.int .u8 (.ofNat 0)) false x29 x23 H) fun x31 => 
  bR (noPan (f158 D n [x0_2, x23, (.func 164 [x31] []), x1_2] H)) fun x34 H => 
  bV (pNil x0_2) fun x37 => 
  bV (fAd 0 x37) fun x38 => 
  bV (ld1p x38 H) fun x39 => 
  bV (lkM [6] (.int .u8 (.ofNat 0)) true x39 x23 H) fun x41 => 
  bV (pExtract x41 0) fun x42 => 
  bV (pExtract x41 1) fun x43 => 
  bV (aun .not x43) fun x45 => 
  jn (cnd x45 (bA (bldLp 3 1 1 [(.int .i64 (.ofNat 0))] [(0, x23)]) H fun x48 H => 
  bR (apPp 3 1 8 x6 x48 H) fun x49 H => 
  some (.norm [x0_2, x1_2, x49, x18_2, x19_2, x20], H))
  (some (.norm [x0_2, x1_2, x6, x18_2, x19_2, x20], H))) (f95j0 D n))
  (some (.exit 0 [x6], H))
def f95b2 (D : Dyn) (n : Nat) (vs : List AV) (H : AH) : Rs :=
  hd vs fun x6_3 vs => 
  bV (some x6_3) fun x4_3 => bV (some (.int .i64 (.ofNat 0))) fun x5_3 => some (.ret (.tuple [x4_3, x5_3]), H)
/-- (*jetty/dead.Table).Drop -/
def f95 (D : Dyn) (n : Nat) (vs : List AV) (H : AH) : Option (AV × AH) :=
  outR (hd vs fun x0 vs => hd vs fun x1 vs => nl vs <|
  bR (noPan (f155 D n [x0] H)) fun x12 H => 
  cnd x12 (bV (some .nilSlice) fun x4 => bV (some (.int .i64 (.ofNat 2))) fun x5 => some (.ret (.tuple [x4, x5]), H))
  (bR (noPan (f156 D n [x1] H)) fun x14 H => 
  bV (aun .not x14) fun x15 => 
  cnd x15 (bV (some .nilSlice) fun x4_2 => bV (some (.int .i64 (.ofNat 1))) fun x5_2 => some (.ret (.tuple [x4_2, x5_2]), H))
  (bR (noPan (f157 D n [x0, x1] H)) fun x18 H => 
  bV (lnSl x18) fun x19 => 
  jb 0 (loopK n (f95l1 D n) [x0, x1, .nilSlice, x18, x19, (.int .i64 (.ofNat 0))] H) (f95b2 D n))))
def h95 : Hint := (.s .o (.s (.s .o (.cl (.s .o .o) .o)) (.s (.s .o (.cl (.s .o .o) .o)) (.s .o (.s (.s .o (.b [6] (.l [0, 1, 6, 18, 19, 20] (.s .o (.s (.cr .o .o) (.s (.b0 (.s .o (.s .o (.s .o (.s .o (.c [0, 1, 6, 18, 19, 20] .o .o)))))) .o)))))) (.s .o .o))))))
theorem f95_eq (D : Dyn) (n : Nat) : f95 D n = funKp (s95 D n) D n 95 Tryz.f95 h95 := by kernel_rfl
theorem f95_ok {D : Dyn} (hD : DP D) (n : Nat) : FP 95 (f95 D n) := fun_okP X_ok hD (SP.cons (f155_ok hD n) (SP.cons (f156_ok hD n) (SP.cons (f157_ok hD n) (SP.cons (f158_ok hD n) (SP.nil))))) Tryz.func95 (by kernel_rfl) (by kernel_rfl) (f95_eq D n)

def s96 (D : Dyn) (n : Nat) : Tb := ⟨X, []⟩
/-- slices.Delete[[]jetty/snap.held,jetty/snap.held] -/
def f96 (D : Dyn) (n : Nat) (vs : List AV) (H : AH) : Option (AV × AH) :=
  outR (hd vs fun x0 vs => hd vs fun x1 vs => hd vs fun x2 vs => nl vs <|
  bV (lnSl x0) fun x12 => 
  bV (slSlp 7 x0 (some x1) (some x2) (some x12) H) fun x13 => 
  bV (bInt .eql x1 x2) fun x16 => 
  cnd x16 (bV (some x0) fun x6 => some (.ret x6, H))
  (bV (lnSl x0) fun x19 => 
  bV (slSlp 7 x0 none (some x1) none H) fun x22 => 
  bV (slSlp 7 x0 (some x2) none none H) fun x25 => 
  bR (apPp 138 7 64 x22 x25 H) fun x26 H => 
  bV (lnSl x26) fun x29 => 
  bV (slSlp 7 x26 (some x29) (some x19) none H) fun x31 => 
  bR (clSp [(.int .i64 (.ofNat 0)), (.str 0 0), (.int .i64 (.ofNat 0)), (.int .i64 (.ofNat 0)), (.int .i64 (.ofNat 0)), (.int .u64 (.ofNat 0)), (.int .i64 (.ofNat 0))] x31 H) fun x9999 H => 
  bV (some x26) fun x6_2 => some (.ret x6_2, H)))
def h96 : Hint := (.s .o (.s .o (.s (.s .o (.cl (.s .o .o) .o)) (.s .o (.s .o (.s .o (.s .o .o)))))))
theorem f96_eq (D : Dyn) (n : Nat) : f96 D n = funKp (s96 D n) D n 96 Tryz.f96 h96 := by kernel_rfl
theorem f96_ok {D : Dyn} (hD : DP D) (n : Nat) : FP 96 (f96 D n) := fun_okP X_ok hD (SP.nil) Tryz.func96 (by kernel_rfl) (by kernel_rfl) (f96_eq D n)

def s30 (D : Dyn) (n : Nat) : Tb := ⟨X, [(86, f86 D n), (88, f88 D n), (95, f95 D n), (96, f96 D n), (91, f91 D n)]⟩
/-- (*jetty/snap.Volume).Drop -/
def f30 (D : Dyn) (n : Nat) (vs : List AV) (H : AH) : Option (AV × AH) :=
  outR (hd vs fun x0 vs => hd vs fun x1 vs => nl vs <|
  bR (noPan (f86 D n [x0] H)) fun x9 H => 
  cnd x9 (bV (some (.int .i64 (.ofNat 2))) fun x4 => some (.ret x4, H))
  (bR (noPan (f88 D n [x0, x1] H)) fun x12 H => 
  bV (bInt .lss x12 (.int .i64 (.ofNat 0))) fun x14 => 
  cnd x14 (bV (some (.int .i64 (.ofNat 5))) fun x4_2 => some (.ret x4_2, H))
  (bV (pNil x0) fun x17 => 
  bV (fAd 3 x17) fun x18 => 
  bV (ld1p x18 H) fun x19 => 
  bV (pNil x0) fun x21 => 
  bV (fAd 2 x21) fun x22 => 
  bV (ld1p x22 H) fun x23 => 
  bV (ixSl 7 x23 x12) fun x25 => 
  bV (fAd 6 x25) fun x26 => 
  bV (ld1p x26 H) fun x27 => 
  bR (noPan (f95 D n [x19, x27] H)) fun x28 H => 
  bV (pExtract x28 0) fun x29 => 
  bV (pExtract x28 1) fun x30 => 
  bV (bInt .neq x30 (.int .i64 (.ofNat 0))) fun x32 => 
  cnd x32 (bV (some x30) fun x4_3 => some (.ret x4_3, H))
  (bV (pNil x0) fun x36 => 
  bV (fAd 4 x36) fun x37 => 
  bV (ld1p x37 H) fun x38 => 
  bR (apPp 3 1 8 x38 x29 H) fun x40 H => 
  bV (pNil x0) fun x41 => 
  bV (fAd 4 x41) fun x42 => 
  bR (stNp 1 x42 x40 H) fun x9999 H => 
  bV (pNil x0) fun x45 => 
  bV (fAd 2 x45) fun x46 => 
  bV (ld1p x46 H) fun x47 => 
  bV (bInt .add x12 (.int .i64 (.ofNat 1))) fun x50 => 
  bR (noPan (f96 D n [x47, x12, x50] H)) fun x51 H => 
  bV (pNil x0) fun x52 => 
  bV (fAd 2 x52) fun x53 => 
  bR (stNp 1 x53 x51 H) fun x9999_2 H => 
  bR (noPan (f91 D n [x0] H)) fun x55 H => 
  bV (some x55) fun x4_4 => some (.ret x4_4, H)))))
def h30 : Hint := (.s .o (.s (.s .o (.cl (.s .o .o) .o)) (.s .o (.s (.s .o (.cl (.s .o .o) .o)) (.s .o (.s (.s .o (.cl (.s .o .o) .o)) (.s .o (.s .o (.s .o .o)))))))))
theorem f30_eq (D : Dyn) (n : Nat) : f30 D n = funKp (s30 D n) D n 30 Tryz.f30 h30 := by kernel_rfl
theorem f30_ok {D : Dyn} (hD : DP D) (n : Nat) : FP 30 (f30 D n) := fun_okP X_ok hD (SP.cons (f86_ok hD n) (SP.cons (f88_ok hD n) (SP.cons (f95_ok hD n) (SP.cons (f96_ok hD n) (SP.cons (f91_ok hD n) (SP.nil)))))) Tryz.func30 (by kernel_rfl) (by kernel_rfl) (f30_eq D n)

def s76 (D : Dyn) (n : Nat) : Tb := ⟨X, [(86, f86 D n)]⟩
/-- (*jetty/snap.Volume).Waits -/
def f76 (D : Dyn) (n : Nat) (vs : List AV) (H : AH) : Option (AV × AH) :=
  outR (hd vs fun x0 vs => nl vs <|
  bR (noPan (f86 D n [x0] H)) fun x4 H => 
  cnd x4 (bV (some (.int .i64 (.ofNat 0))) fun x2 => some (.ret x2, H))
  (bV (pNil x0) fun x6 => 
  bV (fAd 4 x6) fun x7 => 
  bV (ld1p x7 H) fun x8 => 
  bV (lnSl x8) fun x9 => 
  bV (some x9) fun x2_2 => some (.ret x2_2, H)))
def h76 : Hint := (.s .o (.s (.s .o (.cl (.s .o .o) .o)) (.s .o .o)))
theorem f76_eq (D : Dyn) (n : Nat) : f76 D n = funKp (s76 D n) D n 76 Tryz.f76 h76 := by kernel_rfl
theorem f76_ok {D : Dyn} (hD : DP D) (n : Nat) : FP 76 (f76 D n) := fun_okP X_ok hD (SP.cons (f86_ok hD n) (SP.nil)) Tryz.func76 (by kernel_rfl) (by kernel_rfl) (f76_eq D n)

def s21 (D : Dyn) (n : Nat) : Tb := ⟨X, [(22, f22 D n), (23, f23 D n), (71, f71 D n), (72, f72 D n), (14, f14 D n), (25, f25 D n), (73, f73 D n), (31, f31 D n), (74, f74 D n), (75, f75 D n), (30, f30 D n), (76, f76 D n)]⟩
/-- jetty/jettylaw17.works -/
def f21 (D : Dyn) (n : Nat) (vs : List AV) (H : AH) : Option (AV × AH) :=
  outR (nl vs <|
  bR (noPan (f22 D n [(.int .i64 (.ofNat 64))] H)) fun x8 H => 
  bR (noPan (f23 D n [x8] H)) fun x9 H => 
  bV (cmpO .eql (eqP x9 .nilPtr)) fun x11 => 
  jn (wnt x11 false (bR (noPan (f71 D n [x9] H)) fun x14 H => 
  bR (noPan (f72 D n [x14] H)) fun x15 H => 
  bR (noPan (f14 D n [x15, (.str 1 97), (.str 1 49)] H)) fun x16 H => 
  bV (bInt .neq x16 (.int .i64 (.ofNat 0))) fun x17 => 
  some (.norm [x17], H)) (some (.norm [undefA], H))) fun vs H => hd vs fun x17_2 vs => 
  bV (pk3 (some x11) (some (.bool true)) (some x17_2)) fun x18 => 
  cnd x18 (bV (some (.bool false)) fun x0 => some (.ret x0, H))
  (bR (noPan (f25 D n [x9, (.str 1 115)] H)) fun x21 H => 
  bV (pExtract x21 0) fun x22 => 
  bV (pExtract x21 1) fun x23 => 
  bA (bxV 59 (.agg [(.int .i64 (.ofNat 0)), (.str 0 0), (.int .i64 (.ofNat 0)), (.int .i64 (.ofNat 0)), (.int .i64 (.ofNat 0)), (.int .u64 (.ofNat 0))])) H fun x2 H => 
  bR (stNp 6 x2 x22 H) fun x9999 H => 
  bV (bInt .neq x23 (.int .i64 (.ofNat 0))) fun x25 => 
  jn (wnt x25 false (bV (fAd 0 x2) fun x27 => 
  bV (ld1p x27 H) fun x28 => 
  bV (bInt .neq x28 (.int .i64 (.ofNat 1))) fun x29 => 
  some (.norm [x29], H)) (some (.norm [undefA], H))) fun vs H => hd vs fun x29_2 vs => 
  bV (pk3 (some x25) (some (.bool true)) (some x29_2)) fun x30 => 
  jn (wnt x30 false (bV (fAd 1 x2) fun x32 => 
  bV (ld1p x32 H) fun x33 => 
  bV (bStr .neq x33 (.str 1 115)) fun x34 => 
  some (.norm [x34], H)) (some (.norm [undefA], H))) fun vs H => hd vs fun x34_2 vs => 
  bV (pk3 (some x30) (some (.bool true)) (some x34_2)) fun x35 => 
  jn (wnt x35 false (bV (fAd 2 x2) fun x37 => 
  bV (ld1p x37 H) fun x38 => 
  bV (bInt .neq x38 (.int .i64 (.ofNat 2))) fun x39 => 
  some (.norm [x39], H)) (some (.norm [undefA], H))) fun vs H => hd vs fun x39_2 vs => 
  bV (pk3 (some x35) (some (.bool true)) (some x39_2)) fun x40 => 
  jn (wnt x40 false (bV (fAd 3 x2) fun x42 => 
  bV (ldNp 3 x42 H) fun x43 => 
  bR (noPan (f71 D n [x9] H)) fun x45 H => chk (ldNp 3 x42 H) x43 <| 
  bR (noPan (f73 D n [x45] H)) fun x46 H => chk (ldNp 3 x42 H) x43 <| 
  bV (cmpO .neq (eqAp [(6, 2), (10, 1)] x43 x46)) fun x47 => 
  some (.norm [x47], H)) (some (.norm [undefA], H))) fun vs H => hd vs fun x47_2 vs => 
  bV (pk3 (some x40) (some (.bool true)) (some x47_2)) fun x48 => 
  jn (wnt x48 false (bR (noPan (f71 D n [x9] H)) fun x51 H => 
  bR (noPan (f72 D n [x51] H)) fun x52 H => 
  bR (noPan (f14 D n [x52, (.str 1 97), (.str 1 50)] H)) fun x53 H => 
  bV (bInt .neq x53 (.int .i64 (.ofNat 0))) fun x54 => 
  some (.norm [x54], H)) (some (.norm [undefA], H))) fun vs H => hd vs fun x54_2 vs => 
  bV (pk3 (some x48) (some (.bool true)) (some x54_2)) fun x55 => 
  jn (wnt x55 false (bR (noPan (f31 D n [x9] H)) fun x58 H => 
  bV (bInt .neq x58 (.int .i64 (.ofNat 0))) fun x59 => 
  some (.norm [x59], H)) (some (.norm [undefA], H))) fun vs H => hd vs fun x59_2 vs => 
  bV (pk3 (some x55) (some (.bool true)) (some x59_2)) fun x60 => 
  jn (wnt x60 false (bR (noPan (f74 D n [x9, (.int .i64 (.ofNat 1)), (.str 1 97), (.str 1 49)] H)) fun x63 H => 
  bV (aun .not x63) fun x64 => 
  some (.norm [x64], H)) (some (.norm [undefA], H))) fun vs H => hd vs fun x64_2 vs => 
  bV (pk3 (some x60) (some (.bool true)) (some x64_2)) fun x65 => 
  jn (wnt x65 false (bR (noPan (f74 D n [x9, (.int .i64 (.ofNat 0)), (.str 1 97), (.str 1 50)] H)) fun x68 H => 
  bV (aun .not x68) fun x69 => 
  some (.norm [x69], H)) (some (.norm [undefA], H))) fun vs H => hd vs fun x69_2 vs => 
  bV (pk3 (some x65) (some (.bool true)) (some x69_2)) fun x70 => 
  jn (wnt x70 false (bR (noPan (f71 D n [x9] H)) fun x73 H => 
  bR (noPan (f75 D n [x73] H)) fun x74 H => 
  bV (bInt .neq x74 (.int .i64 (.ofNat 60))) fun x75 => 
  some (.norm [x75], H)) (some (.norm [undefA], H))) fun vs H => hd vs fun x75_2 vs => 
  bV (pk3 (some x70) (some (.bool true)) (some x75_2)) fun x76 => 
  jn (wnt x76 false (bR (noPan (f30 D n [x9, (.str 1 115)] H)) fun x79 H => 
  bV (bInt .neq x79 (.int .i64 (.ofNat 0))) fun x80 => 
  some (.norm [x80], H)) (some (.norm [undefA], H))) fun vs H => hd vs fun x80_2 vs => 
  bV (pk3 (some x76) (some (.bool true)) (some x80_2)) fun x81 => 
  jn (wnt x81 false (bR (noPan (f76 D n [x9] H)) fun x84 H => 
  bV (bInt .neq x84 (.int .i64 (.ofNat 1))) fun x85 => 
  some (.norm [x85], H)) (some (.norm [undefA], H))) fun vs H => hd vs fun x85_2 vs => 
  bV (pk3 (some x81) (some (.bool true)) (some x85_2)) fun x86 => 
  jn (wnt x86 false (bR (noPan (f31 D n [x9] H)) fun x89 H => 
  bV (bInt .neq x89 (.int .i64 (.ofNat 0))) fun x90 => 
  some (.norm [x90], H)) (some (.norm [undefA], H))) fun vs H => hd vs fun x90_2 vs => 
  bV (pk3 (some x86) (some (.bool true)) (some x90_2)) fun x91 => 
  jn (wnt x91 false (bR (noPan (f71 D n [x9] H)) fun x94 H => 
  bR (noPan (f75 D n [x94] H)) fun x95 H => 
  bV (bInt .neq x95 (.int .i64 (.ofNat 61))) fun x96 => 
  some (.norm [x96], H)) (some (.norm [undefA], H))) fun vs H => hd vs fun x96_2 vs => 
  bV (pk3 (some x91) (some (.bool true)) (some x96_2)) fun x97 => 
  cnd x97 (bV (some (.bool false)) fun x0_2 => some (.ret x0_2, H))
  (bR (noPan (f25 D n [x9, (.str 1 115)] H)) fun x100 H => 
  bV (pExtract x100 0) fun x101 => 
  bV (pExtract x100 1) fun x102 => 
  bA (bxV 59 (.agg [(.int .i64 (.ofNat 0)), (.str 0 0), (.int .i64 (.ofNat 0)), (.int .i64 (.ofNat 0)), (.int .i64 (.ofNat 0)), (.int .u64 (.ofNat 0))])) H fun x4 H => 
  bR (stNp 6 x4 x101 H) fun x9999_2 H => 
  bR (noPan (f25 D n [x9, (.str 0 0)] H)) fun x105 H => 
  bV (pExtract x105 0) fun x106 => 
  bV (pExtract x105 1) fun x107 => 
  bA (bxV 59 (.agg [(.int .i64 (.ofNat 0)), (.str 0 0), (.int .i64 (.ofNat 0)), (.int .i64 (.ofNat 0)), (.int .i64 (.ofNat 0)), (.int .u64 (.ofNat 0))])) H fun x6 H => 
  bR (stNp 6 x6 x106 H) fun x9999_3 H => 
  bV (bInt .eql x102 (.int .i64 (.ofNat 0))) fun x109 => 
  jn (wnt x109 true (bV (fAd 0 x4) fun x111 => 
  bV (ld1p x111 H) fun x112 => 
  bV (bInt .eql x112 (.int .i64 (.ofNat 2))) fun x113 => 
  some (.norm [x113], H)) (some (.norm [undefA], H))) fun vs H => hd vs fun x113_2 vs => 
  bV (pk3 (some x109) (some x113_2) (some (.bool false))) fun x114 => 
  jn (wnt x114 true (bV (bInt .eql x107 (.int .i64 (.ofNat 1))) fun x117 => 
  some (.norm [x117], H)) (some (.norm [undefA], H))) fun vs H => hd vs fun x117_2 vs => 
  bV (pk3 (some x114) (some x117_2) (some (.bool false))) fun x118 => 
  bV (some x118) fun x0_3 => some (.ret x0_3, H))))
def h21 : Hint := (.s .o (.s .o (.s (.s .o (.cl (.s .o .o) .o)) (.s .o (.s (.s .o (.cl (.s .o .o) .o)) (.s .o (.s .o (.s .o .o))))))))
theorem f21_eq (D : Dyn) (n : Nat) : f21 D n = funKp (s21 D n) D n 21 Tryz.f21 h21 := by kernel_rfl
theorem f21_ok {D : Dyn} (hD : DP D) (n : Nat) : FP 21 (f21 D n) := fun_okP X_ok hD (SP.cons (f22_ok hD n) (SP.cons (f23_ok hD n) (SP.cons (f71_ok hD n) (SP.cons (f72_ok hD n) (SP.cons (f14_ok hD n) (SP.cons (f25_ok hD n) (SP.cons (f73_ok hD n) (SP.cons (f31_ok hD n) (SP.cons (f74_ok hD n) (SP.cons (f75_ok hD n) (SP.cons (f30_ok hD n) (SP.cons (f76_ok hD n) (SP.nil))))))))))))) Tryz.func21 (by kernel_rfl) (by kernel_rfl) (f21_eq D n)

def s26 (D : Dyn) (n : Nat) : Tb := ⟨X, []⟩
/-- jetty/jettylaw17.many -/
def f26 (D : Dyn) (n : Nat) (vs : List AV) (H : AH) : Option (AV × AH) :=
  outR (hd vs fun x0 vs => nl vs <|
  bA (mkSlp 5 1 1 [(.int .u8 (.ofNat 0))] x0 x0) H fun x4 H => 
  bV (cvBSp x4 H) fun x5 => 
  bV (some x5) fun x2 => some (.ret x2, H))
def h26 : Hint := (.s .o (.s .o .o))
theorem f26_eq (D : Dyn) (n : Nat) : f26 D n = funKp (s26 D n) D n 26 Tryz.f26 h26 := by kernel_rfl
theorem f26_ok {D : Dyn} (hD : DP D) (n : Nat) : FP 26 (f26 D n) := fun_okP X_ok hD (SP.nil) Tryz.func26 (by kernel_rfl) (by kernel_rfl) (f26_eq D n)

def s28 (D : Dyn) (n : Nat) : Tb := ⟨X, [(86, f86 D n), (88, f88 D n)]⟩
/-- (*jetty/snap.Volume).Find -/
def f28 (D : Dyn) (n : Nat) (vs : List AV) (H : AH) : Option (AV × AH) :=
  outR (hd vs fun x0 vs => hd vs fun x1 vs => nl vs <|
  bA (bxV 59 (.agg [(.int .i64 (.ofNat 0)), (.str 0 0), (.int .i64 (.ofNat 0)), (.int .i64 (.ofNat 0)), (.int .i64 (.ofNat 0)), (.int .u64 (.ofNat 0))])) H fun x4 H => 
  bR (noPan (f86 D n [x0] H)) fun x8 H => 
  cnd x8 (bV (bldSp [(0, 1), (1, 1), (2, 1), (3, 3)] [(.int .i64 (.ofNat 0)), (.str 0 0), (.int .i64 (.ofNat 0)), (.int .i64 (.ofNat 0)), (.int .i64 (.ofNat 0)), (.int .u64 (.ofNat 0))] []) fun x9 => 
  bR (stNp 6 x4 x9 H) fun x9999 H => 
  bV (ldNp 6 x4 H) fun x9004 => bV (some (.int .i64 (.ofNat 2))) fun x5 => some (.ret (.tuple [x9004, x5]), H))
  (bR (noPan (f88 D n [x0, x1] H)) fun x12 H => 
  bV (bInt .lss x12 (.int .i64 (.ofNat 0))) fun x14 => 
  cnd x14 (bV (bldSp [(0, 1), (1, 1), (2, 1), (3, 3)] [(.int .i64 (.ofNat 0)), (.str 0 0), (.int .i64 (.ofNat 0)), (.int .i64 (.ofNat 0)), (.int .i64 (.ofNat 0)), (.int .u64 (.ofNat 0))] []) fun x15 => 
  bR (stNp 6 x4 x15 H) fun x9999_2 H => 
  bV (ldNp 6 x4 H) fun x9004_2 => bV (some (.int .i64 (.ofNat 5))) fun x5_2 => some (.ret (.tuple [x9004_2, x5_2]), H))
  (bV (pNil x0) fun x17 => 
  bV (fAd 2 x17) fun x18 => 
  bV (ld1p x18 H) fun x19 => 
  bV (ixSl 7 x19 x12) fun x21 => 
  bV (fAd 0 x21) fun x22 => 
  bV (ldNp 6 x22 H) fun x23 => 
  bR (stNp 6 x4 x23 H) fun x9999_3 H => 
  bV (ldNp 6 x4 H) fun x9004_3 => bV (some (.int .i64 (.ofNat 0))) fun x5_3 => some (.ret (.tuple [x9004_3, x5_3]), H))))
def h28 : Hint := (.s .o (.s (.s .o (.cl (.s .o .o) .o)) (.s .o (.s (.s .o (.cl (.s .o .o) .o)) (.s .o .o)))))
theorem f28_eq (D : Dyn) (n : Nat) : f28 D n = funKp (s28 D n) D n 28 Tryz.f28 h28 := by kernel_rfl
theorem f28_ok {D : Dyn} (hD : DP D) (n : Nat) : FP 28 (f28 D n) := fun_okP X_ok hD (SP.cons (f86_ok hD n) (SP.cons (f88_ok hD n) (SP.nil))) Tryz.func28 (by kernel_rfl) (by kernel_rfl) (f28_eq D n)

def s29 (D : Dyn) (n : Nat) : Tb := ⟨X, [(86, f86 D n)]⟩
def f29l0 (D : Dyn) (n : Nat) (vs : List AV) (H : AH) : Rs :=
  hd vs fun x3 vs => hd vs fun x11_2 vs => hd vs fun x12_2 vs => hd vs fun x13 vs => 
  bV (bInt .lss x13 x12_2) fun x14 => 
  cnd x14 (bV (ixSl 7 x11_2 x13) fun x15 => 
  bV (ldNp 7 x15 H) fun x16 => 
  bA (bxV 138 (.agg [(.int .i64 (.ofNat 0)), (.str 0 0), (.int .i64 (.ofNat 0)), (.int .i64 (.ofNat 0)), (.int .i64 (.ofNat 0)), (.int .u64 (.ofNat 0)), (.int .i64 (.ofNat 0))])) H fun x5 H => 
  bR (stNp 7 x5 x16 H) fun x9999 H => 
  bV (fAd 0 x5) fun x18 => 
  bV (ldNp 6 x18 H) fun x19 => 
  bA (bldLp 59 6 1 [(.int .i64 (.ofNat 0)), (.str 0 0), (.int .i64 (.ofNat 0)), (.int .i64 (.ofNat 0)), (.int .i64 (.ofNat 0)), (.int .u64 (.ofNat 0))] [(0, x19)]) H fun x20 H => 
  bR (apPp 59 6 56 x3 x20 H) fun x21 H => 
  bV (bInt .add x13 (.int .i64 (.ofNat 1))) fun x22 => 
  some (.norm [x21, x11_2, x12_2, x22], H))
  (some (.exit 0 [x3], H))
def f29b1 (D : Dyn) (n : Nat) (vs : List AV) (H : AH) : Rs :=
  hd vs fun x3_2 vs => 
  bV (some x3_2) fun x2_2 => some (.ret x2_2, H)
/-- (*jetty/snap.Volume).List -/
def f29 (D : Dyn) (n : Nat) (vs : List AV) (H : AH) : Option (AV × AH) :=
  outR (hd vs fun x0 vs => nl vs <|
  bR (noPan (f86 D n [x0] H)) fun x7 H => 
  cnd x7 (bV (some .nilSlice) fun x2 => some (.ret x2, H))
  (bV (pNil x0) fun x9 => 
  bV (fAd 2 x9) fun x10 => 
  bV (ld1p x10 H) fun x11 => 
  bV (lnSl x11) fun x12 => 
  jb 0 (loopK n (f29l0 D n) [.nilSlice, x11, x12, (.int .i64 (.ofNat 0))] H) (f29b1 D n)))
def h29 : Hint := (.s .o (.s (.s .o (.cl (.s .o .o) .o)) (.s .o (.s (.s .o (.b [3] (.l [3, 11, 12, 13] (.s .o (.s (.cr .o .o) (.s (.b0 (.s .o .o)) .o)))))) (.s .o .o)))))
theorem f29_eq (D : Dyn) (n : Nat) : f29 D n = funKp (s29 D n) D n 29 Tryz.f29 h29 := by kernel_rfl
theorem f29_ok {D : Dyn} (hD : DP D) (n : Nat) : FP 29 (f29 D n) := fun_okP X_ok hD (SP.cons (f86_ok hD n) (SP.nil)) Tryz.func29 (by kernel_rfl) (by kernel_rfl) (f29_eq D n)

def s68 (D : Dyn) (n : Nat) : Tb := ⟨X, [(136, f136 D n), (137, f137 D n)]⟩
/-- (*jetty/disk.Disk).Fail -/
def f68 (D : Dyn) (n : Nat) (vs : List AV) (H : AH) : Option (AV × AH) :=
  outR (hd vs fun x0 vs => hd vs fun x1 vs => nl vs <|
  bR (noPan (f136 D n [x0] H)) fun x7 H => 
  bV (bInt .neq x7 (.int .i64 (.ofNat 0))) fun x9 => 
  cnd x9 (bV (some x7) fun x4 => some (.ret x4, H))
  (bR (noPan (f137 D n [x0, x1] H)) fun x13 H => 
  bV (some (.int .i64 (.ofNat 0))) fun x4_2 => some (.ret x4_2, H)))
def h68 : Hint := (.s .o (.s (.s .o (.s .o (.cl (.s .o .o) .o))) (.s .o (.s .o .o))))
theorem f68_eq (D : Dyn) (n : Nat) : f68 D n = funKp (s68 D n) D n 68 Tryz.f68 h68 := by kernel_rfl
theorem f68_ok {D : Dyn} (hD : DP D) (n : Nat) : FP 68 (f68 D n) := fun_okP X_ok hD (SP.cons (f136_ok hD n) (SP.cons (f137_ok hD n) (SP.nil))) Tryz.func68 (by kernel_rfl) (by kernel_rfl) (f68_eq D n)

def s130 (D : Dyn) (n : Nat) : Tb := ⟨X, []⟩
/-- maps.Clone[map[int]jetty/api.Block,int,jetty/api.Block] -/
def f130 (D : Dyn) (n : Nat) (vs : List AV) (H : AH) : Option (AV × AH) :=
  outR (hd vs fun x0 vs => nl vs <|
  bV (cmpO .eql (eqM x0 .nilMap)) fun x4 => 
  cnd x4 (bV (some .nilMap) fun x2 => some (.ret x2, H))
  (none))
def h130 : Hint := (.s .o (.s (.s .o (.cl (.s .o .o) .o)) (.s .o .o)))
theorem f130_eq (D : Dyn) (n : Nat) : f130 D n = funKp (s130 D n) D n 130 Tryz.f130 h130 := by kernel_rfl
theorem f130_ok {D : Dyn} (hD : DP D) (n : Nat) : FP 130 (f130 D n) := fun_okP X_ok hD (SP.nil) Tryz.func130 (by kernel_rfl) (by kernel_rfl) (f130_eq D n)
def m130 (D : Dyn) (n : Nat) (vs : List AV) (H : AH) : Option (AV × AH) := clnK (f130 D n) vs H
theorem m130_ok {D : Dyn} (hD : DP D) (n : Nat) : FP 130 (m130 D n) := clnK_okP ⟨_, Tryz.func130, rfl⟩ (AnyW.maps_Clone Tryz.clone130) (f130_ok hD n)

def s173 (D : Dyn) (n : Nat) : Tb := ⟨X, [(130, m130 D n), (39, f39 D n)]⟩
/-- (*jetty/disk.Disk).Boot -/
def f173 (D : Dyn) (n : Nat) (vs : List AV) (H : AH) : Option (AV × AH) :=
  outR (hd vs fun x0 vs => nl vs <|
  bV (cmpO .eql (eqP x0 .nilPtr)) fun x5 => 
  cnd x5 (bV (some .nilPtr) fun x2 => bV (some (.int .i64 (.ofNat 2))) fun x3 => some (.ret (.tuple [x2, x3]), H))
  (bV (pNil x0) fun x7 => 
  bV (fAd 6 x7) fun x8 => 
  bV (ld1p x8 H) fun x9 => 
  bV (aun .not x9) fun x10 => 
  cnd x10 (bV (some .nilPtr) fun x2_2 => bV (some (.int .i64 (.ofNat 50))) fun x3_2 => some (.ret (.tuple [x2_2, x3_2]), H))
  (bV (pNil x0) fun x12 => 
  bV (fAd 0 x12) fun x13 => 
  bV (ld1p x13 H) fun x14 => 
  bV (pNil x0) fun x16 => 
  bV (fAd 1 x16) fun x17 => 
  bV (ld1p x17 H) fun x18 => 
  bR (noPan (m130 D n [x18] H)) fun x19 H => chk (ld1p x13 H) x14 <| 
  bR (noPan (f39 D n [x14, x19] H)) fun x20 H => 
  bV (some x20) fun x2_3 => bV (some (.int .i64 (.ofNat 0))) fun x3_3 => some (.ret (.tuple [x2_3, x3_3]), H))))
def h173 : Hint := (.s .o (.s (.s .o (.cl (.s .o .o) .o)) (.s (.s .o (.cl (.s .o .o) .o)) (.s .o .o))))
theorem f173_eq (D : Dyn) (n : Nat) : f173 D n = funKp (s173 D n) D n 173 Tryz.f173 h173 := by kernel_rfl
theorem f173_ok {D : Dyn} (hD : DP D) (n : Nat) : FP 173 (f173 D n) := fun_okP X_ok hD (SP.cons (m130_ok hD n) (SP.cons (f39_ok hD n) (SP.nil))) Tryz.func173 (by kernel_rfl) (by kernel_rfl) (f173_eq D n)

def s103 (D : Dyn) (n : Nat) : Tb := ⟨X, [(173, f173 D n)]⟩
/-- jetty/jettylaw17.booted -/
def f103 (D : Dyn) (n : Nat) (vs : List AV) (H : AH) : Option (AV × AH) :=
  outR (hd vs fun x0 vs => nl vs <|
  bR (noPan (f173 D n [x0] H)) fun x7 H => 
  bV (pExtract x7 0) fun x8 => 
  bV (pExtract x7 1) fun x9 => 
  bV (bInt .neq x9 (.int .i64 (.ofNat 0))) fun x11 => 
  cnd x11 (bV (some .nilPtr) fun x2 => some (.ret x2, H))
  (bV (some x8) fun x2_2 => some (.ret x2_2, H)))
def h103 : Hint := (.s .o (.s .o (.s (.s .o (.cl (.s .o .o) .o)) (.s .o .o))))
theorem f103_eq (D : Dyn) (n : Nat) : f103 D n = funKp (s103 D n) D n 103 Tryz.f103 h103 := by kernel_rfl
theorem f103_ok {D : Dyn} (hD : DP D) (n : Nat) : FP 103 (f103 D n) := fun_okP X_ok hD (SP.cons (f173_ok hD n) (SP.nil)) Tryz.func103 (by kernel_rfl) (by kernel_rfl) (f103_eq D n)

def s32 (D : Dyn) (n : Nat) : Tb := ⟨X, [(22, f22 D n), (23, f23 D n), (71, f71 D n), (72, f72 D n), (14, f14 D n), (25, f25 D n), (68, f68 D n), (103, f103 D n), (29, f29 D n), (74, f74 D n), (81, f81 D n), (31, f31 D n), (30, f30 D n), (76, f76 D n), (75, f75 D n)]⟩
/-- jetty/jettylaw17.lost -/
def f32 (D : Dyn) (n : Nat) (vs : List AV) (H : AH) : Option (AV × AH) :=
  outR (nl vs <|
  bR (noPan (f22 D n [(.int .i64 (.ofNat 64))] H)) fun x7 H => 
  bR (noPan (f23 D n [x7] H)) fun x9 H => 
  bV (cmpO .eql (eqP x9 .nilPtr)) fun x11 => 
  jn (wnt x11 false (bR (noPan (f71 D n [x9] H)) fun x14 H => 
  bR (noPan (f72 D n [x14] H)) fun x15 H => 
  bR (noPan (f14 D n [x15, (.str 1 97), (.str 1 49)] H)) fun x16 H => 
  bV (bInt .neq x16 (.int .i64 (.ofNat 0))) fun x17 => 
  some (.norm [x17], H)) (some (.norm [undefA], H))) fun vs H => hd vs fun x17_2 vs => 
  bV (pk3 (some x11) (some (.bool true)) (some x17_2)) fun x18 => 
  cnd x18 (bV (some (.bool false)) fun x0 => some (.ret x0, H))
  (bR (noPan (f25 D n [x9, (.str 3 6647407)] H)) fun x21 H => 
  bV (pExtract x21 0) fun x22 => 
  bV (pExtract x21 1) fun x23 => 
  bA (bxV 59 (.agg [(.int .i64 (.ofNat 0)), (.str 0 0), (.int .i64 (.ofNat 0)), (.int .i64 (.ofNat 0)), (.int .i64 (.ofNat 0)), (.int .u64 (.ofNat 0))])) H fun x3 H => 
  bR (stNp 6 x3 x22 H) fun x9999 H => 
  bV (bInt .neq x23 (.int .i64 (.ofNat 0))) fun x25 => 
  jn (wnt x25 false (bR (noPan (f68 D n [x7, .nilSlice] H)) fun x28 H => 
  bV (bInt .neq x28 (.int .i64 (.ofNat 0))) fun x29 => 
  some (.norm [x29], H)) (some (.norm [undefA], H))) fun vs H => hd vs fun x29_2 vs => 
  bV (pk3 (some x25) (some (.bool true)) (some x29_2)) fun x30 => 
  cnd x30 (bV (some (.bool false)) fun x0_2 => some (.ret x0_2, H))
  (bR (noPan (f103 D n [x7] H)) fun x32 H => 
  bR (noPan (f23 D n [x32] H)) fun x34 H => 
  bV (cmpO .eql (eqP x34 .nilPtr)) fun x36 => 
  jn (wnt x36 false (bR (noPan (f29 D n [x34] H)) fun x39 H => 
  bV (lnSl x39) fun x40 => 
  bV (bInt .neq x40 (.int .i64 (.ofNat 0))) fun x41 => 
  some (.norm [x41], H)) (some (.norm [undefA], H))) fun vs H => hd vs fun x41_2 vs => 
  bV (pk3 (some x36) (some (.bool true)) (some x41_2)) fun x42 => 
  jn (wnt x42 false (bR (noPan (f74 D n [x34, (.int .i64 (.ofNat 0)), (.str 1 97), (.str 1 49)] H)) fun x45 H => 
  bV (aun .not x45) fun x46 => 
  some (.norm [x46], H)) (some (.norm [undefA], H))) fun vs H => hd vs fun x46_2 vs => 
  bV (pk3 (some x42) (some (.bool true)) (some x46_2)) fun x47 => 
  jn (wnt x47 false (bR (noPan (f71 D n [x34] H)) fun x50 H => 
  bR (noPan (f81 D n [x50] H)) fun x51 H => 
  bV (bInt .neq x51 (.int .i64 (.ofNat 2))) fun x52 => 
  some (.norm [x52], H)) (some (.norm [undefA], H))) fun vs H => hd vs fun x52_2 vs => 
  bV (pk3 (some x47) (some (.bool true)) (some x52_2)) fun x53 => 
  cnd x53 (bV (some (.bool false)) fun x0_3 => some (.ret x0_3, H))
  (bR (noPan (f25 D n [x34, (.str 3 7305076)] H)) fun x56 H => 
  bV (pExtract x56 0) fun x57 => 
  bV (pExtract x56 1) fun x58 => 
  bA (bxV 59 (.agg [(.int .i64 (.ofNat 0)), (.str 0 0), (.int .i64 (.ofNat 0)), (.int .i64 (.ofNat 0)), (.int .i64 (.ofNat 0)), (.int .u64 (.ofNat 0))])) H fun x5 H => 
  bR (stNp 6 x5 x57 H) fun x9999_2 H => 
  bV (bInt .neq x58 (.int .i64 (.ofNat 0))) fun x60 => 
  jn (wnt x60 false (bV (fAd 0 x5) fun x62 => 
  bV (ld1p x62 H) fun x63 => 
  bV (bInt .neq x63 (.int .i64 (.ofNat 1))) fun x64 => 
  some (.norm [x64], H)) (some (.norm [undefA], H))) fun vs H => hd vs fun x64_2 vs => 
  bV (pk3 (some x60) (some (.bool true)) (some x64_2)) fun x65 => 
  jn (wnt x65 false (bR (noPan (f71 D n [x34] H)) fun x68 H => 
  bR (noPan (f72 D n [x68] H)) fun x69 H => 
  bR (noPan (f14 D n [x69, (.str 1 97), (.str 1 50)] H)) fun x70 H => 
  bV (bInt .neq x70 (.int .i64 (.ofNat 0))) fun x71 => 
  some (.norm [x71], H)) (some (.norm [undefA], H))) fun vs H => hd vs fun x71_2 vs => 
  bV (pk3 (some x65) (some (.bool true)) (some x71_2)) fun x72 => 
  jn (wnt x72 false (bR (noPan (f31 D n [x34] H)) fun x75 H => 
  bV (bInt .neq x75 (.int .i64 (.ofNat 0))) fun x76 => 
  some (.norm [x76], H)) (some (.norm [undefA], H))) fun vs H => hd vs fun x76_2 vs => 
  bV (pk3 (some x72) (some (.bool true)) (some x76_2)) fun x77 => 
  jn (wnt x77 false (bR (noPan (f30 D n [x34, (.str 3 7305076)] H)) fun x80 H => 
  bV (bInt .neq x80 (.int .i64 (.ofNat 0))) fun x81 => 
  some (.norm [x81], H)) (some (.norm [undefA], H))) fun vs H => hd vs fun x81_2 vs => 
  bV (pk3 (some x77) (some (.bool true)) (some x81_2)) fun x82 => 
  jn (wnt x82 false (bR (noPan (f68 D n [x32, .nilSlice] H)) fun x85 H => 
  bV (bInt .neq x85 (.int .i64 (.ofNat 0))) fun x86 => 
  some (.norm [x86], H)) (some (.norm [undefA], H))) fun vs H => hd vs fun x86_2 vs => 
  bV (pk3 (some x82) (some (.bool true)) (some x86_2)) fun x87 => 
  cnd x87 (bV (some (.bool false)) fun x0_4 => some (.ret x0_4, H))
  (bR (noPan (f103 D n [x32] H)) fun x89 H => 
  bR (noPan (f23 D n [x89] H)) fun x90 H => 
  bV (cmpO .neq (eqP x90 .nilPtr)) fun x92 => 
  jn (wnt x92 true (bR (noPan (f29 D n [x90] H)) fun x95 H => 
  bV (lnSl x95) fun x96 => 
  bV (bInt .eql x96 (.int .i64 (.ofNat 1))) fun x97 => 
  some (.norm [x97], H)) (some (.norm [undefA], H))) fun vs H => hd vs fun x97_2 vs => 
  bV (pk3 (some x92) (some x97_2) (some (.bool false))) fun x98 => 
  jn (wnt x98 true (bR (noPan (f74 D n [x90, (.int .i64 (.ofNat 1)), (.str 1 97), (.str 1 49)] H)) fun x101 H => 
  some (.norm [x101], H)) (some (.norm [undefA], H))) fun vs H => hd vs fun x101_2 vs => 
  bV (pk3 (some x98) (some x101_2) (some (.bool false))) fun x102 => 
  jn (wnt x102 true (bR (noPan (f74 D n [x90, (.int .i64 (.ofNat 0)), (.str 1 97), (.str 1 50)] H)) fun x105 H => 
  some (.norm [x105], H)) (some (.norm [undefA], H))) fun vs H => hd vs fun x105_2 vs => 
  bV (pk3 (some x102) (some x105_2) (some (.bool false))) fun x106 => 
  jn (wnt x106 true (bR (noPan (f76 D n [x90] H)) fun x109 H => 
  bV (bInt .eql x109 (.int .i64 (.ofNat 0))) fun x110 => 
  some (.norm [x110], H)) (some (.norm [undefA], H))) fun vs H => hd vs fun x110_2 vs => 
  bV (pk3 (some x106) (some x110_2) (some (.bool false))) fun x111 => 
  jn (wnt x111 true (bR (noPan (f71 D n [x90] H)) fun x114 H => 
  bR (noPan (f75 D n [x114] H)) fun x115 H => 
  bV (bInt .eql x115 (.int .i64 (.ofNat 60))) fun x116 => 
  some (.norm [x116], H)) (some (.norm [undefA], H))) fun vs H => hd vs fun x116_2 vs => 
  bV (pk3 (some x111) (some x116_2) (some (.bool false))) fun x117 => 
  bV (some x117) fun x0_5 => some (.ret x0_5, H))))))
def h32 : Hint := (.s .o (.s .o (.s .o (.s (.s .o (.cl (.s .o .o) .o)) (.s .o (.s (.s .o (.cl (.s .o .o) .o)) (.s .o (.s .o (.s (.s .o (.cl (.s .o .o) .o)) (.s .o (.s (.s .o (.cl (.s .o .o) .o)) (.s .o (.s .o .o)))))))))))))
theorem f32_eq (D : Dyn) (n : Nat) : f32 D n = funKp (s32 D n) D n 32 Tryz.f32 h32 := by kernel_rfl
theorem f32_ok {D : Dyn} (hD : DP D) (n : Nat) : FP 32 (f32 D n) := fun_okP X_ok hD (SP.cons (f22_ok hD n) (SP.cons (f23_ok hD n) (SP.cons (f71_ok hD n) (SP.cons (f72_ok hD n) (SP.cons (f14_ok hD n) (SP.cons (f25_ok hD n) (SP.cons (f68_ok hD n) (SP.cons (f103_ok hD n) (SP.cons (f29_ok hD n) (SP.cons (f74_ok hD n) (SP.cons (f81_ok hD n) (SP.cons (f31_ok hD n) (SP.cons (f30_ok hD n) (SP.cons (f76_ok hD n) (SP.cons (f75_ok hD n) (SP.nil)))))))))))))))) Tryz.func32 (by kernel_rfl) (by kernel_rfl) (f32_eq D n)

def s33 (D : Dyn) (n : Nat) : Tb := ⟨X, [(22, f22 D n), (23, f23 D n), (71, f71 D n), (72, f72 D n), (14, f14 D n), (25, f25 D n), (30, f30 D n), (31, f31 D n), (75, f75 D n), (74, f74 D n), (29, f29 D n)]⟩
def f33l0 (D : Dyn) (n : Nat) (vs : List AV) (H : AH) : Rs :=
  hd vs fun x1 vs => hd vs fun x2 vs => hd vs fun x11_2 vs => hd vs fun x12_2 vs => hd vs fun x13 vs => 
  bV (bInt .lss x13 x12_2) fun x14 => 
  cnd x14 (bV (ixSl 1 x11_2 x13) fun x15 => 
  bV (ld1p x15 H) fun x16 => 
  bV (cmpO .eql (eqP x2 .nilPtr)) fun x18 => 
  jn (wnt x18 false (bR (noPan (f71 D n [x2] H)) fun x21 H => 
  bR (noPan (f72 D n [x21] H)) fun x22 H => 
  bR (noPan (f14 D n [x22, (.str 1 107), x16] H)) fun x24 H => 
  bV (bInt .neq x24 (.int .i64 (.ofNat 0))) fun x25 => 
  some (.norm [x25], H)) (some (.norm [undefA], H))) fun vs H => hd vs fun x25_2 vs => 
  bV (pk3 (some x18) (some (.bool true)) (some x25_2)) fun x26 => 
  cnd x26 (bV (some (.bool false)) fun x0 => some (.ret x0, H))
  (bR (noPan (f25 D n [x2, x16] H)) fun x30 H => 
  bV (pExtract x30 0) fun x31 => 
  bV (pExtract x30 1) fun x32 => 
  bA (bxV 59 (.agg [(.int .i64 (.ofNat 0)), (.str 0 0), (.int .i64 (.ofNat 0)), (.int .i64 (.ofNat 0)), (.int .i64 (.ofNat 0)), (.int .u64 (.ofNat 0))])) H fun x5 H => 
  bR (stNp 6 x5 x31 H) fun x9999 H => 
  bV (bInt .neq x32 (.int .i64 (.ofNat 0))) fun x34 => 
  jn (wnt x34 false (bV (bStr .eql x16 (.str 1 98)) fun x37 => 
  some (.norm [x37], H)) (some (.norm [undefA], H))) fun vs H => hd vs fun x38 vs => 
  jn (wnt x38 true (bR (noPan (f30 D n [x2, (.str 1 97)] H)) fun x40 H => 
  bV (bInt .neq x40 (.int .i64 (.ofNat 0))) fun x41 => 
  some (.norm [x41], H)) (some (.norm [undefA], H))) fun vs H => hd vs fun x41_2 vs => 
  jn (wnt x34 false (bV (pk3 (some x38) (some x41_2) (some (.bool false))) fun x42 => 
  some (.norm [x42], H)) (some (.norm [undefA], H))) fun vs H => hd vs fun x42_2 vs => 
  bV (pk3 (some x34) (some (.bool true)) (some x42_2)) fun x43 => 
  cnd x43 (bV (some (.bool false)) fun x0_2 => some (.ret x0_2, H))
  (bV (bInt .add x13 (.int .i64 (.ofNat 1))) fun x44 => 
  some (.norm [x1, x2, x11_2, x12_2, x44], H))))
  (some (.exit 0 [x1, x2], H))
def f33b1 (D : Dyn) (n : Nat) (vs : List AV) (H : AH) : Rs :=
  hd vs fun x1_2 vs => hd vs fun x2_2 vs => 
  bR (noPan (f71 D n [x2_2] H)) fun x46 H => 
  bR (noPan (f72 D n [x46] H)) fun x47 H => 
  bR (noPan (f14 D n [x47, (.str 1 107), (.str 1 100)] H)) fun x48 H => 
  bV (bInt .neq x48 (.int .i64 (.ofNat 0))) fun x49 => 
  jn (wnt x49 false (bR (noPan (f30 D n [x2_2, (.str 1 98)] H)) fun x52 H => 
  bV (bInt .neq x52 (.int .i64 (.ofNat 0))) fun x53 => 
  some (.norm [x53], H)) (some (.norm [undefA], H))) fun vs H => hd vs fun x53_2 vs => 
  bV (pk3 (some x49) (some (.bool true)) (some x53_2)) fun x54 => 
  jn (wnt x54 false (bR (noPan (f31 D n [x2_2] H)) fun x57 H => 
  bV (bInt .neq x57 (.int .i64 (.ofNat 0))) fun x58 => 
  some (.norm [x58], H)) (some (.norm [undefA], H))) fun vs H => hd vs fun x58_2 vs => 
  bV (pk3 (some x54) (some (.bool true)) (some x58_2)) fun x59 => 
  jn (wnt x59 false (bR (noPan (f71 D n [x2_2] H)) fun x62 H => 
  bR (noPan (f75 D n [x62] H)) fun x63 H => 
  bV (bInt .neq x63 (.int .i64 (.ofNat 60))) fun x64 => 
  some (.norm [x64], H)) (some (.norm [undefA], H))) fun vs H => hd vs fun x64_2 vs => 
  bV (pk3 (some x59) (some (.bool true)) (some x64_2)) fun x65 => 
  jn (wnt x65 false (bR (noPan (f74 D n [x2_2, (.int .i64 (.ofNat 3)), (.str 1 107), (.str 1 99)] H)) fun x68 H => 
  bV (aun .not x68) fun x69 => 
  some (.norm [x69], H)) (some (.norm [undefA], H))) fun vs H => hd vs fun x69_2 vs => 
  bV (pk3 (some x65) (some (.bool true)) (some x69_2)) fun x70 => 
  jn (wnt x70 false (bR (noPan (f74 D n [x2_2, (.int .i64 (.ofNat 0)), (.str 1 107), (.str 1 100)] H)) fun x73 H => 
  bV (aun .not x73) fun x74 => 
  some (.norm [x74], H)) (some (.norm [undefA], H))) fun vs H => hd vs fun x74_2 vs => 
  bV (pk3 (some x70) (some (.bool true)) (some x74_2)) fun x75 => 
  jn (wnt x75 false (bR (noPan (f30 D n [x2_2, (.str 1 99)] H)) fun x78 H => 
  bV (bInt .neq x78 (.int .i64 (.ofNat 0))) fun x79 => 
  some (.norm [x79], H)) (some (.norm [undefA], H))) fun vs H => hd vs fun x79_2 vs => 
  bV (pk3 (some x75) (some (.bool true)) (some x79_2)) fun x80 => 
  jn (wnt x80 false (bR (noPan (f31 D n [x2_2] H)) fun x83 H => 
  bV (bInt .neq x83 (.int .i64 (.ofNat 0))) fun x84 => 
  some (.norm [x84], H)) (some (.norm [undefA], H))) fun vs H => hd vs fun x84_2 vs => 
  bV (pk3 (some x80) (some (.bool true)) (some x84_2)) fun x85 => 
  jn (wnt x85 false (bR (noPan (f71 D n [x2_2] H)) fun x88 H => 
  bR (noPan (f75 D n [x88] H)) fun x89 H => 
  bV (bInt .neq x89 (.int .i64 (.ofNat 61))) fun x90 => 
  some (.norm [x90], H)) (some (.norm [undefA], H))) fun vs H => hd vs fun x90_2 vs => 
  bV (pk3 (some x85) (some (.bool true)) (some x90_2)) fun x91 => 
  cnd x91 (bV (some (.bool false)) fun x0_3 => some (.ret x0_3, H))
  (bR (noPan (f23 D n [x1_2] H)) fun x93 H => 
  bV (cmpO .neq (eqP x93 .nilPtr)) fun x95 => 
  jn (wnt x95 true (bR (noPan (f29 D n [x93] H)) fun x98 H => 
  bV (lnSl x98) fun x99 => 
  bV (bInt .eql x99 (.int .i64 (.ofNat 0))) fun x100 => 
  some (.norm [x100], H)) (some (.norm [undefA], H))) fun vs H => hd vs fun x100_2 vs => 
  bV (pk3 (some x95) (some x100_2) (some (.bool false))) fun x101 => 
  jn (wnt x101 true (bR (noPan (f71 D n [x93] H)) fun x104 H => 
  bR (noPan (f75 D n [x104] H)) fun x105 H => 
  bV (bInt .eql x105 (.int .i64 (.ofNat 61))) fun x106 => 
  some (.norm [x106], H)) (some (.norm [undefA], H))) fun vs H => hd vs fun x106_2 vs => 
  bV (pk3 (some x101) (some x106_2) (some (.bool false))) fun x107 => 
  bV (some x107) fun x0_4 => some (.ret x0_4, H))
/-- jetty/jettylaw17.turns -/
def f33 (D : Dyn) (n : Nat) (vs : List AV) (H : AH) : Option (AV × AH) :=
  outR (nl vs <|
  bR (noPan (f22 D n [(.int .i64 (.ofNat 64))] H)) fun x8 H => 
  bR (noPan (f23 D n [x8] H)) fun x10 H => 
  bA (bldLp 9 1 3 [(.str 0 0)] [(0, (.str 1 97)), (1, (.str 1 98)), (2, (.str 1 99))]) H fun x11 H => 
  bV (lnSl x11) fun x12 => 
  jb 0 (loopK n (f33l0 D n) [x8, x10, x11, x12, (.int .i64 (.ofNat 0))] H) (f33b1 D n))
def h33 : Hint := (.s .o (.s .o (.s .o (.s (.s .o (.b [1, 2] (.l [1, 2, 11, 12, 13] (.s .o (.s (.cr .o .o) (.s (.b0 (.s .o (.s (.s .o (.cl (.s .o .o) .o)) (.s .o (.s .o (.cl (.s .o .o) .o)))))) .o)))))) (.s (.s .o (.cl (.s .o .o) .o)) (.s .o (.s .o .o)))))))
theorem f33_eq (D : Dyn) (n : Nat) : f33 D n = funKp (s33 D n) D n 33 Tryz.f33 h33 := by kernel_rfl
theorem f33_ok {D : Dyn} (hD : DP D) (n : Nat) : FP 33 (f33 D n) := fun_okP X_ok hD (SP.cons (f22_ok hD n) (SP.cons (f23_ok hD n) (SP.cons (f71_ok hD n) (SP.cons (f72_ok hD n) (SP.cons (f14_ok hD n) (SP.cons (f25_ok hD n) (SP.cons (f30_ok hD n) (SP.cons (f31_ok hD n) (SP.cons (f75_ok hD n) (SP.cons (f74_ok hD n) (SP.cons (f29_ok hD n) (SP.nil)))))))))))) Tryz.func33 (by kernel_rfl) (by kernel_rfl) (f33_eq D n)

def s105 (D : Dyn) (n : Nat) : Tb := ⟨X, [(174, f174 D n), (175, f175 D n)]⟩
/-- jetty/xdr.Word -/
def f105 (D : Dyn) (n : Nat) (vs : List AV) (H : AH) : Option (AV × AH) :=
  outR (hd vs fun x0 vs => hd vs fun x1 vs => nl vs <|
  bR (noPan (f174 D n [x1] H)) fun x7 H => 
  bA (bxV 245 (.agg [.pk 4 0])) H fun x5 H => 
  bR (stNp 4 x5 x7 H) fun x9999 H => 
  bV (slArr 4 1 x5 none none none) fun x10 => 
  bR (noPan (f175 D n [x0, (.int .i64 (.ofNat 4))] H)) fun x9 H => 
  bR (apPp 5 1 1 x9 x10 H) fun x11 H => 
  bV (some x11) fun x4 => some (.ret x4, H))
def h105 : Hint := (.s .o (.s .o (.s .o .o)))
theorem f105_eq (D : Dyn) (n : Nat) : f105 D n = funKp (s105 D n) D n 105 Tryz.f105 h105 := by kernel_rfl
theorem f105_ok {D : Dyn} (hD : DP D) (n : Nat) : FP 105 (f105 D n) := fun_okP X_ok hD (SP.cons (f174_ok hD n) (SP.cons (f175_ok hD n) (SP.nil))) Tryz.func105 (by kernel_rfl) (by kernel_rfl) (f105_eq D n)

def s104 (D : Dyn) (n : Nat) : Tb := ⟨X, [(105, f105 D n)]⟩
/-- jetty/jettylaw17.extras$1 -/
def f104 (D : Dyn) (n : Nat) (vs : List AV) (H : AH) : Option (AV × AH) :=
  outR (hd vs fun x0 vs => nl vs <|
  bR (noPan (f105 D n [.nilSlice, x0] H)) fun x4 H => 
  bV (cvBSp x4 H) fun x5 => 
  bV (some x5) fun x2 => some (.ret x2, H))
def h104 : Hint := (.s .o (.s .o .o))
theorem f104_eq (D : Dyn) (n : Nat) : f104 D n = funKp (s104 D n) D n 104 Tryz.f104 h104 := by kernel_rfl
theorem f104_ok {D : Dyn} (hD : DP D) (n : Nat) : FP 104 (f104 D n) := fun_okP X_ok hD (SP.cons (f105_ok hD n) (SP.nil)) Tryz.func104 (by kernel_rfl) (by kernel_rfl) (f104_eq D n)

def s34 (D : Dyn) (n : Nat) : Tb := ⟨X, [(41, f41 D n), (22, f22 D n), (106, f106 D n), (24, f24 D n)]⟩
def f34l0 (D : Dyn) (n : Nat) (vs : List AV) (H : AH) : Rs :=
  hd vs fun x1 vs => hd vs fun x3 vs => hd vs fun x5 vs => hd vs fun x6 vs => hd vs fun x7 vs => 
  bV (bInt .lss x7 (.int .i64 (.ofNat 14))) fun x50 => 
  cnd x50 (bV (bStr .add x6 (.str 1 120)) fun x58 => 
  bV (lnStr x6) fun x61 => 
  bV (bInt .sub x61 (.int .i64 (.ofNat 1))) fun x62 => 
  bV (slStr x6 none (some x62)) fun x63 => 
  bV (slStr x6 (some (.int .i64 (.ofNat 4))) none) fun x67 => 
  bR (noPan (callV (s34 D n).S D x5 [(.int .u32 (.ofNat 0))] H)) fun x55 H => 
  bV (bStr .add x55 (.str 1 0)) fun x56 => 
  bR (noPan (callV (s34 D n).S D x5 [(.int .u32 (.ofNat 1))] H)) fun x65 H => 
  bV (bStr .add x65 x67) fun x68 => 
  bR (noPan (callV (s34 D n).S D x5 [(.int .u32 (.ofNat 2))] H)) fun x70 H => 
  bV (bStr .add x70 (.str 1 2)) fun x71 => 
  bR (noPan (callV (s34 D n).S D x5 [(.int .u32 (.ofNat 1))] H)) fun x73 H => 
  bV (bStr .add x71 x73) fun x74 => 
  bR (noPan (callV (s34 D n).S D x5 [(.int .u32 (.ofNat 1))] H)) fun x76 H => 
  bV (bStr .add x74 x76) fun x77 => 
  bV (bStr .add x77 x1) fun x79 => 
  bV (bStr .add x79 (.str 2 24833)) fun x80 => 
  bR (noPan (callV (s34 D n).S D x5 [(.int .u32 (.ofNat 2))] H)) fun x82 H => 
  bV (bStr .add x80 x82) fun x83 => 
  bR (noPan (callV (s34 D n).S D x5 [(.int .u32 (.ofNat 1))] H)) fun x85 H => 
  bV (bStr .add x83 x85) fun x86 => 
  bV (bStr .add x86 x1) fun x88 => 
  bV (bStr .add x88 (.str 2 24833)) fun x89 => 
  bR (noPan (callV (s34 D n).S D x5 [(.int .u32 (.ofNat 2))] H)) fun x91 H => 
  bV (bStr .add x91 (.str 1 2)) fun x92 => 
  bR (noPan (callV (s34 D n).S D x5 [(.int .u32 (.ofNat 2))] H)) fun x94 H => 
  bV (bStr .add x92 x94) fun x95 => 
  bR (noPan (callV (s34 D n).S D x5 [(.int .u32 (.ofNat 1))] H)) fun x97 H => 
  bV (bStr .add x95 x97) fun x98 => 
  bV (bStr .add x98 x1) fun x100 => 
  bV (bStr .add x100 (.str 2 24833)) fun x101 => 
  bR (noPan (callV (s34 D n).S D x5 [(.int .u32 (.ofNat 1))] H)) fun x103 H => 
  bV (bStr .add x101 x103) fun x104 => 
  bR (noPan (callV (s34 D n).S D x5 [(.int .u32 (.ofNat 1))] H)) fun x106 H => 
  bV (bStr .add x104 x106) fun x107 => 
  bV (bStr .add x107 x1) fun x109 => 
  bV (bStr .add x109 (.str 2 25089)) fun x110 => 
  bR (noPan (callV (s34 D n).S D x5 [(.int .u32 (.ofNat 2))] H)) fun x112 H => 
  bV (bStr .add x112 (.str 1 1)) fun x113 => 
  bR (noPan (callV (s34 D n).S D x5 [(.int .u32 (.ofNat 1))] H)) fun x115 H => 
  bV (bStr .add x113 x115) fun x116 => 
  bR (noPan (callV (s34 D n).S D x5 [(.int .u32 (.ofNat 2))] H)) fun x118 H => 
  bV (bStr .add x116 x118) fun x119 => 
  bV (bStr .add x119 x1) fun x121 => 
  bV (bStr .add x121 (.str 2 24833)) fun x122 => 
  bR (noPan (callV (s34 D n).S D x5 [(.int .u32 (.ofNat 2))] H)) fun x124 H => 
  bV (bStr .add x124 (.str 1 1)) fun x125 => 
  bR (noPan (callV (s34 D n).S D x5 [(.int .u32 (.ofNat 1))] H)) fun x127 H => 
  bV (bStr .add x125 x127) fun x128 => 
  bR (noPan (callV (s34 D n).S D x5 [(.int .u32 (.ofNat 0))] H)) fun x130 H => 
  bV (bStr .add x128 x130) fun x131 => 
  bV (bStr .add x131 x1) fun x133 => 
  bV (bStr .add x133 (.str 2 24833)) fun x134 => 
  bR (noPan (callV (s34 D n).S D x5 [(.int .u32 (.ofNat 2))] H)) fun x136 H => 
  bV (bStr .add x136 (.str 1 1)) fun x137 => 
  bR (noPan (callV (s34 D n).S D x5 [(.int .u32 (.ofNat 1))] H)) fun x139 H => 
  bV (bStr .add x137 x139) fun x140 => 
  bR (noPan (callV (s34 D n).S D x5 [(.int .u32 (.ofNat 1))] H)) fun x142 H => 
  bV (bStr .add x140 x142) fun x143 => 
  bV (bStr .add x143 x1) fun x145 => 
  bV (bStr .add x145 (.str 1 0)) fun x146 => 
  bR (noPan (callV (s34 D n).S D x5 [(.int .u32 (.ofNat 2))] H)) fun x148 H => 
  bV (bStr .add x148 (.str 1 1)) fun x149 => 
  bR (noPan (callV (s34 D n).S D x5 [(.int .u32 (.ofNat 1))] H)) fun x151 H => 
  bV (bStr .add x149 x151) fun x152 => 
  bR (noPan (callV (s34 D n).S D x5 [(.int .u32 (.ofNat 1))] H)) fun x154 H => 
  bV (bStr .add x152 x154) fun x155 => 
  bV (bStr .add x155 x3) fun x157 => 
  bV (bStr .add x157 (.str 2 24833)) fun x158 => 
  bR (noPan (callV (s34 D n).S D x5 [(.int .u32 (.ofNat 2147483648))] H)) fun x160 H => 
  bV (bStr .add x160 (.str 1 0)) fun x161 => 
  bR (noPan (callV (s34 D n).S D x5 [(.int .u32 (.ofNat 2))] H)) fun x163 H => 
  bV (bStr .add x163 (.str 1 1)) fun x164 => 
  bR (noPan (callV (s34 D n).S D x5 [(.int .u32 (.ofNat 0))] H)) fun x166 H => 
  bV (bStr .add x164 x166) fun x167 => 
  bR (noPan (callV (s34 D n).S D x5 [(.int .u32 (.ofNat 1))] H)) fun x169 H => 
  bV (bStr .add x167 x169) fun x170 => 
  bV (bStr .add x170 x1) fun x172 => 
  bV (bStr .add x172 (.str 2 24833)) fun x173 => 
  bA (bldLp 9 1 14 [(.str 0 0)] [(0, x6), (1, (.str 0 0)), (2, x56), (3, x58), (4, x63), (5, x68), (6, x89), (7, x110), (8, x122), (9, x134), (10, x146), (11, x158), (12, x161), (13, x173)]) H fun x174 H => 
  bV (ixSl 1 x174 x7) fun x176 => 
  bV (ld1p x176 H) fun x177 => 
  bR (noPan (f22 D n [(.int .i64 (.ofNat 64))] H)) fun x178 H => 
  bV (cmpO .eql (eqP x178 .nilPtr)) fun x180 => 
  jn (wnt x180 false (bV (bStr .add x1 x177) fun x185 => 
  bV (bldSp [(0, 1), (1, 1)] [(.int .i64 (.ofNat 0)), (.str 0 0)] [(0, (.int .i64 (.ofNat 1))), (1, x185)]) fun x186 => 
  bR (noPan (f106 D n [x178, x186] H)) fun x187 H => 
  bV (bInt .neq x187 (.int .i64 (.ofNat 0))) fun x188 => 
  some (.norm [x188], H)) (some (.norm [undefA], H))) fun vs H => hd vs fun x188_2 vs => 
  bV (pk3 (some x180) (some (.bool true)) (some x188_2)) fun x189 => 
  cnd x189 (bV (some (.bool false)) fun x0_2 => some (.ret x0_2, H))
  (bR (noPan (f24 D n [x178, (.int .i64 (.ofNat 0))] H)) fun x192 H => 
  bV (pExtract x192 0) fun x193 => 
  bV (pExtract x192 1) fun x194 => 
  bV (bInt .eql x194 (.int .i64 (.ofNat 0))) fun x196 => 
  bV (bInt .lss x7 (.int .i64 (.ofNat 3))) fun x198 => 
  bV (bBool .neq x196 x198) fun x199 => 
  jn (wnt x199 false (bV (bInt .geq x7 (.int .i64 (.ofNat 3))) fun x202 => 
  some (.norm [x202], H)) (some (.norm [undefA], H))) fun vs H => hd vs fun x203 vs => 
  jn (wnt x203 true (bV (bInt .neq x194 (.int .i64 (.ofNat 4))) fun x205 => 
  some (.norm [x205], H)) (some (.norm [undefA], H))) fun vs H => hd vs fun x205_2 vs => 
  jn (wnt x199 false (bV (pk3 (some x203) (some x205_2) (some (.bool false))) fun x206 => 
  some (.norm [x206], H)) (some (.norm [undefA], H))) fun vs H => hd vs fun x206_2 vs => 
  bV (pk3 (some x199) (some (.bool true)) (some x206_2)) fun x207 => 
  cnd x207 (bV (some (.bool false)) fun x0_3 => some (.ret x0_3, H))
  (bV (bInt .add x7 (.int .i64 (.ofNat 1))) fun x52 => 
  some (.norm [x1, x3, x5, x6, x52], H))))
  (some (.exit 0 [], H))
def f34b1 (D : Dyn) (n : Nat) (vs : List AV) (H : AH) : Rs :=
  
  bV (some (.bool true)) fun x0_4 => some (.ret x0_4, H)
/-- jetty/jettylaw17.extras -/
def f34 (D : Dyn) (n : Nat) (vs : List AV) (H : AH) : Option (AV × AH) :=
  outR (nl vs <|
  bV (bldSp [(0, 1), (1, 1), (2, 1)] [(.int .i64 (.ofNat 0)), (.int .i64 (.ofNat 0)), (.int .u64 (.ofNat 0))] []) fun x13 => 
  bR (noPan (f41 D n [x13] H)) fun x14 H => 
  bV (pExtract x14 0) fun x15 => 
  bV (pExtract x14 1) fun x16 => 
  bV (bldSp [(0, 1), (1, 1), (2, 1)] [(.int .i64 (.ofNat 0)), (.int .i64 (.ofNat 0)), (.int .u64 (.ofNat 0))] [(0, (.int .i64 (.ofNat 1)))]) fun x18 => 
  bR (noPan (f41 D n [x18] H)) fun x19 H => 
  bV (pExtract x19 0) fun x20 => 
  bV (pExtract x19 1) fun x21 => 
  bV (bInt .neq x16 (.int .i64 (.ofNat 0))) fun x23 => 
  jn (wnt x23 false (bV (bInt .neq x21 (.int .i64 (.ofNat 0))) fun x26 => 
  some (.norm [x26], H)) (some (.norm [undefA], H))) fun vs H => hd vs fun x26_2 vs => 
  bV (pk3 (some x23) (some (.bool true)) (some x26_2)) fun x27 => 
  cnd x27 (bV (some (.bool false)) fun x0 => some (.ret x0, H))
  (bR (noPan (callV (s34 D n).S D (.func 104 [] []) [(.int .u32 (.ofNat 2))] H)) fun x29 H => 
  bV (bStr .add x29 (.str 1 2)) fun x30 => 
  bR (noPan (callV (s34 D n).S D (.func 104 [] []) [(.int .u32 (.ofNat 1))] H)) fun x32 H => 
  bV (bStr .add x30 x32) fun x33 => 
  bR (noPan (callV (s34 D n).S D (.func 104 [] []) [(.int .u32 (.ofNat 1))] H)) fun x35 H => 
  bV (bStr .add x33 x35) fun x36 => 
  bV (bStr .add x36 x15) fun x38 => 
  bV (bStr .add x38 (.str 2 24833)) fun x39 => 
  bR (noPan (callV (s34 D n).S D (.func 104 [] []) [(.int .u32 (.ofNat 2))] H)) fun x41 H => 
  bV (bStr .add x39 x41) fun x42 => 
  bR (noPan (callV (s34 D n).S D (.func 104 [] []) [(.int .u32 (.ofNat 1))] H)) fun x44 H => 
  bV (bStr .add x42 x44) fun x45 => 
  bV (bStr .add x45 x15) fun x47 => 
  bV (bStr .add x47 (.str 2 25089)) fun x48 => 
  jb 0 (loopK n (f34l0 D n) [x15, x20, (.func 104 [] []), x48, (.int .i64 (.ofNat 0))] H) (f34b1 D n)))
def h34 : Hint := (.s .o (.s .o (.s .o (.s (.s .o (.cl (.s .o .o) .o)) (.s .o (.s .o (.s (.s .o (.b [] (.l [1, 3, 5, 6, 7] (.s (.s .o (.cr .o .o)) (.s (.b0 (.s .o (.s .o (.s (.s .o (.cl (.s .o .o) .o)) (.s .o (.s .o (.cl (.s .o .o) .o))))))) .o))))) (.s .o .o))))))))
theorem f34_eq (D : Dyn) (n : Nat) : f34 D n = funKp (s34 D n) D n 34 Tryz.f34 h34 := by kernel_rfl
theorem f34_ok {D : Dyn} (hD : DP D) (n : Nat) : FP 34 (f34 D n) := fun_okP X_ok hD (SP.cons (f41_ok hD n) (SP.cons (f22_ok hD n) (SP.cons (f106_ok hD n) (SP.cons (f24_ok hD n) (SP.nil))))) Tryz.func34 (by kernel_rfl) (by kernel_rfl) (f34_eq D n)

def s35 (D : Dyn) (n : Nat) : Tb := ⟨X, [(25, f25 D n), (28, f28 D n), (27, f27 D n), (71, f71 D n), (31, f31 D n), (30, f30 D n), (29, f29 D n), (76, f76 D n)]⟩
/-- jetty/jettylaw17.nothing -/
def f35 (D : Dyn) (n : Nat) (vs : List AV) (H : AH) : Option (AV × AH) :=
  outR (nl vs <|
  bR (noPan (f25 D n [.nilPtr, (.str 1 97)] H)) fun x10 H => 
  bV (pExtract x10 0) fun x11 => 
  bV (pExtract x10 1) fun x12 => 
  bA (bxV 59 (.agg [(.int .i64 (.ofNat 0)), (.str 0 0), (.int .i64 (.ofNat 0)), (.int .i64 (.ofNat 0)), (.int .i64 (.ofNat 0)), (.int .u64 (.ofNat 0))])) H fun x2 H => 
  bR (stNp 6 x2 x11 H) fun x9999 H => 
  bR (noPan (f28 D n [.nilPtr, (.str 1 97)] H)) fun x15 H => 
  bV (pExtract x15 0) fun x16 => 
  bV (pExtract x15 1) fun x17 => 
  bA (bxV 59 (.agg [(.int .i64 (.ofNat 0)), (.str 0 0), (.int .i64 (.ofNat 0)), (.int .i64 (.ofNat 0)), (.int .i64 (.ofNat 0)), (.int .u64 (.ofNat 0))])) H fun x4 H => 
  bR (stNp 6 x4 x16 H) fun x9999_2 H => 
  bR (noPan (f27 D n [.nilPtr, (.int .i64 (.ofNat 0))] H)) fun x20 H => 
  bV (pExtract x20 0) fun x21 => 
  bV (pExtract x20 1) fun x22 => 
  bR (noPan (f71 D n [.nilPtr] H)) fun x24 H => 
  bV (cmpO .eql (eqP x24 .nilPtr)) fun x25 => 
  jn (wnt x25 true (bR (noPan (f31 D n [.nilPtr] H)) fun x28 H => 
  bV (bInt .eql x28 (.int .i64 (.ofNat 2))) fun x29 => 
  some (.norm [x29], H)) (some (.norm [undefA], H))) fun vs H => hd vs fun x29_2 vs => 
  bV (pk3 (some x25) (some x29_2) (some (.bool false))) fun x30 => 
  jn (wnt x30 true (bV (bInt .eql x12 (.int .i64 (.ofNat 2))) fun x33 => 
  some (.norm [x33], H)) (some (.norm [undefA], H))) fun vs H => hd vs fun x33_2 vs => 
  bV (pk3 (some x30) (some x33_2) (some (.bool false))) fun x34 => 
  jn (wnt x34 true (bR (noPan (f30 D n [.nilPtr, (.str 1 97)] H)) fun x37 H => 
  bV (bInt .eql x37 (.int .i64 (.ofNat 2))) fun x38 => 
  some (.norm [x38], H)) (some (.norm [undefA], H))) fun vs H => hd vs fun x38_2 vs => 
  bV (pk3 (some x34) (some x38_2) (some (.bool false))) fun x39 => 
  jn (wnt x39 true (bR (noPan (f29 D n [.nilPtr] H)) fun x42 H => 
  bV (lnSl x42) fun x43 => 
  bV (bInt .eql x43 (.int .i64 (.ofNat 0))) fun x44 => 
  some (.norm [x44], H)) (some (.norm [undefA], H))) fun vs H => hd vs fun x44_2 vs => 
  bV (pk3 (some x39) (some x44_2) (some (.bool false))) fun x45 => 
  jn (wnt x45 true (bV (bInt .eql x17 (.int .i64 (.ofNat 2))) fun x48 => 
  some (.norm [x48], H)) (some (.norm [undefA], H))) fun vs H => hd vs fun x48_2 vs => 
  bV (pk3 (some x45) (some x48_2) (some (.bool false))) fun x49 => 
  jn (wnt x49 true (bV (bInt .eql x22 (.int .i64 (.ofNat 2))) fun x52 => 
  some (.norm [x52], H)) (some (.norm [undefA], H))) fun vs H => hd vs fun x52_2 vs => 
  bV (pk3 (some x49) (some x52_2) (some (.bool false))) fun x53 => 
  jn (wnt x53 true (bR (noPan (f76 D n [.nilPtr] H)) fun x56 H => 
  bV (bInt .eql x56 (.int .i64 (.ofNat 0))) fun x57 => 
  some (.norm [x57], H)) (some (.norm [undefA], H))) fun vs H => hd vs fun x57_2 vs => 
  bV (pk3 (some x53) (some x57_2) (some (.bool false))) fun x58 => 
  bV (some x58) fun x0 => some (.ret x0, H))
def h35 : Hint := (.s .o (.s .o (.s .o (.s .o (.s .o (.s .o .o))))))
theorem f35_eq (D : Dyn) (n : Nat) : f35 D n = funKp (s35 D n) D n 35 Tryz.f35 h35 := by kernel_rfl
theorem f35_ok {D : Dyn} (hD : DP D) (n : Nat) : FP 35 (f35 D n) := fun_okP X_ok hD (SP.cons (f25_ok hD n) (SP.cons (f28_ok hD n) (SP.cons (f27_ok hD n) (SP.cons (f71_ok hD n) (SP.cons (f31_ok hD n) (SP.cons (f30_ok hD n) (SP.cons (f29_ok hD n) (SP.cons (f76_ok hD n) (SP.nil))))))))) Tryz.func35 (by kernel_rfl) (by kernel_rfl) (f35_eq D n)
end Go.Eng.Sh
