/- Shallow functions, by program (gen.py). -/
import Derived.Test.YtnbpjfmfopgomaaGreatDoorRO6
import Derived.Test.YtnbpjfmfopgomaaGreatDoorProg
import Derived.KernelRfl
noncomputable section
namespace Go.Eng.Sh
open Go.Proofs
set_option maxRecDepth 100000
set_option linter.all false
def s132 (D : Dyn) (n : Nat) : Tb := ⟨X, [(202, f202 D n), (142, f142 D n), (117, f117 D n), (143, f143 D n)]⟩
/-- jetty/extent.store -/
def f132 (D : Dyn) (n : Nat) (vs : List AV) (H : AH) : Option (AV × AH) :=
  outR (hd vs fun x0 vs => hd vs fun x1 vs => hd vs fun x2 vs => hd vs fun x3 vs => hd vs fun x4 vs => nl vs <|
  bV (cvBSp x3 H) fun x13 => 
  bR (noPan (f202 D n [x13, (.str 1 0)] H)) fun x14 H => 
  bV (bStr .neq x14 (.str 0 0)) fun x17 => 
  cnd x17 (bR (noPan (f142 D n [x1, x2] H)) fun x21 H => 
  bR (noPan (f117 D n [x0, x21, x14] H)) fun x23 H => 
  bV (some x23) fun x10 => some (.ret x10, H))
  (cnd x4 (bR (noPan (f142 D n [x1, x2] H)) fun x29 H => 
  bR (noPan (f143 D n [x0, x29] H)) fun x30 H => 
  bV (some x30) fun x10_2 => some (.ret x10_2, H))
  (bV (some (.int .i64 (.ofNat 0))) fun x10_3 => some (.ret x10_3, H))))
def h132 : Hint := (.s .o (.s .o (.s (.b0 (.s .o (.cl (.s .o .o) (.s .o (.cl (.s .o .o) .o))))) (.s .o .o))))
theorem f132_eq (D : Dyn) (n : Nat) : f132 D n = funKp (s132 D n) D n 132 Tryz.f132 h132 := by kernel_rfl
theorem f132_ok {D : Dyn} (hD : DP D) (n : Nat) : FP 132 (f132 D n) := fun_okP X_ok hD (SP.cons (f202_ok hD n) (SP.cons (f142_ok hD n) (SP.cons (f117_ok hD n) (SP.cons (f143_ok hD n) (SP.nil))))) Tryz.func132 (by kernel_rfl) (by kernel_rfl) (f132_eq D n)

def s141 (D : Dyn) (n : Nat) : Tb := ⟨X, [(142, f142 D n), (132, f132 D n), (143, f143 D n)]⟩
def f141b0 (D : Dyn) (n : Nat) (vs : List AV) (H : AH) : Rs :=
  hd vs fun x1_3 vs => hd vs fun x2_3 vs => hd vs fun x3_3 vs => hd vs fun x4_3 vs => hd vs fun x10_3 vs => hd vs fun x11_3 vs => hd vs fun x12_2 vs => 
  bV (bInt .add x12_2 (.int .i64 (.ofNat 1))) fun x50 => 
  some (.norm [x1_3, x2_3, x3_3, x4_3, x10_3, x11_3, x50], H)
def f141l1 (D : Dyn) (n : Nat) (vs : List AV) (H : AH) : Rs :=
  hd vs fun x1_2 vs => hd vs fun x2_2 vs => hd vs fun x3_2 vs => hd vs fun x4_2 vs => hd vs fun x10_2 vs => hd vs fun x11_2 vs => hd vs fun x12 vs => 
  bV (bInt .lss x12 x11_2) fun x13 => 
  cnd x13 (jb 1 (bV (ixSl 2 x10_2 x12) fun x14 => 
  bV (ldNp 2 x14 H) fun x15 => 
  bA (bxV 182 (.agg [(.str 0 0), (.str 0 0)])) H fun x7 H => 
  bR (stNp 2 x7 x15 H) fun x9999 H => 
  bV (fAd 0 x7) fun x16 => 
  bV (ld1p x16 H) fun x17 => 
  bV (ld1p x1_2 H) fun x18 => 
  bV (ld1p x2_2 H) fun x19 => 
  bR (noPan (f142 D n [x18, x19] H)) fun x20 H => chk (ld1p x16 H) x17 <| 
  bV (bStr .eql x17 x20) fun x21 => 
  jn (wnt x21 true (bV (ld1p x3_2 H) fun x23 => 
  bV (bInt .gtr x23 (.int .i64 (.ofNat 0))) fun x24 => 
  some (.norm [x24], H)) (some (.norm [undefA], H))) fun vs H => hd vs fun x24_2 vs => 
  bV (pk3 (some x21) (some x24_2) (some (.bool false))) fun x25 => 
  cnd x25 (bV (fAd 1 x7) fun x26 => 
  bV (ld1p x26 H) fun x27 => 
  bV (lnStr x27) fun x28 => 
  bV (ld1p x3_2 H) fun x29 => 
  bV (bInt .leq x28 x29) fun x30 => 
  cnd x30 (some (.exit 1 [x1_2, x2_2, x3_2, x4_2, x10_2, x11_2, x12], H))
  (bV (ld1p x4_2 H) fun x31 => 
  bV (ld1p x1_2 H) fun x32 => 
  bV (ld1p x2_2 H) fun x33 => 
  bV (fAd 1 x7) fun x34 => 
  bV (ld1p x34 H) fun x35 => 
  bV (ld1p x3_2 H) fun x36 => 
  bV (slStr x35 none (some x36)) fun x37 => 
  bA (cvSBp 5 x37) H fun x38 H => 
  bR (noPan (f132 D n [x31, x32, x33, x38, (.bool true)] H)) fun x39 H => 
  bV (bInt .neq x39 (.int .i64 (.ofNat 0))) fun x41 => 
  cnd x41 (bV (some x39) fun x5 => some (.ret x5, H))
  (some (.exit 1 [x1_2, x2_2, x3_2, x4_2, x10_2, x11_2, x12], H))))
  (bV (ld1p x4_2 H) fun x43 => 
  bV (fAd 0 x7) fun x44 => 
  bV (ld1p x44 H) fun x45 => 
  bR (noPan (f143 D n [x43, x45] H)) fun x46 H => 
  bV (bInt .neq x46 (.int .i64 (.ofNat 0))) fun x48 => 
  cnd x48 (bV (some x46) fun x5_2 => some (.ret x5_2, H))
  (some (.norm [x1_2, x2_2, x3_2, x4_2, x10_2, x11_2, x12], H)))) (f141b0 D n))
  (some (.exit 0 [], H))
def f141b2 (D : Dyn) (n : Nat) (vs : List AV) (H : AH) : Rs :=
  
  bV (some (.int .i64 (.ofNat 0))) fun x5_3 => some (.ret x5_3, H)
/-- jetty/extent.Cut$1 -/
def f141 (D : Dyn) (n : Nat) (vs : List AV) (H : AH) : Option (AV × AH) :=
  outR (hd vs fun x0 vs => hd vs fun x1 vs => hd vs fun x2 vs => hd vs fun x3 vs => hd vs fun x4 vs => nl vs <|
  bV (ld1p x0 H) fun x10 => 
  bV (lnSl x10) fun x11 => 
  jb 0 (loopK n (f141l1 D n) [x1, x2, x3, x4, x10, x11, (.int .i64 (.ofNat 0))] H) (f141b2 D n))
def h141 : Hint := (.s .o (.s (.s .o (.b [] (.l [1, 2, 3, 4, 10, 11, 12] (.s .o (.s (.cr .o .o) (.s (.b [1, 2, 3, 4, 10, 11, 12] (.s .o (.s (.s .o (.cl (.s (.s .o (.cl .o .o)) (.s (.s .o (.s .o (.cl (.s .o .o) .o))) .o)) .o)) (.s .o (.s .o (.cl (.s .o .o) .o)))))) .o)))))) (.s .o .o)))
theorem f141_eq (D : Dyn) (n : Nat) : f141 D n = funKp (s141 D n) D n 141 Tryz.f141 h141 := by kernel_rfl
theorem f141_ok {D : Dyn} (hD : DP D) (n : Nat) : FP 141 (f141 D n) := fun_okP X_ok hD (SP.cons (f142_ok hD n) (SP.cons (f132_ok hD n) (SP.cons (f143_ok hD n) (SP.nil)))) Tryz.func141 (by kernel_rfl) (by kernel_rfl) (f141_eq D n)

def s85 (D : Dyn) (n : Nat) : Tb := ⟨X, [(127, f127 D n), (140, f140 D n), (128, f128 D n)]⟩
/-- jetty/extent.Cut -/
def f85 (D : Dyn) (n : Nat) (vs : List AV) (H : AH) : Option (AV × AH) :=
  outR (hd vs fun x0 vs => hd vs fun x1 vs => hd vs fun x2 vs => nl vs <|
  bA (bxV 46 x0) H fun x3 H => 
  bA (bxV 3 x1) H fun x4 H => 
  bV (ld1p x3 H) fun x11 => 
  bV (cmpO .eql (eqP x11 .nilPtr)) fun x12 => 
  cnd x12 (bV (some (.int .i64 (.ofNat 2))) fun x6 => some (.ret x6, H))
  (bV (ld1p x4 H) fun x13 => 
  bR (noPan (f127 D n [x13] H)) fun x14 H => 
  bV (aun .not x14) fun x15 => 
  jn (wnt x15 false (bV (bInt .lss x2 (.int .i64 (.ofNat 0))) fun x18 => 
  some (.norm [x18], H)) (some (.norm [undefA], H))) fun vs H => hd vs fun x18_2 vs => 
  bV (pk3 (some x15) (some (.bool true)) (some x18_2)) fun x19 => 
  cnd x19 (bV (some (.int .i64 (.ofNat 1))) fun x6_2 => some (.ret x6_2, H))
  (bV (bInt .quo x2 (.int .i64 (.ofNat 128))) fun x21 => 
  bV (bInt .rem x2 (.int .i64 (.ofNat 128))) fun x23 => 
  bA (bxV 3 (.int .i64 (.ofNat 0))) H fun x7 H => 
  bA (bxV 3 (.int .i64 (.ofNat 0))) H fun x8 H => 
  bR (stNp 1 x7 x21 H) fun x9999 H => 
  bR (stNp 1 x8 x23 H) fun x9999_2 H => 
  bV (ld1p x3 H) fun x25 => 
  bV (ld1p x4 H) fun x26 => 
  bV (ld1p x7 H) fun x27 => 
  bR (noPan (f140 D n [x25, x26, x27] H)) fun x28 H => 
  bV (pExtract x28 0) fun x29 => 
  bV (pExtract x28 1) fun x30 => 
  bA (bxV 153 .nilSlice) H fun x9 H => 
  bR (stNp 1 x9 x29 H) fun x9999_3 H => 
  bV (bInt .neq x30 (.int .i64 (.ofNat 0))) fun x32 => 
  jn (wnt x32 false (bV (ld1p x9 H) fun x34 => 
  bV (lnSl x34) fun x35 => 
  bV (bInt .eql x35 (.int .i64 (.ofNat 0))) fun x36 => 
  some (.norm [x36], H)) (some (.norm [undefA], H))) fun vs H => hd vs fun x36_2 vs => 
  bV (pk3 (some x32) (some (.bool true)) (some x36_2)) fun x37 => 
  cnd x37 (bV (some x30) fun x6_3 => some (.ret x6_3, H))
  (bV (ld1p x3 H) fun x39 => 
  bR (noPan (f128 D n [x39, (.func 141 [] [x9, x4, x7, x8, x3])] H)) fun x41 H => 
  bV (some x41) fun x6_4 => some (.ret x6_4, H)))))
def h85 : Hint := (.s .o (.s (.s .o (.cl (.s .o .o) .o)) (.s (.s .o (.cl (.s .o .o) .o)) (.s .o (.s .o (.s (.s .o (.cl (.s .o .o) .o)) (.s .o .o)))))))
theorem f85_eq (D : Dyn) (n : Nat) : f85 D n = funKp (s85 D n) D n 85 Tryz.f85 h85 := by kernel_rfl
theorem f85_ok {D : Dyn} (hD : DP D) (n : Nat) : FP 85 (f85 D n) := fun_okP X_ok hD (SP.cons (f127_ok hD n) (SP.cons (f140_ok hD n) (SP.cons (f128_ok hD n) (SP.nil)))) Tryz.func85 (by kernel_rfl) (by kernel_rfl) (f85_eq D n)

def s123 (D : Dyn) (n : Nat) : Tb := ⟨X, [(143, f143 D n), (54, f54 D n)]⟩
def f123j0 (D : Dyn) (n : Nat) (vs : List AV) (H : AH) : Rs :=
  
  some (.ret (.tuple []), H)
/-- (jetty/objs.work).del -/
def f123 (D : Dyn) (n : Nat) (vs : List AV) (H : AH) : Option (AV × AH) :=
  outR (hd vs fun x0 vs => hd vs fun x1 vs => nl vs <|
  bA (bxV 73 x0) H fun x2 H => 
  bV (fAd 0 x2) fun x5 => 
  bV (ld1p x5 H) fun x6 => 
  bR (noPan (f143 D n [x6, x1] H)) fun x8 H => 
  bV (bInt .neq x8 (.int .i64 (.ofNat 5))) fun x10 => 
  jn (cnd x10 (bC (f54 D n [x8] H) (fun x H => some (.ret (.pan x), H)) fun x12 H => 
  some (.norm [], H))
  (some (.norm [], H))) (f123j0 D n))
def h123 : Hint := (.s .o (.s .o (.s .o (.c [] .pc .o))))
theorem f123_eq (D : Dyn) (n : Nat) : f123 D n = funKp (s123 D n) D n 123 Tryz.f123 h123 := by kernel_rfl
theorem f123_ok {D : Dyn} (hD : DP D) (n : Nat) : FP 123 (f123 D n) := fun_okP X_ok hD (SP.cons (f143_ok hD n) (SP.cons (f54_ok hD n) (SP.nil))) Tryz.func123 (by kernel_rfl) (by kernel_rfl) (f123_eq D n)

def s63 (D : Dyn) (n : Nat) : Tb := ⟨X, [(67, f67 D n), (60, f60 D n), (54, f54 D n), (55, f55 D n), (85, f85 D n), (57, f57 D n), (123, f123 D n), (106, f106 D n)]⟩
def f63j0 (D : Dyn) (n : Nat) (vs : List AV) (H : AH) : Rs :=
  hd vs fun x4_3 vs => hd vs fun x7_3 vs => 
  some (.norm [x4_3, x7_3], H)
def f63j1 (D : Dyn) (n : Nat) (vs : List AV) (H : AH) : Rs :=
  hd vs fun x4_4 vs => hd vs fun x7_4 vs => 
  some (.norm [x4_4, x7_4], H)
def f63j2 (D : Dyn) (n : Nat) (vs : List AV) (H : AH) : Rs :=
  hd vs fun x4_5 vs => hd vs fun x7_5 vs => 
  bV (ldNp 2 x4_5 H) fun x60 => 
  bV (fAd 6 x7_5) fun x61 => 
  bV (ld1p x61 H) fun x62 => 
  bR (noPan (f106 D n [x62] H)) fun x63 H => chk (ldNp 2 x4_5 H) x60 <| 
  bR (noPan (f123 D n [x60, x63] H)) fun x64 H => 
  bV (fAd 6 x7_5) fun x65 => 
  bV (ld1p x65 H) fun x66 => 
  bV (some x66) fun x8_2 => some (.ret x8_2, H)
def f63j3 (D : Dyn) (n : Nat) (vs : List AV) (H : AH) : Rs :=
  hd vs fun x4_2 vs => hd vs fun x7_2 vs => 
  bV (fAd 0 x7_2) fun x34 => 
  bV (ld1p x34 H) fun x35 => 
  bV (bInt .eql x35 (.int .u8 (.ofNat 1))) fun x37 => 
  jn (cnd x37 (bV (fAd 0 x4_2) fun x38 => 
  bV (ld1p x38 H) fun x39 => 
  bV (fAd 6 x7_2) fun x40 => 
  bV (ld1p x40 H) fun x41 => 
  bC (f85 D n [x39, x41, (.int .i64 (.ofNat 0))] H) (fun x H => some (.ret (.pan x), H)) fun x42 H => 
  bC (f54 D n [x42] H) (fun x H => some (.ret (.pan x), H)) fun x43 H => 
  some (.norm [x4_2, x7_2], H))
  (bV (bInt .eql x35 (.int .u8 (.ofNat 3))) fun x45 => 
  jn (cnd x45 (bV (ldNp 2 x4_2 H) fun x46 => 
  bV (fAd 6 x7_2) fun x47 => 
  bV (ld1p x47 H) fun x48 => 
  bR (noPan (f57 D n [x48] H)) fun x49 H => chk (ldNp 2 x4_2 H) x46 <| 
  bV (bStr .add (.str 1 108) x49) fun x50 => 
  bR (noPan (f123 D n [x46, x50] H)) fun x51 H => 
  some (.norm [x4_2, x7_2], H))
  (bV (bInt .eql x35 (.int .u8 (.ofNat 2))) fun x53 => 
  jn (cnd x53 (bV (ldNp 2 x4_2 H) fun x54 => 
  bV (fAd 6 x7_2) fun x55 => 
  bV (ld1p x55 H) fun x56 => 
  bR (noPan (f57 D n [x56] H)) fun x57 H => chk (ldNp 2 x4_2 H) x54 <| 
  bV (bStr .add (.str 1 112) x57) fun x58 => 
  bR (noPan (f123 D n [x54, x58] H)) fun x59 H => 
  some (.norm [x4_2, x7_2], H))
  (some (.norm [x4_2, x7_2], H))) (f63j0 D n))) (f63j1 D n))) (f63j2 D n)
/-- (jetty/objs.work).lose -/
def f63 (D : Dyn) (n : Nat) (vs : List AV) (H : AH) : Option (AV × AH) :=
  outR (hd vs fun x0 vs => hd vs fun x1 vs => hd vs fun x2 vs => hd vs fun x3 vs => nl vs <|
  bA (bxV 73 x0) H fun x4 H => 
  bA (bxV 23 x3) H fun x7 H => 
  bV (ldNp 2 x4 H) fun x11 => 
  bV (ldNp 8 x7 H) fun x14 => 
  bC (f67 D n [x11, x1, x2, x14] H) (fun x H => some (.ret (.pan x), H)) fun x15 H => 
  bV (fAd 0 x7) fun x16 => 
  bV (ld1p x16 H) fun x17 => 
  bV (bInt .neq x17 (.int .u8 (.ofNat 2))) fun x18 => 
  jn (cnd x18 (bV (ldNp 8 x7 H) fun x20 => 
  bV (fAd 1 x4) fun x21 => 
  bV (ld1p x21 H) fun x22 => 
  bR (noPan (f60 D n [x20, (.int .i64 (.negSucc 0)), x22] H)) fun x23 H => 
  bV (pExtract x23 0) fun x24 => 
  bV (pExtract x23 1) fun x25 => 
  bA (bxV 23 (.agg [(.int .u8 (.ofNat 0)), (.int .i64 (.ofNat 0)), (.int .i64 (.ofNat 0)), (.int .i64 (.ofNat 0)), (.int .i64 (.ofNat 0)), (.int .i64 (.ofNat 0)), (.int .i64 (.ofNat 0)), (.int .i64 (.ofNat 0))])) H fun x9 H => 
  bR (stNp 8 x9 x24 H) fun x9999 H => 
  bC (f54 D n [x25] H) (fun x H => some (.ret (.pan x), H)) fun x27 H => 
  bV (fAd 2 x9) fun x28 => 
  bV (ld1p x28 H) fun x29 => 
  bV (bInt .gtr x29 (.int .i64 (.ofNat 0))) fun x30 => 
  cnd x30 (bV (ldNp 2 x4 H) fun x31 => 
  bV (ldNp 8 x9 H) fun x32 => 
  bC (f55 D n [x31, x32] H) (fun x H => some (.ret (.pan x), H)) fun x33 H => 
  bV (some (.int .i64 (.ofNat 0))) fun x8 => some (.ret x8, H))
  (some (.norm [x4, x7], H)))
  (some (.norm [x4, x7], H))) (f63j3 D n))
def h63 : Hint := (.s .o (.s .pc (.s (.s .o (.c [4, 7] (.s .o (.s .pc (.s .o (.cl (.s .pc (.s .o .o)) .o)))) .o)) (.s (.s .o (.b0 (.s .o (.c [4, 7] .pc (.s .o (.c [4, 7] .o (.s .o (.c [4, 7] .o .o)))))))) (.s .o (.s .o .o))))))
theorem f63_eq (D : Dyn) (n : Nat) : f63 D n = funKp (s63 D n) D n 63 Tryz.f63 h63 := by kernel_rfl
theorem f63_ok {D : Dyn} (hD : DP D) (n : Nat) : FP 63 (f63 D n) := fun_okP X_ok hD (SP.cons (f67_ok hD n) (SP.cons (f60_ok hD n) (SP.cons (f54_ok hD n) (SP.cons (f55_ok hD n) (SP.cons (f85_ok hD n) (SP.cons (f57_ok hD n) (SP.cons (f123_ok hD n) (SP.cons (f106_ok hD n) (SP.nil))))))))) Tryz.func63 (by kernel_rfl) (by kernel_rfl) (f63_eq D n)

def s61 (D : Dyn) (n : Nat) : Tb := ⟨X, [(46, f46 D n), (47, f47 D n), (48, f48 D n), (34, f34 D n), (38, f38 D n), (62, f62 D n), (63, f63 D n)]⟩
def f61j0 (D : Dyn) (n : Nat) (vs : List AV) (H : AH) : Rs :=
  hd vs fun x1_2 vs => hd vs fun x2_2 vs => hd vs fun x4_2 vs => hd vs fun x6_2 vs => 
  bV (ldNp 2 x4_2 H) fun x24 => 
  bV (ldNp 8 x6_2 H) fun x25 => 
  bC (f62 D n [x24, x25] H) (fun x H => some (.ret (.pan x), H)) fun x26 H => 
  bV (ldNp 2 x4_2 H) fun x27 => 
  bV (ld1p x1_2 H) fun x28 => 
  bV (ld1p x2_2 H) fun x29 => 
  bV (ldNp 8 x6_2 H) fun x30 => 
  bC (f63 D n [x27, x28, x29, x30] H) (fun x H => some (.ret (.pan x), H)) fun x31 H => 
  bV (some x31) fun x5 => some (.ret x5, H)
/-- jetty/objs.Unlink$1 -/
def f61 (D : Dyn) (n : Nat) (vs : List AV) (H : AH) : Option (AV × AH) :=
  outR (hd vs fun x0 vs => hd vs fun x1 vs => hd vs fun x2 vs => hd vs fun x3 vs => nl vs <|
  bA (bxV 73 x0) H fun x4 H => 
  bV (ldNp 2 x4 H) fun x7 => 
  bV (ld1p x1 H) fun x8 => 
  bC (f46 D n [x7, x8] H) (fun x H => some (.ret (.pan x), H)) fun x9 H => 
  bV (ld1p x2 H) fun x10 => 
  bC (f47 D n [x10] H) (fun x H => some (.ret (.pan x), H)) fun x11 H => 
  bV (ldNp 2 x4 H) fun x12 => 
  bV (ldNp 2 x4 H) fun x13 => 
  bV (ld1p x1 H) fun x14 => 
  bV (ld1p x2 H) fun x15 => 
  bA (bxV 23 (.agg [(.int .u8 (.ofNat 0)), (.int .i64 (.ofNat 0)), (.int .i64 (.ofNat 0)), (.int .i64 (.ofNat 0)), (.int .i64 (.ofNat 0)), (.int .i64 (.ofNat 0)), (.int .i64 (.ofNat 0)), (.int .i64 (.ofNat 0))])) H fun x6 H => 
  bR (noPan (f48 D n [x13, x14, x15] H)) fun x16 H => chk (ldNp 2 x4 H) x12 <| 
  bR (noPan (f34 D n [x12, x16] H)) fun x17 H => 
  bR (stNp 8 x6 x17 H) fun x9999 H => 
  bV (fAd 0 x6) fun x18 => 
  bV (ld1p x18 H) fun x19 => 
  bV (bInt .eql x19 (.int .u8 (.ofNat 2))) fun x20 => 
  bV (ld1p x3 H) fun x21 => 
  bV (bBool .neq x20 x21) fun x22 => 
  jn (cnd x22 (bC (f38 D n [(.int .i64 (.ofNat 55))] H) (fun x H => some (.ret (.pan x), H)) fun x23 H => 
  some (.norm [x1, x2, x4, x6], H))
  (some (.norm [x1, x2, x4, x6], H))) (f61j0 D n))
def h61 : Hint := (.s .o (.s .pc (.s .pc (.s .o (.s (.s .o (.c [1, 2, 4, 6] .pc .o)) (.s .pc (.s .pc .o)))))))
theorem f61_eq (D : Dyn) (n : Nat) : f61 D n = funKp (s61 D n) D n 61 Tryz.f61 h61 := by kernel_rfl
theorem f61_ok {D : Dyn} (hD : DP D) (n : Nat) : FP 61 (f61 D n) := fun_okP X_ok hD (SP.cons (f46_ok hD n) (SP.cons (f47_ok hD n) (SP.cons (f48_ok hD n) (SP.cons (f34_ok hD n) (SP.cons (f38_ok hD n) (SP.cons (f62_ok hD n) (SP.cons (f63_ok hD n) (SP.nil)))))))) Tryz.func61 (by kernel_rfl) (by kernel_rfl) (f61_eq D n)

def s12 (D : Dyn) (n : Nat) : Tb := ⟨X, [(42, f42 D n)]⟩
/-- jetty/objs.Unlink -/
def f12 (D : Dyn) (n : Nat) (vs : List AV) (H : AH) : Option (AV × AH) :=
  outR (hd vs fun x0 vs => hd vs fun x1 vs => hd vs fun x2 vs => hd vs fun x3 vs => hd vs fun x4 vs => nl vs <|
  bA (bxV 3 x1) H fun x6 H => 
  bA (bxV 9 x2) H fun x7 H => 
  bA (bxV 4 x3) H fun x8 H => 
  bR (noPan (f42 D n [x0, x4, (.func 61 [] [x6, x7, x8])] H)) fun x15 H => 
  bV (pExtract x15 0) fun x16 => 
  bV (pExtract x15 1) fun x17 => 
  bV (some x16) fun x10 => bV (some x17) fun x11 => some (.ret (.tuple [x10, x11]), H))
def h12 : Hint := (.s .o (.s .o .o))
theorem f12_eq (D : Dyn) (n : Nat) : f12 D n = funKp (s12 D n) D n 12 Tryz.f12 h12 := by kernel_rfl
theorem f12_ok {D : Dyn} (hD : DP D) (n : Nat) : FP 12 (f12 D n) := fun_okP X_ok hD (SP.cons (f42_ok hD n) (SP.nil)) Tryz.func12 (by kernel_rfl) (by kernel_rfl) (f12_eq D n)

def s79 (D : Dyn) (n : Nat) : Tb := ⟨X, [(57, f57 D n), (76, f76 D n), (38, f38 D n)]⟩
def f79j0 (D : Dyn) (n : Nat) (vs : List AV) (H : AH) : Rs :=
  hd vs fun x5 vs => 
  bV (ixStr x5 (.int .i64 (.ofNat 0))) fun x26 => 
  bV (cvI .i64 x26) fun x27 => 
  bV (bInt .shl x27 (.int .u64 (.ofNat 24))) fun x28 => 
  bV (ixStr x5 (.int .i64 (.ofNat 1))) fun x30 => 
  bV (cvI .i64 x30) fun x31 => 
  bV (bInt .shl x31 (.int .u64 (.ofNat 16))) fun x32 => 
  bV (bInt .or x28 x32) fun x33 => 
  bV (ixStr x5 (.int .i64 (.ofNat 2))) fun x35 => 
  bV (cvI .i64 x35) fun x36 => 
  bV (bInt .shl x36 (.int .u64 (.ofNat 8))) fun x37 => 
  bV (bInt .or x33 x37) fun x38 => 
  bV (ixStr x5 (.int .i64 (.ofNat 3))) fun x40 => 
  bV (cvI .i64 x40) fun x41 => 
  bV (bInt .or x38 x41) fun x42 => 
  bV (some x42) fun x4 => some (.ret x4, H)
/-- (jetty/objs.work).parent -/
def f79 (D : Dyn) (n : Nat) (vs : List AV) (H : AH) : Option (AV × AH) :=
  outR (hd vs fun x0 vs => hd vs fun x1 vs => nl vs <|
  bA (bxV 73 x0) H fun x2 H => 
  bV (ldNp 2 x2 H) fun x8 => 
  bR (noPan (f57 D n [x1] H)) fun x10 H => chk (ldNp 2 x2 H) x8 <| 
  bV (bStr .add (.str 1 112) x10) fun x11 => 
  bR (noPan (f76 D n [x8, x11] H)) fun x12 H => 
  bV (pExtract x12 0) fun x13 => 
  bV (pExtract x12 1) fun x14 => 
  bV (aun .not x14) fun x16 => 
  jn (wnt x16 false (bV (lnStr x13) fun x19 => 
  bR (noPan (f57 D n [(.int .i64 (.ofNat 0))] H)) fun x20 H => 
  bV (lnStr x20) fun x21 => 
  bV (bInt .neq x19 x21) fun x22 => 
  some (.norm [x22], H)) (some (.norm [undefA], H))) fun vs H => hd vs fun x22_2 vs => 
  bV (pk3 (some x16) (some (.bool true)) (some x22_2)) fun x23 => 
  jn (cnd x23 (bC (f38 D n [(.int .i64 (.ofNat 4))] H) (fun x H => some (.ret (.pan x), H)) fun x24 H => 
  some (.norm [x13], H))
  (some (.norm [x13], H))) (f79j0 D n))
def h79 : Hint := (.s .o (.s .o (.s (.s .o (.c [5] .pc .o)) (.s .o .o))))
theorem f79_eq (D : Dyn) (n : Nat) : f79 D n = funKp (s79 D n) D n 79 Tryz.f79 h79 := by kernel_rfl
theorem f79_ok {D : Dyn} (hD : DP D) (n : Nat) : FP 79 (f79 D n) := fun_okP X_ok hD (SP.cons (f57_ok hD n) (SP.cons (f76_ok hD n) (SP.cons (f38_ok hD n) (SP.nil)))) Tryz.func79 (by kernel_rfl) (by kernel_rfl) (f79_eq D n)

def s199 (D : Dyn) (n : Nat) : Tb := ⟨X, []⟩
def f199j0 (D : Dyn) (n : Nat) (vs : List AV) (H : AH) : Rs :=
  hd vs fun x3_2 vs => hd vs fun x11_2 vs => hd vs fun x12_3 vs => hd vs fun x13_2 vs => 
  bV (bInt .add x13_2 (.int .i64 (.ofNat 1))) fun x31 => 
  some (.norm [x3_2, x11_2, x12_3, x31], H)
def f199l1 (D : Dyn) (n : Nat) (vs : List AV) (H : AH) : Rs :=
  hd vs fun x3 vs => hd vs fun x11 vs => hd vs fun x12_2 vs => hd vs fun x13 vs => 
  bV (bInt .lss x13 x12_2) fun x14 => 
  cnd x14 (bV (ixSl 2 x11 x13) fun x15 => 
  bV (ldNp 2 x15 H) fun x16 => 
  bA (bxV 195 (.agg [(.int .i64 (.ofNat 0)), (.int .i64 (.ofNat 0))])) H fun x5 H => 
  bR (stNp 2 x5 x16 H) fun x9999 H => 
  bV (fAd 0 x5) fun x19 => 
  bV (ld1p x19 H) fun x20 => 
  bV (lkM [6] (.int .i64 (.ofNat 0)) true x3 x20 H) fun x21 => 
  bV (pExtract x21 0) fun x22 => 
  bV (pExtract x21 1) fun x23 => 
  bV (aun .not x23) fun x25 => 
  jn (cnd x25 (bV (fAd 0 x5) fun x27 => 
  bV (ld1p x27 H) fun x28 => 
  bV (fAd 1 x5) fun x29 => 
  bV (ld1p x29 H) fun x30 => 
  bR (upM [6] x3 x28 x30 H) fun x9999_2 H => 
  some (.norm [x3, x11, x12_2, x13], H))
  (some (.norm [x3, x11, x12_2, x13], H))) (f199j0 D n))
  (some (.exit 0 [x3], H))
def f199b2 (D : Dyn) (n : Nat) (vs : List AV) (H : AH) : Rs :=
  hd vs fun x3_3 vs => 
  bV (some x3_3) fun x2 => some (.ret x2, H)
/-- jetty/name.parents -/
def f199 (D : Dyn) (n : Nat) (vs : List AV) (H : AH) : Option (AV × AH) :=
  outR (hd vs fun x0 vs => nl vs <|
  bV (lnSl x0) fun x9 => 
  bA (mkR [6] x9) H fun x10 H => 
  bV (lnSl x0) fun x12 => 
  jb 0 (loopK n (f199l1 D n) [x10, x0, x12, (.int .i64 (.ofNat 0))] H) (f199b2 D n))
def h199 : Hint := (.s .o (.s .o (.s (.s .o (.b [3] (.l [3, 11, 12, 13] (.s .o (.s (.cr .o .o) (.s (.b0 (.s .o (.s .o (.s .o (.c [3, 11, 12, 13] .o .o))))) .o)))))) (.s .o .o))))
theorem f199_eq (D : Dyn) (n : Nat) : f199 D n = funKp (s199 D n) D n 199 Tryz.f199 h199 := by kernel_rfl
theorem f199_ok {D : Dyn} (hD : DP D) (n : Nat) : FP 199 (f199 D n) := fun_okP X_ok hD (SP.nil) Tryz.func199 (by kernel_rfl) (by kernel_rfl) (f199_eq D n)

def s272 (D : Dyn) (n : Nat) : Tb := ⟨X, []⟩
def f272l0 (D : Dyn) (n : Nat) (vs : List AV) (H : AH) : Rs :=
  hd vs fun x0_2 vs => hd vs fun x1_2 vs => hd vs fun x2_2 vs => hd vs fun x4 vs => 
  bV (ld1p x1_2 H) fun x9 => 
  bV (ld1p x2_2 H) fun x10 => 
  bV (lkM [6] (.int .i64 (.ofNat 0)) true x9 x10 H) fun x11 => 
  bV (pExtract x11 0) fun x12 => 
  bV (pExtract x11 1) fun x13 => 
  bV (aun .not x13) fun x15 => 
  cnd x15 (bV (ld1p x2_2 H) fun x17 => 
  bR (noPan (callV (s272 D n).S D x0_2 [x17, (.int .i64 (.ofNat 5))] H)) fun x18 H => 
  some (.ret (.tuple []), H))
  (bV (ld1p x2_2 H) fun x20 => 
  bV (lkM [6] (.int .i64 (.ofNat 0)) false x4 x20 H) fun x21 => 
  bV (bInt .neq x21 (.int .i64 (.ofNat 0))) fun x22 => 
  cnd x22 (bV (ld1p x2_2 H) fun x24 => 
  bR (noPan (callV (s272 D n).S D x0_2 [x24, (.int .i64 (.ofNat 50))] H)) fun x25 H => 
  some (.ret (.tuple []), H))
  (bV (ld1p x2_2 H) fun x27 => 
  bR (upM [6] x4 x27 (.int .i64 (.ofNat 1)) H) fun x9999 H => 
  bV (ld1p x2_2 H) fun x29 => 
  bR (noPan (callV (s272 D n).S D x0_2 [x29, (.int .i64 (.ofNat 0))] H)) fun x30 H => 
  bV (aun .not x30) fun x31 => 
  jn (wnt x31 false (bV (ld1p x2_2 H) fun x34 => 
  bV (bInt .eql x12 x34) fun x35 => 
  some (.norm [x35], H)) (some (.norm [undefA], H))) fun vs H => hd vs fun x35_2 vs => 
  bV (pk3 (some x31) (some (.bool true)) (some x35_2)) fun x36 => 
  cnd x36 (some (.ret (.tuple []), H))
  (bR (stNp 1 x2_2 x12 H) fun x9999_2 H => 
  some (.norm [x0_2, x1_2, x2_2, x4], H))))
/-- jetty/name.above$1 -/
def f272 (D : Dyn) (n : Nat) (vs : List AV) (H : AH) : Option (AV × AH) :=
  outR (hd vs fun x0 vs => hd vs fun x1 vs => hd vs fun x2 vs => nl vs <|
  bA (mkM [6]) H fun x7 H => 
  loopK n (f272l0 D n) [x0, x1, x2, x7] H)
def h272 : Hint := (.s .o (.b0 (.l [0, 1, 2, 4] (.b0 (.s .o (.s (.s .o (.cl (.s .o .o) .o)) (.s (.s .o (.cl (.s .o .o) .o)) (.s .o (.s (.s .o (.cl .o .o)) .o)))))))))
theorem f272_eq (D : Dyn) (n : Nat) : f272 D n = funKp (s272 D n) D n 272 Tryz.f272 h272 := by kernel_rfl
theorem f272_ok {D : Dyn} (hD : DP D) (n : Nat) : FP 272 (f272 D n) := fun_okP X_ok hD (SP.nil) Tryz.func272 (by kernel_rfl) (by kernel_rfl) (f272_eq D n)

def s198 (D : Dyn) (n : Nat) : Tb := ⟨X, []⟩
/-- jetty/name.above -/
def f198 (D : Dyn) (n : Nat) (vs : List AV) (H : AH) : Option (AV × AH) :=
  outR (hd vs fun x0 vs => hd vs fun x1 vs => nl vs <|
  bA (bxV 193 x0) H fun x2 H => 
  bA (bxV 3 x1) H fun x3 H => 
  bV (some (.func 272 [] [x2, x3])) fun x4 => some (.ret x4, H))
def h198 : Hint := (.s .o (.s .o .o))
theorem f198_eq (D : Dyn) (n : Nat) : f198 D n = funKp (s198 D n) D n 198 Tryz.f198 h198 := by kernel_rfl
theorem f198_ok {D : Dyn} (hD : DP D) (n : Nat) : FP 198 (f198 D n) := fun_okP X_ok hD (SP.nil) Tryz.func198 (by kernel_rfl) (by kernel_rfl) (f198_eq D n)

def s124 (D : Dyn) (n : Nat) : Tb := ⟨X, [(199, f199 D n), (198, f198 D n)]⟩
/-- jetty/name.Moves -/
def f124 (D : Dyn) (n : Nat) (vs : List AV) (H : AH) : Option (AV × AH) :=
  outR (hd vs fun x0 vs => hd vs fun x1 vs => hd vs fun x2 vs => nl vs <|
  bA (bxV 3 x1) H fun x4 H => 
  bA (bxV 24 (.int .i64 (.ofNat 0))) H fun x6 H => 
  bA (bxV 4 (.bool false)) H fun x7 H => 
  bR (stNp 1 x7 (.bool false) H) fun x9999 H => 
  bR (noPan (f199 D n [x0] H)) fun x11 H => 
  bR (noPan (f198 D n [x11, x2] H)) fun x13 H => 
  newB H (.loop ⟨.ready, none, 124, 0, [4, 6, 7], [x4, x6, x7]⟩) fun A H => bR (rfC (s124 D n).S D x13 A H) fun _ H => endLp A H fun j H => jmpK j (
  bV (ld1p x7 H) fun x25 => 
  cnd x25 (bR (stNp 1 x6 (.int .i64 (.ofNat 58)) H) fun x9999_2 H => 
  bV (ld1p x6 H) fun x9006_2 => some (.ret x9006_2, H))
  (bR (stNp 1 x6 (.int .i64 (.ofNat 0)) H) fun x9999_3 H => 
  bV (ld1p x6 H) fun x9006_3 => some (.ret x9006_3, H)))
  (fun id => none) (bV (ld1p x6 H) fun x9006 => some (.ret x9006, H)))
def h124 : Hint := (.s .o (.s .o (.s (.s .o (.b0 (.rf 0 [4, 6, 7]))) (.s (.s .o (.cl (.s .o .o) .o)) (.s .o .o)))))
theorem f124_eq (D : Dyn) (n : Nat) : f124 D n = funKp (s124 D n) D n 124 Tryz.f124 h124 := by kernel_rfl
theorem f124_ok {D : Dyn} (hD : DP D) (n : Nat) : FP 124 (f124 D n) := fun_okP X_ok hD (SP.cons (f199_ok hD n) (SP.cons (f198_ok hD n) (SP.nil))) Tryz.func124 (by kernel_rfl) (by kernel_rfl) (f124_eq D n)
def r124_0 (D : Dyn) (n : Nat) (A : Nat) (l : ALoop) (az : List AV) (H : AH) : Option (AV × AH) :=
  bif eqNL [4, 6, 7] l.live then endQ A (hd l.vals fun x4 vs => hd vs fun x6 vs => hd vs fun x7 vs => hd az fun x14 az => hd az fun x15 az => nl az <|
  beginK A H fun H => 
  bV (bInt .neq x15 (.int .i64 (.ofNat 0))) fun x17 => 
  cnd x17 (bR (stNp 1 x6 x15 H) fun x9999 H => 
  some (.ret (.tuple []), H))
  (bV (ld1p x7 H) fun x19 => 
  jn (wnt x19 false (bV (ld1p x4 H) fun x22 => 
  bV (bInt .eql x14 x22) fun x23 => 
  some (.norm [x23], H)) (some (.norm [undefA], H))) fun vs H => hd vs fun x23_2 vs => 
  bV (pk3 (some x19) (some (.bool true)) (some x23_2)) fun x24 => 
  bR (stNp 1 x7 x24 H) fun x9999_2 H => 
  some (.norm [], H))) else none
def r124_0a : Hint := (.s .o .o)
def r124_0b : Hint := (.b0 (.s (.s .o (.cl (.s .o .o) .o)) .o))
theorem r124_0_eq (D : Dyn) (n : Nat) : r124_0 D n = rndKp (s124 D n) D n 124 0 [4, 6, 7] [] r124_0a r124_0b := by kernel_rfl
theorem r124_0_ok {D : Dyn} (hD : DP D) (n : Nat) : RdP 124 0 (r124_0 D n) := round_okP X_ok hD (SP.cons (f199_ok hD n) (SP.cons (f198_ok hD n) (SP.nil))) (by kernel_rfl) (r124_0_eq D n)

def s65 (D : Dyn) (n : Nat) : Tb := ⟨X, [(79, f79 D n), (124, f124 D n), (54, f54 D n)]⟩
def f65l0 (D : Dyn) (n : Nat) (vs : List AV) (H : AH) : Rs :=
  hd vs fun x1_2 vs => hd vs fun x2_2 vs => hd vs fun x3_2 vs => hd vs fun x6 vs => hd vs fun x7 vs => hd vs fun x8 vs => 
  bV (lkM [6] (.int .i64 (.ofNat 0)) false x7 x8 H) fun x14 => 
  bV (bInt .eql x14 (.int .i64 (.ofNat 0))) fun x15 => 
  cnd x15 (bR (upM [6] x7 x8 (.int .i64 (.ofNat 1)) H) fun x9999 H => 
  bV (ldNp 2 x3_2 H) fun x18 => 
  bC (f79 D n [x18, x8] H) (fun x H => some (.ret (.pan x), H)) fun x20 H => 
  bV (bldSp [(0, 1), (1, 1)] [(.int .i64 (.ofNat 0)), (.int .i64 (.ofNat 0))] [(0, x8), (1, x20)]) fun x24 => 
  bA (bldLp 195 2 1 [(.int .i64 (.ofNat 0)), (.int .i64 (.ofNat 0))] [(0, x24)]) H fun x25 H => 
  bR (apPp 195 2 16 x6 x25 H) fun x26 H => 
  some (.norm [x1_2, x2_2, x3_2, x26, x7, x20], H))
  (some (.exit 0 [x1_2, x2_2, x6], H))
def f65b1 (D : Dyn) (n : Nat) (vs : List AV) (H : AH) : Rs :=
  hd vs fun x1_3 vs => hd vs fun x2_3 vs => hd vs fun x6_2 vs => 
  bC (f124 D n [x6_2, x1_3, x2_3] H) (fun x H => some (.ret (.pan x), H)) fun x31 H => 
  bC (f54 D n [x31] H) (fun x H => some (.ret (.pan x), H)) fun x32 H => 
  some (.ret (.tuple []), H)
/-- (jetty/objs.work).notInto -/
def f65 (D : Dyn) (n : Nat) (vs : List AV) (H : AH) : Option (AV × AH) :=
  outR (hd vs fun x0 vs => hd vs fun x1 vs => hd vs fun x2 vs => nl vs <|
  bA (bxV 73 x0) H fun x3 H => 
  bA (mkM [6]) H fun x10 H => 
  jb 0 (loopK n (f65l0 D n) [x1, x2, x3, .nilSlice, x10, x2] H) (f65b1 D n))
def h65 : Hint := (.s .o (.s .o (.s .o (.s (.s .o (.b [1, 2, 6] (.l [1, 2, 3, 6, 7, 8] (.s (.s .o (.cr .o .o)) (.b0 (.s .o (.s .pc (.s .o .o)))))))) .pc))))
theorem f65_eq (D : Dyn) (n : Nat) : f65 D n = funKp (s65 D n) D n 65 Tryz.f65 h65 := by kernel_rfl
theorem f65_ok {D : Dyn} (hD : DP D) (n : Nat) : FP 65 (f65 D n) := fun_okP X_ok hD (SP.cons (f79_ok hD n) (SP.cons (f124_ok hD n) (SP.cons (f54_ok hD n) (SP.nil)))) Tryz.func65 (by kernel_rfl) (by kernel_rfl) (f65_eq D n)

def s64 (D : Dyn) (n : Nat) : Tb := ⟨X, [(46, f46 D n), (47, f47 D n), (48, f48 D n), (34, f34 D n), (65, f65 D n), (66, f66 D n), (38, f38 D n), (62, f62 D n), (63, f63 D n), (58, f58 D n), (55, f55 D n), (57, f57 D n), (56, f56 D n), (67, f67 D n)]⟩
def f64j0 (D : Dyn) (n : Nat) (vs : List AV) (H : AH) : Rs :=
  hd vs fun x1_3 vs => hd vs fun x2_3 vs => hd vs fun x3_3 vs => hd vs fun x4_3 vs => hd vs fun x5_3 vs => hd vs fun x7_3 vs => hd vs fun x11_2 vs => 
  bV (ldNp 2 x5_3 H) fun x59 => 
  bV (ldNp 8 x11_2 H) fun x60 => 
  bC (f62 D n [x59, x60] H) (fun x H => some (.ret (.pan x), H)) fun x61 H => 
  bV (ldNp 2 x5_3 H) fun x62 => 
  bV (ld1p x2_3 H) fun x63 => 
  bV (ld1p x4_3 H) fun x64 => 
  bV (ldNp 8 x11_2 H) fun x65 => 
  bC (f63 D n [x62, x63, x64, x65] H) (fun x H => some (.ret (.pan x), H)) fun x66 H => 
  some (.norm [x1_3, x2_3, x3_3, x4_3, x5_3, x7_3, x66], H)
def f64j1 (D : Dyn) (n : Nat) (vs : List AV) (H : AH) : Rs :=
  hd vs fun x1_5 vs => hd vs fun x3_5 vs => hd vs fun x5_5 vs => hd vs fun x7_5 vs => hd vs fun x8_2 vs => 
  bV (ldNp 2 x5_5 H) fun x94 => 
  bV (ld1p x1_5 H) fun x95 => 
  bV (ld1p x3_5 H) fun x96 => 
  bV (ldNp 8 x7_5 H) fun x97 => 
  bC (f67 D n [x94, x95, x96, x97] H) (fun x H => some (.ret (.pan x), H)) fun x98 H => 
  bV (some x8_2) fun x6_2 => some (.ret x6_2, H)
def f64j2 (D : Dyn) (n : Nat) (vs : List AV) (H : AH) : Rs :=
  hd vs fun x1_4 vs => hd vs fun x2_4 vs => hd vs fun x3_4 vs => hd vs fun x4_4 vs => hd vs fun x5_4 vs => hd vs fun x7_4 vs => hd vs fun x8 vs => 
  bV (ldNp 2 x5_4 H) fun x67 => 
  bV (ld1p x2_4 H) fun x68 => 
  bV (ld1p x4_4 H) fun x69 => 
  bV (ldNp 8 x7_4 H) fun x70 => 
  bC (f58 D n [x67, x68, x69, x70] H) (fun x H => some (.ret (.pan x), H)) fun x71 H => 
  bV (fAd 1 x5_4) fun x72 => 
  bV (ld1p x72 H) fun x73 => 
  bV (fAd 5 x7_4) fun x74 => 
  bR (stNp 1 x74 x73 H) fun x9999_3 H => 
  bV (ldNp 2 x5_4 H) fun x75 => 
  bV (ldNp 8 x7_4 H) fun x76 => 
  bC (f55 D n [x75, x76] H) (fun x H => some (.ret (.pan x), H)) fun x77 H => 
  bV (fAd 0 x7_4) fun x78 => 
  bV (ld1p x78 H) fun x79 => 
  bV (bInt .eql x79 (.int .u8 (.ofNat 2))) fun x80 => 
  jn (wnt x80 true (bV (ld1p x2_4 H) fun x82 => 
  bV (ld1p x1_4 H) fun x83 => 
  bV (bInt .neq x82 x83) fun x84 => 
  some (.norm [x84], H)) (some (.norm [undefA], H))) fun vs H => hd vs fun x84_2 vs => 
  bV (pk3 (some x80) (some x84_2) (some (.bool false))) fun x85 => 
  jn (cnd x85 (bV (ldNp 2 x5_4 H) fun x86 => 
  bV (fAd 6 x7_4) fun x87 => 
  bV (ld1p x87 H) fun x88 => 
  bV (ld1p x2_4 H) fun x91 => 
  bR (noPan (f57 D n [x88] H)) fun x89 H => chk (ldNp 2 x5_4 H) x86 <| chk (ld1p x2_4 H) x91 <| 
  bV (bStr .add (.str 1 112) x89) fun x90 => 
  bR (noPan (f57 D n [x91] H)) fun x92 H => chk (ldNp 2 x5_4 H) x86 <| 
  bR (noPan (f56 D n [x86, x90, x92] H)) fun x93 H => 
  some (.norm [x1_4, x3_4, x5_4, x7_4, x8], H))
  (some (.norm [x1_4, x3_4, x5_4, x7_4, x8], H))) (f64j1 D n)
def f64j3 (D : Dyn) (n : Nat) (vs : List AV) (H : AH) : Rs :=
  hd vs fun x1_2 vs => hd vs fun x2_2 vs => hd vs fun x3_2 vs => hd vs fun x4_2 vs => hd vs fun x5_2 vs => hd vs fun x7_2 vs => 
  bV (ldNp 2 x5_2 H) fun x37 => 
  bV (ld1p x2_2 H) fun x38 => 
  bV (ld1p x4_2 H) fun x39 => 
  bC (f66 D n [x37, x38, x39] H) (fun x H => some (.ret (.pan x), H)) fun x40 H => 
  bV (pExtract x40 0) fun x41 => 
  bV (pExtract x40 1) fun x42 => 
  jn (cnd x42 (bV (fAd 6 x7_2) fun x45 => 
  bV (ld1p x45 H) fun x46 => 
  bV (bInt .eql x41 x46) fun x47 => 
  cnd x47 (bV (some (.int .i64 (.ofNat 0))) fun x6 => some (.ret x6, H))
  (bV (ldNp 2 x5_2 H) fun x48 => 
  bC (f34 D n [x48, x41] H) (fun x H => some (.ret (.pan x), H)) fun x50 H => 
  bA (bxV 23 (.agg [(.int .u8 (.ofNat 0)), (.int .i64 (.ofNat 0)), (.int .i64 (.ofNat 0)), (.int .i64 (.ofNat 0)), (.int .i64 (.ofNat 0)), (.int .i64 (.ofNat 0)), (.int .i64 (.ofNat 0)), (.int .i64 (.ofNat 0))])) H fun x11 H => 
  bR (stNp 8 x11 x50 H) fun x9999_2 H => 
  bV (fAd 0 x7_2) fun x51 => 
  bV (ld1p x51 H) fun x52 => 
  bV (bInt .eql x52 (.int .u8 (.ofNat 2))) fun x53 => 
  bV (fAd 0 x11) fun x54 => 
  bV (ld1p x54 H) fun x55 => 
  bV (bInt .eql x55 (.int .u8 (.ofNat 2))) fun x56 => 
  bV (bBool .neq x53 x56) fun x57 => 
  jn (cnd x57 (bC (f38 D n [(.int .i64 (.ofNat 55))] H) (fun x H => some (.ret (.pan x), H)) fun x58 H => 
  some (.norm [x1_2, x2_2, x3_2, x4_2, x5_2, x7_2, x11], H))
  (some (.norm [x1_2, x2_2, x3_2, x4_2, x5_2, x7_2, x11], H))) (f64j0 D n)))
  (some (.norm [x1_2, x2_2, x3_2, x4_2, x5_2, x7_2, (.int .i64 (.ofNat 0))], H))) (f64j2 D n)
/-- jetty/objs.Rename$1 -/
def f64 (D : Dyn) (n : Nat) (vs : List AV) (H : AH) : Option (AV × AH) :=
  outR (hd vs fun x0 vs => hd vs fun x1 vs => hd vs fun x2 vs => hd vs fun x3 vs => hd vs fun x4 vs => nl vs <|
  bA (bxV 73 x0) H fun x5 H => 
  bV (ldNp 2 x5 H) fun x12 => 
  bV (ld1p x1 H) fun x13 => 
  bC (f46 D n [x12, x13] H) (fun x H => some (.ret (.pan x), H)) fun x14 H => 
  bV (ldNp 2 x5 H) fun x15 => 
  bV (ld1p x2 H) fun x16 => 
  bC (f46 D n [x15, x16] H) (fun x H => some (.ret (.pan x), H)) fun x17 H => 
  bV (ld1p x3 H) fun x18 => 
  bC (f47 D n [x18] H) (fun x H => some (.ret (.pan x), H)) fun x19 H => 
  bV (ld1p x4 H) fun x20 => 
  bC (f47 D n [x20] H) (fun x H => some (.ret (.pan x), H)) fun x21 H => 
  bV (ldNp 2 x5 H) fun x22 => 
  bV (ldNp 2 x5 H) fun x23 => 
  bV (ld1p x1 H) fun x24 => 
  bV (ld1p x3 H) fun x25 => 
  bA (bxV 23 (.agg [(.int .u8 (.ofNat 0)), (.int .i64 (.ofNat 0)), (.int .i64 (.ofNat 0)), (.int .i64 (.ofNat 0)), (.int .i64 (.ofNat 0)), (.int .i64 (.ofNat 0)), (.int .i64 (.ofNat 0)), (.int .i64 (.ofNat 0))])) H fun x7 H => 
  bR (noPan (f48 D n [x23, x24, x25] H)) fun x26 H => chk (ldNp 2 x5 H) x22 <| 
  bR (noPan (f34 D n [x22, x26] H)) fun x27 H => 
  bR (stNp 8 x7 x27 H) fun x9999 H => 
  bV (fAd 0 x7) fun x28 => 
  bV (ld1p x28 H) fun x29 => 
  bV (bInt .eql x29 (.int .u8 (.ofNat 2))) fun x30 => 
  jn (cnd x30 (bV (ldNp 2 x5 H) fun x31 => 
  bV (fAd 6 x7) fun x32 => 
  bV (ld1p x32 H) fun x33 => 
  bV (ld1p x2 H) fun x34 => 
  bC (f65 D n [x31, x33, x34] H) (fun x H => some (.ret (.pan x), H)) fun x35 H => 
  some (.norm [x1, x2, x3, x4, x5, x7], H))
  (some (.norm [x1, x2, x3, x4, x5, x7], H))) (f64j3 D n))
def h64 : Hint := (.s .o (.s .pc (.s .pc (.s .pc (.s .pc (.s .o (.s (.s .o (.c [1, 2, 3, 4, 5, 7] .pc .o)) (.s .o (.s (.s .pc (.s .o (.c [1, 2, 3, 4, 5, 7, 8] (.s (.s .o (.cl (.s .o .o) .o)) (.s .pc (.s (.s .o (.c [1, 2, 3, 4, 5, 7, 11] .pc .o)) (.s .pc .pc)))) .o))) (.s .pc (.s .o (.s .pc (.s (.s .o (.c [1, 3, 5, 7, 8] .o .o)) (.s .pc (.s .o .o)))))))))))))))
theorem f64_eq (D : Dyn) (n : Nat) : f64 D n = funKp (s64 D n) D n 64 Tryz.f64 h64 := by kernel_rfl
theorem f64_ok {D : Dyn} (hD : DP D) (n : Nat) : FP 64 (f64 D n) := fun_okP X_ok hD (SP.cons (f46_ok hD n) (SP.cons (f47_ok hD n) (SP.cons (f48_ok hD n) (SP.cons (f34_ok hD n) (SP.cons (f65_ok hD n) (SP.cons (f66_ok hD n) (SP.cons (f38_ok hD n) (SP.cons (f62_ok hD n) (SP.cons (f63_ok hD n) (SP.cons (f58_ok hD n) (SP.cons (f55_ok hD n) (SP.cons (f57_ok hD n) (SP.cons (f56_ok hD n) (SP.cons (f67_ok hD n) (SP.nil))))))))))))))) Tryz.func64 (by kernel_rfl) (by kernel_rfl) (f64_eq D n)

def s13 (D : Dyn) (n : Nat) : Tb := ⟨X, [(42, f42 D n)]⟩
/-- jetty/objs.Rename -/
def f13 (D : Dyn) (n : Nat) (vs : List AV) (H : AH) : Option (AV × AH) :=
  outR (hd vs fun x0 vs => hd vs fun x1 vs => hd vs fun x2 vs => hd vs fun x3 vs => hd vs fun x4 vs => hd vs fun x5 vs => nl vs <|
  bA (bxV 3 x1) H fun x7 H => 
  bA (bxV 9 x2) H fun x8 H => 
  bA (bxV 3 x3) H fun x9 H => 
  bA (bxV 9 x4) H fun x10 H => 
  bR (noPan (f42 D n [x0, x5, (.func 64 [] [x7, x9, x8, x10])] H)) fun x17 H => 
  bV (pExtract x17 0) fun x18 => 
  bV (pExtract x17 1) fun x19 => 
  bV (some x18) fun x12 => bV (some x19) fun x13 => some (.ret (.tuple [x12, x13]), H))
def h13 : Hint := (.s .o (.s .o .o))
theorem f13_eq (D : Dyn) (n : Nat) : f13 D n = funKp (s13 D n) D n 13 Tryz.f13 h13 := by kernel_rfl
theorem f13_ok {D : Dyn} (hD : DP D) (n : Nat) : FP 13 (f13 D n) := fun_okP X_ok hD (SP.cons (f42_ok hD n) (SP.nil)) Tryz.func13 (by kernel_rfl) (by kernel_rfl) (f13_eq D n)

def s69 (D : Dyn) (n : Nat) : Tb := ⟨X, [(34, f34 D n), (38, f38 D n)]⟩
def f69j0 (D : Dyn) (n : Nat) (vs : List AV) (H : AH) : Rs :=
  hd vs fun x4_2 vs => hd vs fun x5_2 vs => 
  bV (ldNp 8 x5_2 H) fun x13 => 
  bR (stNp 8 x4_2 x13 H) fun x9999_2 H => 
  bV (ldNp 8 x4_2 H) fun x9004 => some (.ret x9004, H)
/-- (jetty/objs.work).file -/
def f69 (D : Dyn) (n : Nat) (vs : List AV) (H : AH) : Option (AV × AH) :=
  outR (hd vs fun x0 vs => hd vs fun x1 vs => nl vs <|
  bA (bxV 73 x0) H fun x2 H => 
  bA (bxV 23 (.agg [(.int .u8 (.ofNat 0)), (.int .i64 (.ofNat 0)), (.int .i64 (.ofNat 0)), (.int .i64 (.ofNat 0)), (.int .i64 (.ofNat 0)), (.int .i64 (.ofNat 0)), (.int .i64 (.ofNat 0)), (.int .i64 (.ofNat 0))])) H fun x4 H => 
  bV (ldNp 2 x2 H) fun x6 => 
  bC (f34 D n [x6, x1] H) (fun x H => some (.ret (.pan x), H)) fun x8 H => 
  bA (bxV 23 (.agg [(.int .u8 (.ofNat 0)), (.int .i64 (.ofNat 0)), (.int .i64 (.ofNat 0)), (.int .i64 (.ofNat 0)), (.int .i64 (.ofNat 0)), (.int .i64 (.ofNat 0)), (.int .i64 (.ofNat 0)), (.int .i64 (.ofNat 0))])) H fun x5 H => 
  bR (stNp 8 x5 x8 H) fun x9999 H => 
  bV (fAd 0 x5) fun x9 => 
  bV (ld1p x9 H) fun x10 => 
  bV (bInt .neq x10 (.int .u8 (.ofNat 1))) fun x11 => 
  jn (cnd x11 (bC (f38 D n [(.int .i64 (.ofNat 55))] H) (fun x H => some (.ret (.pan x), H)) fun x12 H => 
  some (.norm [x4, x5], H))
  (some (.norm [x4, x5], H))) (f69j0 D n))
def h69 : Hint := (.s .o (.s .pc (.s (.s .o (.c [4, 5] .pc .o)) (.s .o .o))))
theorem f69_eq (D : Dyn) (n : Nat) : f69 D n = funKp (s69 D n) D n 69 Tryz.f69 h69 := by kernel_rfl
theorem f69_ok {D : Dyn} (hD : DP D) (n : Nat) : FP 69 (f69 D n) := fun_okP X_ok hD (SP.cons (f34_ok hD n) (SP.cons (f38_ok hD n) (SP.nil))) Tryz.func69 (by kernel_rfl) (by kernel_rfl) (f69_eq D n)

def s201 (D : Dyn) (n : Nat) : Tb := ⟨X, []⟩
def f201l0 (D : Dyn) (n : Nat) (vs : List AV) (H : AH) : Rs :=
  hd vs fun x0_2 vs => hd vs fun x1_2 vs => hd vs fun x2_2 vs => 
  bV (ld1p x1_2 H) fun x5 => 
  bV (bInt .gtr x5 (.int .i64 (.ofNat 0))) fun x6 => 
  cnd x6 (bV (ld1p x2_2 H) fun x7 => 
  bV (bInt .quo x7 (.int .i64 (.ofNat 128))) fun x8 => 
  bV (ld1p x2_2 H) fun x9 => 
  bV (bInt .rem x9 (.int .i64 (.ofNat 128))) fun x10 => 
  bV (bldSp [(0, 1), (1, 1), (2, 1)] [(.int .i64 (.ofNat 0)), (.int .i64 (.ofNat 0)), (.int .i64 (.ofNat 0))] [(0, x8), (1, x10)]) fun x11 => 
  bA (bxV 205 (.agg [(.int .i64 (.ofNat 0)), (.int .i64 (.ofNat 0)), (.int .i64 (.ofNat 0))])) H fun x4 H => 
  bR (stNp 3 x4 x11 H) fun x9999 H => 
  bV (fAd 1 x4) fun x12 => 
  bV (ld1p x12 H) fun x13 => 
  bV (ld1p x1_2 H) fun x14 => 
  bV (bInt .add x13 x14) fun x15 => 
  bV (mn2 (.int .i64 (.ofNat 128)) x15) fun x16 => 
  bV (fAd 2 x4) fun x17 => 
  bR (stNp 1 x17 x16 H) fun x9999_2 H => 
  bV (ldNp 3 x4 H) fun x19 => 
  bR (noPan (callV (s201 D n).S D x0_2 [x19] H)) fun x20 H => 
  bV (aun .not x20) fun x21 => 
  cnd x21 (some (.ret (.tuple []), H))
  (bV (ld1p x2_2 H) fun x22 => 
  bV (fAd 2 x4) fun x23 => 
  bV (ld1p x23 H) fun x24 => 
  bV (fAd 1 x4) fun x25 => 
  bV (ld1p x25 H) fun x26 => 
  bV (bInt .sub x24 x26) fun x27 => 
  bV (bInt .add x22 x27) fun x28 => 
  bR (stNp 1 x2_2 x28 H) fun x9999_3 H => 
  bV (ld1p x1_2 H) fun x29 => 
  bV (fAd 2 x4) fun x30 => 
  bV (ld1p x30 H) fun x31 => 
  bV (fAd 1 x4) fun x32 => 
  bV (ld1p x32 H) fun x33 => 
  bV (bInt .sub x31 x33) fun x34 => 
  bV (bInt .sub x29 x34) fun x35 => 
  bR (stNp 1 x1_2 x35 H) fun x9999_4 H => 
  some (.norm [x0_2, x1_2, x2_2], H)))
  (some (.exit 0 [], H))
def f201b1 (D : Dyn) (n : Nat) (vs : List AV) (H : AH) : Rs :=
  
  some (.ret (.tuple []), H)
/-- jetty/extent.parts$1 -/
def f201 (D : Dyn) (n : Nat) (vs : List AV) (H : AH) : Option (AV × AH) :=
  outR (hd vs fun x0 vs => hd vs fun x1 vs => hd vs fun x2 vs => nl vs <|
  jb 0 (loopK n (f201l0 D n) [x0, x1, x2] H) (f201b1 D n))
def h201 : Hint := (.b [] (.l [0, 1, 2] (.s (.s .o (.cr .o .o)) (.b0 (.s .o (.s .o (.s (.s .o (.cl .o .o)) (.s .o .o))))))))
theorem f201_eq (D : Dyn) (n : Nat) : f201 D n = funKp (s201 D n) D n 201 Tryz.f201 h201 := by kernel_rfl
theorem f201_ok {D : Dyn} (hD : DP D) (n : Nat) : FP 201 (f201 D n) := fun_okP X_ok hD (SP.nil) Tryz.func201 (by kernel_rfl) (by kernel_rfl) (f201_eq D n)

def s130 (D : Dyn) (n : Nat) : Tb := ⟨X, []⟩
/-- jetty/extent.parts -/
def f130 (D : Dyn) (n : Nat) (vs : List AV) (H : AH) : Option (AV × AH) :=
  outR (hd vs fun x0 vs => hd vs fun x1 vs => nl vs <|
  bA (bxV 3 x0) H fun x2 H => 
  bA (bxV 3 x1) H fun x3 H => 
  bV (some (.func 201 [] [x3, x2])) fun x4 => some (.ret x4, H))
def h130 : Hint := (.s .o (.s .o .o))
theorem f130_eq (D : Dyn) (n : Nat) : f130 D n = funKp (s130 D n) D n 130 Tryz.f130 h130 := by kernel_rfl
theorem f130_ok {D : Dyn} (hD : DP D) (n : Nat) : FP 130 (f130 D n) := fun_okP X_ok hD (SP.nil) Tryz.func130 (by kernel_rfl) (by kernel_rfl) (f130_eq D n)

def s131 (D : Dyn) (n : Nat) : Tb := ⟨X, [(142, f142 D n), (135, f135 D n)]⟩
/-- jetty/extent.load -/
def f131 (D : Dyn) (n : Nat) (vs : List AV) (H : AH) : Option (AV × AH) :=
  outR (hd vs fun x0 vs => hd vs fun x1 vs => hd vs fun x2 vs => nl vs <|
  bA (bxV 206 (.agg [.pk 128 0])) H fun x6 H => 
  bA (bxV 206 (.agg [.pk 128 0])) H fun x9 H => 
  bR (noPan (f142 D n [x1, x2] H)) fun x16 H => 
  bR (noPan (f135 D n [x0, x16] H)) fun x17 H => 
  bV (pExtract x17 0) fun x18 => 
  bV (pExtract x17 1) fun x19 => 
  bV (bInt .eql x19 (.int .i64 (.ofNat 5))) fun x21 => 
  cnd x21 (bV (ldNp 128 x9 H) fun x22 => 
  bR (stNp 128 x6 x22 H) fun x9999 H => 
  bV (ldNp 128 x6 H) fun x9006 => bV (some (.bool false)) fun x7 => bV (some (.int .i64 (.ofNat 0))) fun x8 => some (.ret (.tuple [x9006, x7, x8]), H))
  (bV (slArr 128 1 x9 none none none) fun x23 => 
  bR (cpyp 1 x23 x18 H) fun x25 H => 
  bV (ldNp 128 x9 H) fun x26 => 
  bV (bInt .eql x19 (.int .i64 (.ofNat 0))) fun x28 => 
  bR (stNp 128 x6 x26 H) fun x9999_2 H => 
  bV (ldNp 128 x6 H) fun x9006_2 => bV (some x28) fun x7_2 => bV (some x19) fun x8_2 => some (.ret (.tuple [x9006_2, x7_2, x8_2]), H)))
def h131 : Hint := (.s .o (.s .o (.s .o (.s (.s .o (.cl (.s .o .o) .o)) (.s .o (.s .o .o))))))
theorem f131_eq (D : Dyn) (n : Nat) : f131 D n = funKp (s131 D n) D n 131 Tryz.f131 h131 := by kernel_rfl
theorem f131_ok {D : Dyn} (hD : DP D) (n : Nat) : FP 131 (f131 D n) := fun_okP X_ok hD (SP.cons (f142_ok hD n) (SP.cons (f135_ok hD n) (SP.nil))) Tryz.func131 (by kernel_rfl) (by kernel_rfl) (f131_eq D n)

def s129 (D : Dyn) (n : Nat) : Tb := ⟨X, [(130, f130 D n), (131, f131 D n), (132, f132 D n)]⟩
/-- jetty/extent.Write$1 -/
def f129 (D : Dyn) (n : Nat) (vs : List AV) (H : AH) : Option (AV × AH) :=
  outR (hd vs fun x0 vs => hd vs fun x1 vs => hd vs fun x2 vs => hd vs fun x3 vs => nl vs <|
  bA (bxV 24 (.int .i64 (.ofNat 0))) H fun x4 H => 
  bV (ld1p x0 H) fun x11 => 
  bA (bxV 9 (.str 0 0)) H fun x5 H => 
  bR (stNp 1 x5 x11 H) fun x9999 H => 
  bV (ld1p x1 H) fun x12 => 
  bV (ld1p x0 H) fun x13 => 
  bV (lnStr x13) fun x14 => 
  bR (noPan (f130 D n [x12, x14] H)) fun x15 H => 
  newB H (.loop ⟨.ready, none, 129, 0, [2, 3, 4, 5], [x2, x3, x4, x5]⟩) fun A H => bR (rfC (s129 D n).S D x15 A H) fun _ H => endLp A H fun j H => jmpK j (
  bR (stNp 1 x4 (.int .i64 (.ofNat 0)) H) fun x9999_2 H => 
  bV (ld1p x4 H) fun x9004_2 => some (.ret x9004_2, H))
  (fun id => none) (bV (ld1p x4 H) fun x9004 => some (.ret x9004, H)))
def h129 : Hint := (.s .o (.s .o (.s (.s .o (.b0 (.rf 0 [2, 3, 4, 5]))) (.s .o .o))))
theorem f129_eq (D : Dyn) (n : Nat) : f129 D n = funKp (s129 D n) D n 129 Tryz.f129 h129 := by kernel_rfl
theorem f129_ok {D : Dyn} (hD : DP D) (n : Nat) : FP 129 (f129 D n) := fun_okP X_ok hD (SP.cons (f130_ok hD n) (SP.cons (f131_ok hD n) (SP.cons (f132_ok hD n) (SP.nil)))) Tryz.func129 (by kernel_rfl) (by kernel_rfl) (f129_eq D n)
def r129_0 (D : Dyn) (n : Nat) (A : Nat) (l : ALoop) (az : List AV) (H : AH) : Option (AV × AH) :=
  bif eqNL [2, 3, 4, 5] l.live then endQ A (hd l.vals fun x2 vs => hd vs fun x3 vs => hd vs fun x4 vs => hd vs fun x5 vs => hd az fun x16 az => nl az <|
  bA (bxV 205 (.agg [(.int .i64 (.ofNat 0)), (.int .i64 (.ofNat 0)), (.int .i64 (.ofNat 0))])) H fun x6 H => 
  bR (stNp 3 x6 x16 H) fun x9999 H => 
  beginK A H fun H => 
  bV (ld1p x2 H) fun x18 => 
  bV (ld1p x3 H) fun x19 => 
  bV (fAd 0 x6) fun x20 => 
  bV (ld1p x20 H) fun x21 => 
  bR (noPan (f131 D n [x18, x19, x21] H)) fun x22 H => 
  bV (pExtract x22 0) fun x23 => 
  bV (pExtract x22 1) fun x24 => 
  bV (pExtract x22 2) fun x25 => 
  bA (bxV 206 (.agg [.pk 128 0])) H fun x7 H => 
  bR (stNp 128 x7 x23 H) fun x9999_2 H => 
  bV (bInt .neq x25 (.int .i64 (.ofNat 0))) fun x27 => 
  cnd x27 (bR (stNp 1 x4 x25 H) fun x9999_3 H => 
  some (.ret (.tuple []), H))
  (bV (ld1p x5 H) fun x29 => 
  bV (fAd 1 x6) fun x30 => 
  bV (ld1p x30 H) fun x31 => 
  bV (fAd 2 x6) fun x32 => 
  bV (ld1p x32 H) fun x33 => 
  bV (slArr 128 1 x7 (some x31) (some x33) none) fun x34 => 
  bV (ld1p x5 H) fun x35 => 
  bR (cpyp 1 x34 x35 H) fun x36 H => chk (ld1p x5 H) x29 <| 
  bV (slStr x29 (some x36) none) fun x37 => 
  bR (stNp 1 x5 x37 H) fun x9999_4 H => 
  bV (ld1p x2 H) fun x38 => 
  bV (ld1p x3 H) fun x39 => 
  bV (fAd 0 x6) fun x40 => 
  bV (ld1p x40 H) fun x41 => 
  bV (slArr 128 1 x7 none none none) fun x42 => 
  bR (noPan (f132 D n [x38, x39, x41, x42, x24] H)) fun x44 H => 
  bV (bInt .neq x44 (.int .i64 (.ofNat 0))) fun x46 => 
  cnd x46 (bR (stNp 1 x4 x44 H) fun x9999_5 H => 
  some (.ret (.tuple []), H))
  (some (.norm [], H)))) else none
def r129_0a : Hint := .o
def r129_0b : Hint := (.b0 (.s .o (.s (.s .o (.cl (.s .o .o) .o)) (.s .o (.s .o (.s .o (.cl (.s .o .o) .o)))))))
theorem r129_0_eq (D : Dyn) (n : Nat) : r129_0 D n = rndKp (s129 D n) D n 129 0 [2, 3, 4, 5] [] r129_0a r129_0b := by kernel_rfl
theorem r129_0_ok {D : Dyn} (hD : DP D) (n : Nat) : RdP 129 0 (r129_0 D n) := round_okP X_ok hD (SP.cons (f130_ok hD n) (SP.cons (f131_ok hD n) (SP.cons (f132_ok hD n) (SP.nil)))) (by kernel_rfl) (r129_0_eq D n)

def s70 (D : Dyn) (n : Nat) : Tb := ⟨X, [(127, f127 D n), (128, f128 D n)]⟩
/-- jetty/extent.Write -/
def f70 (D : Dyn) (n : Nat) (vs : List AV) (H : AH) : Option (AV × AH) :=
  outR (hd vs fun x0 vs => hd vs fun x1 vs => hd vs fun x2 vs => hd vs fun x3 vs => nl vs <|
  bA (bxV 46 x0) H fun x4 H => 
  bA (bxV 3 x1) H fun x5 H => 
  bA (bxV 3 x2) H fun x6 H => 
  bA (bxV 9 x3) H fun x7 H => 
  bV (ld1p x4 H) fun x9 => 
  bV (cmpO .eql (eqP x9 .nilPtr)) fun x10 => 
  cnd x10 (bV (some (.int .i64 (.ofNat 2))) fun x8 => some (.ret x8, H))
  (bV (ld1p x5 H) fun x11 => 
  bR (noPan (f127 D n [x11] H)) fun x12 H => 
  bV (aun .not x12) fun x13 => 
  jn (wnt x13 false (bV (ld1p x6 H) fun x15 => 
  bV (bInt .lss x15 (.int .i64 (.ofNat 0))) fun x16 => 
  some (.norm [x16], H)) (some (.norm [undefA], H))) fun vs H => hd vs fun x16_2 vs => 
  bV (pk3 (some x13) (some (.bool true)) (some x16_2)) fun x17 => 
  cnd x17 (bV (some (.int .i64 (.ofNat 1))) fun x8_2 => some (.ret x8_2, H))
  (bV (ld1p x6 H) fun x18 => 
  bV (bInt .gtr x18 (.int .i64 (.ofNat 32768))) fun x19 => 
  jn (wnt x19 false (bV (ld1p x7 H) fun x21 => 
  bV (lnStr x21) fun x22 => 
  bV (ld1p x6 H) fun x23 => 
  bV (bInt .sub (.int .i64 (.ofNat 32768)) x23) fun x24 => 
  bV (bInt .gtr x22 x24) fun x25 => 
  some (.norm [x25], H)) (some (.norm [undefA], H))) fun vs H => hd vs fun x25_2 vs => 
  bV (pk3 (some x19) (some (.bool true)) (some x25_2)) fun x26 => 
  cnd x26 (bV (some (.int .i64 (.ofNat 40))) fun x8_3 => some (.ret x8_3, H))
  (bV (ld1p x7 H) fun x27 => 
  bV (bStr .eql x27 (.str 0 0)) fun x28 => 
  cnd x28 (bV (some (.int .i64 (.ofNat 0))) fun x8_4 => some (.ret x8_4, H))
  (bV (ld1p x4 H) fun x29 => 
  bR (noPan (f128 D n [x29, (.func 129 [] [x7, x6, x4, x5])] H)) fun x31 H => 
  bV (some x31) fun x8_5 => some (.ret x8_5, H))))))
def h70 : Hint := (.s .o (.s (.s .o (.cl (.s .o .o) .o)) (.s (.s .o (.cl (.s .o .o) .o)) (.s (.s .o (.cl (.s .o .o) .o)) (.s (.s .o (.cl (.s .o .o) .o)) (.s .o .o))))))
theorem f70_eq (D : Dyn) (n : Nat) : f70 D n = funKp (s70 D n) D n 70 Tryz.f70 h70 := by kernel_rfl
theorem f70_ok {D : Dyn} (hD : DP D) (n : Nat) : FP 70 (f70 D n) := fun_okP X_ok hD (SP.cons (f127_ok hD n) (SP.cons (f128_ok hD n) (SP.nil))) Tryz.func70 (by kernel_rfl) (by kernel_rfl) (f70_eq D n)

def s68 (D : Dyn) (n : Nat) : Tb := ⟨X, [(69, f69 D n), (70, f70 D n), (54, f54 D n), (55, f55 D n)]⟩
def f68j0 (D : Dyn) (n : Nat) (vs : List AV) (H : AH) : Rs :=
  hd vs fun x4_2 vs => hd vs fun x5_2 vs => hd vs fun x6_2 vs => 
  bV (fAd 1 x4_2) fun x27 => 
  bV (ld1p x27 H) fun x28 => 
  bV (fAd 1 x4_2) fun x29 => 
  bV (ld1p x29 H) fun x30 => 
  bV (fAd 4 x6_2) fun x31 => 
  bR (stNp 1 x31 x28 H) fun x9999_3 H => chk (ld1p x29 H) x30 <| 
  bV (fAd 5 x6_2) fun x32 => 
  bR (stNp 1 x32 x30 H) fun x9999_4 H => 
  bV (ldNp 2 x4_2 H) fun x33 => 
  bV (ldNp 8 x6_2 H) fun x34 => 
  bC (f55 D n [x33, x34] H) (fun x H => some (.ret (.pan x), H)) fun x35 H => 
  bV (ldNp 8 x6_2 H) fun x36 => 
  bR (stNp 8 x5_2 x36 H) fun x9999_5 H => 
  bV (ldNp 8 x5_2 H) fun x9005 => some (.ret x9005, H)
/-- jetty/objs.Write$1 -/
def f68 (D : Dyn) (n : Nat) (vs : List AV) (H : AH) : Option (AV × AH) :=
  outR (hd vs fun x0 vs => hd vs fun x1 vs => hd vs fun x2 vs => hd vs fun x3 vs => nl vs <|
  bA (bxV 73 x0) H fun x4 H => 
  bA (bxV 23 (.agg [(.int .u8 (.ofNat 0)), (.int .i64 (.ofNat 0)), (.int .i64 (.ofNat 0)), (.int .i64 (.ofNat 0)), (.int .i64 (.ofNat 0)), (.int .i64 (.ofNat 0)), (.int .i64 (.ofNat 0)), (.int .i64 (.ofNat 0))])) H fun x5 H => 
  bV (ldNp 2 x4 H) fun x7 => 
  bV (ld1p x1 H) fun x8 => 
  bC (f69 D n [x7, x8] H) (fun x H => some (.ret (.pan x), H)) fun x9 H => 
  bA (bxV 23 (.agg [(.int .u8 (.ofNat 0)), (.int .i64 (.ofNat 0)), (.int .i64 (.ofNat 0)), (.int .i64 (.ofNat 0)), (.int .i64 (.ofNat 0)), (.int .i64 (.ofNat 0)), (.int .i64 (.ofNat 0)), (.int .i64 (.ofNat 0))])) H fun x6 H => 
  bR (stNp 8 x6 x9 H) fun x9999 H => 
  bV (fAd 0 x4) fun x10 => 
  bV (ld1p x10 H) fun x11 => 
  bV (ld1p x1 H) fun x12 => 
  bV (ld1p x2 H) fun x13 => 
  bV (ld1p x3 H) fun x14 => 
  bC (f70 D n [x11, x12, x13, x14] H) (fun x H => some (.ret (.pan x), H)) fun x15 H => 
  bC (f54 D n [x15] H) (fun x H => some (.ret (.pan x), H)) fun x16 H => 
  bV (ld1p x3 H) fun x17 => 
  bV (bStr .neq x17 (.str 0 0)) fun x18 => 
  jn (cnd x18 (bV (fAd 3 x6) fun x19 => 
  bV (ld1p x19 H) fun x20 => 
  bV (ld1p x2 H) fun x21 => 
  bV (ld1p x3 H) fun x22 => 
  bV (lnStr x22) fun x23 => 
  bV (bInt .add x21 x23) fun x24 => 
  bV (mx2 x20 x24) fun x25 => 
  bV (fAd 3 x6) fun x26 => 
  bR (stNp 1 x26 x25 H) fun x9999_2 H => 
  some (.norm [x4, x5, x6], H))
  (some (.norm [x4, x5, x6], H))) (f68j0 D n))
def h68 : Hint := (.s .o (.s .pc (.s .pc (.s (.s .o (.c [4, 5, 6] .o .o)) (.s .o (.s .pc (.s .o .o)))))))
theorem f68_eq (D : Dyn) (n : Nat) : f68 D n = funKp (s68 D n) D n 68 Tryz.f68 h68 := by kernel_rfl
theorem f68_ok {D : Dyn} (hD : DP D) (n : Nat) : FP 68 (f68 D n) := fun_okP X_ok hD (SP.cons (f69_ok hD n) (SP.cons (f70_ok hD n) (SP.cons (f54_ok hD n) (SP.cons (f55_ok hD n) (SP.nil))))) Tryz.func68 (by kernel_rfl) (by kernel_rfl) (f68_eq D n)

def s14 (D : Dyn) (n : Nat) : Tb := ⟨X, [(49, f49 D n)]⟩
/-- jetty/objs.Write -/
def f14 (D : Dyn) (n : Nat) (vs : List AV) (H : AH) : Option (AV × AH) :=
  outR (hd vs fun x0 vs => hd vs fun x1 vs => hd vs fun x2 vs => hd vs fun x3 vs => hd vs fun x4 vs => nl vs <|
  bA (bxV 3 x1) H fun x6 H => 
  bA (bxV 3 x2) H fun x7 H => 
  bA (bxV 9 x3) H fun x8 H => 
  bA (bxV 23 (.agg [(.int .u8 (.ofNat 0)), (.int .i64 (.ofNat 0)), (.int .i64 (.ofNat 0)), (.int .i64 (.ofNat 0)), (.int .i64 (.ofNat 0)), (.int .i64 (.ofNat 0)), (.int .i64 (.ofNat 0)), (.int .i64 (.ofNat 0))])) H fun x10 H => 
  bR (noPan (f49 D n [x0, x4, (.func 68 [] [x6, x7, x8])] H)) fun x15 H => 
  bV (pExtract x15 0) fun x16 => 
  bV (pExtract x15 1) fun x17 => 
  bR (stNp 8 x10 x16 H) fun x9999 H => 
  bV (ldNp 8 x10 H) fun x9010 => bV (some x17) fun x11 => some (.ret (.tuple [x9010, x11]), H))
def h14 : Hint := (.s .o (.s .o .o))
theorem f14_eq (D : Dyn) (n : Nat) : f14 D n = funKp (s14 D n) D n 14 Tryz.f14 h14 := by kernel_rfl
theorem f14_ok {D : Dyn} (hD : DP D) (n : Nat) : FP 14 (f14 D n) := fun_okP X_ok hD (SP.cons (f49_ok hD n) (SP.nil)) Tryz.func14 (by kernel_rfl) (by kernel_rfl) (f14_eq D n)

def s203 (D : Dyn) (n : Nat) : Tb := ⟨X, []⟩
def f203j0 (D : Dyn) (n : Nat) (vs : List AV) (H : AH) : Rs :=
  
  some (.norm [], H)
def f203j1 (D : Dyn) (n : Nat) (vs : List AV) (H : AH) : Rs :=
  
  some (.ret (.tuple []), H)
/-- jetty/objs.run[jetty/objs.bytes]$1 -/
def rc203 (D : Dyn) (n : Nat) (rv : AV) (vs : List AV) (H : AH) : Option (AV × AH) :=
  noPan (outR (hd vs fun x0 vs => hd vs fun x1 vs => nl vs <|
  bV (ifNil .neq rv) fun x8 => 
  jn (cnd x8 (bA (bxV 103 (.agg [(.str 0 0), (.bool false)])) H fun x3 H => 
  bV (ldNp 2 x3 H) fun x9 => 
  bR (stNp 2 x0 x9 H) fun x9999 H => 
  bR (stNp 1 x1 (.int .i64 (.ofNat 4)) H) fun x9999_2 H => 
  bV (asrK 169 (.agg [(.int .i64 (.ofNat 0))]) rv) fun x12 => 
  bV (pExtract x12 0) fun x13 => 
  bV (pExtract x12 1) fun x14 => 
  bA (bxV 169 (.agg [(.int .i64 (.ofNat 0))])) H fun x4 H => 
  bR (stNp 1 x4 x13 H) fun x9999_3 H => 
  jn (cnd x14 (bV (fAd 0 x4) fun x16 => 
  bV (ld1p x16 H) fun x17 => 
  bR (stNp 1 x1 x17 H) fun x9999_4 H => 
  some (.norm [], H))
  (some (.norm [], H))) (f203j0 D n))
  (some (.norm [], H))) (f203j1 D n)))
def h203 : Hint := (.s .pc (.c [] (.s .pc (.s .pc (.s .pc (.s .pc (.c [] .pc .o))))) .o))
theorem rc203_eq (D : Dyn) (n : Nat) : rc203 D n = funRp (s203 D n) D n 203 Tryz.f203 h203 := by kernel_rfl
theorem rc203_ok {D : Dyn} (hD : DP D) (n : Nat) : RcP 203 (rc203 D n) := funR_okP X_ok hD (SP.nil) Tryz.func203 (by kernel_rfl) (by kernel_rfl) (by kernel_rfl) (rc203_eq D n)

def s133 (D : Dyn) (n : Nat) : Tb := ⟨X, []⟩
/-- jetty/objs.run[jetty/objs.bytes] -/
def f133 (D : Dyn) (n : Nat) (vs : List AV) (H : AH) : Option (AV × AH) :=
  noPan (outR (hd vs fun x0 vs => hd vs fun x1 vs => hd vs fun x2 vs => nl vs <|
  bA (bxV 103 (.agg [(.str 0 0), (.bool false)])) H fun x6 H => 
  bA (bxV 24 (.int .i64 (.ofNat 0))) H fun x7 H => 
  bV (bldSp [(0, 1), (1, 1)] [.nilPtr, (.int .i64 (.ofNat 0))] [(0, x0), (1, x1)]) fun x12 => 
  bC (callV (s133 D n).S D x2 [x12] H) (fun x H => bR (rc203 D n x [x6, x7] H) fun _ H => bV (ldNp 2 x6 H) fun x9006_5 => bV (ld1p x7 H) fun x9007_5 => some (.ret (.tuple [x9006_5, x9007_5]), H)) fun x13 H => 
  bR (stNp 2 x6 x13 H) fun x9999 H => 
  bR (stNp 1 x7 (.int .i64 (.ofNat 0)) H) fun x9999_2 H => 
  bR (rc203 D n .nilIface [x6, x7] H) fun _ H => bV (ldNp 2 x6 H) fun x9006_8 => bV (ld1p x7 H) fun x9007_8 => some (.ret (.tuple [x9006_8, x9007_8]), H)))
theorem f133_eq (D : Dyn) (n : Nat) : f133 D n = dfunKp (s133 D n) D Tryz.f133 203 (rc203 D n) := by kernel_rfl
theorem f133_ok {D : Dyn} (hD : DP D) (n : Nat) : FP 133 (f133 D n) := dfun_okP X_ok hD (SP.nil) Tryz.func133 (rc203_ok hD n) (f133_eq D n)

def s71 (D : Dyn) (n : Nat) : Tb := ⟨X, [(133, f133 D n)]⟩
/-- jetty/objs.look[jetty/objs.bytes] -/
def f71 (D : Dyn) (n : Nat) (vs : List AV) (H : AH) : Option (AV × AH) :=
  outR (hd vs fun x0 vs => hd vs fun x1 vs => nl vs <|
  bA (bxV 103 (.agg [(.str 0 0), (.bool false)])) H fun x4 H => 
  bV (cmpO .eql (eqP x0 .nilPtr)) fun x8 => 
  cnd x8 (bA (bxV 103 (.agg [(.str 0 0), (.bool false)])) H fun x6 H => 
  bV (ldNp 2 x6 H) fun x9 => 
  bR (stNp 2 x4 x9 H) fun x9999 H => 
  bV (ldNp 2 x4 H) fun x9004 => bV (some (.int .i64 (.ofNat 2))) fun x5 => some (.ret (.tuple [x9004, x5]), H))
  (bR (noPan (f133 D n [x0, (.int .i64 (.ofNat 0)), x1] H)) fun x12 H => 
  bV (pExtract x12 0) fun x13 => 
  bV (pExtract x12 1) fun x14 => 
  bR (stNp 2 x4 x13 H) fun x9999_2 H => 
  bV (ldNp 2 x4 H) fun x9004_2 => bV (some x14) fun x5_2 => some (.ret (.tuple [x9004_2, x5_2]), H)))
def h71 : Hint := (.s .o (.s (.s .o (.cl (.s .o (.s .o .o)) .o)) (.s .o .o)))
theorem f71_eq (D : Dyn) (n : Nat) : f71 D n = funKp (s71 D n) D n 71 Tryz.f71 h71 := by kernel_rfl
theorem f71_ok {D : Dyn} (hD : DP D) (n : Nat) : FP 71 (f71 D n) := fun_okP X_ok hD (SP.cons (f133_ok hD n) (SP.nil)) Tryz.func71 (by kernel_rfl) (by kernel_rfl) (f71_eq D n)
end Go.Eng.Sh
