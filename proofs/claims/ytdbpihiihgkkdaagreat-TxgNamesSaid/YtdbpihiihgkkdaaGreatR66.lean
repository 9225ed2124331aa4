/- Shallow functions, by program (gen.py). -/
import Derived.Test.YtdbpihiihgkkdaaGreatR65
import Derived.Test.YtdbpihiihgkkdaaGreatProg
import Derived.KernelRfl
noncomputable section
namespace Go.Eng.Sh
open Go.Proofs
set_option maxRecDepth 100000
set_option linter.all false
def s40 (D : Dyn) (n : Nat) : Tb := ⟨X, [(20, f20 D n), (43, f43 D n), (41, f41 D n), (42, f42 D n), (131, f131 D n), (58, f58 D n), (48, f48 D n), (17, f17 D n), (53, f53 D n), (45, f45 D n), (62, f62 D n), (132, f132 D n), (47, f47 D n), (52, f52 D n), (51, f51 D n), (133, f133 D n), (55, f55 D n)]⟩
/-- jetty/jettylaw15.works -/
def f40 (D : Dyn) (n : Nat) (vs : List AV) (H : AH) : Option (AV × AH) :=
  outR (nl vs <|
  bR (f20 D n [(.int .i64 (.ofNat 64))] H) fun x12 H => 
  bV (pExtract x12 0) fun x13 => 
  bV (pExtract x12 1) fun x14 => 
  bR (f43 D n [x13, (.int .i64 (.ofNat 0))] H) fun x17 H => 
  bV (pExtract x17 0) fun x18 => 
  bV (pExtract x17 1) fun x19 => 
  bR (f41 D n [(.int .i64 (.ofNat 64))] H) fun x20 H => 
  bR (f42 D n [x20, (.int .i64 (.ofNat 0))] H) fun x22 H => 
  bV (bInt .neq x14 (.int .i64 (.ofNat 0))) fun x24 => 
  jn (wnt x24 false (bV (bInt .neq x19 (.int .i64 (.ofNat 5))) fun x27 => 
  some (.norm [x27], H)) (some (.norm [undefA], H))) fun vs H => hd vs fun x27_2 vs => 
  bV (pk3 (some x24) (some (.bool true)) (some x27_2)) fun x28 => 
  jn (wnt x28 false (bV (cmpO .eql (eqP x22 .nilPtr)) fun x31 => 
  some (.norm [x31], H)) (some (.norm [undefA], H))) fun vs H => hd vs fun x31_2 vs => 
  bV (pk3 (some x28) (some (.bool true)) (some x31_2)) fun x32 => 
  jn (wnt x32 false (bR (f131 D n [x22] H) fun x35 H => 
  bV (bInt .neq x35 (.int .i64 (.ofNat 1))) fun x36 => 
  some (.norm [x36], H)) (some (.norm [undefA], H))) fun vs H => hd vs fun x36_2 vs => 
  bV (pk3 (some x32) (some (.bool true)) (some x36_2)) fun x37 => 
  jn (wnt x37 false (bR (f58 D n [x22] H) fun x40 H => 
  bV (bInt .neq x40 (.int .i64 (.ofNat 62))) fun x41 => 
  some (.norm [x41], H)) (some (.norm [undefA], H))) fun vs H => hd vs fun x41_2 vs => 
  bV (pk3 (some x37) (some (.bool true)) (some x41_2)) fun x42 => 
  jn (wnt x42 false (bR (f48 D n [x22] H) fun x45 H => 
  bR (f17 D n [x45, (.str 1 97), (.str 1 49)] H) fun x46 H => 
  bV (bInt .neq x46 (.int .i64 (.ofNat 0))) fun x47 => 
  some (.norm [x47], H)) (some (.norm [undefA], H))) fun vs H => hd vs fun x47_2 vs => 
  bV (pk3 (some x42) (some (.bool true)) (some x47_2)) fun x48 => 
  cnd x48 (bV (some (.bool false)) fun x0 => some (.ret x0, H))
  (bR (f53 D n [x22] H) fun x51 H => 
  bV (pExtract x51 0) fun x52 => 
  bV (pExtract x51 1) fun x53 => 
  bV (bInt .neq x53 (.int .i64 (.ofNat 0))) fun x55 => 
  jn (wnt x55 false (bV (lnSl x52) fun x58 => 
  bV (bInt .neq x58 (.int .i64 (.ofNat 0))) fun x59 => 
  some (.norm [x59], H)) (some (.norm [undefA], H))) fun vs H => hd vs fun x59_2 vs => 
  bV (pk3 (some x55) (some (.bool true)) (some x59_2)) fun x60 => 
  jn (wnt x60 false (bR (f131 D n [x22] H) fun x63 H => 
  bV (bInt .neq x63 (.int .i64 (.ofNat 2))) fun x64 => 
  some (.norm [x64], H)) (some (.norm [undefA], H))) fun vs H => hd vs fun x64_2 vs => 
  bV (pk3 (some x60) (some (.bool true)) (some x64_2)) fun x65 => 
  jn (wnt x65 false (bR (f58 D n [x22] H) fun x68 H => 
  bV (bInt .neq x68 (.int .i64 (.ofNat 61))) fun x69 => 
  some (.norm [x69], H)) (some (.norm [undefA], H))) fun vs H => hd vs fun x69_2 vs => 
  bV (pk3 (some x65) (some (.bool true)) (some x69_2)) fun x70 => 
  jn (wnt x70 false (bR (f48 D n [x22] H) fun x73 H => 
  bR (f17 D n [x73, (.str 1 98), (.str 1 50)] H) fun x74 H => 
  bV (bInt .neq x74 (.int .i64 (.ofNat 0))) fun x75 => 
  some (.norm [x75], H)) (some (.norm [undefA], H))) fun vs H => hd vs fun x75_2 vs => 
  bV (pk3 (some x70) (some (.bool true)) (some x75_2)) fun x76 => 
  jn (wnt x76 false (bR (f45 D n [x22, (.str 1 120)] H) fun x79 H => 
  bV (bInt .neq x79 (.int .i64 (.ofNat 0))) fun x80 => 
  some (.norm [x80], H)) (some (.norm [undefA], H))) fun vs H => hd vs fun x80_2 vs => 
  bV (pk3 (some x76) (some (.bool true)) (some x80_2)) fun x81 => 
  jn (wnt x81 false (bR (f62 D n [x20, .nilSlice] H) fun x84 H => 
  bV (bInt .neq x84 (.int .i64 (.ofNat 0))) fun x85 => 
  some (.norm [x85], H)) (some (.norm [undefA], H))) fun vs H => hd vs fun x85_2 vs => 
  bV (pk3 (some x81) (some (.bool true)) (some x85_2)) fun x86 => 
  cnd x86 (bV (some (.bool false)) fun x0_2 => some (.ret x0_2, H))
  (bR (f132 D n [x20] H) fun x88 H => 
  bR (f42 D n [x88, (.int .i64 (.ofNat 3))] H) fun x89 H => 
  bV (cmpO .eql (eqP x89 .nilPtr)) fun x91 => 
  jn (wnt x91 false (bR (f131 D n [x89] H) fun x94 H => 
  bV (bInt .neq x94 (.int .i64 (.ofNat 2))) fun x95 => 
  some (.norm [x95], H)) (some (.norm [undefA], H))) fun vs H => hd vs fun x95_2 vs => 
  bV (pk3 (some x91) (some (.bool true)) (some x95_2)) fun x96 => 
  jn (wnt x96 false (bR (f47 D n [x89] H) fun x99 H => 
  bV (bStr .neq x99 (.str 0 0)) fun x100 => 
  some (.norm [x100], H)) (some (.norm [undefA], H))) fun vs H => hd vs fun x100_2 vs => 
  bV (pk3 (some x96) (some (.bool true)) (some x100_2)) fun x101 => 
  jn (wnt x101 false (bR (f48 D n [x89] H) fun x104 H => 
  bA (bldLp 9 1 2 [(.str 0 0)] [(0, (.str 1 97)), (1, (.str 1 49))]) H fun x105 H => 
  bR (f52 D n [x105] H) fun x106 H => 
  bR (f51 D n [x104, x106] H) fun x107 H => 
  bV (aun .not x107) fun x108 => 
  some (.norm [x108], H)) (some (.norm [undefA], H))) fun vs H => hd vs fun x108_2 vs => 
  bV (pk3 (some x101) (some (.bool true)) (some x108_2)) fun x109 => 
  jn (wnt x109 false (bR (f48 D n [x89] H) fun x112 H => 
  bR (f17 D n [x112, (.str 1 98), (.str 1 50)] H) fun x113 H => 
  bV (bInt .neq x113 (.int .i64 (.ofNat 0))) fun x114 => 
  some (.norm [x114], H)) (some (.norm [undefA], H))) fun vs H => hd vs fun x114_2 vs => 
  bV (pk3 (some x109) (some (.bool true)) (some x114_2)) fun x115 => 
  cnd x115 (bV (some (.bool false)) fun x0_3 => some (.ret x0_3, H))
  (bR (f53 D n [x89] H) fun x118 H => 
  bV (pExtract x118 0) fun x119 => 
  bV (pExtract x118 1) fun x120 => 
  bV (bInt .eql x120 (.int .i64 (.ofNat 0))) fun x122 => 
  jn (wnt x122 true (bV (lnSl x119) fun x125 => 
  bV (bInt .eql x125 (.int .i64 (.ofNat 1))) fun x126 => 
  some (.norm [x126], H)) (some (.norm [undefA], H))) fun vs H => hd vs fun x126_2 vs => 
  bV (pk3 (some x122) (some x126_2) (some (.bool false))) fun x127 => 
  jn (wnt x127 true (bR (f58 D n [x89] H) fun x130 H => 
  bV (bInt .eql x130 (.int .i64 (.ofNat 60))) fun x131 => 
  some (.norm [x131], H)) (some (.norm [undefA], H))) fun vs H => hd vs fun x131_2 vs => 
  bV (pk3 (some x127) (some x131_2) (some (.bool false))) fun x132 => 
  jn (wnt x132 true (bR (f133 D n [x119] H) fun x136 H => 
  bR (f55 D n [x89, x136] H) fun x137 H => 
  bV (bInt .eql x137 (.int .i64 (.ofNat 0))) fun x138 => 
  some (.norm [x138], H)) (some (.norm [undefA], H))) fun vs H => hd vs fun x138_2 vs => 
  bV (pk3 (some x132) (some x138_2) (some (.bool false))) fun x139 => 
  jn (wnt x139 true (bR (f58 D n [x89] H) fun x142 H => 
  bV (bInt .eql x142 (.int .i64 (.ofNat 61))) fun x143 => 
  some (.norm [x143], H)) (some (.norm [undefA], H))) fun vs H => hd vs fun x143_2 vs => 
  bV (pk3 (some x139) (some x143_2) (some (.bool false))) fun x144 => 
  bV (some x144) fun x0_4 => some (.ret x0_4, H)))))
def h40 : Hint := (.s .o (.s .o (.s .o (.s .o (.s .o (.s (.s .o (.cl (.s .o .o) .o)) (.s .o (.s (.s .o (.cl (.s .o .o) .o)) (.s .o (.s (.s .o (.cl (.s .o .o) .o)) (.s .o (.s .o .o))))))))))))
theorem f40_eq (D : Dyn) (n : Nat) : f40 D n = funKp (s40 D n) D n 40 Tryz.f40 h40 := by kernel_rfl
theorem f40_ok {D : Dyn} (hD : DP D) (n : Nat) : FP 40 (f40 D n) := fun_okP X_ok hD (SP.cons (f20_ok hD n) (SP.cons (f43_ok hD n) (SP.cons (f41_ok hD n) (SP.cons (f42_ok hD n) (SP.cons (f131_ok hD n) (SP.cons (f58_ok hD n) (SP.cons (f48_ok hD n) (SP.cons (f17_ok hD n) (SP.cons (f53_ok hD n) (SP.cons (f45_ok hD n) (SP.cons (f62_ok hD n) (SP.cons (f132_ok hD n) (SP.cons (f47_ok hD n) (SP.cons (f52_ok hD n) (SP.cons (f51_ok hD n) (SP.cons (f133_ok hD n) (SP.cons (f55_ok hD n) (SP.nil)))))))))))))))))) Tryz.func40 (by kernel_rfl) (by kernel_rfl) (f40_eq D n)

def s46 (D : Dyn) (n : Nat) : Tb := ⟨X, []⟩
/-- jetty/jettylaw15.many -/
def f46 (D : Dyn) (n : Nat) (vs : List AV) (H : AH) : Option (AV × AH) :=
  outR (hd vs fun x0 vs => nl vs <|
  bA (mkSlp 5 1 1 [(.int .u8 (.ofNat 0))] x0 x0) H fun x4 H => 
  bV (cvBSp x4 H) fun x5 => 
  bV (some x5) fun x2 => some (.ret x2, H))
def h46 : Hint := (.s .o (.s .o .o))
theorem f46_eq (D : Dyn) (n : Nat) : f46 D n = funKp (s46 D n) D n 46 Tryz.f46 h46 := by kernel_rfl
theorem f46_ok {D : Dyn} (hD : DP D) (n : Nat) : FP 46 (f46 D n) := fun_okP X_ok hD (SP.nil) Tryz.func46 (by kernel_rfl) (by kernel_rfl) (f46_eq D n)

def s49 (D : Dyn) (n : Nat) : Tb := ⟨X, [(140, f140 D n), (113, f113 D n)]⟩
/-- (*jetty/txg.Store).Save -/
def f49 (D : Dyn) (n : Nat) (vs : List AV) (H : AH) : Option (AV × AH) :=
  outR (hd vs fun x0 vs => nl vs <|
  bR (f140 D n [x0] H) fun x4 H => 
  cnd x4 (bV (some .nilPtr) fun x2 => some (.ret x2, H))
  (bV (pNil x0) fun x7 => 
  bV (fAd 5 x7) fun x8 => 
  bV (ld1p x8 H) fun x9 => 
  bV (pNil x0) fun x11 => 
  bV (fAd 2 x11) fun x12 => 
  bV (ld1p x12 H) fun x13 => 
  bV (pNil x0) fun x16 => 
  bV (fAd 3 x16) fun x17 => 
  bV (ld1p x17 H) fun x18 => 
  bR (f113 D n [x13] H) fun x14 H => chk (ld1p x8 H) x9 <| chk (ld1p x17 H) x18 <| 
  bV (bldSp [(0, 1), (1, 1), (2, 1), (3, 1)] [.nilPtr, (.int .i64 (.ofNat 0)), .nilPtr, (.str 0 0)] [(0, x0), (1, x9), (2, x14), (3, x18)]) fun x19 => 
  bA (bxV 210 x19) H fun x20 H => 
  bV (some x20) fun x2_2 => some (.ret x2_2, H)))
def h49 : Hint := (.s .o (.s (.s .o (.cl (.s .o .o) .o)) (.s .o .o)))
theorem f49_eq (D : Dyn) (n : Nat) : f49 D n = funKp (s49 D n) D n 49 Tryz.f49 h49 := by kernel_rfl
theorem f49_ok {D : Dyn} (hD : DP D) (n : Nat) : FP 49 (f49 D n) := fun_okP X_ok hD (SP.cons (f140_ok hD n) (SP.cons (f113_ok hD n) (SP.nil))) Tryz.func49 (by kernel_rfl) (by kernel_rfl) (f49_eq D n)

def s50 (D : Dyn) (n : Nat) : Tb := ⟨X, [(140, f140 D n), (113, f113 D n)]⟩
/-- (*jetty/txg.Store).Back -/
def f50 (D : Dyn) (n : Nat) (vs : List AV) (H : AH) : Option (AV × AH) :=
  outR (hd vs fun x0 vs => hd vs fun x1 vs => nl vs <|
  bR (f140 D n [x0] H) fun x6 H => 
  jn (wnt x6 false (bV (cmpO .eql (eqP x1 .nilPtr)) fun x9 => 
  some (.norm [x9], H)) (some (.norm [undefA], H))) fun vs H => hd vs fun x9_2 vs => 
  bV (pk3 (some x6) (some (.bool true)) (some x9_2)) fun x10 => 
  cnd x10 (bV (some (.int .i64 (.ofNat 2))) fun x4 => some (.ret x4, H))
  (bV (pNil x1) fun x12 => 
  bV (fAd 0 x12) fun x13 => 
  bV (ld1p x13 H) fun x14 => 
  bV (cmpO .neq (eqPL x14 x0 H)) fun x16 => 
  jn (wnt x16 false (bV (pNil x1) fun x19 => 
  bV (fAd 1 x19) fun x20 => 
  bV (ld1p x20 H) fun x21 => 
  bV (pNil x0) fun x23 => 
  bV (fAd 5 x23) fun x24 => 
  bV (ld1p x24 H) fun x25 => 
  bV (bInt .neq x21 x25) fun x26 => 
  some (.norm [x26], H)) (some (.norm [undefA], H))) fun vs H => hd vs fun x26_2 vs => 
  bV (pk3 (some x16) (some (.bool true)) (some x26_2)) fun x27 => 
  cnd x27 (bV (some (.int .i64 (.ofNat 50))) fun x4_2 => some (.ret x4_2, H))
  (bV (pNil x0) fun x29 => 
  bV (fAd 2 x29) fun x30 => 
  bV (ld1p x30 H) fun x31 => 
  bV (pNil x1) fun x33 => 
  bV (fAd 2 x33) fun x34 => 
  bV (ld1p x34 H) fun x35 => 
  bR (f113 D n [x35] H) fun x36 H => chk (ld1p x30 H) x31 <| 
  bV (pNil x36) fun x37 => 
  bV (ldNp 8 x37 H) fun x38 => 
  bV (pNil x31) fun x39 => 
  bR (stNp 8 x39 x38 H) fun x9999 H => 
  bV (pNil x1) fun x42 => 
  bV (fAd 3 x42) fun x43 => 
  bV (ld1p x43 H) fun x44 => 
  bV (pNil x0) fun x45 => 
  bV (fAd 3 x45) fun x46 => 
  bR (stNp 1 x46 x44 H) fun x9999_2 H => 
  bV (some (.int .i64 (.ofNat 0))) fun x4_3 => some (.ret x4_3, H))))
def h50 : Hint := (.s .o (.s (.s .o (.cl (.s .o .o) .o)) (.s (.s .o (.cl (.s .o .o) .o)) (.s .o (.s .o (.s .o .o))))))
theorem f50_eq (D : Dyn) (n : Nat) : f50 D n = funKp (s50 D n) D n 50 Tryz.f50 h50 := by kernel_rfl
theorem f50_ok {D : Dyn} (hD : DP D) (n : Nat) : FP 50 (f50 D n) := fun_okP X_ok hD (SP.cons (f140_ok hD n) (SP.cons (f113_ok hD n) (SP.nil))) Tryz.func50 (by kernel_rfl) (by kernel_rfl) (f50_eq D n)

def s54 (D : Dyn) (n : Nat) : Tb := ⟨X, [(140, f140 D n)]⟩
/-- (*jetty/txg.Store).Root -/
def f54 (D : Dyn) (n : Nat) (vs : List AV) (H : AH) : Option (AV × AH) :=
  outR (hd vs fun x0 vs => nl vs <|
  bA (bxV 52 (.agg [(.int .i64 (.ofNat 0)), (.int .i64 (.ofNat 0)), (.int .u64 (.ofNat 0))])) H fun x2 H => 
  bR (f140 D n [x0] H) fun x4 H => 
  cnd x4 (bV (bldSp [(0, 1), (1, 1), (2, 1)] [(.int .i64 (.ofNat 0)), (.int .i64 (.ofNat 0)), (.int .u64 (.ofNat 0))] []) fun x5 => 
  bR (stNp 3 x2 x5 H) fun x9999 H => 
  bV (ldNp 3 x2 H) fun x9002 => some (.ret x9002, H))
  (bV (pNil x0) fun x7 => 
  bV (fAd 6 x7) fun x8 => 
  bV (ldNp 3 x8 H) fun x9 => 
  bR (stNp 3 x2 x9 H) fun x9999_2 H => 
  bV (ldNp 3 x2 H) fun x9002_2 => some (.ret x9002_2, H)))
def h54 : Hint := (.s .o (.s (.s .o (.cl (.s .o .o) .o)) (.s .o .o)))
theorem f54_eq (D : Dyn) (n : Nat) : f54 D n = funKp (s54 D n) D n 54 Tryz.f54 h54 := by kernel_rfl
theorem f54_ok {D : Dyn} (hD : DP D) (n : Nat) : FP 54 (f54 D n) := fun_okP X_ok hD (SP.cons (f140_ok hD n) (SP.nil)) Tryz.func54 (by kernel_rfl) (by kernel_rfl) (f54_eq D n)

def s56 (D : Dyn) (n : Nat) : Tb := ⟨X, [(140, f140 D n), (147, f147 D n)]⟩
/-- (*jetty/txg.Store).Mark -/
def f56 (D : Dyn) (n : Nat) (vs : List AV) (H : AH) : Option (AV × AH) :=
  outR (hd vs fun x0 vs => hd vs fun x1 vs => nl vs <|
  bR (f140 D n [x0] H) fun x6 H => 
  cnd x6 (bV (some (.int .i64 (.ofNat 2))) fun x4 => some (.ret x4, H))
  (bV (pNil x0) fun x8 => 
  bV (fAd 4 x8) fun x9 => 
  bV (ld1p x9 H) fun x10 => 
  bR (f147 D n [x10, x1] H) fun x12 H => 
  bV (some x12) fun x4_2 => some (.ret x4_2, H)))
def h56 : Hint := (.s .o (.s (.s .o (.cl (.s .o .o) .o)) (.s .o .o)))
theorem f56_eq (D : Dyn) (n : Nat) : f56 D n = funKp (s56 D n) D n 56 Tryz.f56 h56 := by kernel_rfl
theorem f56_ok {D : Dyn} (hD : DP D) (n : Nat) : FP 56 (f56 D n) := fun_okP X_ok hD (SP.cons (f140_ok hD n) (SP.cons (f147_ok hD n) (SP.nil))) Tryz.func56 (by kernel_rfl) (by kernel_rfl) (f56_eq D n)

def s57 (D : Dyn) (n : Nat) : Tb := ⟨X, [(140, f140 D n), (144, f144 D n)]⟩
/-- (*jetty/txg.Store).Taken -/
def f57 (D : Dyn) (n : Nat) (vs : List AV) (H : AH) : Option (AV × AH) :=
  outR (hd vs fun x0 vs => hd vs fun x1 vs => nl vs <|
  bR (f140 D n [x0] H) fun x6 H => 
  bV (aun .not x6) fun x7 => 
  jn (wnt x7 true (bV (pNil x0) fun x10 => 
  bV (fAd 4 x10) fun x11 => 
  bV (ld1p x11 H) fun x12 => 
  bR (f144 D n [x12, x1] H) fun x14 H => 
  some (.norm [x14], H)) (some (.norm [undefA], H))) fun vs H => hd vs fun x14_2 vs => 
  bV (pk3 (some x7) (some x14_2) (some (.bool false))) fun x15 => 
  bV (some x15) fun x4 => some (.ret x4, H))
def h57 : Hint := (.s .o (.s .o .o))
theorem f57_eq (D : Dyn) (n : Nat) : f57 D n = funKp (s57 D n) D n 57 Tryz.f57 h57 := by kernel_rfl
theorem f57_ok {D : Dyn} (hD : DP D) (n : Nat) : FP 57 (f57 D n) := fun_okP X_ok hD (SP.cons (f140_ok hD n) (SP.cons (f144_ok hD n) (SP.nil))) Tryz.func57 (by kernel_rfl) (by kernel_rfl) (f57_eq D n)

def s59 (D : Dyn) (n : Nat) : Tb := ⟨X, [(140, f140 D n), (22, f22 D n)]⟩
/-- (*jetty/txg.Store).At -/
def f59 (D : Dyn) (n : Nat) (vs : List AV) (H : AH) : Option (AV × AH) :=
  outR (hd vs fun x0 vs => hd vs fun x1 vs => nl vs <|
  bA (bxV 52 x1) H fun x3 H => 
  bR (f140 D n [x0] H) fun x7 H => 
  cnd x7 (bV (some .nilPtr) fun x4 => bV (some (.int .i64 (.ofNat 2))) fun x5 => some (.ret (.tuple [x4, x5]), H))
  (bV (pNil x0) fun x9 => 
  bV (fAd 0 x9) fun x10 => 
  bV (ld1p x10 H) fun x11 => 
  bV (pNil x0) fun x13 => 
  bV (fAd 1 x13) fun x14 => 
  bV (ld1p x14 H) fun x15 => 
  bV (ldNp 3 x3 H) fun x16 => 
  bR (f22 D n [x11, x15, x16] H) fun x17 H => 
  bV (pExtract x17 0) fun x18 => 
  bV (pExtract x17 1) fun x19 => 
  bV (some x18) fun x4_2 => bV (some x19) fun x5_2 => some (.ret (.tuple [x4_2, x5_2]), H)))
def h59 : Hint := (.s .o (.s (.s .o (.cl (.s .o .o) .o)) (.s .o .o)))
theorem f59_eq (D : Dyn) (n : Nat) : f59 D n = funKp (s59 D n) D n 59 Tryz.f59 h59 := by kernel_rfl
theorem f59_ok {D : Dyn} (hD : DP D) (n : Nat) : FP 59 (f59 D n) := fun_okP X_ok hD (SP.cons (f140_ok hD n) (SP.cons (f22_ok hD n) (SP.nil))) Tryz.func59 (by kernel_rfl) (by kernel_rfl) (f59_eq D n)

def s63 (D : Dyn) (n : Nat) : Tb := ⟨X, [(20, f20 D n), (61, f61 D n), (60, f60 D n), (42, f42 D n), (47, f47 D n), (53, f53 D n), (131, f131 D n)]⟩
/-- jetty/jettylaw15.last -/
def f63 (D : Dyn) (n : Nat) (vs : List AV) (H : AH) : Option (AV × AH) :=
  outR (nl vs <|
  bR (f20 D n [(.int .i64 (.ofNat 64))] H) fun x9 H => 
  bV (pExtract x9 0) fun x10 => 
  bV (pExtract x9 1) fun x11 => 
  bV (bldSp [(0, 1), (1, 1), (2, 1)] [(.int .i64 (.ofNat 0)), (.int .i64 (.ofNat 0)), (.int .u64 (.ofNat 0))] []) fun x13 => 
  bR (f61 D n [x13] H) fun x14 H => 
  bV (pExtract x14 0) fun x15 => 
  bV (pExtract x14 1) fun x16 => 
  bV (bInt .neq x11 (.int .i64 (.ofNat 0))) fun x18 => 
  jn (wnt x18 false (bV (bInt .neq x16 (.int .i64 (.ofNat 0))) fun x21 => 
  some (.norm [x21], H)) (some (.norm [undefA], H))) fun vs H => hd vs fun x21_2 vs => 
  bV (pk3 (some x18) (some (.bool true)) (some x21_2)) fun x22 => 
  jn (wnt x22 false (bV (bStr .add x15 (.str 1 122)) fun x26 => 
  bV (bldSp [(0, 1), (1, 1)] [(.int .i64 (.ofNat 0)), (.str 0 0)] [(0, (.int .i64 (.ofNat 2147483647))), (1, x26)]) fun x27 => 
  bR (f60 D n [x10, x27] H) fun x28 H => 
  bV (bInt .neq x28 (.int .i64 (.ofNat 0))) fun x29 => 
  some (.norm [x29], H)) (some (.norm [undefA], H))) fun vs H => hd vs fun x29_2 vs => 
  bV (pk3 (some x22) (some (.bool true)) (some x29_2)) fun x30 => 
  cnd x30 (bV (some (.bool false)) fun x0 => some (.ret x0, H))
  (bR (f42 D n [x10, (.int .i64 (.ofNat 1))] H) fun x32 H => 
  bV (cmpO .eql (eqP x32 .nilPtr)) fun x34 => 
  jn (wnt x34 false (bR (f47 D n [x32] H) fun x37 H => 
  bV (bStr .neq x37 (.str 1 122)) fun x38 => 
  some (.norm [x38], H)) (some (.norm [undefA], H))) fun vs H => hd vs fun x38_2 vs => 
  bV (pk3 (some x34) (some (.bool true)) (some x38_2)) fun x39 => 
  cnd x39 (bV (some (.bool false)) fun x0_2 => some (.ret x0_2, H))
  (bR (f53 D n [x32] H) fun x42 H => 
  bV (pExtract x42 0) fun x43 => 
  bV (pExtract x42 1) fun x44 => 
  bV (bInt .eql x44 (.int .i64 (.ofNat 3))) fun x46 => 
  jn (wnt x46 true (bR (f131 D n [x32] H) fun x49 H => 
  bV (bInt .eql x49 (.int .i64 (.ofNat 2147483647))) fun x50 => 
  some (.norm [x50], H)) (some (.norm [undefA], H))) fun vs H => hd vs fun x50_2 vs => 
  bV (pk3 (some x46) (some x50_2) (some (.bool false))) fun x51 => 
  bV (some x51) fun x0_3 => some (.ret x0_3, H))))
def h63 : Hint := (.s .o (.s .o (.s .o (.s (.s .o (.cl (.s .o .o) .o)) (.s .o (.s (.s .o (.cl (.s .o .o) .o)) (.s .o (.s .o .o))))))))
theorem f63_eq (D : Dyn) (n : Nat) : f63 D n = funKp (s63 D n) D n 63 Tryz.f63 h63 := by kernel_rfl
theorem f63_ok {D : Dyn} (hD : DP D) (n : Nat) : FP 63 (f63 D n) := fun_okP X_ok hD (SP.cons (f20_ok hD n) (SP.cons (f61_ok hD n) (SP.cons (f60_ok hD n) (SP.cons (f42_ok hD n) (SP.cons (f47_ok hD n) (SP.cons (f53_ok hD n) (SP.cons (f131_ok hD n) (SP.nil)))))))) Tryz.func63 (by kernel_rfl) (by kernel_rfl) (f63_eq D n)

def s64 (D : Dyn) (n : Nat) : Tb := ⟨X, [(41, f41 D n), (42, f42 D n), (48, f48 D n), (46, f46 D n), (17, f17 D n), (53, f53 D n), (58, f58 D n)]⟩
def f64l0 (D : Dyn) (n : Nat) (vs : List AV) (H : AH) : Rs :=
  hd vs fun x1 vs => hd vs fun x2 vs => hd vs fun x3 vs => 
  bV (bInt .lss x3 (.int .i64 (.ofNat 10))) fun x13 => 
  cnd x13 (bV (bInt .add (.int .i64 (.ofNat 48)) x3) fun x19 => 
  bV (cvI .u8 x19) fun x20 => 
  bA (bldLp 5 1 1 [(.int .u8 (.ofNat 0))] [(0, x20)]) H fun x21 H => 
  bV (cvBSp x21 H) fun x22 => 
  bV (bStr .add (.str 4 544826731) x22) fun x23 => 
  bR (f48 D n [x2] H) fun x17 H => chk (cvBSp x21 H) x22 <| 
  bR (f46 D n [(.int .i64 (.ofNat 200))] H) fun x24 H => chk (cvBSp x21 H) x22 <| 
  bR (f17 D n [x17, x23, x24] H) fun x25 H => 
  bV (bInt .neq x25 (.int .i64 (.ofNat 0))) fun x26 => 
  cnd x26 (bV (some (.bool false)) fun x0_2 => some (.ret x0_2, H))
  (bV (bInt .add x3 (.int .i64 (.ofNat 1))) fun x15 => 
  some (.norm [x1, x2, x15], H)))
  (some (.exit 0 [x1, x2], H))
def f64b1 (D : Dyn) (n : Nat) (vs : List AV) (H : AH) : Rs :=
  hd vs fun x1_2 vs => hd vs fun x2_2 vs => 
  bR (f53 D n [x2_2] H) fun x29 H => 
  bV (pExtract x29 0) fun x30 => 
  bV (pExtract x29 1) fun x31 => 
  bR (f42 D n [x1_2, (.int .i64 (.ofNat 0))] H) fun x33 H => 
  bV (bInt .eql x31 (.int .i64 (.ofNat 0))) fun x35 => 
  jn (wnt x35 true (bV (cmpO .neq (eqP x33 .nilPtr)) fun x38 => 
  some (.norm [x38], H)) (some (.norm [undefA], H))) fun vs H => hd vs fun x38_2 vs => 
  bV (pk3 (some x35) (some x38_2) (some (.bool false))) fun x39 => 
  jn (wnt x39 true (bR (f58 D n [x2_2] H) fun x42 H => 
  bV (bInt .lss x42 (.int .i64 (.ofNat 58))) fun x43 => 
  some (.norm [x43], H)) (some (.norm [undefA], H))) fun vs H => hd vs fun x43_2 vs => 
  bV (pk3 (some x39) (some x43_2) (some (.bool false))) fun x44 => 
  jn (wnt x44 true (bR (f58 D n [x33] H) fun x47 H => 
  bR (f58 D n [x2_2] H) fun x49 H => 
  bV (bInt .eql x47 x49) fun x50 => 
  some (.norm [x50], H)) (some (.norm [undefA], H))) fun vs H => hd vs fun x50_2 vs => 
  bV (pk3 (some x44) (some x50_2) (some (.bool false))) fun x51 => 
  bV (some x51) fun x0_3 => some (.ret x0_3, H)
/-- jetty/jettylaw15.marked -/
def f64 (D : Dyn) (n : Nat) (vs : List AV) (H : AH) : Option (AV × AH) :=
  outR (nl vs <|
  bR (f41 D n [(.int .i64 (.ofNat 64))] H) fun x7 H => 
  bR (f42 D n [x7, (.int .i64 (.ofNat 0))] H) fun x9 H => 
  bV (cmpO .eql (eqP x9 .nilPtr)) fun x11 => 
  cnd x11 (bV (some (.bool false)) fun x0 => some (.ret x0, H))
  (jb 0 (loopK n (f64l0 D n) [x7, x9, (.int .i64 (.ofNat 0))] H) (f64b1 D n)))
def h64 : Hint := (.s .o (.s .o (.s .o (.s (.s .o (.cl (.s .o .o) .o)) (.s (.s .o (.b [1, 2] (.l [1, 2, 3] (.s (.s .o (.cr .o .o)) (.s (.b0 (.s .o (.cl (.s .o .o) .o))) .o))))) (.s .o (.s .o (.s .o .o))))))))
theorem f64_eq (D : Dyn) (n : Nat) : f64 D n = funKp (s64 D n) D n 64 Tryz.f64 h64 := by kernel_rfl
theorem f64_ok {D : Dyn} (hD : DP D) (n : Nat) : FP 64 (f64 D n) := fun_okP X_ok hD (SP.cons (f41_ok hD n) (SP.cons (f42_ok hD n) (SP.cons (f48_ok hD n) (SP.cons (f46_ok hD n) (SP.cons (f17_ok hD n) (SP.cons (f53_ok hD n) (SP.cons (f58_ok hD n) (SP.nil)))))))) Tryz.func64 (by kernel_rfl) (by kernel_rfl) (f64_eq D n)

def s154 (D : Dyn) (n : Nat) : Tb := ⟨X, [(140, f140 D n), (136, f136 D n)]⟩
/-- (*jetty/txg.Store).Blocks -/
def f154 (D : Dyn) (n : Nat) (vs : List AV) (H : AH) : Option (AV × AH) :=
  outR (hd vs fun x0 vs => nl vs <|
  bR (f140 D n [x0] H) fun x4 H => 
  cnd x4 (bV (some (.int .i64 (.ofNat 0))) fun x2 => some (.ret x2, H))
  (bV (pNil x0) fun x6 => 
  bV (fAd 0 x6) fun x7 => 
  bV (ld1p x7 H) fun x8 => 
  bR (f136 D n [x8] H) fun x9 H => 
  bV (some x9) fun x2_2 => some (.ret x2_2, H)))
def h154 : Hint := (.s .o (.s (.s .o (.cl (.s .o .o) .o)) (.s .o .o)))
theorem f154_eq (D : Dyn) (n : Nat) : f154 D n = funKp (s154 D n) D n 154 Tryz.f154 h154 := by kernel_rfl
theorem f154_ok {D : Dyn} (hD : DP D) (n : Nat) : FP 154 (f154 D n) := fun_okP X_ok hD (SP.cons (f140_ok hD n) (SP.cons (f136_ok hD n) (SP.nil))) Tryz.func154 (by kernel_rfl) (by kernel_rfl) (f154_eq D n)

def s65 (D : Dyn) (n : Nat) : Tb := ⟨X, [(53, f53 D n), (59, f59 D n), (48, f48 D n), (47, f47 D n), (45, f45 D n), (131, f131 D n), (58, f58 D n), (154, f154 D n), (54, f54 D n), (55, f55 D n), (56, f56 D n), (57, f57 D n), (49, f49 D n), (50, f50 D n)]⟩
/-- jetty/jettylaw15.nothing -/
def f65 (D : Dyn) (n : Nat) (vs : List AV) (H : AH) : Option (AV × AH) :=
  outR (nl vs <|
  bR (f53 D n [.nilPtr] H) fun x8 H => 
  bV (pExtract x8 0) fun x9 => 
  bV (pExtract x8 1) fun x10 => 
  bV (bldSp [(0, 1), (1, 1), (2, 1)] [(.int .i64 (.ofNat 0)), (.int .i64 (.ofNat 0)), (.int .u64 (.ofNat 0))] []) fun x13 => 
  bR (f59 D n [.nilPtr, x13] H) fun x14 H => 
  bV (pExtract x14 0) fun x15 => 
  bV (pExtract x14 1) fun x16 => 
  bR (f48 D n [.nilPtr] H) fun x18 H => 
  bV (cmpO .eql (eqP x18 .nilPtr)) fun x19 => 
  jn (wnt x19 true (bR (f47 D n [.nilPtr] H) fun x22 H => 
  bV (bStr .eql x22 (.str 0 0)) fun x23 => 
  some (.norm [x23], H)) (some (.norm [undefA], H))) fun vs H => hd vs fun x23_2 vs => 
  bV (pk3 (some x19) (some x23_2) (some (.bool false))) fun x24 => 
  jn (wnt x24 true (bR (f45 D n [.nilPtr, (.str 0 0)] H) fun x27 H => 
  bV (bInt .eql x27 (.int .i64 (.ofNat 2))) fun x28 => 
  some (.norm [x28], H)) (some (.norm [undefA], H))) fun vs H => hd vs fun x28_2 vs => 
  bV (pk3 (some x24) (some x28_2) (some (.bool false))) fun x29 => 
  jn (wnt x29 true (bR (f131 D n [.nilPtr] H) fun x32 H => 
  bR (f58 D n [.nilPtr] H) fun x34 H => 
  bV (bInt .add x32 x34) fun x35 => 
  bR (f154 D n [.nilPtr] H) fun x37 H => 
  bV (bInt .add x35 x37) fun x38 => 
  bV (bInt .eql x38 (.int .i64 (.ofNat 0))) fun x39 => 
  some (.norm [x39], H)) (some (.norm [undefA], H))) fun vs H => hd vs fun x39_2 vs => 
  bV (pk3 (some x29) (some x39_2) (some (.bool false))) fun x40 => 
  jn (wnt x40 true (bR (f54 D n [.nilPtr] H) fun x43 H => 
  bV (bldSp [(0, 1), (1, 1), (2, 1)] [(.int .i64 (.ofNat 0)), (.int .i64 (.ofNat 0)), (.int .u64 (.ofNat 0))] []) fun x44 => 
  bV (cmpO .eql (eqAp [(6, 2), (10, 1)] x43 x44)) fun x45 => 
  some (.norm [x45], H)) (some (.norm [undefA], H))) fun vs H => hd vs fun x45_2 vs => 
  bV (pk3 (some x40) (some x45_2) (some (.bool false))) fun x46 => 
  jn (wnt x46 true (bV (bInt .eql x10 (.int .i64 (.ofNat 2))) fun x49 => 
  some (.norm [x49], H)) (some (.norm [undefA], H))) fun vs H => hd vs fun x49_2 vs => 
  bV (pk3 (some x46) (some x49_2) (some (.bool false))) fun x50 => 
  jn (wnt x50 true (bR (f55 D n [.nilPtr, .nilSlice] H) fun x53 H => 
  bV (bInt .eql x53 (.int .i64 (.ofNat 2))) fun x54 => 
  some (.norm [x54], H)) (some (.norm [undefA], H))) fun vs H => hd vs fun x54_2 vs => 
  bV (pk3 (some x50) (some x54_2) (some (.bool false))) fun x55 => 
  jn (wnt x55 true (bR (f56 D n [.nilPtr, (.int .i64 (.ofNat 2))] H) fun x58 H => 
  bV (bInt .eql x58 (.int .i64 (.ofNat 2))) fun x59 => 
  some (.norm [x59], H)) (some (.norm [undefA], H))) fun vs H => hd vs fun x59_2 vs => 
  bV (pk3 (some x55) (some x59_2) (some (.bool false))) fun x60 => 
  jn (wnt x60 true (bR (f57 D n [.nilPtr, (.int .i64 (.ofNat 0))] H) fun x63 H => 
  bV (aun .not x63) fun x64 => 
  some (.norm [x64], H)) (some (.norm [undefA], H))) fun vs H => hd vs fun x64_2 vs => 
  bV (pk3 (some x60) (some x64_2) (some (.bool false))) fun x65 => 
  jn (wnt x65 true (bR (f49 D n [.nilPtr] H) fun x68 H => 
  bV (cmpO .eql (eqP x68 .nilPtr)) fun x69 => 
  some (.norm [x69], H)) (some (.norm [undefA], H))) fun vs H => hd vs fun x69_2 vs => 
  bV (pk3 (some x65) (some x69_2) (some (.bool false))) fun x70 => 
  jn (wnt x70 true (bR (f50 D n [.nilPtr, .nilPtr] H) fun x73 H => 
  bV (bInt .eql x73 (.int .i64 (.ofNat 2))) fun x74 => 
  some (.norm [x74], H)) (some (.norm [undefA], H))) fun vs H => hd vs fun x74_2 vs => 
  bV (pk3 (some x70) (some x74_2) (some (.bool false))) fun x75 => 
  jn (wnt x75 true (bV (bInt .eql x16 (.int .i64 (.ofNat 2))) fun x78 => 
  some (.norm [x78], H)) (some (.norm [undefA], H))) fun vs H => hd vs fun x78_2 vs => 
  bV (pk3 (some x75) (some x78_2) (some (.bool false))) fun x79 => 
  bV (some x79) fun x0 => some (.ret x0, H))
def h65 : Hint := (.s .o (.s .o (.s .o (.s .o (.s .o .o)))))
theorem f65_eq (D : Dyn) (n : Nat) : f65 D n = funKp (s65 D n) D n 65 Tryz.f65 h65 := by kernel_rfl
theorem f65_ok {D : Dyn} (hD : DP D) (n : Nat) : FP 65 (f65 D n) := fun_okP X_ok hD (SP.cons (f53_ok hD n) (SP.cons (f59_ok hD n) (SP.cons (f48_ok hD n) (SP.cons (f47_ok hD n) (SP.cons (f45_ok hD n) (SP.cons (f131_ok hD n) (SP.cons (f58_ok hD n) (SP.cons (f154_ok hD n) (SP.cons (f54_ok hD n) (SP.cons (f55_ok hD n) (SP.cons (f56_ok hD n) (SP.cons (f57_ok hD n) (SP.cons (f49_ok hD n) (SP.cons (f50_ok hD n) (SP.nil))))))))))))))) Tryz.func65 (by kernel_rfl) (by kernel_rfl) (f65_eq D n)

def s6 (D : Dyn) (n : Nat) : Tb := ⟨X, [(40, f40 D n), (41, f41 D n), (42, f42 D n), (43, f43 D n), (44, f44 D n), (46, f46 D n), (45, f45 D n), (47, f47 D n), (48, f48 D n), (17, f17 D n), (49, f49 D n), (50, f50 D n), (52, f52 D n), (51, f51 D n), (53, f53 D n), (54, f54 D n), (55, f55 D n), (56, f56 D n), (57, f57 D n), (58, f58 D n), (59, f59 D n), (60, f60 D n), (61, f61 D n), (62, f62 D n), (63, f63 D n), (64, f64 D n), (65, f65 D n)]⟩
/-- jetty/jettylaw15.TxgNames -/
def f6 (D : Dyn) (n : Nat) (vs : List AV) (H : AH) : Option (AV × AH) :=
  outR (nl vs <|
  bR (f40 D n [] H) fun x34 H => 
  bV (aun .not x34) fun x35 => 
  bV (pk3 (some x35) (some (.bool true)) (some (.bool false))) fun x37 => 
  bV (pk3 (some x37) (some (.bool true)) (some (.bool false))) fun x39 => 
  bV (pk3 (some x39) (some (.bool true)) (some (.bool false))) fun x41 => 
  bV (pk3 (some x41) (some (.bool true)) (some (.bool false))) fun x43 => 
  bV (pk3 (some x43) (some (.bool true)) (some (.bool false))) fun x45 => 
  bV (pk3 (some x45) (some (.bool true)) (some (.bool false))) fun x47 => 
  bV (pk3 (some x47) (some (.bool true)) (some (.bool false))) fun x49 => 
  bV (pk3 (some x49) (some (.bool true)) (some (.bool false))) fun x51 => 
  bV (pk3 (some x51) (some (.bool true)) (some (.bool false))) fun x53 => 
  bV (pk3 (some x53) (some (.bool true)) (some (.bool false))) fun x55 => 
  bV (pk3 (some x55) (some (.bool true)) (some (.bool false))) fun x57 => 
  bV (pk3 (some x57) (some (.bool true)) (some (.bool false))) fun x59 => 
  cnd x59 (bV (some (.bool false)) fun x0 => some (.ret x0, H))
  (bR (f41 D n [(.int .i64 (.ofNat 64))] H) fun x60 H => 
  bR (f42 D n [x60, (.int .i64 (.ofNat 0))] H) fun x62 H => 
  bR (f41 D n [(.int .i64 (.ofNat 64))] H) fun x63 H => 
  bR (f42 D n [x63, (.int .i64 (.ofNat 0))] H) fun x64 H => 
  bR (f43 D n [.nilPtr, (.int .i64 (.ofNat 0))] H) fun x66 H => 
  bV (pExtract x66 0) fun x67 => 
  bV (pExtract x66 1) fun x68 => 
  bR (f43 D n [x60, (.int .i64 (.negSucc 0))] H) fun x71 H => 
  bV (pExtract x71 0) fun x72 => 
  bV (pExtract x71 1) fun x73 => 
  bR (f43 D n [x60, (.int .i64 (.ofNat 1025))] H) fun x76 H => 
  bV (pExtract x76 0) fun x77 => 
  bV (pExtract x76 1) fun x78 => 
  bV (cmpO .eql (eqP x62 .nilPtr)) fun x80 => 
  jn (wnt x80 false (bV (cmpO .eql (eqP x64 .nilPtr)) fun x83 => 
  some (.norm [x83], H)) (some (.norm [undefA], H))) fun vs H => hd vs fun x83_2 vs => 
  bV (pk3 (some x80) (some (.bool true)) (some x83_2)) fun x84 => 
  jn (wnt x84 false (bR (f44 D n [.nilPtr] H) fun x86 H => 
  bV (bInt .neq x86 (.int .i64 (.ofNat 2))) fun x87 => 
  some (.norm [x87], H)) (some (.norm [undefA], H))) fun vs H => hd vs fun x87_2 vs => 
  bV (pk3 (some x84) (some (.bool true)) (some x87_2)) fun x88 => 
  jn (wnt x88 false (bV (bInt .neq x68 (.int .i64 (.ofNat 2))) fun x91 => 
  some (.norm [x91], H)) (some (.norm [undefA], H))) fun vs H => hd vs fun x91_2 vs => 
  bV (pk3 (some x88) (some (.bool true)) (some x91_2)) fun x92 => 
  jn (wnt x92 false (bV (bInt .neq x73 (.int .i64 (.ofNat 1))) fun x95 => 
  some (.norm [x95], H)) (some (.norm [undefA], H))) fun vs H => hd vs fun x95_2 vs => 
  bV (pk3 (some x92) (some (.bool true)) (some x95_2)) fun x96 => 
  jn (wnt x96 false (bV (bInt .neq x78 (.int .i64 (.ofNat 1))) fun x99 => 
  some (.norm [x99], H)) (some (.norm [undefA], H))) fun vs H => hd vs fun x99_2 vs => 
  bV (pk3 (some x96) (some (.bool true)) (some x99_2)) fun x100 => 
  jn (wnt x100 false (bR (f46 D n [(.int .i64 (.ofNat 477))] H) fun x103 H => 
  bR (f45 D n [x62, x103] H) fun x104 H => 
  bV (bInt .neq x104 (.int .i64 (.ofNat 40))) fun x105 => 
  some (.norm [x105], H)) (some (.norm [undefA], H))) fun vs H => hd vs fun x105_2 vs => 
  bV (pk3 (some x100) (some (.bool true)) (some x105_2)) fun x106 => 
  jn (wnt x106 false (bR (f46 D n [(.int .i64 (.ofNat 476))] H) fun x109 H => 
  bR (f45 D n [x62, x109] H) fun x110 H => 
  bV (bInt .neq x110 (.int .i64 (.ofNat 0))) fun x111 => 
  some (.norm [x111], H)) (some (.norm [undefA], H))) fun vs H => hd vs fun x111_2 vs => 
  bV (pk3 (some x106) (some (.bool true)) (some x111_2)) fun x112 => 
  jn (wnt x112 false (bR (f47 D n [x62] H) fun x115 H => 
  bR (f46 D n [(.int .i64 (.ofNat 476))] H) fun x116 H => 
  bV (bStr .neq x115 x116) fun x117 => 
  some (.norm [x117], H)) (some (.norm [undefA], H))) fun vs H => hd vs fun x117_2 vs => 
  bV (pk3 (some x112) (some (.bool true)) (some x117_2)) fun x118 => 
  jn (wnt x118 false (bR (f48 D n [x62] H) fun x121 H => 
  bR (f17 D n [x121, (.str 1 97), (.str 1 49)] H) fun x122 H => 
  bV (bInt .neq x122 (.int .i64 (.ofNat 0))) fun x123 => 
  some (.norm [x123], H)) (some (.norm [undefA], H))) fun vs H => hd vs fun x123_2 vs => 
  bV (pk3 (some x118) (some (.bool true)) (some x123_2)) fun x124 => 
  cnd x124 (bV (some (.bool false)) fun x0_2 => some (.ret x0_2, H))
  (bR (f49 D n [x62] H) fun x126 H => 
  bR (f48 D n [x62] H) fun x128 H => 
  bR (f17 D n [x128, (.str 1 97), (.str 1 50)] H) fun x129 H => 
  bV (bInt .neq x129 (.int .i64 (.ofNat 0))) fun x130 => 
  jn (wnt x130 false (bR (f45 D n [x62, (.str 1 121)] H) fun x133 H => 
  bV (bInt .neq x133 (.int .i64 (.ofNat 0))) fun x134 => 
  some (.norm [x134], H)) (some (.norm [undefA], H))) fun vs H => hd vs fun x134_2 vs => 
  bV (pk3 (some x130) (some (.bool true)) (some x134_2)) fun x135 => 
  jn (wnt x135 false (bR (f50 D n [x62, .nilPtr] H) fun x138 H => 
  bV (bInt .neq x138 (.int .i64 (.ofNat 2))) fun x139 => 
  some (.norm [x139], H)) (some (.norm [undefA], H))) fun vs H => hd vs fun x139_2 vs => 
  bV (pk3 (some x135) (some (.bool true)) (some x139_2)) fun x140 => 
  jn (wnt x140 false (bR (f50 D n [x64, x126] H) fun x144 H => 
  bV (bInt .neq x144 (.int .i64 (.ofNat 50))) fun x145 => 
  some (.norm [x145], H)) (some (.norm [undefA], H))) fun vs H => hd vs fun x145_2 vs => 
  bV (pk3 (some x140) (some (.bool true)) (some x145_2)) fun x146 => 
  jn (wnt x146 false (bR (f50 D n [x62, x126] H) fun x150 H => 
  bV (bInt .neq x150 (.int .i64 (.ofNat 0))) fun x151 => 
  some (.norm [x151], H)) (some (.norm [undefA], H))) fun vs H => hd vs fun x151_2 vs => 
  bV (pk3 (some x146) (some (.bool true)) (some x151_2)) fun x152 => 
  jn (wnt x152 false (bR (f47 D n [x62] H) fun x155 H => 
  bR (f46 D n [(.int .i64 (.ofNat 476))] H) fun x156 H => 
  bV (bStr .neq x155 x156) fun x157 => 
  some (.norm [x157], H)) (some (.norm [undefA], H))) fun vs H => hd vs fun x157_2 vs => 
  bV (pk3 (some x152) (some (.bool true)) (some x157_2)) fun x158 => 
  jn (wnt x158 false (bR (f48 D n [x62] H) fun x161 H => 
  bA (bldLp 9 1 2 [(.str 0 0)] [(0, (.str 1 97)), (1, (.str 1 49))]) H fun x162 H => 
  bR (f52 D n [x162] H) fun x163 H => 
  bR (f51 D n [x161, x163] H) fun x164 H => 
  bV (aun .not x164) fun x165 => 
  some (.norm [x165], H)) (some (.norm [undefA], H))) fun vs H => hd vs fun x165_2 vs => 
  bV (pk3 (some x158) (some (.bool true)) (some x165_2)) fun x166 => 
  jn (wnt x166 false (bR (f48 D n [x62] H) fun x169 H => 
  bR (f17 D n [x169, (.str 1 98), (.str 1 51)] H) fun x170 H => 
  bV (bInt .neq x170 (.int .i64 (.ofNat 0))) fun x171 => 
  some (.norm [x171], H)) (some (.norm [undefA], H))) fun vs H => hd vs fun x171_2 vs => 
  bV (pk3 (some x166) (some (.bool true)) (some x171_2)) fun x172 => 
  jn (wnt x172 false (bR (f50 D n [x62, x126] H) fun x176 H => 
  bV (bInt .neq x176 (.int .i64 (.ofNat 0))) fun x177 => 
  some (.norm [x177], H)) (some (.norm [undefA], H))) fun vs H => hd vs fun x177_2 vs => 
  bV (pk3 (some x172) (some (.bool true)) (some x177_2)) fun x178 => 
  jn (wnt x178 false (bR (f48 D n [x62] H) fun x181 H => 
  bA (bldLp 9 1 2 [(.str 0 0)] [(0, (.str 1 97)), (1, (.str 1 49))]) H fun x182 H => 
  bR (f52 D n [x182] H) fun x183 H => 
  bR (f51 D n [x181, x183] H) fun x184 H => 
  bV (aun .not x184) fun x185 => 
  some (.norm [x185], H)) (some (.norm [undefA], H))) fun vs H => hd vs fun x185_2 vs => 
  bV (pk3 (some x178) (some (.bool true)) (some x185_2)) fun x186 => 
  cnd x186 (bV (some (.bool false)) fun x0_3 => some (.ret x0_3, H))
  (bR (f53 D n [x62] H) fun x189 H => 
  bV (pExtract x189 0) fun x190 => 
  bV (pExtract x189 1) fun x191 => 
  bR (f54 D n [x62] H) fun x193 H => 
  bA (bxV 52 (.agg [(.int .i64 (.ofNat 0)), (.int .i64 (.ofNat 0)), (.int .u64 (.ofNat 0))])) H fun x13 H => 
  bR (stNp 3 x13 x193 H) fun x9999 H => 
  bV (bInt .neq x191 (.int .i64 (.ofNat 0))) fun x195 => 
  jn (wnt x195 false (bR (f50 D n [x62, x126] H) fun x199 H => 
  bV (bInt .neq x199 (.int .i64 (.ofNat 50))) fun x200 => 
  some (.norm [x200], H)) (some (.norm [undefA], H))) fun vs H => hd vs fun x200_2 vs => 
  bV (pk3 (some x195) (some (.bool true)) (some x200_2)) fun x201 => 
  jn (wnt x201 false (bV (fAd 0 x13) fun x204 => 
  bV (ld1p x204 H) fun x205 => 
  bA (bldLp 3 1 1 [(.int .i64 (.ofNat 0))] [(0, x205)]) H fun x206 H => 
  bR (f55 D n [x62, x206] H) fun x207 H => 
  bV (bInt .neq x207 (.int .i64 (.ofNat 50))) fun x208 => 
  some (.norm [x208], H)) (some (.norm [undefA], H))) fun vs H => hd vs fun x208_2 vs => 
  bV (pk3 (some x201) (some (.bool true)) (some x208_2)) fun x209 => 
  jn (wnt x209 false (bA (bldLp 3 1 1 [(.int .i64 (.ofNat 0))] [(0, (.int .i64 (.ofNat 1)))]) H fun x212 H => 
  bR (f55 D n [x62, x212] H) fun x213 H => 
  bV (bInt .neq x213 (.int .i64 (.ofNat 1))) fun x214 => 
  some (.norm [x214], H)) (some (.norm [undefA], H))) fun vs H => hd vs fun x214_2 vs => 
  bV (pk3 (some x209) (some (.bool true)) (some x214_2)) fun x215 => 
  jn (wnt x215 false (bA (bldLp 3 1 1 [(.int .i64 (.ofNat 0))] [(0, (.int .i64 (.ofNat 64)))]) H fun x218 H => 
  bR (f55 D n [x62, x218] H) fun x219 H => 
  bV (bInt .neq x219 (.int .i64 (.ofNat 1))) fun x220 => 
  some (.norm [x220], H)) (some (.norm [undefA], H))) fun vs H => hd vs fun x220_2 vs => 
  bV (pk3 (some x215) (some (.bool true)) (some x220_2)) fun x221 => 
  jn (wnt x221 false (bA (bldLp 3 1 1 [(.int .i64 (.ofNat 0))] [(0, (.int .i64 (.ofNat 9)))]) H fun x224 H => 
  bR (f55 D n [x62, x224] H) fun x225 H => 
  bV (bInt .neq x225 (.int .i64 (.ofNat 5))) fun x226 => 
  some (.norm [x226], H)) (some (.norm [undefA], H))) fun vs H => hd vs fun x226_2 vs => 
  bV (pk3 (some x221) (some (.bool true)) (some x226_2)) fun x227 => 
  jn (wnt x227 false (bV (fAd 0 x13) fun x230 => 
  bV (ld1p x230 H) fun x231 => 
  bR (f56 D n [x62, x231] H) fun x232 H => 
  bV (bInt .neq x232 (.int .i64 (.ofNat 6))) fun x233 => 
  some (.norm [x233], H)) (some (.norm [undefA], H))) fun vs H => hd vs fun x233_2 vs => 
  bV (pk3 (some x227) (some (.bool true)) (some x233_2)) fun x234 => 
  jn (wnt x234 false (bR (f56 D n [x62, (.int .i64 (.ofNat 9))] H) fun x237 H => 
  bV (bInt .neq x237 (.int .i64 (.ofNat 0))) fun x238 => 
  some (.norm [x238], H)) (some (.norm [undefA], H))) fun vs H => hd vs fun x238_2 vs => 
  bV (pk3 (some x234) (some (.bool true)) (some x238_2)) fun x239 => 
  jn (wnt x239 false (bR (f56 D n [x62, (.int .i64 (.ofNat 0))] H) fun x242 H => 
  bV (bInt .neq x242 (.int .i64 (.ofNat 1))) fun x243 => 
  some (.norm [x243], H)) (some (.norm [undefA], H))) fun vs H => hd vs fun x243_2 vs => 
  bV (pk3 (some x239) (some (.bool true)) (some x243_2)) fun x244 => 
  jn (wnt x244 false (bV (fAd 0 x13) fun x247 => 
  bV (ld1p x247 H) fun x248 => 
  bA (bldLp 3 1 2 [(.int .i64 (.ofNat 0))] [(0, (.int .i64 (.ofNat 9))), (1, x248)]) H fun x249 H => 
  bR (f55 D n [x62, x249] H) fun x250 H => 
  bV (bInt .neq x250 (.int .i64 (.ofNat 50))) fun x251 => 
  some (.norm [x251], H)) (some (.norm [undefA], H))) fun vs H => hd vs fun x251_2 vs => 
  bV (pk3 (some x244) (some (.bool true)) (some x251_2)) fun x252 => 
  jn (wnt x252 false (bR (f57 D n [x62, (.int .i64 (.ofNat 9))] H) fun x255 H => 
  bV (aun .not x255) fun x256 => 
  some (.norm [x256], H)) (some (.norm [undefA], H))) fun vs H => hd vs fun x256_2 vs => 
  bV (pk3 (some x252) (some (.bool true)) (some x256_2)) fun x257 => 
  jn (wnt x257 false (bA (bldLp 3 1 2 [(.int .i64 (.ofNat 0))] [(0, (.int .i64 (.ofNat 9))), (1, (.int .i64 (.ofNat 9)))]) H fun x260 H => 
  bR (f55 D n [x62, x260] H) fun x261 H => 
  bV (bInt .neq x261 (.int .i64 (.ofNat 5))) fun x262 => 
  some (.norm [x262], H)) (some (.norm [undefA], H))) fun vs H => hd vs fun x262_2 vs => 
  bV (pk3 (some x257) (some (.bool true)) (some x262_2)) fun x263 => 
  jn (wnt x263 false (bR (f57 D n [x62, (.int .i64 (.ofNat 9))] H) fun x266 H => 
  bV (aun .not x266) fun x267 => 
  some (.norm [x267], H)) (some (.norm [undefA], H))) fun vs H => hd vs fun x267_2 vs => 
  bV (pk3 (some x263) (some (.bool true)) (some x267_2)) fun x268 => 
  jn (wnt x268 false (bA (bldLp 3 1 1 [(.int .i64 (.ofNat 0))] [(0, (.int .i64 (.ofNat 9)))]) H fun x271 H => 
  bR (f55 D n [x62, x271] H) fun x272 H => 
  bV (bInt .neq x272 (.int .i64 (.ofNat 0))) fun x273 => 
  some (.norm [x273], H)) (some (.norm [undefA], H))) fun vs H => hd vs fun x273_2 vs => 
  bV (pk3 (some x268) (some (.bool true)) (some x273_2)) fun x274 => 
  jn (wnt x274 false (bR (f57 D n [x62, (.int .i64 (.ofNat 9))] H) fun x277 H => 
  some (.norm [x277], H)) (some (.norm [undefA], H))) fun vs H => hd vs fun x277_2 vs => 
  bV (pk3 (some x274) (some (.bool true)) (some x277_2)) fun x278 => 
  jn (wnt x278 false (bR (f58 D n [x62] H) fun x281 H => 
  bV (bInt .neq x281 (.int .i64 (.ofNat 61))) fun x282 => 
  some (.norm [x282], H)) (some (.norm [undefA], H))) fun vs H => hd vs fun x282_2 vs => 
  bV (pk3 (some x278) (some (.bool true)) (some x282_2)) fun x283 => 
  jn (wnt x283 false (bR (f55 D n [x62, .nilSlice] H) fun x286 H => 
  bV (bInt .neq x286 (.int .i64 (.ofNat 0))) fun x287 => 
  some (.norm [x287], H)) (some (.norm [undefA], H))) fun vs H => hd vs fun x287_2 vs => 
  bV (pk3 (some x283) (some (.bool true)) (some x287_2)) fun x288 => 
  cnd x288 (bV (some (.bool false)) fun x0_4 => some (.ret x0_4, H))
  (bR (f48 D n [x62] H) fun x290 H => 
  bR (f17 D n [x290, (.str 1 97), (.str 1 57)] H) fun x291 H => 
  bV (bInt .neq x291 (.int .i64 (.ofNat 0))) fun x292 => 
  cnd x292 (bV (some (.bool false)) fun x0_5 => some (.ret x0_5, H))
  (bR (f53 D n [x62] H) fun x295 H => 
  bV (pExtract x295 0) fun x296 => 
  bV (pExtract x295 1) fun x297 => 
  bV (ldNp 3 x13 H) fun x300 => 
  bR (f59 D n [x62, x300] H) fun x301 H => 
  bV (pExtract x301 0) fun x302 => 
  bV (pExtract x301 1) fun x303 => 
  bV (bldSp [(0, 1), (1, 1), (2, 1)] [(.int .i64 (.ofNat 0)), (.int .i64 (.ofNat 0)), (.int .u64 (.ofNat 0))] [(0, (.int .i64 (.ofNat 1)))]) fun x306 => 
  bR (f59 D n [x62, x306] H) fun x307 H => 
  bV (pExtract x307 0) fun x308 => 
  bV (pExtract x307 1) fun x309 => 
  bV (bInt .neq x297 (.int .i64 (.ofNat 0))) fun x311 => 
  jn (wnt x311 false (bV (lnSl x296) fun x314 => 
  bV (bInt .neq x314 (.int .i64 (.ofNat 1))) fun x315 => 
  some (.norm [x315], H)) (some (.norm [undefA], H))) fun vs H => hd vs fun x315_2 vs => 
  bV (pk3 (some x311) (some (.bool true)) (some x315_2)) fun x316 => 
  jn (wnt x316 false (bV (ixSl 3 x296 (.int .i64 (.ofNat 0))) fun x319 => 
  bV (ldNp 3 x319 H) fun x320 => 
  bV (ldNp 3 x13 H) fun x321 => 
  bV (cmpO .neq (eqAp [(6, 2), (10, 1)] x320 x321)) fun x322 => 
  some (.norm [x322], H)) (some (.norm [undefA], H))) fun vs H => hd vs fun x322_2 vs => 
  bV (pk3 (some x316) (some (.bool true)) (some x322_2)) fun x323 => 
  jn (wnt x323 false (bV (bInt .neq x303 (.int .i64 (.ofNat 0))) fun x326 => 
  some (.norm [x326], H)) (some (.norm [undefA], H))) fun vs H => hd vs fun x326_2 vs => 
  bV (pk3 (some x323) (some (.bool true)) (some x326_2)) fun x327 => 
  jn (wnt x327 false (bV (bInt .neq x309 (.int .i64 (.ofNat 1))) fun x330 => 
  some (.norm [x330], H)) (some (.norm [undefA], H))) fun vs H => hd vs fun x330_2 vs => 
  bV (pk3 (some x327) (some (.bool true)) (some x330_2)) fun x331 => 
  jn (wnt x331 false (bA (bldLp 9 1 2 [(.str 0 0)] [(0, (.str 1 97)), (1, (.str 1 49))]) H fun x334 H => 
  bR (f52 D n [x334] H) fun x335 H => 
  bR (f51 D n [x302, x335] H) fun x336 H => 
  bV (aun .not x336) fun x337 => 
  some (.norm [x337], H)) (some (.norm [undefA], H))) fun vs H => hd vs fun x337_2 vs => 
  bV (pk3 (some x331) (some (.bool true)) (some x337_2)) fun x338 => 
  jn (wnt x338 false (bV (ldNp 3 x13 H) fun x342 => 
  bR (f54 D n [x62] H) fun x341 H => chk (ldNp 3 x13 H) x342 <| 
  bV (cmpO .eql (eqAp [(6, 2), (10, 1)] x341 x342)) fun x343 => 
  some (.norm [x343], H)) (some (.norm [undefA], H))) fun vs H => hd vs fun x343_2 vs => 
  bV (pk3 (some x338) (some (.bool true)) (some x343_2)) fun x344 => 
  cnd x344 (bV (some (.bool false)) fun x0_6 => some (.ret x0_6, H))
  (bV (bldSp [(0, 1), (1, 1)] [(.int .i64 (.ofNat 0)), (.str 0 0)] [(0, (.int .i64 (.ofNat 9))), (1, (.str 5 500136110195))]) fun x346 => 
  bR (f60 D n [x60, x346] H) fun x347 H => 
  bV (bInt .neq x347 (.int .i64 (.ofNat 0))) fun x348 => 
  cnd x348 (bV (some (.bool false)) fun x0_7 => some (.ret x0_7, H))
  (bR (f43 D n [x60, (.int .i64 (.ofNat 0))] H) fun x351 H => 
  bV (pExtract x351 0) fun x352 => 
  bV (pExtract x351 1) fun x353 => 
  bV (bldSp [(0, 1), (1, 1), (2, 1)] [(.int .i64 (.ofNat 0)), (.int .i64 (.ofNat 0)), (.int .u64 (.ofNat 0))] [(0, (.int .i64 (.ofNat 1)))]) fun x355 => 
  bR (f61 D n [x355] H) fun x356 H => 
  bV (pExtract x356 0) fun x357 => 
  bV (pExtract x356 1) fun x358 => 
  bV (bInt .neq x358 (.int .i64 (.ofNat 0))) fun x360 => 
  jn (wnt x360 false (bV (bldSp [(0, 1), (1, 1)] [(.int .i64 (.ofNat 0)), (.str 0 0)] [(0, (.int .i64 (.ofNat 10))), (1, x357)]) fun x364 => 
  bR (f60 D n [x60, x364] H) fun x365 H => 
  bV (bInt .neq x365 (.int .i64 (.ofNat 0))) fun x366 => 
  some (.norm [x366], H)) (some (.norm [undefA], H))) fun vs H => hd vs fun x366_2 vs => 
  bV (pk3 (some x360) (some (.bool true)) (some x366_2)) fun x367 => 
  cnd x367 (bV (some (.bool false)) fun x0_8 => some (.ret x0_8, H))
  (bR (f43 D n [x60, (.int .i64 (.ofNat 0))] H) fun x370 H => 
  bV (pExtract x370 0) fun x371 => 
  bV (pExtract x370 1) fun x372 => 
  bV (bldSp [(0, 1), (1, 1), (2, 1)] [(.int .i64 (.ofNat 0)), (.int .i64 (.ofNat 0)), (.int .u64 (.ofNat 0))] [(0, (.int .i64 (.ofNat 50))), (1, (.int .i64 (.ofNat 3)))]) fun x374 => 
  bR (f61 D n [x374] H) fun x375 H => 
  bV (pExtract x375 0) fun x376 => 
  bV (pExtract x375 1) fun x377 => 
  bV (bInt .neq x377 (.int .i64 (.ofNat 0))) fun x379 => 
  jn (wnt x379 false (bV (bldSp [(0, 1), (1, 1)] [(.int .i64 (.ofNat 0)), (.str 0 0)] [(0, (.int .i64 (.ofNat 11))), (1, x376)]) fun x383 => 
  bR (f60 D n [x60, x383] H) fun x384 H => 
  bV (bInt .neq x384 (.int .i64 (.ofNat 0))) fun x385 => 
  some (.norm [x385], H)) (some (.norm [undefA], H))) fun vs H => hd vs fun x385_2 vs => 
  bV (pk3 (some x379) (some (.bool true)) (some x385_2)) fun x386 => 
  cnd x386 (bV (some (.bool false)) fun x0_9 => some (.ret x0_9, H))
  (bR (f43 D n [x60, (.int .i64 (.ofNat 0))] H) fun x389 H => 
  bV (pExtract x389 0) fun x390 => 
  bV (pExtract x389 1) fun x391 => 
  bV (bInt .neq x353 (.int .i64 (.ofNat 4))) fun x393 => 
  jn (wnt x393 false (bV (bInt .neq x372 (.int .i64 (.ofNat 4))) fun x396 => 
  some (.norm [x396], H)) (some (.norm [undefA], H))) fun vs H => hd vs fun x396_2 vs => 
  bV (pk3 (some x393) (some (.bool true)) (some x396_2)) fun x397 => 
  jn (wnt x397 false (bV (bInt .neq x391 (.int .i64 (.ofNat 52))) fun x400 => 
  some (.norm [x400], H)) (some (.norm [undefA], H))) fun vs H => hd vs fun x400_2 vs => 
  bV (pk3 (some x397) (some (.bool true)) (some x400_2)) fun x401 => 
  jn (wnt x401 false (bR (f62 D n [x60, .nilSlice] H) fun x404 H => 
  bV (bInt .neq x404 (.int .i64 (.ofNat 0))) fun x405 => 
  some (.norm [x405], H)) (some (.norm [undefA], H))) fun vs H => hd vs fun x405_2 vs => 
  bV (pk3 (some x401) (some (.bool true)) (some x405_2)) fun x406 => 
  cnd x406 (bV (some (.bool false)) fun x0_10 => some (.ret x0_10, H))
  (bR (f43 D n [x60, (.int .i64 (.ofNat 0))] H) fun x409 H => 
  bV (pExtract x409 0) fun x410 => 
  bV (pExtract x409 1) fun x411 => 
  bR (f53 D n [x62] H) fun x414 H => 
  bV (pExtract x414 0) fun x415 => 
  bV (pExtract x414 1) fun x416 => 
  bV (bInt .eql x411 (.int .i64 (.ofNat 51))) fun x418 => 
  jn (wnt x418 true (bV (bInt .eql x416 (.int .i64 (.ofNat 51))) fun x421 => 
  some (.norm [x421], H)) (some (.norm [undefA], H))) fun vs H => hd vs fun x421_2 vs => 
  bV (pk3 (some x418) (some x421_2) (some (.bool false))) fun x422 => 
  jn (wnt x422 true (bR (f44 D n [x60] H) fun x425 H => 
  bV (bInt .eql x425 (.int .i64 (.ofNat 51))) fun x426 => 
  some (.norm [x426], H)) (some (.norm [undefA], H))) fun vs H => hd vs fun x426_2 vs => 
  bV (pk3 (some x422) (some x426_2) (some (.bool false))) fun x427 => 
  jn (wnt x427 true (bR (f63 D n [] H) fun x429 H => 
  some (.norm [x429], H)) (some (.norm [undefA], H))) fun vs H => hd vs fun x429_2 vs => 
  bV (pk3 (some x427) (some x429_2) (some (.bool false))) fun x430 => 
  jn (wnt x430 true (bR (f64 D n [] H) fun x432 H => 
  some (.norm [x432], H)) (some (.norm [undefA], H))) fun vs H => hd vs fun x432_2 vs => 
  bV (pk3 (some x430) (some x432_2) (some (.bool false))) fun x433 => 
  jn (wnt x433 true (bR (f65 D n [] H) fun x435 H => 
  some (.norm [x435], H)) (some (.norm [undefA], H))) fun vs H => hd vs fun x435_2 vs => 
  bV (pk3 (some x433) (some x435_2) (some (.bool false))) fun x436 => 
  bV (some x436) fun x0_11 => some (.ret x0_11, H))))))))))))
def h6 : Hint := (.s .o (.s (.s .o (.cl (.s .o .o) .o)) (.s .o (.s .o (.s .o (.s .o (.s .o (.s .o (.s (.s .o (.cl (.s .o .o) .o)) (.s .o (.s (.s .o (.cl (.s .o .o) .o)) (.s .o (.s .o (.s (.s .o (.cl (.s .o .o) .o)) (.s (.s .o (.cl (.s .o .o) .o)) (.s .o (.s .o (.s .o (.s (.s .o (.cl (.s .o .o) .o)) (.s (.s .o (.cl (.s .o .o) .o)) (.s .o (.s .o (.s (.s .o (.cl (.s .o .o) .o)) (.s .o (.s .o (.s (.s .o (.cl (.s .o .o) .o)) (.s .o (.s (.s .o (.cl (.s .o .o) .o)) (.s .o (.s .o (.s .o .o)))))))))))))))))))))))))))))))
theorem f6_eq (D : Dyn) (n : Nat) : f6 D n = funKp (s6 D n) D n 6 Tryz.f6 h6 := by kernel_rfl
theorem f6_ok {D : Dyn} (hD : DP D) (n : Nat) : FP 6 (f6 D n) := fun_okP X_ok hD (SP.cons (f40_ok hD n) (SP.cons (f41_ok hD n) (SP.cons (f42_ok hD n) (SP.cons (f43_ok hD n) (SP.cons (f44_ok hD n) (SP.cons (f46_ok hD n) (SP.cons (f45_ok hD n) (SP.cons (f47_ok hD n) (SP.cons (f48_ok hD n) (SP.cons (f17_ok hD n) (SP.cons (f49_ok hD n) (SP.cons (f50_ok hD n) (SP.cons (f52_ok hD n) (SP.cons (f51_ok hD n) (SP.cons (f53_ok hD n) (SP.cons (f54_ok hD n) (SP.cons (f55_ok hD n) (SP.cons (f56_ok hD n) (SP.cons (f57_ok hD n) (SP.cons (f58_ok hD n) (SP.cons (f59_ok hD n) (SP.cons (f60_ok hD n) (SP.cons (f61_ok hD n) (SP.cons (f62_ok hD n) (SP.cons (f63_ok hD n) (SP.cons (f64_ok hD n) (SP.cons (f65_ok hD n) (SP.nil)))))))))))))))))))))))))))) Tryz.func6 (by kernel_rfl) (by kernel_rfl) (f6_eq D n)
end Go.Eng.Sh
