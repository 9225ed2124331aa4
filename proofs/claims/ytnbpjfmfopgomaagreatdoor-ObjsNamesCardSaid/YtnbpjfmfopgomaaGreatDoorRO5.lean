/- Shallow functions, by program (gen.py). -/
import Derived.Test.YtnbpjfmfopgomaaGreatDoorRO4
import Derived.Test.YtnbpjfmfopgomaaGreatDoorProg
import Derived.KernelRfl
noncomputable section
namespace Go.Eng.Sh
open Go.Proofs
set_option maxRecDepth 100000
set_option linter.all false
def s318 (D : Dyn) (n : Nat) : Tb := ⟨X, [(300, f300 D n), (208, f208 D n)]⟩
def f318l0 (D : Dyn) (n : Nat) (vs : List AV) (H : AH) : Rs :=
  hd vs fun x0_3 vs => hd vs fun x2_3 vs => hd vs fun x3_3 vs => hd vs fun x4_3 vs => hd vs fun x5_3 vs => hd vs fun x13_3 vs => hd vs fun x15 vs => hd vs fun x16 vs => 
  bV (fAd 3 x13_3) fun x77 => 
  bV (ld1p x77 H) fun x78 => 
  bV (lnSl x78) fun x79 => 
  bV (bInt .lss x16 x79) fun x80 => 
  cnd x80 (bV (bInt .gtr x16 x15) fun x85 => 
  jn (wnt x85 true (bV (bStr .neq x3_3 (.str 0 0)) fun x88 => 
  some (.norm [x88], H)) (some (.norm [undefA], H))) fun vs H => hd vs fun x88_2 vs => 
  bV (pk3 (some x85) (some x88_2) (some (.bool false))) fun x89 => 
  jn (wnt x89 true (bV (fAd 1 x13_3) fun x91 => 
  bV (ld1p x91 H) fun x92 => 
  bV (bInt .sub x16 (.int .i64 (.ofNat 1))) fun x94 => 
  bV (ixSl 1 x92 x94) fun x95 => 
  bV (ld1p x95 H) fun x96 => 
  bV (bStr .geq x96 x3_3) fun x98 => 
  some (.norm [x98], H)) (some (.norm [undefA], H))) fun vs H => hd vs fun x98_2 vs => 
  bV (pk3 (some x89) (some x98_2) (some (.bool false))) fun x99 => 
  cnd x99 (some (.exit 0 [], H))
  (bV (fAd 3 x13_3) fun x101 => 
  bV (ld1p x101 H) fun x102 => 
  bV (ixSl 3 x102 x16) fun x104 => 
  bV (ldNp 3 x104 H) fun x105 => 
  bR (noPan (D.fn 318 [x0_3, x105, x2_3, x3_3, x4_3, x5_3] H)) fun x110 H => 
  bV (aun .not x110) fun x111 => 
  cnd x111 (bV (some (.bool false)) fun x12_5 => some (.ret x12_5, H))
  (bV (bInt .add x16 (.int .i64 (.ofNat 1))) fun x82 => 
  some (.norm [x0_3, x2_3, x3_3, x4_3, x5_3, x13_3, x15, x82], H))))
  (some (.exit 0 [], H))
def f318b1 (D : Dyn) (n : Nat) (vs : List AV) (H : AH) : Rs :=
  
  bV (some (.bool true)) fun x12_6 => some (.ret x12_6, H)
def f318j2 (D : Dyn) (n : Nat) (vs : List AV) (H : AH) : Rs :=
  hd vs fun x0_2 vs => hd vs fun x2_2 vs => hd vs fun x3_2 vs => hd vs fun x4_2 vs => hd vs fun x5_2 vs => hd vs fun x7_2 vs => hd vs fun x13_2 vs => 
  bV (pNil x0_2) fun x59 => 
  bV (fAd 3 x59) fun x60 => 
  bV (ld1p x60 H) fun x61 => 
  bV (bInt .neq x61 (.int .i64 (.ofNat 0))) fun x62 => 
  jn (wnt x62 false (bV (ldNp 3 x7_2 H) fun x65 => 
  bV (ldNp 4 x13_2 H) fun x66 => 
  bR (noPan (callV (s318 D n).S D x5_2 [x65, x66] H)) fun x67 H => 
  bV (aun .not x67) fun x68 => 
  some (.norm [x68], H)) (some (.norm [undefA], H))) fun vs H => hd vs fun x68_2 vs => 
  bV (pk3 (some x62) (some (.bool true)) (some x68_2)) fun x69 => 
  cnd x69 (bV (some (.bool false)) fun x12_3 => some (.ret x12_3, H))
  (bV (fAd 0 x13_2) fun x70 => 
  bV (ld1p x70 H) fun x71 => 
  cnd x71 (bV (some (.bool true)) fun x12_4 => some (.ret x12_4, H))
  (bV (ldNp 4 x13_2 H) fun x72 => 
  bR (noPan (f208 D n [x72, x2_2] H)) fun x74 H => 
  jb 0 (loopK n (f318l0 D n) [x0_2, x2_2, x3_2, x4_2, x5_2, x13_2, x74, x74] H) (f318b1 D n)))
/-- (*jetty/walk.walker).down -/
def f318 (D : Dyn) (n : Nat) (vs : List AV) (H : AH) : Option (AV × AH) :=
  outR (hd vs fun x0 vs => hd vs fun x1 vs => hd vs fun x2 vs => hd vs fun x3 vs => hd vs fun x4 vs => hd vs fun x5 vs => nl vs <|
  bA (bxV 119 x1) H fun x7 H => 
  bV (ldNp 3 x7 H) fun x18 => 
  bR (noPan (callV (s318 D n).S D x4 [x18] H)) fun x19 H => 
  cnd x19 (bV (some (.bool true)) fun x12 => some (.ret x12, H))
  (bV (pNil x0) fun x21 => 
  bV (fAd 2 x21) fun x22 => 
  bV (ld1p x22 H) fun x23 => 
  bV (bInt .sub x23 (.int .i64 (.ofNat 1))) fun x24 => 
  bV (pNil x0) fun x25 => 
  bV (fAd 2 x25) fun x26 => 
  bR (stNp 1 x26 x24 H) fun x9999 H => 
  bV (pNil x0) fun x28 => 
  bV (fAd 2 x28) fun x29 => 
  bV (ld1p x29 H) fun x30 => 
  bV (bInt .lss x30 (.int .i64 (.ofNat 0))) fun x31 => 
  cnd x31 (bV (pNil x0) fun x33 => 
  bV (fAd 3 x33) fun x34 => 
  bR (stNp 1 x34 (.int .i64 (.ofNat 4)) H) fun x9999_2 H => 
  bV (some (.bool false)) fun x12_2 => some (.ret x12_2, H))
  (bV (pNil x0) fun x37 => 
  bV (fAd 1 x37) fun x38 => 
  bV (ld1p x38 H) fun x39 => 
  bV (ldNp 3 x7 H) fun x40 => 
  bV (lkM (1 :: [6, 6, 10]) (.agg [(.bool false), .nilSlice, .nilSlice, .nilSlice]) true x39 x40 H) fun x41 => 
  bV (pExtract x41 0) fun x42 => 
  bV (pExtract x41 1) fun x43 => 
  bA (bxV 269 (.agg [(.bool false), .nilSlice, .nilSlice, .nilSlice])) H fun x13 H => 
  bR (stNp 4 x13 x42 H) fun x9999_3 H => 
  bV (aun .not x43) fun x45 => 
  jn (cnd x45 (bV (pNil x0) fun x49 => 
  bV (fAd 0 x49) fun x50 => 
  bV (ld1p x50 H) fun x51 => 
  bV (ldNp 3 x7 H) fun x52 => 
  bR (noPan (f300 D n [x51, x52] H)) fun x53 H => 
  bV (pExtract x53 0) fun x54 => 
  bV (pExtract x53 1) fun x55 => 
  bR (stNp 4 x13 x54 H) fun x9999_4 H => 
  bV (pNil x0) fun x56 => 
  bV (fAd 3 x56) fun x57 => 
  bR (stNp 1 x57 x55 H) fun x9999_5 H => 
  some (.norm [x0, x2, x3, x4, x5, x7, x13], H))
  (some (.norm [x0, x2, x3, x4, x5, x7, x13], H))) (f318j2 D n))))
def h318 : Hint := (.s .o (.s (.s .o (.cl (.s .o .o) .o)) (.s (.s .o (.s .o (.cl (.s .o (.s .o .o)) .o))) (.s .o (.s (.s .o (.c [0, 2, 3, 4, 5, 7, 13] .o .o)) (.s (.s .o (.cl (.s .o .o) .o)) (.s (.s .o (.cl (.s .o .o) .o)) (.s .o (.s (.s .o (.b [] (.l [0, 2, 3, 4, 5, 13, 15, 16] (.s (.s .o (.cr .o .o)) (.s (.b0 (.s (.s .o (.cl .o .o)) (.s .o (.cl (.s .o .o) .o)))) .o))))) (.s .o .o))))))))))
theorem f318_eq (D : Dyn) (n : Nat) : f318 D n = funKp (s318 D n) D n 318 Tryz.f318 h318 := by kernel_rfl
theorem f318_ok {D : Dyn} (hD : DP D) (n : Nat) : FP 318 (f318 D n) := fun_okP X_ok hD (SP.cons (f300_ok hD n) (SP.cons (f208_ok hD n) (SP.nil))) Tryz.func318 (by kernel_rfl) (by kernel_rfl) (f318_eq D n)

def s316 (D : Dyn) (n : Nat) : Tb := ⟨X, [(317, f317 D n), (318, f318 D n)]⟩
def f316j0 (D : Dyn) (n : Nat) (vs : List AV) (H : AH) : Rs :=
  
  some (.ret (.tuple []), H)
/-- (*jetty/walk.walker).nodes$1 -/
def f316 (D : Dyn) (n : Nat) (vs : List AV) (H : AH) : Option (AV × AH) :=
  outR (hd vs fun x0 vs => hd vs fun x1 vs => hd vs fun x2 vs => hd vs fun x3 vs => hd vs fun x4 vs => nl vs <|
  bV (ld1p x1 H) fun x7 => 
  bV (pNil x7) fun x8 => 
  bV (fAd 0 x8) fun x9 => 
  bV (ld1p x9 H) fun x10 => 
  bR (noPan (f317 D n [x10] H)) fun x11 H => 
  bA (bxV 119 (.agg [(.int .i64 (.ofNat 0)), (.int .i64 (.ofNat 0)), (.int .u64 (.ofNat 0))])) H fun x6 H => 
  bR (stNp 3 x6 x11 H) fun x9999 H => 
  bV (fAd 0 x6) fun x12 => 
  bV (ld1p x12 H) fun x13 => 
  bV (bInt .neq x13 (.int .i64 (.ofNat 0))) fun x14 => 
  jn (wnt x14 true (bV (ld1p x2 H) fun x16 => 
  bV (bStr .eql x16 (.str 0 0)) fun x17 => 
  some (.norm [x17], H)) (some (.norm [undefA], H))) fun vs H => hd vs fun x18 vs => 
  jn (wnt x18 false (bV (ld1p x3 H) fun x19 => 
  bV (ld1p x2 H) fun x20 => 
  bV (bStr .lss x19 x20) fun x21 => 
  some (.norm [x21], H)) (some (.norm [undefA], H))) fun vs H => hd vs fun x21_2 vs => 
  jn (wnt x14 true (bV (pk3 (some x18) (some (.bool true)) (some x21_2)) fun x22 => 
  some (.norm [x22], H)) (some (.norm [undefA], H))) fun vs H => hd vs fun x22_2 vs => 
  bV (pk3 (some x14) (some x22_2) (some (.bool false))) fun x23 => 
  jn (cnd x23 (bV (ld1p x1 H) fun x24 => 
  bV (ldNp 3 x6 H) fun x25 => 
  bV (ld1p x3 H) fun x26 => 
  bV (ld1p x2 H) fun x27 => 
  bV (ld1p x4 H) fun x28 => 
  bR (noPan (f318 D n [x24, x25, x26, x27, x28, x0] H)) fun x30 H => 
  some (.norm [], H))
  (some (.norm [], H))) (f316j0 D n))
def h316 : Hint := (.s .o (.s .o (.c [] .o .o)))
theorem f316_eq (D : Dyn) (n : Nat) : f316 D n = funKp (s316 D n) D n 316 Tryz.f316 h316 := by kernel_rfl
theorem f316_ok {D : Dyn} (hD : DP D) (n : Nat) : FP 316 (f316 D n) := fun_okP X_ok hD (SP.cons (f317_ok hD n) (SP.cons (f318_ok hD n) (SP.nil))) Tryz.func316 (by kernel_rfl) (by kernel_rfl) (f316_eq D n)

def s259 (D : Dyn) (n : Nat) : Tb := ⟨X, []⟩
/-- (*jetty/walk.walker).nodes -/
def f259 (D : Dyn) (n : Nat) (vs : List AV) (H : AH) : Option (AV × AH) :=
  outR (hd vs fun x0 vs => hd vs fun x1 vs => hd vs fun x2 vs => hd vs fun x3 vs => nl vs <|
  bA (bxV 272 x0) H fun x4 H => 
  bA (bxV 9 x1) H fun x5 H => 
  bA (bxV 9 x2) H fun x6 H => 
  bA (bxV 277 x3) H fun x7 H => 
  bV (some (.func 316 [] [x4, x6, x5, x7])) fun x8 => some (.ret x8, H))
def h259 : Hint := (.s .o (.s .o .o))
theorem f259_eq (D : Dyn) (n : Nat) : f259 D n = funKp (s259 D n) D n 259 Tryz.f259 h259 := by kernel_rfl
theorem f259_ok {D : Dyn} (hD : DP D) (n : Nat) : FP 259 (f259 D n) := fun_okP X_ok hD (SP.nil) Tryz.func259 (by kernel_rfl) (by kernel_rfl) (f259_eq D n)

def s258 (D : Dyn) (n : Nat) : Tb := ⟨X, [(259, f259 D n), (208, f208 D n)]⟩
/-- (*jetty/walk.walker).pairs$1 -/
def f258 (D : Dyn) (n : Nat) (vs : List AV) (H : AH) : Option (AV × AH) :=
  outR (hd vs fun x0 vs => hd vs fun x1 vs => hd vs fun x2 vs => hd vs fun x3 vs => hd vs fun x4 vs => nl vs <|
  bA (bxV 358 x0) H fun x5 H => 
  bV (ld1p x1 H) fun x9 => 
  bV (ld1p x2 H) fun x10 => 
  bV (ld1p x3 H) fun x11 => 
  bV (ld1p x4 H) fun x12 => 
  bR (noPan (f259 D n [x9, x10, x11, x12] H)) fun x13 H => 
  newB H (.loop ⟨.ready, none, 258, 0, [2, 3, 5], [x2, x3, x5]⟩) fun A H => bR (rfC (s258 D n).S D x13 A H) fun _ H => endLp A H fun j H => jmpK j (
  some (.ret (.tuple []), H))
  (fun id => none) (some (.ret (.tuple []), H)))
def h258 : Hint := (.s .o (.s .o (.b0 (.rf 0 [2, 3, 5]))))
theorem f258_eq (D : Dyn) (n : Nat) : f258 D n = funKp (s258 D n) D n 258 Tryz.f258 h258 := by kernel_rfl
theorem f258_ok {D : Dyn} (hD : DP D) (n : Nat) : FP 258 (f258 D n) := fun_okP X_ok hD (SP.cons (f259_ok hD n) (SP.cons (f208_ok hD n) (SP.nil))) Tryz.func258 (by kernel_rfl) (by kernel_rfl) (f258_eq D n)
def f258l0 (D : Dyn) (n : Nat) (vs : List AV) (H : AH) : Rs :=
  hd vs fun x3_2 vs => hd vs fun x5_2 vs => hd vs fun x7_2 vs => hd vs fun x8 vs => 
  bV (fAd 1 x7_2) fun x23 => 
  bV (ld1p x23 H) fun x24 => 
  bV (lnSl x24) fun x25 => 
  bV (bInt .lss x8 x25) fun x26 => 
  cnd x26 (bV (ld1p x3_2 H) fun x29 => 
  bV (bStr .neq x29 (.str 0 0)) fun x30 => 
  jn (wnt x30 true (bV (fAd 1 x7_2) fun x32 => 
  bV (ld1p x32 H) fun x33 => 
  bV (ixSl 1 x33 x8) fun x35 => 
  bV (ld1p x35 H) fun x36 => 
  bV (ld1p x3_2 H) fun x37 => 
  bV (bStr .geq x36 x37) fun x38 => 
  some (.norm [x38], H)) (some (.norm [undefA], H))) fun vs H => hd vs fun x38_2 vs => 
  bV (pk3 (some x30) (some x38_2) (some (.bool false))) fun x39 => 
  jn (wnt x39 false (bV (ld1p x5_2 H) fun x41 => 
  bV (fAd 1 x7_2) fun x42 => 
  bV (ld1p x42 H) fun x43 => 
  bV (ixSl 1 x43 x8) fun x45 => 
  bV (ld1p x45 H) fun x46 => 
  bV (fAd 2 x7_2) fun x47 => 
  bV (ld1p x47 H) fun x48 => 
  bV (ixSl 1 x48 x8) fun x50 => 
  bV (ld1p x50 H) fun x51 => 
  bV (bldSp [(0, 1), (1, 1)] [(.str 0 0), (.str 0 0)] [(0, x46), (1, x51)]) fun x52 => 
  bR (noPan (callV (s258 D n).S D x41 [x52] H)) fun x53 H => 
  bV (aun .not x53) fun x54 => 
  some (.norm [x54], H)) (some (.norm [undefA], H))) fun vs H => hd vs fun x54_2 vs => 
  bV (pk3 (some x39) (some (.bool true)) (some x54_2)) fun x55 => 
  cnd x55 (some (.ret (.tuple []), H))
  (bV (bInt .add x8 (.int .i64 (.ofNat 1))) fun x28 => 
  some (.norm [x3_2, x5_2, x7_2, x28], H)))
  (some (.exit 2 [], H))
def f258b1 (D : Dyn) (n : Nat) (vs : List AV) (H : AH) : Rs :=
  
  some (.norm [], H)
def f258b2 (D : Dyn) (n : Nat) (vs : List AV) (H : AH) : Rs :=
  
  some (.norm [], H)
def r258_0 (D : Dyn) (n : Nat) (A : Nat) (l : ALoop) (az : List AV) (H : AH) : Option (AV × AH) :=
  bif eqNL [2, 3, 5] l.live then endQ A (hd l.vals fun x2 vs => hd vs fun x3 vs => hd vs fun x5 vs => hd az fun x14 az => hd az fun x15 az => nl az <|
  bA (bxV 269 (.agg [(.bool false), .nilSlice, .nilSlice, .nilSlice])) H fun x7 H => 
  bR (stNp 4 x7 x15 H) fun x9999 H => 
  beginK A H fun H => 
  jb 1 (bV (fAd 0 x7) fun x16 => 
  bV (ld1p x16 H) fun x17 => 
  bV (aun .not x17) fun x18 => 
  cnd x18 (some (.exit 1 [], H))
  (bV (ldNp 4 x7 H) fun x19 => 
  bV (ld1p x2 H) fun x20 => 
  bR (noPan (f208 D n [x19, x20] H)) fun x21 H => 
  jb 2 (loopK n (f258l0 D n) [x3, x5, x7, x21] H) (f258b1 D n))) (f258b2 D n)) else none
def r258_0a : Hint := .o
def r258_0b : Hint := (.b [] (.s (.s .o (.cl .o .o)) (.s .o (.b [] (.l [3, 5, 7, 8] (.s (.s .o (.cr .o .o)) (.s (.b0 (.s .o (.cl .o .o))) .o)))))))
theorem r258_0_eq (D : Dyn) (n : Nat) : r258_0 D n = rndKp (s258 D n) D n 258 0 [2, 3, 5] [] r258_0a r258_0b := by kernel_rfl
theorem r258_0_ok {D : Dyn} (hD : DP D) (n : Nat) : RdP 258 0 (r258_0 D n) := round_okP X_ok hD (SP.cons (f259_ok hD n) (SP.cons (f208_ok hD n) (SP.nil))) (by kernel_rfl) (r258_0_eq D n)

def s184 (D : Dyn) (n : Nat) : Tb := ⟨X, []⟩
/-- (*jetty/walk.walker).pairs -/
def f184 (D : Dyn) (n : Nat) (vs : List AV) (H : AH) : Option (AV × AH) :=
  outR (hd vs fun x0 vs => hd vs fun x1 vs => hd vs fun x2 vs => hd vs fun x3 vs => nl vs <|
  bA (bxV 272 x0) H fun x4 H => 
  bA (bxV 9 x1) H fun x5 H => 
  bA (bxV 9 x2) H fun x6 H => 
  bA (bxV 277 x3) H fun x7 H => 
  bV (some (.func 258 [] [x4, x5, x6, x7])) fun x8 => some (.ret x8, H))
def h184 : Hint := (.s .o (.s .o .o))
theorem f184_eq (D : Dyn) (n : Nat) : f184 D n = funKp (s184 D n) D n 184 Tryz.f184 h184 := by kernel_rfl
theorem f184_ok {D : Dyn} (hD : DP D) (n : Nat) : FP 184 (f184 D n) := fun_okP X_ok hD (SP.nil) Tryz.func184 (by kernel_rfl) (by kernel_rfl) (f184_eq D n)

def s185 (D : Dyn) (n : Nat) : Tb := ⟨X, []⟩
/-- jetty/walk.all -/
def f185 (D : Dyn) (n : Nat) (vs : List AV) (H : AH) : Option (AV × AH) :=
  outR (hd vs fun x0 vs => nl vs <|
  bA (bxV 119 x0) H fun x1 H => 
  bV (some (.bool false)) fun x2 => some (.ret x2, H))
def h185 : Hint := (.s .o (.s .o .o))
theorem f185_eq (D : Dyn) (n : Nat) : f185 D n = funKp (s185 D n) D n 185 Tryz.f185 h185 := by kernel_rfl
theorem f185_ok {D : Dyn} (hD : DP D) (n : Nat) : FP 185 (f185 D n) := fun_okP X_ok hD (SP.nil) Tryz.func185 (by kernel_rfl) (by kernel_rfl) (f185_eq D n)

def s115 (D : Dyn) (n : Nat) : Tb := ⟨X, [(183, f183 D n), (184, f184 D n)]⟩
def f115b0 (D : Dyn) (n : Nat) (vs : List AV) (H : AH) : Rs :=
  hd vs fun x11 vs => hd vs fun x12_2 vs => hd vs fun x13_2 vs => 
  bV (pNil x11) fun x35 => 
  bV (fAd 3 x35) fun x36 => 
  bV (ld1p x36 H) fun x37 => 
  bV (bInt .neq x37 (.int .i64 (.ofNat 0))) fun x38 => 
  cnd x38 (bV (pNil x11) fun x40 => 
  bV (fAd 3 x40) fun x41 => 
  bV (ld1p x41 H) fun x42 => 
  bV (some .nilSlice) fun x8_4 => bV (some (.bool false)) fun x9_4 => bV (some x42) fun x10_4 => some (.ret (.tuple [x8_4, x9_4, x10_4]), H))
  (bV (ld1p x12_2 H) fun x43 => 
  bV (ld1p x13_2 H) fun x44 => 
  bV (some x43) fun x8_5 => bV (some x44) fun x9_5 => bV (some (.int .i64 (.ofNat 0))) fun x10_5 => some (.ret (.tuple [x8_5, x9_5, x10_5]), H))
/-- jetty/walk.Range -/
def f115 (D : Dyn) (n : Nat) (vs : List AV) (H : AH) : Option (AV × AH) :=
  outR (hd vs fun x0 vs => hd vs fun x1 vs => hd vs fun x2 vs => hd vs fun x3 vs => nl vs <|
  bA (bxV 3 x3) H fun x7 H => 
  bV (cmpO .eql (eqP x0 .nilPtr)) fun x16 => 
  cnd x16 (bV (some .nilSlice) fun x8 => bV (some (.bool false)) fun x9 => bV (some (.int .i64 (.ofNat 2))) fun x10 => some (.ret (.tuple [x8, x9, x10]), H))
  (bV (ld1p x7 H) fun x17 => 
  bV (bInt .lss x17 (.int .i64 (.ofNat 0))) fun x18 => 
  cnd x18 (bV (some .nilSlice) fun x8_2 => bV (some (.bool false)) fun x9_2 => bV (some (.int .i64 (.ofNat 1))) fun x10_2 => some (.ret (.tuple [x8_2, x9_2, x10_2]), H))
  (bR (noPan (f183 D n [x0] H)) fun x20 H => 
  bA (bxV 153 .nilSlice) H fun x12 H => 
  bA (bxV 4 (.bool false)) H fun x13 H => 
  bR (stNp 1 x13 (.bool false) H) fun x9999 H => 
  bR (noPan (f184 D n [x20, x1, x2, (.func 185 [] [])] H)) fun x24 H => 
  jb 0 (newB H (.loop ⟨.ready, none, 115, 0, [7, 12, 13], [x7, x12, x13]⟩) fun A H => bR (rfC (s115 D n).S D x24 A H) fun _ H => endLp A H fun j H => jmpK j (
  some (.norm [x20, x12, x13], H))
  (fun id => cond (Nat.beq 0 id) (some (.exit id [x20, x12, x13], H)) (none)) (bV (some .nilSlice) fun x8_3 => bV (some (.bool false)) fun x9_3 => bV (some (.int .i64 (.ofNat 0))) fun x10_3 => some (.ret (.tuple [x8_3, x9_3, x10_3]), H))) (f115b0 D n))))
def h115 : Hint := (.s .o (.s (.s .o (.cl (.s .o .o) .o)) (.s (.s .o (.cl (.s .o .o) .o)) (.s .o (.s .o (.s .o (.s (.s .o (.b [11, 12, 13] (.rf 0 [7, 12, 13]))) (.s (.s .o (.cl (.s .o .o) .o)) (.s .o .o)))))))))
theorem f115_eq (D : Dyn) (n : Nat) : f115 D n = funKp (s115 D n) D n 115 Tryz.f115 h115 := by kernel_rfl
theorem f115_ok {D : Dyn} (hD : DP D) (n : Nat) : FP 115 (f115 D n) := fun_okP X_ok hD (SP.cons (f183_ok hD n) (SP.cons (f184_ok hD n) (SP.nil))) Tryz.func115 (by kernel_rfl) (by kernel_rfl) (f115_eq D n)
def r115_0 (D : Dyn) (n : Nat) (A : Nat) (l : ALoop) (az : List AV) (H : AH) : Option (AV × AH) :=
  bif eqNL [7, 12, 13] l.live then endQ A (hd l.vals fun x7 vs => hd vs fun x12 vs => hd vs fun x13 vs => hd az fun x25 az => nl az <|
  bA (bxV 182 (.agg [(.str 0 0), (.str 0 0)])) H fun x14 H => 
  bR (stNp 2 x14 x25 H) fun x9999 H => 
  beginK A H fun H => 
  bV (ld1p x12 H) fun x26 => 
  bV (lnSl x26) fun x27 => 
  bV (ld1p x7 H) fun x28 => 
  bV (bInt .eql x27 x28) fun x29 => 
  cnd x29 (bR (stNp 1 x13 (.bool true) H) fun x9999_2 H => 
  some (.exit 0 [], H))
  (bV (ld1p x12 H) fun x30 => 
  bV (ldNp 2 x14 H) fun x31 => 
  bA (bldLp 182 2 1 [(.str 0 0), (.str 0 0)] [(0, x31)]) H fun x32 H => 
  bR (apPp 182 2 32 x30 x32 H) fun x33 H => 
  bR (stNp 1 x12 x33 H) fun x9999_3 H => 
  some (.norm [], H))) else none
def r115_0a : Hint := .o
def r115_0b : Hint := (.b0 (.s (.s .o (.cl (.s .o .o) .o)) .o))
theorem r115_0_eq (D : Dyn) (n : Nat) : r115_0 D n = rndKp (s115 D n) D n 115 0 [7, 12, 13] [0] r115_0a r115_0b := by kernel_rfl
theorem r115_0_ok {D : Dyn} (hD : DP D) (n : Nat) : RdP 115 0 (r115_0 D n) := round_okP X_ok hD (SP.cons (f183_ok hD n) (SP.cons (f184_ok hD n) (SP.nil))) (by kernel_rfl) (r115_0_eq D n)

def s326 (D : Dyn) (n : Nat) : Tb := ⟨X, []⟩
def f326l0 (D : Dyn) (n : Nat) (vs : List AV) (H : AH) : Rs :=
  hd vs fun x0_2 vs => hd vs fun x3 vs => hd vs fun x5 vs => 
  bV (bInt .lss x5 (.int .i64 (.ofNat 4))) fun x6 => 
  cnd x6 (bV (bInt .shl x3 (.int .u64 (.ofNat 8))) fun x9 => 
  bV (ixStr x0_2 x5) fun x12 => 
  bV (cvI .i64 x12) fun x13 => 
  bV (bInt .or x9 x13) fun x14 => 
  bV (bInt .add x5 (.int .i64 (.ofNat 1))) fun x15 => 
  some (.norm [x0_2, x14, x15], H))
  (some (.exit 0 [x3], H))
def f326b1 (D : Dyn) (n : Nat) (vs : List AV) (H : AH) : Rs :=
  hd vs fun x3_2 vs => 
  bV (some x3_2) fun x2 => some (.ret x2, H)
/-- jetty/dir.parse -/
def f326 (D : Dyn) (n : Nat) (vs : List AV) (H : AH) : Option (AV × AH) :=
  outR (hd vs fun x0 vs => nl vs <|
  jb 0 (loopK n (f326l0 D n) [x0, (.int .i64 (.ofNat 0)), (.int .i64 (.ofNat 0))] H) (f326b1 D n))
def h326 : Hint := (.s .o (.s .o (.s (.s .o (.b [3] (.l [0, 3, 5] (.s .o (.s (.cr .o .o) (.s (.b0 (.s .o .o)) .o)))))) (.s .o .o))))
theorem f326_eq (D : Dyn) (n : Nat) : f326 D n = funKp (s326 D n) D n 326 Tryz.f326 h326 := by kernel_rfl
theorem f326_ok {D : Dyn} (hD : DP D) (n : Nat) : FP 326 (f326 D n) := fun_okP X_ok hD (SP.nil) Tryz.func326 (by kernel_rfl) (by kernel_rfl) (f326_eq D n)

def s271 (D : Dyn) (n : Nat) : Tb := ⟨X, [(326, f326 D n), (190, f190 D n), (191, f191 D n), (192, f192 D n)]⟩
/-- jetty/dir.read -/
def f271 (D : Dyn) (n : Nat) (vs : List AV) (H : AH) : Option (AV × AH) :=
  outR (hd vs fun x0 vs => nl vs <|
  bA (bxV 182 x0) H fun x1 H => 
  bA (bxV 288 (.agg [(.str 0 0), (.int .i64 (.ofNat 0)), (.int .i64 (.ofNat 0)), (.str 0 0), (.bool false)])) H fun x2 H => 
  bV (fAd 0 x1) fun x5 => 
  bV (ld1p x5 H) fun x6 => 
  bV (lnStr x6) fun x7 => 
  bV (bInt .neq x7 (.int .i64 (.ofNat 9))) fun x8 => 
  cnd x8 (bV (bldSp [(0, 3), (3, 1), (4, 1)] [(.str 0 0), (.int .i64 (.ofNat 0)), (.int .i64 (.ofNat 0)), (.str 0 0), (.bool false)] []) fun x9 => 
  bR (stNp 5 x2 x9 H) fun x9999 H => 
  bV (ldNp 5 x2 H) fun x9002 => bV (some (.bool false)) fun x3 => some (.ret (.tuple [x9002, x3]), H))
  (bV (fAd 0 x1) fun x10 => 
  bV (ld1p x10 H) fun x11 => 
  bV (bldSp [(0, 3), (3, 1), (4, 1)] [(.str 0 0), (.int .i64 (.ofNat 0)), (.int .i64 (.ofNat 0)), (.str 0 0), (.bool false)] [(1, x11)]) fun x12 => 
  bA (bxV 288 (.agg [(.str 0 0), (.int .i64 (.ofNat 0)), (.int .i64 (.ofNat 0)), (.str 0 0), (.bool false)])) H fun x4 H => 
  bR (stNp 5 x4 x12 H) fun x9999_2 H => 
  bV (fAd 0 x1) fun x13 => 
  bV (ld1p x13 H) fun x14 => 
  bV (slStr x14 (some (.int .i64 (.ofNat 5))) none) fun x15 => 
  bR (noPan (f326 D n [x15] H)) fun x16 H => 
  bV (fAd 0 x4) fun x17 => 
  bV (fAd 2 x17) fun x18 => 
  bR (stNp 1 x18 x16 H) fun x9999_3 H => 
  bV (fAd 0 x4) fun x19 => 
  bV (fAd 2 x19) fun x20 => 
  bV (ld1p x20 H) fun x21 => 
  bV (bInt .lss x21 (.int .i64 (.ofNat 1))) fun x22 => 
  jn (wnt x22 false (bV (fAd 0 x4) fun x24 => 
  bV (fAd 2 x24) fun x25 => 
  bV (ld1p x25 H) fun x26 => 
  bV (bInt .gtr x26 (.int .i64 (.ofNat 262144))) fun x27 => 
  some (.norm [x27], H)) (some (.norm [undefA], H))) fun vs H => hd vs fun x27_2 vs => 
  bV (pk3 (some x22) (some (.bool true)) (some x27_2)) fun x28 => 
  cnd x28 (bV (bldSp [(0, 3), (3, 1), (4, 1)] [(.str 0 0), (.int .i64 (.ofNat 0)), (.int .i64 (.ofNat 0)), (.str 0 0), (.bool false)] []) fun x29 => 
  bR (stNp 5 x2 x29 H) fun x9999_4 H => 
  bV (ldNp 5 x2 H) fun x9002_2 => bV (some (.bool false)) fun x3_2 => some (.ret (.tuple [x9002_2, x3_2]), H))
  (bV (fAd 1 x1) fun x30 => 
  bV (ld1p x30 H) fun x31 => 
  bV (lnStr x31) fun x32 => 
  bV (bInt .lss x32 (.int .i64 (.ofNat 4))) fun x33 => 
  cnd x33 (bV (ldNp 5 x4 H) fun x34 => 
  bR (stNp 5 x2 x34 H) fun x9999_5 H => 
  bV (ldNp 5 x2 H) fun x9002_3 => bV (some (.bool true)) fun x3_3 => some (.ret (.tuple [x9002_3, x3_3]), H))
  (bV (fAd 1 x1) fun x35 => 
  bV (ld1p x35 H) fun x36 => 
  bR (noPan (f326 D n [x36] H)) fun x37 H => 
  bV (fAd 0 x4) fun x38 => 
  bV (fAd 1 x38) fun x39 => 
  bR (stNp 1 x39 x37 H) fun x9999_6 H => 
  bV (fAd 1 x1) fun x40 => 
  bV (ld1p x40 H) fun x41 => 
  bV (slStr x41 (some (.int .i64 (.ofNat 4))) none) fun x42 => 
  bV (fAd 0 x4) fun x43 => 
  bV (fAd 0 x43) fun x44 => 
  bR (stNp 1 x44 x42 H) fun x9999_7 H => 
  bV (fAd 0 x4) fun x45 => 
  bV (fAd 1 x45) fun x46 => 
  bV (ld1p x46 H) fun x47 => 
  bR (noPan (f190 D n [x47] H)) fun x48 H => 
  jn (wnt x48 true (bV (fAd 0 x4) fun x50 => 
  bV (fAd 0 x50) fun x51 => 
  bV (ld1p x51 H) fun x52 => 
  bR (noPan (f191 D n [x52] H)) fun x53 H => 
  some (.norm [x53], H)) (some (.norm [undefA], H))) fun vs H => hd vs fun x53_2 vs => 
  bV (pk3 (some x48) (some x53_2) (some (.bool false))) fun x54 => 
  jn (wnt x54 true (bV (fAd 0 x4) fun x56 => 
  bV (fAd 0 x56) fun x57 => 
  bV (ld1p x57 H) fun x58 => 
  bV (fAd 0 x4) fun x60 => 
  bV (fAd 2 x60) fun x61 => 
  bV (ld1p x61 H) fun x62 => 
  bV (bInt .sub x62 (.int .i64 (.ofNat 1))) fun x63 => 
  bV (bInt .quo x63 (.int .i64 (.ofNat 256))) fun x64 => 
  bR (noPan (f192 D n [x58] H)) fun x59 H => chk (ld1p x61 H) x62 <| 
  bV (bInt .eql x59 x64) fun x65 => 
  some (.norm [x65], H)) (some (.norm [undefA], H))) fun vs H => hd vs fun x65_2 vs => 
  bV (pk3 (some x54) (some x65_2) (some (.bool false))) fun x66 => 
  bV (fAd 4 x4) fun x67 => 
  bR (stNp 1 x67 x66 H) fun x9999_8 H => 
  bV (ldNp 5 x4 H) fun x68 => 
  bR (stNp 5 x2 x68 H) fun x9999_9 H => 
  bV (ldNp 5 x2 H) fun x9002_4 => bV (some (.bool true)) fun x3_4 => some (.ret (.tuple [x9002_4, x3_4]), H)))))
def h271 : Hint := (.s .o (.s (.s .o (.cl (.s .o .o) .o)) (.s .o (.s .o (.s (.s .o (.cl (.s .o .o) .o)) (.s (.s .o (.cl (.s .o .o) .o)) (.s .o (.s .o (.s .o (.s .o .o))))))))))
theorem f271_eq (D : Dyn) (n : Nat) : f271 D n = funKp (s271 D n) D n 271 Tryz.f271 h271 := by kernel_rfl
theorem f271_ok {D : Dyn} (hD : DP D) (n : Nat) : FP 271 (f271 D n) := fun_okP X_ok hD (SP.cons (f326_ok hD n) (SP.cons (f190_ok hD n) (SP.cons (f191_ok hD n) (SP.cons (f192_ok hD n) (SP.nil))))) Tryz.func271 (by kernel_rfl) (by kernel_rfl) (f271_eq D n)

def s193 (D : Dyn) (n : Nat) : Tb := ⟨X, [(195, f195 D n), (115, f115 D n), (271, f271 D n)]⟩
def f193l0 (D : Dyn) (n : Nat) (vs : List AV) (H : AH) : Rs :=
  hd vs fun x3_2 vs => hd vs fun x36 vs => hd vs fun x37_2 vs => hd vs fun x38 vs => 
  bV (bInt .lss x38 x37_2) fun x39 => 
  cnd x39 (bV (ixSl 2 x36 x38) fun x40 => 
  bV (ldNp 2 x40 H) fun x41 => 
  bA (bxV 182 (.agg [(.str 0 0), (.str 0 0)])) H fun x14 H => 
  bR (stNp 2 x14 x41 H) fun x9999 H => 
  bV (ldNp 2 x14 H) fun x43 => 
  bR (noPan (f271 D n [x43] H)) fun x44 H => 
  bV (pExtract x44 0) fun x45 => 
  bV (pExtract x44 1) fun x46 => 
  bA (bxV 288 (.agg [(.str 0 0), (.int .i64 (.ofNat 0)), (.int .i64 (.ofNat 0)), (.str 0 0), (.bool false)])) H fun x15 H => 
  bR (stNp 5 x15 x45 H) fun x9999_2 H => 
  jn (wnt x46 true (bV (ldNp 5 x15 H) fun x50 => 
  bR (noPan (callV (s193 D n).S D x3_2 [x50] H)) fun x51 H => 
  bV (aun .not x51) fun x52 => 
  some (.norm [x52], H)) (some (.norm [undefA], H))) fun vs H => hd vs fun x52_2 vs => 
  bV (pk3 (some x46) (some x52_2) (some (.bool false))) fun x53 => 
  cnd x53 (some (.exit 0 [], H))
  (bV (bInt .add x38 (.int .i64 (.ofNat 1))) fun x54 => 
  some (.norm [x3_2, x36, x37_2, x54], H)))
  (some (.exit 0 [], H))
def f193b1 (D : Dyn) (n : Nat) (vs : List AV) (H : AH) : Rs :=
  
  bV (some (.int .i64 (.ofNat 0))) fun x8_2 => some (.ret x8_2, H)
/-- jetty/dir.chain -/
def f193 (D : Dyn) (n : Nat) (vs : List AV) (H : AH) : Option (AV × AH) :=
  outR (hd vs fun x0 vs => hd vs fun x1 vs => hd vs fun x2 vs => hd vs fun x3 vs => nl vs <|
  bV (bInt .mul x2 (.int .i64 (.ofNat 256))) fun x18 => 
  bV (bInt .add x18 (.int .i64 (.ofNat 1))) fun x19 => 
  bR (noPan (f195 D n [x1, x19] H)) fun x24 H => 
  bV (bInt .add x19 (.int .i64 (.ofNat 256))) fun x27 => 
  bR (noPan (f195 D n [x1, x27] H)) fun x28 H => 
  bR (noPan (f115 D n [x0, x24, x28, (.int .i64 (.ofNat 2147483647))] H)) fun x29 H => 
  bV (pExtract x29 0) fun x30 => 
  bV (pExtract x29 1) fun x31 => 
  bV (pExtract x29 2) fun x32 => 
  bV (bInt .neq x32 (.int .i64 (.ofNat 0))) fun x34 => 
  cnd x34 (bV (some x32) fun x8 => some (.ret x8, H))
  (bV (lnSl x30) fun x37 => 
  jb 0 (loopK n (f193l0 D n) [x3, x30, x37, (.int .i64 (.ofNat 0))] H) (f193b1 D n)))
def h193 : Hint := (.s .o (.s .o (.s .o (.s (.s .o (.cl (.s .o .o) .o)) (.s (.s .o (.b [] (.l [3, 36, 37, 38] (.s .o (.s (.cr .o .o) (.s (.b0 (.s .o (.s .o (.s .o (.cl .o .o))))) .o)))))) (.s .o .o))))))
theorem f193_eq (D : Dyn) (n : Nat) : f193 D n = funKp (s193 D n) D n 193 Tryz.f193 h193 := by kernel_rfl
theorem f193_ok {D : Dyn} (hD : DP D) (n : Nat) : FP 193 (f193 D n) := fun_okP X_ok hD (SP.cons (f195_ok hD n) (SP.cons (f115_ok hD n) (SP.cons (f271_ok hD n) (SP.nil)))) Tryz.func193 (by kernel_rfl) (by kernel_rfl) (f193_eq D n)

def s273 (D : Dyn) (n : Nat) : Tb := ⟨X, []⟩
def f273j0 (D : Dyn) (n : Nat) (vs : List AV) (H : AH) : Rs :=
  hd vs fun x2_2 vs => 
  bV (fAd 4 x2_2) fun x15 => 
  bV (ld1p x15 H) fun x16 => 
  bV (aun .not x16) fun x17 => 
  bV (some x17) fun x4 => some (.ret x4, H)
/-- jetty/dir.seek$1 -/
def f273 (D : Dyn) (n : Nat) (vs : List AV) (H : AH) : Option (AV × AH) :=
  outR (hd vs fun x0 vs => hd vs fun x1 vs => hd vs fun x2 vs => nl vs <|
  bA (bxV 288 x0) H fun x3 H => 
  bV (fAd 4 x3) fun x5 => 
  bV (ld1p x5 H) fun x6 => 
  jn (wnt x6 true (bV (fAd 0 x3) fun x8 => 
  bV (fAd 0 x8) fun x9 => 
  bV (ld1p x9 H) fun x10 => 
  bV (ld1p x1 H) fun x11 => 
  bV (bStr .eql x10 x11) fun x12 => 
  some (.norm [x12], H)) (some (.norm [undefA], H))) fun vs H => hd vs fun x12_2 vs => 
  bV (pk3 (some x6) (some x12_2) (some (.bool false))) fun x13 => 
  jn (cnd x13 (bV (ldNp 5 x3 H) fun x14 => 
  bR (stNp 5 x2 x14 H) fun x9999 H => 
  some (.norm [x2], H))
  (some (.norm [x2], H))) (f273j0 D n))
def h273 : Hint := (.s .o (.s (.s .o (.c [2] .o .o)) (.s .o .o)))
theorem f273_eq (D : Dyn) (n : Nat) : f273 D n = funKp (s273 D n) D n 273 Tryz.f273 h273 := by kernel_rfl
theorem f273_ok {D : Dyn} (hD : DP D) (n : Nat) : FP 273 (f273 D n) := fun_okP X_ok hD (SP.nil) Tryz.func273 (by kernel_rfl) (by kernel_rfl) (f273_eq D n)

def s200 (D : Dyn) (n : Nat) : Tb := ⟨X, [(190, f190 D n), (191, f191 D n), (192, f192 D n), (193, f193 D n)]⟩
/-- jetty/dir.seek -/
def f200 (D : Dyn) (n : Nat) (vs : List AV) (H : AH) : Option (AV × AH) :=
  outR (hd vs fun x0 vs => hd vs fun x1 vs => hd vs fun x2 vs => nl vs <|
  bA (bxV 9 x2) H fun x5 H => 
  bA (bxV 288 (.agg [(.str 0 0), (.int .i64 (.ofNat 0)), (.int .i64 (.ofNat 0)), (.str 0 0), (.bool false)])) H fun x6 H => 
  bV (cmpO .eql (eqP x0 .nilPtr)) fun x11 => 
  cnd x11 (bV (bldSp [(0, 3), (3, 1), (4, 1)] [(.str 0 0), (.int .i64 (.ofNat 0)), (.int .i64 (.ofNat 0)), (.str 0 0), (.bool false)] []) fun x12 => 
  bR (stNp 5 x6 x12 H) fun x9999 H => 
  bV (ldNp 5 x6 H) fun x9006 => bV (some (.int .i64 (.ofNat 2))) fun x7 => some (.ret (.tuple [x9006, x7]), H))
  (bR (noPan (f190 D n [x1] H)) fun x14 H => 
  bV (aun .not x14) fun x15 => 
  cnd x15 (bV (bldSp [(0, 3), (3, 1), (4, 1)] [(.str 0 0), (.int .i64 (.ofNat 0)), (.int .i64 (.ofNat 0)), (.str 0 0), (.bool false)] []) fun x16 => 
  bR (stNp 5 x6 x16 H) fun x9999_2 H => 
  bV (ldNp 5 x6 H) fun x9006_2 => bV (some (.int .i64 (.ofNat 1))) fun x7_2 => some (.ret (.tuple [x9006_2, x7_2]), H))
  (bV (ld1p x5 H) fun x17 => 
  bR (noPan (f191 D n [x17] H)) fun x18 H => 
  bV (aun .not x18) fun x19 => 
  cnd x19 (bV (bldSp [(0, 3), (3, 1), (4, 1)] [(.str 0 0), (.int .i64 (.ofNat 0)), (.int .i64 (.ofNat 0)), (.str 0 0), (.bool false)] []) fun x20 => 
  bR (stNp 5 x6 x20 H) fun x9999_3 H => 
  bV (ldNp 5 x6 H) fun x9006_3 => bV (some (.int .i64 (.ofNat 56))) fun x7_3 => some (.ret (.tuple [x9006_3, x7_3]), H))
  (bA (bxV 288 (.agg [(.str 0 0), (.int .i64 (.ofNat 0)), (.int .i64 (.ofNat 0)), (.str 0 0), (.bool false)])) H fun x8 H => 
  bV (ld1p x5 H) fun x23 => 
  bR (noPan (f192 D n [x23] H)) fun x24 H => 
  bR (noPan (f193 D n [x0, x1, x24, (.func 273 [] [x5, x8])] H)) fun x26 H => 
  bV (bInt .neq x26 (.int .i64 (.ofNat 0))) fun x28 => 
  cnd x28 (bV (bldSp [(0, 3), (3, 1), (4, 1)] [(.str 0 0), (.int .i64 (.ofNat 0)), (.int .i64 (.ofNat 0)), (.str 0 0), (.bool false)] []) fun x29 => 
  bR (stNp 5 x6 x29 H) fun x9999_4 H => 
  bV (ldNp 5 x6 H) fun x9006_4 => bV (some x26) fun x7_4 => some (.ret (.tuple [x9006_4, x7_4]), H))
  (bV (fAd 4 x8) fun x31 => 
  bV (ld1p x31 H) fun x32 => 
  bV (aun .not x32) fun x33 => 
  cnd x33 (bV (bldSp [(0, 3), (3, 1), (4, 1)] [(.str 0 0), (.int .i64 (.ofNat 0)), (.int .i64 (.ofNat 0)), (.str 0 0), (.bool false)] []) fun x34 => 
  bR (stNp 5 x6 x34 H) fun x9999_5 H => 
  bV (ldNp 5 x6 H) fun x9006_5 => bV (some (.int .i64 (.ofNat 5))) fun x7_5 => some (.ret (.tuple [x9006_5, x7_5]), H))
  (bV (ldNp 5 x8 H) fun x35 => 
  bR (stNp 5 x6 x35 H) fun x9999_6 H => 
  bV (ldNp 5 x6 H) fun x9006_6 => bV (some (.int .i64 (.ofNat 0))) fun x7_6 => some (.ret (.tuple [x9006_6, x7_6]), H)))))))
def h200 : Hint := (.s .o (.s (.s .o (.cl (.s .o .o) .o)) (.s (.s .o (.cl (.s .o .o) .o)) (.s (.s .o (.cl (.s .o .o) .o)) (.s .o (.s .o (.s (.s .o (.cl (.s .o .o) .o)) (.s (.s .o (.cl (.s .o .o) .o)) (.s .o .o)))))))))
theorem f200_eq (D : Dyn) (n : Nat) : f200 D n = funKp (s200 D n) D n 200 Tryz.f200 h200 := by kernel_rfl
theorem f200_ok {D : Dyn} (hD : DP D) (n : Nat) : FP 200 (f200 D n) := fun_okP X_ok hD (SP.cons (f190_ok hD n) (SP.cons (f191_ok hD n) (SP.cons (f192_ok hD n) (SP.cons (f193_ok hD n) (SP.nil))))) Tryz.func200 (by kernel_rfl) (by kernel_rfl) (f200_eq D n)

def s125 (D : Dyn) (n : Nat) : Tb := ⟨X, [(200, f200 D n)]⟩
/-- jetty/dir.Find -/
def f125 (D : Dyn) (n : Nat) (vs : List AV) (H : AH) : Option (AV × AH) :=
  outR (hd vs fun x0 vs => hd vs fun x1 vs => hd vs fun x2 vs => nl vs <|
  bR (noPan (f200 D n [x0, x1, x2] H)) fun x14 H => 
  bV (pExtract x14 0) fun x15 => 
  bV (pExtract x14 1) fun x16 => 
  bA (bxV 288 (.agg [(.str 0 0), (.int .i64 (.ofNat 0)), (.int .i64 (.ofNat 0)), (.str 0 0), (.bool false)])) H fun x9 H => 
  bR (stNp 5 x9 x15 H) fun x9999 H => 
  bV (fAd 0 x9) fun x17 => 
  bV (fAd 1 x17) fun x18 => 
  bV (ld1p x18 H) fun x19 => 
  bV (fAd 0 x9) fun x20 => 
  bV (fAd 2 x20) fun x21 => 
  bV (ld1p x21 H) fun x22 => 
  bV (some x19) fun x6 => bV (some x22) fun x7 => bV (some x16) fun x8 => some (.ret (.tuple [x6, x7, x8]), H))
def h125 : Hint := (.s .o (.s .o (.s .o .o)))
theorem f125_eq (D : Dyn) (n : Nat) : f125 D n = funKp (s125 D n) D n 125 Tryz.f125 h125 := by kernel_rfl
theorem f125_ok {D : Dyn} (hD : DP D) (n : Nat) : FP 125 (f125 D n) := fun_okP X_ok hD (SP.cons (f200_ok hD n) (SP.nil)) Tryz.func125 (by kernel_rfl) (by kernel_rfl) (f125_eq D n)

def s66 (D : Dyn) (n : Nat) : Tb := ⟨X, [(125, f125 D n), (54, f54 D n)]⟩
/-- (jetty/objs.work).named -/
def f66 (D : Dyn) (n : Nat) (vs : List AV) (H : AH) : Option (AV × AH) :=
  outR (hd vs fun x0 vs => hd vs fun x1 vs => hd vs fun x2 vs => nl vs <|
  bA (bxV 73 x0) H fun x3 H => 
  bV (fAd 0 x3) fun x12 => 
  bV (ld1p x12 H) fun x13 => 
  bR (noPan (f125 D n [x13, x1, x2] H)) fun x16 H => 
  bV (pExtract x16 0) fun x17 => 
  bV (pExtract x16 1) fun x18 => 
  bV (pExtract x16 2) fun x19 => 
  bV (bInt .eql x19 (.int .i64 (.ofNat 5))) fun x21 => 
  cnd x21 (bV (some (.int .i64 (.ofNat 0))) fun x6 => bV (some (.bool false)) fun x7 => some (.ret (.tuple [x6, x7]), H))
  (bC (f54 D n [x19] H) (fun x H => some (.ret (.pan x), H)) fun x23 H => 
  bV (some x17) fun x6_2 => bV (some (.bool true)) fun x7_2 => some (.ret (.tuple [x6_2, x7_2]), H)))
def h66 : Hint := (.s .o (.s .o (.s (.s .o (.cl (.s .o .o) .o)) (.s .pc (.s .o .o)))))
theorem f66_eq (D : Dyn) (n : Nat) : f66 D n = funKp (s66 D n) D n 66 Tryz.f66 h66 := by kernel_rfl
theorem f66_ok {D : Dyn} (hD : DP D) (n : Nat) : FP 66 (f66 D n) := fun_okP X_ok hD (SP.cons (f125_ok hD n) (SP.cons (f54_ok hD n) (SP.nil))) Tryz.func66 (by kernel_rfl) (by kernel_rfl) (f66_eq D n)

def s48 (D : Dyn) (n : Nat) : Tb := ⟨X, [(66, f66 D n), (38, f38 D n)]⟩
def f48j0 (D : Dyn) (n : Nat) (vs : List AV) (H : AH) : Rs :=
  hd vs fun x7 vs => 
  bV (some x7) fun x6 => some (.ret x6, H)
/-- (jetty/objs.work).entry -/
def f48 (D : Dyn) (n : Nat) (vs : List AV) (H : AH) : Option (AV × AH) :=
  outR (hd vs fun x0 vs => hd vs fun x1 vs => hd vs fun x2 vs => nl vs <|
  bA (bxV 73 x0) H fun x3 H => 
  bV (ldNp 2 x3 H) fun x10 => 
  bC (f66 D n [x10, x1, x2] H) (fun x H => some (.ret (.pan x), H)) fun x13 H => 
  bV (pExtract x13 0) fun x14 => 
  bV (pExtract x13 1) fun x15 => 
  bV (aun .not x15) fun x17 => 
  jn (cnd x17 (bC (f38 D n [(.int .i64 (.ofNat 5))] H) (fun x H => some (.ret (.pan x), H)) fun x18 H => 
  some (.norm [x14], H))
  (some (.norm [x14], H))) (f48j0 D n))
def h48 : Hint := (.s .o (.s .pc (.s (.s .o (.c [7] .pc .o)) (.s .o .o))))
theorem f48_eq (D : Dyn) (n : Nat) : f48 D n = funKp (s48 D n) D n 48 Tryz.f48 h48 := by kernel_rfl
theorem f48_ok {D : Dyn} (hD : DP D) (n : Nat) : FP 48 (f48 D n) := fun_okP X_ok hD (SP.cons (f66_ok hD n) (SP.cons (f38_ok hD n) (SP.nil))) Tryz.func48 (by kernel_rfl) (by kernel_rfl) (f48_eq D n)

def s45 (D : Dyn) (n : Nat) : Tb := ⟨X, [(46, f46 D n), (47, f47 D n), (48, f48 D n), (34, f34 D n)]⟩
/-- jetty/objs.Lookup$1 -/
def f45 (D : Dyn) (n : Nat) (vs : List AV) (H : AH) : Option (AV × AH) :=
  outR (hd vs fun x0 vs => hd vs fun x1 vs => hd vs fun x2 vs => nl vs <|
  bA (bxV 73 x0) H fun x3 H => 
  bA (bxV 23 (.agg [(.int .u8 (.ofNat 0)), (.int .i64 (.ofNat 0)), (.int .i64 (.ofNat 0)), (.int .i64 (.ofNat 0)), (.int .i64 (.ofNat 0)), (.int .i64 (.ofNat 0)), (.int .i64 (.ofNat 0)), (.int .i64 (.ofNat 0))])) H fun x4 H => 
  bV (ldNp 2 x3 H) fun x5 => 
  bV (ld1p x1 H) fun x6 => 
  bC (f46 D n [x5, x6] H) (fun x H => some (.ret (.pan x), H)) fun x7 H => 
  bV (ld1p x2 H) fun x8 => 
  bC (f47 D n [x8] H) (fun x H => some (.ret (.pan x), H)) fun x9 H => 
  bV (ldNp 2 x3 H) fun x10 => 
  bV (ldNp 2 x3 H) fun x11 => 
  bV (ld1p x1 H) fun x12 => 
  bV (ld1p x2 H) fun x13 => 
  bR (noPan (f48 D n [x11, x12, x13] H)) fun x14 H => chk (ldNp 2 x3 H) x10 <| 
  bR (noPan (f34 D n [x10, x14] H)) fun x15 H => 
  bR (stNp 8 x4 x15 H) fun x9999 H => 
  bV (ldNp 8 x4 H) fun x9004 => some (.ret x9004, H))
def h45 : Hint := (.s .o (.s .pc (.s .pc (.s .o .o))))
theorem f45_eq (D : Dyn) (n : Nat) : f45 D n = funKp (s45 D n) D n 45 Tryz.f45 h45 := by kernel_rfl
theorem f45_ok {D : Dyn} (hD : DP D) (n : Nat) : FP 45 (f45 D n) := fun_okP X_ok hD (SP.cons (f46_ok hD n) (SP.cons (f47_ok hD n) (SP.cons (f48_ok hD n) (SP.cons (f34_ok hD n) (SP.nil))))) Tryz.func45 (by kernel_rfl) (by kernel_rfl) (f45_eq D n)

def s9 (D : Dyn) (n : Nat) : Tb := ⟨X, [(32, f32 D n)]⟩
/-- jetty/objs.Lookup -/
def f9 (D : Dyn) (n : Nat) (vs : List AV) (H : AH) : Option (AV × AH) :=
  outR (hd vs fun x0 vs => hd vs fun x1 vs => hd vs fun x2 vs => nl vs <|
  bA (bxV 3 x1) H fun x4 H => 
  bA (bxV 9 x2) H fun x5 H => 
  bA (bxV 23 (.agg [(.int .u8 (.ofNat 0)), (.int .i64 (.ofNat 0)), (.int .i64 (.ofNat 0)), (.int .i64 (.ofNat 0)), (.int .i64 (.ofNat 0)), (.int .i64 (.ofNat 0)), (.int .i64 (.ofNat 0)), (.int .i64 (.ofNat 0))])) H fun x6 H => 
  bR (noPan (f32 D n [x0, (.func 45 [] [x4, x5])] H)) fun x10 H => 
  bV (pExtract x10 0) fun x11 => 
  bV (pExtract x10 1) fun x12 => 
  bR (stNp 8 x6 x11 H) fun x9999 H => 
  bV (ldNp 8 x6 H) fun x9006 => bV (some x12) fun x7 => some (.ret (.tuple [x9006, x7]), H))
def h9 : Hint := (.s .o (.s .o .o))
theorem f9_eq (D : Dyn) (n : Nat) : f9 D n = funKp (s9 D n) D n 9 Tryz.f9 h9 := by kernel_rfl
theorem f9_ok {D : Dyn} (hD : DP D) (n : Nat) : FP 9 (f9 D n) := fun_okP X_ok hD (SP.cons (f32_ok hD n) (SP.nil)) Tryz.func9 (by kernel_rfl) (by kernel_rfl) (f9_eq D n)

def s49 (D : Dyn) (n : Nat) : Tb := ⟨X, [(111, f111 D n), (105, f105 D n)]⟩
/-- jetty/objs.change[jetty/api.Attr] -/
def f49 (D : Dyn) (n : Nat) (vs : List AV) (H : AH) : Option (AV × AH) :=
  outR (hd vs fun x0 vs => hd vs fun x1 vs => hd vs fun x2 vs => nl vs <|
  bA (bxV 23 (.agg [(.int .u8 (.ofNat 0)), (.int .i64 (.ofNat 0)), (.int .i64 (.ofNat 0)), (.int .i64 (.ofNat 0)), (.int .i64 (.ofNat 0)), (.int .i64 (.ofNat 0)), (.int .i64 (.ofNat 0)), (.int .i64 (.ofNat 0))])) H fun x6 H => 
  bA (bxV 23 (.agg [(.int .u8 (.ofNat 0)), (.int .i64 (.ofNat 0)), (.int .i64 (.ofNat 0)), (.int .i64 (.ofNat 0)), (.int .i64 (.ofNat 0)), (.int .i64 (.ofNat 0)), (.int .i64 (.ofNat 0)), (.int .i64 (.ofNat 0))])) H fun x8 H => 
  bV (cmpO .eql (eqP x0 .nilPtr)) fun x13 => 
  cnd x13 (bV (ldNp 8 x8 H) fun x14 => 
  bR (stNp 8 x6 x14 H) fun x9999 H => 
  bV (ldNp 8 x6 H) fun x9006 => bV (some (.int .i64 (.ofNat 2))) fun x7 => some (.ret (.tuple [x9006, x7]), H))
  (bV (bInt .lss x1 (.int .i64 (.ofNat 0))) fun x16 => 
  jn (wnt x16 false (bV (bInt .gtr x1 (.int .i64 (.ofNat 2147483647))) fun x19 => 
  some (.norm [x19], H)) (some (.norm [undefA], H))) fun vs H => hd vs fun x19_2 vs => 
  bV (pk3 (some x16) (some (.bool true)) (some x19_2)) fun x20 => 
  cnd x20 (bV (ldNp 8 x8 H) fun x21 => 
  bR (stNp 8 x6 x21 H) fun x9999_2 H => 
  bV (ldNp 8 x6 H) fun x9006_2 => bV (some (.int .i64 (.ofNat 1))) fun x7_2 => some (.ret (.tuple [x9006_2, x7_2]), H))
  (bR (noPan (f111 D n [x0] H)) fun x23 H => 
  bR (noPan (f105 D n [x23, x1, x2] H)) fun x28 H => 
  bV (pExtract x28 0) fun x29 => 
  bV (pExtract x28 1) fun x30 => 
  bA (bxV 23 (.agg [(.int .u8 (.ofNat 0)), (.int .i64 (.ofNat 0)), (.int .i64 (.ofNat 0)), (.int .i64 (.ofNat 0)), (.int .i64 (.ofNat 0)), (.int .i64 (.ofNat 0)), (.int .i64 (.ofNat 0)), (.int .i64 (.ofNat 0))])) H fun x10 H => 
  bR (stNp 8 x10 x29 H) fun x9999_3 H => 
  bV (bInt .neq x30 (.int .i64 (.ofNat 0))) fun x32 => 
  cnd x32 (bV (ldNp 8 x8 H) fun x33 => 
  bR (stNp 8 x6 x33 H) fun x9999_4 H => 
  bV (ldNp 8 x6 H) fun x9006_3 => bV (some x30) fun x7_3 => some (.ret (.tuple [x9006_3, x7_3]), H))
  (bV (pNil x23) fun x37 => 
  bV (ldNp 8 x37 H) fun x38 => 
  bV (pNil x0) fun x39 => 
  bR (stNp 8 x39 x38 H) fun x9999_5 H => 
  bV (ldNp 8 x10 H) fun x40 => 
  bR (stNp 8 x6 x40 H) fun x9999_6 H => 
  bV (ldNp 8 x6 H) fun x9006_4 => bV (some (.int .i64 (.ofNat 0))) fun x7_4 => some (.ret (.tuple [x9006_4, x7_4]), H)))))
def h49 : Hint := (.s .o (.s .o (.s (.s .o (.cl (.s .o .o) .o)) (.s (.s .o (.cl (.s .o .o) .o)) (.s .o (.s .o (.s (.s .o (.cl (.s .o .o) .o)) (.s .o (.s .o .o)))))))))
theorem f49_eq (D : Dyn) (n : Nat) : f49 D n = funKp (s49 D n) D n 49 Tryz.f49 h49 := by kernel_rfl
theorem f49_ok {D : Dyn} (hD : DP D) (n : Nat) : FP 49 (f49 D n) := fun_okP X_ok hD (SP.cons (f111_ok hD n) (SP.cons (f105_ok hD n) (SP.nil))) Tryz.func49 (by kernel_rfl) (by kernel_rfl) (f49_eq D n)

def s51 (D : Dyn) (n : Nat) : Tb := ⟨X, [(47, f47 D n), (66, f66 D n), (38, f38 D n)]⟩
def f51j0 (D : Dyn) (n : Nat) (vs : List AV) (H : AH) : Rs :=
  
  some (.ret (.tuple []), H)
/-- (jetty/objs.work).unused -/
def f51 (D : Dyn) (n : Nat) (vs : List AV) (H : AH) : Option (AV × AH) :=
  outR (hd vs fun x0 vs => hd vs fun x1 vs => hd vs fun x2 vs => nl vs <|
  bA (bxV 73 x0) H fun x3 H => 
  bC (f47 D n [x2] H) (fun x H => some (.ret (.pan x), H)) fun x9 H => 
  bV (ldNp 2 x3 H) fun x11 => 
  bC (f66 D n [x11, x1, x2] H) (fun x H => some (.ret (.pan x), H)) fun x14 H => 
  bV (pExtract x14 0) fun x15 => 
  bV (pExtract x14 1) fun x16 => 
  jn (cnd x16 (bC (f38 D n [(.int .i64 (.ofNat 6))] H) (fun x H => some (.ret (.pan x), H)) fun x18 H => 
  some (.norm [], H))
  (some (.norm [], H))) (f51j0 D n))
def h51 : Hint := (.s .o (.s .pc (.s .pc (.s .o (.c [] .pc .o)))))
theorem f51_eq (D : Dyn) (n : Nat) : f51 D n = funKp (s51 D n) D n 51 Tryz.f51 h51 := by kernel_rfl
theorem f51_ok {D : Dyn} (hD : DP D) (n : Nat) : FP 51 (f51 D n) := fun_okP X_ok hD (SP.cons (f47_ok hD n) (SP.cons (f66_ok hD n) (SP.cons (f38_ok hD n) (SP.nil)))) Tryz.func51 (by kernel_rfl) (by kernel_rfl) (f51_eq D n)

def s53 (D : Dyn) (n : Nat) : Tb := ⟨X, [(106, f106 D n), (115, f115 D n), (54, f54 D n)]⟩
def f53j0 (D : Dyn) (n : Nat) (vs : List AV) (H : AH) : Rs :=
  hd vs fun x1_4 vs => hd vs fun x3_3 vs => hd vs fun x5_2 vs => hd vs fun x6_2 vs => hd vs fun x24_2 vs => hd vs fun x25_3 vs => hd vs fun x26_2 vs => 
  bV (bInt .add x26_2 (.int .i64 (.ofNat 1))) fun x45 => 
  some (.norm [x1_4, x3_3, x5_2, x6_2, x24_2, x25_3, x45], H)
def f53l1 (D : Dyn) (n : Nat) (vs : List AV) (H : AH) : Rs :=
  hd vs fun x1_3 vs => hd vs fun x3_2 vs => hd vs fun x5 vs => hd vs fun x6 vs => hd vs fun x24 vs => hd vs fun x25_2 vs => hd vs fun x26 vs => 
  bV (bInt .lss x26 x25_2) fun x27 => 
  cnd x27 (bV (ixSl 2 x24 x26) fun x28 => 
  bV (ldNp 2 x28 H) fun x29 => 
  bA (bxV 182 (.agg [(.str 0 0), (.str 0 0)])) H fun x9 H => 
  bR (stNp 2 x9 x29 H) fun x9999 H => 
  bR (noPan (f106 D n [x3_2] H)) fun x31 H => 
  bV (fAd 0 x9) fun x32 => 
  bV (ld1p x32 H) fun x33 => 
  bV (bStr .eql x33 x31) fun x35 => 
  jn (cnd x35 (bV (bInt .add x3_2 (.int .i64 (.ofNat 1))) fun x37 => 
  some (.norm [x1_3, x37, x5, x6, x24, x25_2, x26], H))
  (bV (fAd 0 x9) fun x38 => 
  bV (ld1p x38 H) fun x39 => 
  bV (lnStr x39) fun x40 => 
  bV (lnStr x31) fun x42 => 
  bV (bInt .eql x40 x42) fun x43 => 
  cnd x43 (bV (some x3_2) fun x2 => some (.ret x2, H))
  (some (.norm [x1_3, x3_2, x5, x6, x24, x25_2, x26], H)))) (f53j0 D n))
  (some (.exit 2 [x1_3, x3_2, x5, x6], H))
def f53b2 (D : Dyn) (n : Nat) (vs : List AV) (H : AH) : Rs :=
  hd vs fun x1_5 vs => hd vs fun x3_4 vs => hd vs fun x5_3 vs => hd vs fun x6_3 vs => 
  bV (aun .not x6_3) fun x47 => 
  jn (wnt x47 false (bV (lnSl x5_3) fun x50 => 
  bV (bInt .eql x50 (.int .i64 (.ofNat 0))) fun x51 => 
  some (.norm [x51], H)) (some (.norm [undefA], H))) fun vs H => hd vs fun x51_2 vs => 
  bV (pk3 (some x47) (some (.bool true)) (some x51_2)) fun x52 => 
  cnd x52 (bV (some x3_4) fun x2_2 => some (.ret x2_2, H))
  (bV (lnSl x5_3) fun x56 => 
  bV (bInt .sub x56 (.int .i64 (.ofNat 1))) fun x57 => 
  bV (ixSl 2 x5_3 x57) fun x58 => 
  bV (fAd 0 x58) fun x59 => 
  bV (ld1p x59 H) fun x60 => 
  bV (bStr .add x60 (.str 1 0)) fun x61 => 
  some (.norm [x1_5, x3_4, x61], H))
def f53l3 (D : Dyn) (n : Nat) (vs : List AV) (H : AH) : Rs :=
  hd vs fun x1_2 vs => hd vs fun x3 vs => hd vs fun x4 vs => 
  bV (fAd 0 x1_2) fun x14 => 
  bV (ld1p x14 H) fun x15 => 
  bR (noPan (f106 D n [(.int .i64 (.ofNat 2147483647))] H)) fun x17 H => chk (ld1p x14 H) x15 <| 
  bR (noPan (f115 D n [x15, x4, x17, (.int .i64 (.ofNat 64))] H)) fun x18 H => 
  bV (pExtract x18 0) fun x19 => 
  bV (pExtract x18 1) fun x20 => 
  bV (pExtract x18 2) fun x21 => 
  bC (f54 D n [x21] H) (fun x H => some (.ret (.pan x), H)) fun x23 H => 
  bV (lnSl x19) fun x25 => 
  jb 2 (loopK n (f53l1 D n) [x1_2, x3, x19, x20, x19, x25, (.int .i64 (.ofNat 0))] H) (f53b2 D n)
/-- (jetty/objs.work).next -/
def f53 (D : Dyn) (n : Nat) (vs : List AV) (H : AH) : Option (AV × AH) :=
  outR (hd vs fun x0 vs => nl vs <|
  bA (bxV 73 x0) H fun x1 H => 
  bR (noPan (f106 D n [(.int .i64 (.ofNat 2))] H)) fun x12 H => 
  loopK n (f53l3 D n) [x1, (.int .i64 (.ofNat 2)), x12] H)
def h53 : Hint := (.s .o (.s .o (.s .o (.b0 (.l [1, 3, 4] (.b0 (.s .o (.s .pc (.s (.s .o (.b [1, 3, 5, 6] (.l [1, 3, 5, 6, 24, 25, 26] (.s .o (.s (.cr .o .o) (.s (.b0 (.s .o (.s .o (.s .o (.c [1, 3, 5, 6, 24, 25, 26] .o (.s .o (.cl (.s .o .o) .o))))))) .o)))))) (.s (.s .o (.cl (.s .o .o) .o)) .o))))))))))
theorem f53_eq (D : Dyn) (n : Nat) : f53 D n = funKp (s53 D n) D n 53 Tryz.f53 h53 := by kernel_rfl
theorem f53_ok {D : Dyn} (hD : DP D) (n : Nat) : FP 53 (f53 D n) := fun_okP X_ok hD (SP.cons (f106_ok hD n) (SP.cons (f115_ok hD n) (SP.cons (f54_ok hD n) (SP.nil)))) Tryz.func53 (by kernel_rfl) (by kernel_rfl) (f53_eq D n)

def s52 (D : Dyn) (n : Nat) : Tb := ⟨X, [(84, f84 D n)]⟩
def f52j0 (D : Dyn) (n : Nat) (vs : List AV) (H : AH) : Rs :=
  hd vs fun x10_2 vs => hd vs fun x12_2 vs => 
  bV (ldNp 8 x12_2 H) fun x23 => 
  bR (noPan (f84 D n [x23] H)) fun x24 H => 
  bV (aun .not x24) fun x25 => 
  cnd x25 (bV (bldSp [(0, 1), (1, 1), (2, 1), (3, 1), (4, 1), (5, 1), (6, 1), (7, 1)] [(.int .u8 (.ofNat 0)), (.int .i64 (.ofNat 0)), (.int .i64 (.ofNat 0)), (.int .i64 (.ofNat 0)), (.int .i64 (.ofNat 0)), (.int .i64 (.ofNat 0)), (.int .i64 (.ofNat 0)), (.int .i64 (.ofNat 0))] []) fun x26 => 
  bR (stNp 8 x10_2 x26 H) fun x9999_3 H => 
  bV (ldNp 8 x10_2 H) fun x9010 => bV (some (.int .i64 (.ofNat 1))) fun x11 => some (.ret (.tuple [x9010, x11]), H))
  (bV (ldNp 8 x12_2 H) fun x27 => 
  bR (stNp 8 x10_2 x27 H) fun x9999_4 H => 
  bV (ldNp 8 x10_2 H) fun x9010_2 => bV (some (.int .i64 (.ofNat 0))) fun x11_2 => some (.ret (.tuple [x9010_2, x11_2]), H))
/-- jetty/inode.New -/
def f52 (D : Dyn) (n : Nat) (vs : List AV) (H : AH) : Option (AV × AH) :=
  outR (hd vs fun x0 vs => hd vs fun x1 vs => hd vs fun x2 vs => hd vs fun x3 vs => hd vs fun x4 vs => nl vs <|
  bA (bxV 23 (.agg [(.int .u8 (.ofNat 0)), (.int .i64 (.ofNat 0)), (.int .i64 (.ofNat 0)), (.int .i64 (.ofNat 0)), (.int .i64 (.ofNat 0)), (.int .i64 (.ofNat 0)), (.int .i64 (.ofNat 0)), (.int .i64 (.ofNat 0))])) H fun x10 H => 
  bV (bldSp [(0, 1), (1, 1), (2, 1), (3, 1), (4, 1), (5, 1), (6, 1), (7, 1)] [(.int .u8 (.ofNat 0)), (.int .i64 (.ofNat 0)), (.int .i64 (.ofNat 0)), (.int .i64 (.ofNat 0)), (.int .i64 (.ofNat 0)), (.int .i64 (.ofNat 0)), (.int .i64 (.ofNat 0)), (.int .i64 (.ofNat 0))] [(0, x0), (1, x1), (2, (.int .i64 (.ofNat 1))), (4, x4), (5, x4), (6, x2), (7, x3)]) fun x19 => 
  bA (bxV 23 (.agg [(.int .u8 (.ofNat 0)), (.int .i64 (.ofNat 0)), (.int .i64 (.ofNat 0)), (.int .i64 (.ofNat 0)), (.int .i64 (.ofNat 0)), (.int .i64 (.ofNat 0)), (.int .i64 (.ofNat 0)), (.int .i64 (.ofNat 0))])) H fun x12 H => 
  bR (stNp 8 x12 x19 H) fun x9999 H => 
  bV (bInt .eql x0 (.int .u8 (.ofNat 2))) fun x21 => 
  jn (cnd x21 (bV (fAd 2 x12) fun x22 => 
  bR (stNp 1 x22 (.int .i64 (.ofNat 2)) H) fun x9999_2 H => 
  some (.norm [x10, x12], H))
  (some (.norm [x10, x12], H))) (f52j0 D n))
def h52 : Hint := (.s .o (.s .o (.s (.s .o (.c [10, 12] .o .o)) (.s (.s .o (.cl (.s .o .o) .o)) (.s .o .o)))))
theorem f52_eq (D : Dyn) (n : Nat) : f52 D n = funKp (s52 D n) D n 52 Tryz.f52 h52 := by kernel_rfl
theorem f52_ok {D : Dyn} (hD : DP D) (n : Nat) : FP 52 (f52 D n) := fun_okP X_ok hD (SP.cons (f84_ok hD n) (SP.nil)) Tryz.func52 (by kernel_rfl) (by kernel_rfl) (f52_eq D n)

def s116 (D : Dyn) (n : Nat) : Tb := ⟨X, [(84, f84 D n), (139, f139 D n), (175, f175 D n)]⟩
def f116l0 (D : Dyn) (n : Nat) (vs : List AV) (H : AH) : Rs :=
  hd vs fun x4 vs => hd vs fun x13_2 vs => hd vs fun x14 vs => 
  bV (bInt .lss x14 (.int .i64 (.ofNat 7))) fun x15 => 
  cnd x15 (bV (ixAg1p 7 1 x13_2 x14) fun x16 => 
  bV (pNil x16) fun x19 => 
  bV (ld1p x19 H) fun x20 => 
  bR (noPan (f175 D n [x4, x20] H)) fun x21 H => 
  bV (bInt .add x14 (.int .i64 (.ofNat 1))) fun x22 => 
  some (.norm [x21, x13_2, x22], H))
  (some (.exit 0 [x4], H))
def f116b1 (D : Dyn) (n : Nat) (vs : List AV) (H : AH) : Rs :=
  hd vs fun x4_2 vs => 
  bV (cvBSp x4_2 H) fun x24 => 
  bV (some x24) fun x2_2 => bV (some (.int .i64 (.ofNat 0))) fun x3_2 => some (.ret (.tuple [x2_2, x3_2]), H)
/-- jetty/inode.Encode -/
def f116 (D : Dyn) (n : Nat) (vs : List AV) (H : AH) : Option (AV × AH) :=
  outR (hd vs fun x0 vs => nl vs <|
  bA (bxV 23 x0) H fun x1 H => 
  bV (ldNp 8 x1 H) fun x7 => 
  bR (noPan (f84 D n [x7] H)) fun x8 H => 
  bV (aun .not x8) fun x9 => 
  cnd x9 (bV (some (.str 0 0)) fun x2 => bV (some (.int .i64 (.ofNat 4))) fun x3 => some (.ret (.tuple [x2, x3]), H))
  (bV (fAd 0 x1) fun x10 => 
  bV (ld1p x10 H) fun x11 => 
  bA (bldLp 5 1 1 [(.int .u8 (.ofNat 0))] [(0, x11)]) H fun x12 H => 
  bR (noPan (f139 D n [x1] H)) fun x13 H => 
  jb 0 (loopK n (f116l0 D n) [x12, x13, (.int .i64 (.ofNat 0))] H) (f116b1 D n)))
def h116 : Hint := (.s .o (.s (.s .o (.cl (.s .o .o) .o)) (.s .o (.s (.s .o (.b [4] (.l [4, 13, 14] (.s .o (.s (.cr .o .o) (.s (.b0 (.s .o .o)) .o)))))) (.s .o .o)))))
theorem f116_eq (D : Dyn) (n : Nat) : f116 D n = funKp (s116 D n) D n 116 Tryz.f116 h116 := by kernel_rfl
theorem f116_ok {D : Dyn} (hD : DP D) (n : Nat) : FP 116 (f116 D n) := fun_okP X_ok hD (SP.cons (f84_ok hD n) (SP.cons (f139_ok hD n) (SP.cons (f175_ok hD n) (SP.nil)))) Tryz.func116 (by kernel_rfl) (by kernel_rfl) (f116_eq D n)

def s55 (D : Dyn) (n : Nat) : Tb := ⟨X, [(116, f116 D n), (54, f54 D n), (106, f106 D n), (56, f56 D n)]⟩
/-- (jetty/objs.work).store -/
def f55 (D : Dyn) (n : Nat) (vs : List AV) (H : AH) : Option (AV × AH) :=
  outR (hd vs fun x0 vs => hd vs fun x1 vs => nl vs <|
  bA (bxV 73 x0) H fun x2 H => 
  bA (bxV 23 x1) H fun x3 H => 
  bV (ldNp 8 x3 H) fun x7 => 
  bR (noPan (f116 D n [x7] H)) fun x8 H => 
  bV (pExtract x8 0) fun x9 => 
  bV (pExtract x8 1) fun x10 => 
  bC (f54 D n [x10] H) (fun x H => some (.ret (.pan x), H)) fun x12 H => 
  bV (ldNp 2 x2 H) fun x13 => 
  bV (fAd 6 x3) fun x14 => 
  bV (ld1p x14 H) fun x15 => 
  bR (noPan (f106 D n [x15] H)) fun x16 H => chk (ldNp 2 x2 H) x13 <| 
  bR (noPan (f56 D n [x13, x16, x9] H)) fun x18 H => 
  some (.ret (.tuple []), H))
def h55 : Hint := (.s .o (.s .o (.s .pc .o)))
theorem f55_eq (D : Dyn) (n : Nat) : f55 D n = funKp (s55 D n) D n 55 Tryz.f55 h55 := by kernel_rfl
theorem f55_ok {D : Dyn} (hD : DP D) (n : Nat) : FP 55 (f55 D n) := fun_okP X_ok hD (SP.cons (f116_ok hD n) (SP.cons (f54_ok hD n) (SP.cons (f106_ok hD n) (SP.cons (f56_ok hD n) (SP.nil))))) Tryz.func55 (by kernel_rfl) (by kernel_rfl) (f55_eq D n)

def s57 (D : Dyn) (n : Nat) : Tb := ⟨X, []⟩
/-- jetty/objs.number -/
def f57 (D : Dyn) (n : Nat) (vs : List AV) (H : AH) : Option (AV × AH) :=
  outR (hd vs fun x0 vs => nl vs <|
  bV (bInt .shr x0 (.int .u64 (.ofNat 24))) fun x4 => 
  bV (cvI .u8 x4) fun x5 => 
  bV (bInt .shr x0 (.int .u64 (.ofNat 16))) fun x7 => 
  bV (cvI .u8 x7) fun x8 => 
  bV (bInt .shr x0 (.int .u64 (.ofNat 8))) fun x10 => 
  bV (cvI .u8 x10) fun x11 => 
  bV (cvI .u8 x0) fun x13 => 
  bA (bldLp 5 1 4 [(.int .u8 (.ofNat 0))] [(0, x5), (1, x8), (2, x11), (3, x13)]) H fun x14 H => 
  bV (cvBSp x14 H) fun x15 => 
  bV (some x15) fun x2 => some (.ret x2, H))
def h57 : Hint := (.s .o (.s .o .o))
theorem f57_eq (D : Dyn) (n : Nat) : f57 D n = funKp (s57 D n) D n 57 Tryz.f57 h57 := by kernel_rfl
theorem f57_ok {D : Dyn} (hD : DP D) (n : Nat) : FP 57 (f57 D n) := fun_okP X_ok hD (SP.nil) Tryz.func57 (by kernel_rfl) (by kernel_rfl) (f57_eq D n)

def s194 (D : Dyn) (n : Nat) : Tb := ⟨X, []⟩
/-- jetty/dir.Add$1 -/
def f194 (D : Dyn) (n : Nat) (vs : List AV) (H : AH) : Option (AV × AH) :=
  outR (hd vs fun x0 vs => hd vs fun x1 vs => hd vs fun x2 vs => hd vs fun x3 vs => nl vs <|
  bA (bxV 288 x0) H fun x4 H => 
  bV (fAd 0 x4) fun x6 => 
  bV (fAd 2 x6) fun x7 => 
  bV (ld1p x7 H) fun x8 => 
  bV (bInt .sub x8 (.int .i64 (.ofNat 1))) fun x9 => 
  bV (bInt .rem x9 (.int .i64 (.ofNat 256))) fun x10 => 
  bV (ixArr 256 1 x1 x10) fun x11 => 
  bR (stNp 1 x11 (.bool true) H) fun x9999 H => 
  bV (ld1p x2 H) fun x12 => 
  jn (wnt x12 false (bV (fAd 4 x4) fun x14 => 
  bV (ld1p x14 H) fun x15 => 
  some (.norm [x15], H)) (some (.norm [undefA], H))) fun vs H => hd vs fun x16 vs => 
  jn (wnt x16 true (bV (fAd 0 x4) fun x17 => 
  bV (fAd 0 x17) fun x18 => 
  bV (ld1p x18 H) fun x19 => 
  bV (ld1p x3 H) fun x20 => 
  bV (bStr .eql x19 x20) fun x21 => 
  some (.norm [x21], H)) (some (.norm [undefA], H))) fun vs H => hd vs fun x21_2 vs => 
  jn (wnt x12 false (bV (pk3 (some x16) (some x21_2) (some (.bool false))) fun x22 => 
  some (.norm [x22], H)) (some (.norm [undefA], H))) fun vs H => hd vs fun x22_2 vs => 
  bV (pk3 (some x12) (some (.bool true)) (some x22_2)) fun x23 => 
  bR (stNp 1 x2 x23 H) fun x9999_2 H => 
  bV (ld1p x2 H) fun x24 => 
  bV (aun .not x24) fun x25 => 
  bV (some x25) fun x5 => some (.ret x5, H))
def h194 : Hint := (.s .o (.s .o (.s .o (.s .o .o))))
theorem f194_eq (D : Dyn) (n : Nat) : f194 D n = funKp (s194 D n) D n 194 Tryz.f194 h194 := by kernel_rfl
theorem f194_ok {D : Dyn} (hD : DP D) (n : Nat) : FP 194 (f194 D n) := fun_okP X_ok hD (SP.nil) Tryz.func194 (by kernel_rfl) (by kernel_rfl) (f194_eq D n)

def s118 (D : Dyn) (n : Nat) : Tb := ⟨X, [(190, f190 D n), (191, f191 D n), (192, f192 D n), (193, f193 D n), (195, f195 D n), (196, f196 D n), (117, f117 D n)]⟩
def f118l0 (D : Dyn) (n : Nat) (vs : List AV) (H : AH) : Rs :=
  hd vs fun x0_2 vs => hd vs fun x1_2 vs => hd vs fun x3_2 vs => hd vs fun x6_2 vs => hd vs fun x10_2 vs => hd vs fun x12 vs => hd vs fun x14 vs => 
  bV (bInt .lss x14 (.int .i64 (.ofNat 256))) fun x42 => 
  jn (wnt x42 true (bV (ixArr 256 1 x10_2 x14) fun x45 => 
  bV (ld1p x45 H) fun x46 => 
  some (.norm [x46], H)) (some (.norm [undefA], H))) fun vs H => hd vs fun x46_2 vs => 
  bV (pk3 (some x42) (some x46_2) (some (.bool false))) fun x47 => 
  cnd x47 (bV (bInt .add x14 (.int .i64 (.ofNat 1))) fun x49 => 
  some (.norm [x0_2, x1_2, x3_2, x6_2, x10_2, x12, x49], H))
  (some (.exit 0 [x0_2, x1_2, x3_2, x6_2, x12, x14], H))
def f118b1 (D : Dyn) (n : Nat) (vs : List AV) (H : AH) : Rs :=
  hd vs fun x0_3 vs => hd vs fun x1_3 vs => hd vs fun x3_3 vs => hd vs fun x6_3 vs => hd vs fun x12_2 vs => hd vs fun x14_2 vs => 
  bV (bInt .eql x14_2 (.int .i64 (.ofNat 256))) fun x51 => 
  cnd x51 (bV (some (.int .i64 (.ofNat 0))) fun x8_6 => bV (some (.int .i64 (.ofNat 3))) fun x9_6 => some (.ret (.tuple [x8_6, x9_6]), H))
  (bV (bInt .mul x12_2 (.int .i64 (.ofNat 256))) fun x53 => 
  bV (bInt .add x53 x14_2) fun x55 => 
  bV (bInt .add x55 (.int .i64 (.ofNat 1))) fun x56 => 
  bV (ld1p x6_3 H) fun x63 => 
  bR (noPan (f195 D n [x1_3, x56] H)) fun x60 H => chk (ld1p x6_3 H) x63 <| 
  bR (noPan (f196 D n [x3_3] H)) fun x62 H => chk (ld1p x6_3 H) x63 <| 
  bV (bStr .add x62 x63) fun x64 => 
  bR (noPan (f117 D n [x0_3, x60, x64] H)) fun x65 H => 
  bV (bInt .neq x65 (.int .i64 (.ofNat 0))) fun x67 => 
  cnd x67 (bV (some (.int .i64 (.ofNat 0))) fun x8_7 => bV (some x65) fun x9_7 => some (.ret (.tuple [x8_7, x9_7]), H))
  (bV (some x56) fun x8_8 => bV (some (.int .i64 (.ofNat 0))) fun x9_8 => some (.ret (.tuple [x8_8, x9_8]), H)))
/-- jetty/dir.Add -/
def f118 (D : Dyn) (n : Nat) (vs : List AV) (H : AH) : Option (AV × AH) :=
  outR (hd vs fun x0 vs => hd vs fun x1 vs => hd vs fun x2 vs => hd vs fun x3 vs => nl vs <|
  bA (bxV 9 x2) H fun x6 H => 
  bV (cmpO .eql (eqP x0 .nilPtr)) fun x18 => 
  cnd x18 (bV (some (.int .i64 (.ofNat 0))) fun x8 => bV (some (.int .i64 (.ofNat 2))) fun x9 => some (.ret (.tuple [x8, x9]), H))
  (bR (noPan (f190 D n [x1] H)) fun x20 H => 
  bV (aun .not x20) fun x21 => 
  jn (wnt x21 false (bR (noPan (f190 D n [x3] H)) fun x24 H => 
  bV (aun .not x24) fun x25 => 
  some (.norm [x25], H)) (some (.norm [undefA], H))) fun vs H => hd vs fun x25_2 vs => 
  bV (pk3 (some x21) (some (.bool true)) (some x25_2)) fun x26 => 
  cnd x26 (bV (some (.int .i64 (.ofNat 0))) fun x8_2 => bV (some (.int .i64 (.ofNat 1))) fun x9_2 => some (.ret (.tuple [x8_2, x9_2]), H))
  (bV (ld1p x6 H) fun x27 => 
  bR (noPan (f191 D n [x27] H)) fun x28 H => 
  bV (aun .not x28) fun x29 => 
  cnd x29 (bV (some (.int .i64 (.ofNat 0))) fun x8_3 => bV (some (.int .i64 (.ofNat 56))) fun x9_3 => some (.ret (.tuple [x8_3, x9_3]), H))
  (bA (bxV 285 (.agg (rep 256 [(.bool false)]))) H fun x10 H => 
  bA (bxV 4 (.bool false)) H fun x11 H => 
  bR (stNp 1 x11 (.bool false) H) fun x9999 H => 
  bV (ld1p x6 H) fun x30 => 
  bR (noPan (f192 D n [x30] H)) fun x31 H => 
  bR (noPan (f193 D n [x0, x1, x31, (.func 194 [] [x10, x11, x6])] H)) fun x36 H => 
  bV (bInt .neq x36 (.int .i64 (.ofNat 0))) fun x38 => 
  cnd x38 (bV (some (.int .i64 (.ofNat 0))) fun x8_4 => bV (some x36) fun x9_4 => some (.ret (.tuple [x8_4, x9_4]), H))
  (bV (ld1p x11 H) fun x40 => 
  cnd x40 (bV (some (.int .i64 (.ofNat 0))) fun x8_5 => bV (some (.int .i64 (.ofNat 6))) fun x9_5 => some (.ret (.tuple [x8_5, x9_5]), H))
  (jb 0 (loopK n (f118l0 D n) [x0, x1, x3, x6, x10, x31, (.int .i64 (.ofNat 0))] H) (f118b1 D n)))))))
def h118 : Hint := (.s .o (.s (.s .o (.cl (.s .o .o) .o)) (.s (.s .o (.cl (.s .o .o) .o)) (.s (.s .o (.cl (.s .o .o) .o)) (.s .o (.s .o (.s .o (.s .o (.s (.s .o (.cl (.s .o .o) .o)) (.s (.s .o (.cl (.s .o .o) .o)) (.s .o (.s (.b [0, 1, 3, 6, 12, 14] (.l [0, 1, 3, 6, 10, 12, 14] (.s (.s .o (.cr .o .o)) (.b0 .o)))) (.s (.s .o (.cl (.s .o .o) .o)) (.s .o (.s (.s .o (.s .o (.cl (.s .o .o) .o))) (.s .o .o))))))))))))))))
theorem f118_eq (D : Dyn) (n : Nat) : f118 D n = funKp (s118 D n) D n 118 Tryz.f118 h118 := by kernel_rfl
theorem f118_ok {D : Dyn} (hD : DP D) (n : Nat) : FP 118 (f118 D n) := fun_okP X_ok hD (SP.cons (f190_ok hD n) (SP.cons (f191_ok hD n) (SP.cons (f192_ok hD n) (SP.cons (f193_ok hD n) (SP.cons (f195_ok hD n) (SP.cons (f196_ok hD n) (SP.cons (f117_ok hD n) (SP.nil)))))))) Tryz.func118 (by kernel_rfl) (by kernel_rfl) (f118_eq D n)
end Go.Eng.Sh
