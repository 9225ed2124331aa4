/- Shallow functions, by program (gen.py). -/
import Derived.Test.YtnbpjfmfopgomaaGreatDoorRO7
import Derived.Test.YtnbpjfmfopgomaaGreatDoorProg
import Derived.KernelRfl
noncomputable section
namespace Go.Eng.Sh
open Go.Proofs
set_option maxRecDepth 100000
set_option linter.all false
def s73 (D : Dyn) (n : Nat) : Tb := ⟨X, [(127, f127 D n), (130, f130 D n), (131, f131 D n)]⟩
/-- jetty/extent.Read -/
def f73 (D : Dyn) (n : Nat) (vs : List AV) (H : AH) : Option (AV × AH) :=
  outR (hd vs fun x0 vs => hd vs fun x1 vs => hd vs fun x2 vs => hd vs fun x3 vs => hd vs fun x4 vs => nl vs <|
  bA (bxV 46 x0) H fun x5 H => 
  bA (bxV 3 x1) H fun x6 H => 
  bA (bxV 9 (.str 0 0)) H fun x10 H => 
  bA (bxV 24 (.int .i64 (.ofNat 0))) H fun x11 H => 
  bV (ld1p x5 H) fun x17 => 
  bV (cmpO .eql (eqP x17 .nilPtr)) fun x18 => 
  cnd x18 (bR (stNp 1 x10 (.str 0 0) H) fun x9999 H => 
  bR (stNp 1 x11 (.int .i64 (.ofNat 2)) H) fun x9999_2 H => 
  bV (ld1p x10 H) fun x9010 => bV (ld1p x11 H) fun x9011 => some (.ret (.tuple [x9010, x9011]), H))
  (bV (ld1p x6 H) fun x19 => 
  bR (noPan (f127 D n [x19] H)) fun x20 H => 
  bV (aun .not x20) fun x21 => 
  jn (wnt x21 false (bV (bInt .lss x2 (.int .i64 (.ofNat 0))) fun x24 => 
  some (.norm [x24], H)) (some (.norm [undefA], H))) fun vs H => hd vs fun x24_2 vs => 
  bV (pk3 (some x21) (some (.bool true)) (some x24_2)) fun x25 => 
  jn (wnt x25 false (bV (bInt .gtr x2 (.int .i64 (.ofNat 32768))) fun x28 => 
  some (.norm [x28], H)) (some (.norm [undefA], H))) fun vs H => hd vs fun x28_2 vs => 
  bV (pk3 (some x25) (some (.bool true)) (some x28_2)) fun x29 => 
  jn (wnt x29 false (bV (bInt .lss x3 (.int .i64 (.ofNat 0))) fun x32 => 
  some (.norm [x32], H)) (some (.norm [undefA], H))) fun vs H => hd vs fun x32_2 vs => 
  bV (pk3 (some x29) (some (.bool true)) (some x32_2)) fun x33 => 
  jn (wnt x33 false (bV (bInt .lss x4 (.int .i64 (.ofNat 0))) fun x36 => 
  some (.norm [x36], H)) (some (.norm [undefA], H))) fun vs H => hd vs fun x36_2 vs => 
  bV (pk3 (some x33) (some (.bool true)) (some x36_2)) fun x37 => 
  cnd x37 (bR (stNp 1 x10 (.str 0 0) H) fun x9999_3 H => 
  bR (stNp 1 x11 (.int .i64 (.ofNat 1)) H) fun x9999_4 H => 
  bV (ld1p x10 H) fun x9010_2 => bV (ld1p x11 H) fun x9011_2 => some (.ret (.tuple [x9010_2, x9011_2]), H))
  (bV (bInt .geq x3 x2) fun x40 => 
  cnd x40 (bR (stNp 1 x10 (.str 0 0) H) fun x9999_5 H => 
  bR (stNp 1 x11 (.int .i64 (.ofNat 0)) H) fun x9999_6 H => 
  bV (ld1p x10 H) fun x9010_3 => bV (ld1p x11 H) fun x9011_3 => some (.ret (.tuple [x9010_3, x9011_3]), H))
  (bA (bxV 49 .nilSlice) H fun x12 H => 
  bV (bInt .sub x2 x3) fun x45 => 
  bV (mn2 x4 x45) fun x46 => 
  bR (noPan (f130 D n [x3, x46] H)) fun x47 H => 
  newB H (.loop ⟨.ready, none, 73, 0, [5, 6, 10, 11, 12], [x5, x6, x10, x11, x12]⟩) fun A H => bR (rfC (s73 D n).S D x47 A H) fun _ H => endLp A H fun j H => jmpK j (
  bV (ld1p x12 H) fun x68 => 
  bV (cvBSp x68 H) fun x69 => 
  bR (stNp 1 x10 x69 H) fun x9999_7 H => 
  bR (stNp 1 x11 (.int .i64 (.ofNat 0)) H) fun x9999_8 H => 
  bV (ld1p x10 H) fun x9010_5 => bV (ld1p x11 H) fun x9011_5 => some (.ret (.tuple [x9010_5, x9011_5]), H))
  (fun id => none) (bV (ld1p x10 H) fun x9010_4 => bV (ld1p x11 H) fun x9011_4 => some (.ret (.tuple [x9010_4, x9011_4]), H))))))
def h73 : Hint := (.s .o (.s (.s .o (.cl (.s .o .o) .o)) (.s (.s .o (.cl (.s .o .o) .o)) (.s (.s .o (.cl (.s .o .o) .o)) (.s .o (.s (.s .o (.b0 (.rf 0 [5, 6, 10, 11, 12]))) (.s .o .o)))))))
theorem f73_eq (D : Dyn) (n : Nat) : f73 D n = funKp (s73 D n) D n 73 Tryz.f73 h73 := by kernel_rfl
theorem f73_ok {D : Dyn} (hD : DP D) (n : Nat) : FP 73 (f73 D n) := fun_okP X_ok hD (SP.cons (f127_ok hD n) (SP.cons (f130_ok hD n) (SP.cons (f131_ok hD n) (SP.nil)))) Tryz.func73 (by kernel_rfl) (by kernel_rfl) (f73_eq D n)
def r73_0 (D : Dyn) (n : Nat) (A : Nat) (l : ALoop) (az : List AV) (H : AH) : Option (AV × AH) :=
  bif eqNL [5, 6, 10, 11, 12] l.live then endQ A (hd l.vals fun x5 vs => hd vs fun x6 vs => hd vs fun x10 vs => hd vs fun x11 vs => hd vs fun x12 vs => hd az fun x48 az => nl az <|
  bA (bxV 205 (.agg [(.int .i64 (.ofNat 0)), (.int .i64 (.ofNat 0)), (.int .i64 (.ofNat 0))])) H fun x13 H => 
  bR (stNp 3 x13 x48 H) fun x9999 H => 
  beginK A H fun H => 
  bV (ld1p x5 H) fun x50 => 
  bV (ld1p x6 H) fun x51 => 
  bV (fAd 0 x13) fun x52 => 
  bV (ld1p x52 H) fun x53 => 
  bR (noPan (f131 D n [x50, x51, x53] H)) fun x54 H => 
  bV (pExtract x54 0) fun x55 => 
  bV (pExtract x54 1) fun x56 => 
  bV (pExtract x54 2) fun x57 => 
  bA (bxV 206 (.agg [.pk 128 0])) H fun x14 H => 
  bR (stNp 128 x14 x55 H) fun x9999_2 H => 
  bV (bInt .neq x57 (.int .i64 (.ofNat 0))) fun x59 => 
  cnd x59 (bR (stNp 1 x10 (.str 0 0) H) fun x9999_3 H => 
  bR (stNp 1 x11 x57 H) fun x9999_4 H => 
  some (.ret (.tuple []), H))
  (bV (ld1p x12 H) fun x61 => 
  bV (fAd 1 x13) fun x62 => 
  bV (ld1p x62 H) fun x63 => 
  bV (fAd 2 x13) fun x64 => 
  bV (ld1p x64 H) fun x65 => 
  bV (slArr 128 1 x14 (some x63) (some x65) none) fun x66 => 
  bR (apPp 5 1 1 x61 x66 H) fun x67 H => 
  bR (stNp 1 x12 x67 H) fun x9999_5 H => 
  some (.norm [], H))) else none
def r73_0a : Hint := .o
def r73_0b : Hint := (.b0 (.s .o (.s (.s .o (.cl (.s .o .o) .o)) .o)))
theorem r73_0_eq (D : Dyn) (n : Nat) : r73_0 D n = rndKp (s73 D n) D n 73 0 [5, 6, 10, 11, 12] [] r73_0a r73_0b := by kernel_rfl
theorem r73_0_ok {D : Dyn} (hD : DP D) (n : Nat) : RdP 73 0 (r73_0 D n) := round_okP X_ok hD (SP.cons (f127_ok hD n) (SP.cons (f130_ok hD n) (SP.cons (f131_ok hD n) (SP.nil)))) (by kernel_rfl) (r73_0_eq D n)

def s72 (D : Dyn) (n : Nat) : Tb := ⟨X, [(69, f69 D n), (38, f38 D n), (73, f73 D n), (54, f54 D n)]⟩
def f72j0 (D : Dyn) (n : Nat) (vs : List AV) (H : AH) : Rs :=
  hd vs fun x1_2 vs => hd vs fun x2_2 vs => hd vs fun x3_2 vs => hd vs fun x4_2 vs => hd vs fun x5_2 vs => hd vs fun x6_2 vs => 
  bV (fAd 0 x4_2) fun x20 => 
  bV (ld1p x20 H) fun x21 => 
  bV (ld1p x1_2 H) fun x22 => 
  bV (fAd 3 x6_2) fun x23 => 
  bV (ld1p x23 H) fun x24 => 
  bV (ld1p x2_2 H) fun x25 => 
  bV (ld1p x3_2 H) fun x26 => 
  bR (noPan (f73 D n [x21, x22, x24, x25, x26] H)) fun x27 H => 
  bV (pExtract x27 0) fun x28 => 
  bV (pExtract x27 1) fun x29 => 
  bC (f54 D n [x29] H) (fun x H => some (.ret (.pan x), H)) fun x31 H => 
  bV (ld1p x2_2 H) fun x33 => 
  bV (fAd 3 x6_2) fun x34 => 
  bV (ld1p x34 H) fun x35 => 
  bV (bInt .geq x33 x35) fun x36 => 
  jn (wnt x36 false (bV (lnStr x28) fun x39 => 
  bV (fAd 3 x6_2) fun x40 => 
  bV (ld1p x40 H) fun x41 => 
  bV (ld1p x2_2 H) fun x42 => 
  bV (bInt .sub x41 x42) fun x43 => 
  bV (bInt .geq x39 x43) fun x44 => 
  some (.norm [x44], H)) (some (.norm [undefA], H))) fun vs H => hd vs fun x44_2 vs => 
  bV (pk3 (some x36) (some (.bool true)) (some x44_2)) fun x45 => 
  bV (bldSp [(0, 1), (1, 1)] [(.str 0 0), (.bool false)] [(0, x28), (1, x45)]) fun x46 => 
  bR (stNp 2 x5_2 x46 H) fun x9999_2 H => 
  bV (ldNp 2 x5_2 H) fun x9005 => some (.ret x9005, H)
/-- jetty/objs.Read$1 -/
def f72 (D : Dyn) (n : Nat) (vs : List AV) (H : AH) : Option (AV × AH) :=
  outR (hd vs fun x0 vs => hd vs fun x1 vs => hd vs fun x2 vs => hd vs fun x3 vs => nl vs <|
  bA (bxV 73 x0) H fun x4 H => 
  bA (bxV 103 (.agg [(.str 0 0), (.bool false)])) H fun x5 H => 
  bV (ldNp 2 x4 H) fun x9 => 
  bV (ld1p x1 H) fun x10 => 
  bC (f69 D n [x9, x10] H) (fun x H => some (.ret (.pan x), H)) fun x11 H => 
  bA (bxV 23 (.agg [(.int .u8 (.ofNat 0)), (.int .i64 (.ofNat 0)), (.int .i64 (.ofNat 0)), (.int .i64 (.ofNat 0)), (.int .i64 (.ofNat 0)), (.int .i64 (.ofNat 0)), (.int .i64 (.ofNat 0)), (.int .i64 (.ofNat 0))])) H fun x6 H => 
  bR (stNp 8 x6 x11 H) fun x9999 H => 
  bV (ld1p x2 H) fun x12 => 
  bV (bInt .lss x12 (.int .i64 (.ofNat 0))) fun x13 => 
  jn (wnt x13 false (bV (ld1p x3 H) fun x15 => 
  bV (bInt .lss x15 (.int .i64 (.ofNat 0))) fun x16 => 
  some (.norm [x16], H)) (some (.norm [undefA], H))) fun vs H => hd vs fun x16_2 vs => 
  bV (pk3 (some x13) (some (.bool true)) (some x16_2)) fun x17 => 
  jn (cnd x17 (bC (f38 D n [(.int .i64 (.ofNat 1))] H) (fun x H => some (.ret (.pan x), H)) fun x18 H => 
  some (.norm [x1, x2, x3, x4, x5, x6], H))
  (some (.norm [x1, x2, x3, x4, x5, x6], H))) (f72j0 D n))
def h72 : Hint := (.s .o (.s .pc (.s (.s .o (.c [1, 2, 3, 4, 5, 6] .pc .o)) (.s .o (.s .pc (.s .o .o))))))
theorem f72_eq (D : Dyn) (n : Nat) : f72 D n = funKp (s72 D n) D n 72 Tryz.f72 h72 := by kernel_rfl
theorem f72_ok {D : Dyn} (hD : DP D) (n : Nat) : FP 72 (f72 D n) := fun_okP X_ok hD (SP.cons (f69_ok hD n) (SP.cons (f38_ok hD n) (SP.cons (f73_ok hD n) (SP.cons (f54_ok hD n) (SP.nil))))) Tryz.func72 (by kernel_rfl) (by kernel_rfl) (f72_eq D n)

def s15 (D : Dyn) (n : Nat) : Tb := ⟨X, [(71, f71 D n)]⟩
/-- jetty/objs.Read -/
def f15 (D : Dyn) (n : Nat) (vs : List AV) (H : AH) : Option (AV × AH) :=
  outR (hd vs fun x0 vs => hd vs fun x1 vs => hd vs fun x2 vs => hd vs fun x3 vs => nl vs <|
  bA (bxV 3 x1) H fun x5 H => 
  bA (bxV 3 x2) H fun x6 H => 
  bA (bxV 3 x3) H fun x7 H => 
  bR (noPan (f71 D n [x0, (.func 72 [] [x5, x6, x7])] H)) fun x16 H => 
  bV (pExtract x16 0) fun x17 => 
  bV (pExtract x16 1) fun x18 => 
  bA (bxV 103 (.agg [(.str 0 0), (.bool false)])) H fun x11 H => 
  bR (stNp 2 x11 x17 H) fun x9999 H => 
  bV (fAd 0 x11) fun x19 => 
  bV (ld1p x19 H) fun x20 => 
  bV (fAd 1 x11) fun x21 => 
  bV (ld1p x21 H) fun x22 => 
  bV (some x20) fun x8 => bV (some x22) fun x9 => bV (some x18) fun x10 => some (.ret (.tuple [x8, x9, x10]), H))
def h15 : Hint := (.s .o (.s .o (.s .o .o)))
theorem f15_eq (D : Dyn) (n : Nat) : f15 D n = funKp (s15 D n) D n 15 Tryz.f15 h15 := by kernel_rfl
theorem f15_ok {D : Dyn} (hD : DP D) (n : Nat) : FP 15 (f15 D n) := fun_okP X_ok hD (SP.cons (f71_ok hD n) (SP.nil)) Tryz.func15 (by kernel_rfl) (by kernel_rfl) (f15_eq D n)

def s204 (D : Dyn) (n : Nat) : Tb := ⟨X, []⟩
def f204j0 (D : Dyn) (n : Nat) (vs : List AV) (H : AH) : Rs :=
  
  some (.norm [], H)
def f204j1 (D : Dyn) (n : Nat) (vs : List AV) (H : AH) : Rs :=
  
  some (.ret (.tuple []), H)
/-- jetty/objs.run[string]$1 -/
def rc204 (D : Dyn) (n : Nat) (rv : AV) (vs : List AV) (H : AH) : Option (AV × AH) :=
  noPan (outR (hd vs fun x0 vs => hd vs fun x1 vs => nl vs <|
  bV (ifNil .neq rv) fun x8 => 
  jn (cnd x8 (bR (stNp 1 x0 (.str 0 0) H) fun x9999 H => 
  bR (stNp 1 x1 (.int .i64 (.ofNat 4)) H) fun x9999_2 H => 
  bV (asrK 169 (.agg [(.int .i64 (.ofNat 0))]) rv) fun x12 => 
  bV (pExtract x12 0) fun x13 => 
  bV (pExtract x12 1) fun x14 => 
  bA (bxV 169 (.agg [(.int .i64 (.ofNat 0))])) H fun x4 H => 
  bR (stNp 1 x4 x13 H) fun x9999_3 H => 
  jn (cnd x14 (bV (fAd 0 x4) fun x16 => 
  bV (ld1p x16 H) fun x17 => 
  bR (stNp 1 x1 x17 H) fun x9999_4 H => 
  some (.norm [], H))
  (some (.norm [], H))) (f204j0 D n))
  (some (.norm [], H))) (f204j1 D n)))
def h204 : Hint := (.s .pc (.c [] (.s .pc (.s .pc (.s .pc (.s .pc (.c [] .pc .o))))) .o))
theorem rc204_eq (D : Dyn) (n : Nat) : rc204 D n = funRp (s204 D n) D n 204 Tryz.f204 h204 := by kernel_rfl
theorem rc204_ok {D : Dyn} (hD : DP D) (n : Nat) : RcP 204 (rc204 D n) := funR_okP X_ok hD (SP.nil) Tryz.func204 (by kernel_rfl) (by kernel_rfl) (by kernel_rfl) (rc204_eq D n)

def s134 (D : Dyn) (n : Nat) : Tb := ⟨X, []⟩
/-- jetty/objs.run[string] -/
def f134 (D : Dyn) (n : Nat) (vs : List AV) (H : AH) : Option (AV × AH) :=
  noPan (outR (hd vs fun x0 vs => hd vs fun x1 vs => hd vs fun x2 vs => nl vs <|
  bA (bxV 9 (.str 0 0)) H fun x6 H => 
  bA (bxV 24 (.int .i64 (.ofNat 0))) H fun x7 H => 
  bV (bldSp [(0, 1), (1, 1)] [.nilPtr, (.int .i64 (.ofNat 0))] [(0, x0), (1, x1)]) fun x12 => 
  bC (callV (s134 D n).S D x2 [x12] H) (fun x H => bR (rc204 D n x [x6, x7] H) fun _ H => bV (ld1p x6 H) fun x9006_5 => bV (ld1p x7 H) fun x9007_5 => some (.ret (.tuple [x9006_5, x9007_5]), H)) fun x13 H => 
  bR (stNp 1 x6 x13 H) fun x9999 H => 
  bR (stNp 1 x7 (.int .i64 (.ofNat 0)) H) fun x9999_2 H => 
  bR (rc204 D n .nilIface [x6, x7] H) fun _ H => bV (ld1p x6 H) fun x9006_8 => bV (ld1p x7 H) fun x9007_8 => some (.ret (.tuple [x9006_8, x9007_8]), H)))
theorem f134_eq (D : Dyn) (n : Nat) : f134 D n = dfunKp (s134 D n) D Tryz.f134 204 (rc204 D n) := by kernel_rfl
theorem f134_ok {D : Dyn} (hD : DP D) (n : Nat) : FP 134 (f134 D n) := dfun_okP X_ok hD (SP.nil) Tryz.func134 (rc204_ok hD n) (f134_eq D n)

def s74 (D : Dyn) (n : Nat) : Tb := ⟨X, [(134, f134 D n)]⟩
/-- jetty/objs.look[string] -/
def f74 (D : Dyn) (n : Nat) (vs : List AV) (H : AH) : Option (AV × AH) :=
  outR (hd vs fun x0 vs => hd vs fun x1 vs => nl vs <|
  bV (cmpO .eql (eqP x0 .nilPtr)) fun x8 => 
  cnd x8 (bV (some (.str 0 0)) fun x4 => bV (some (.int .i64 (.ofNat 2))) fun x5 => some (.ret (.tuple [x4, x5]), H))
  (bR (noPan (f134 D n [x0, (.int .i64 (.ofNat 0)), x1] H)) fun x12 H => 
  bV (pExtract x12 0) fun x13 => 
  bV (pExtract x12 1) fun x14 => 
  bV (some x13) fun x4_2 => bV (some x14) fun x5_2 => some (.ret (.tuple [x4_2, x5_2]), H)))
def h74 : Hint := (.s .o (.s (.s .o (.cl (.s .o (.s .o .o)) .o)) (.s .o .o)))
theorem f74_eq (D : Dyn) (n : Nat) : f74 D n = funKp (s74 D n) D n 74 Tryz.f74 h74 := by kernel_rfl
theorem f74_ok {D : Dyn} (hD : DP D) (n : Nat) : FP 74 (f74 D n) := fun_okP X_ok hD (SP.cons (f134_ok hD n) (SP.nil)) Tryz.func74 (by kernel_rfl) (by kernel_rfl) (f74_eq D n)

def s75 (D : Dyn) (n : Nat) : Tb := ⟨X, [(34, f34 D n), (38, f38 D n), (57, f57 D n), (76, f76 D n)]⟩
def f75j0 (D : Dyn) (n : Nat) (vs : List AV) (H : AH) : Rs :=
  hd vs fun x4 vs => 
  bV (some x4) fun x3 => some (.ret x3, H)
def f75j1 (D : Dyn) (n : Nat) (vs : List AV) (H : AH) : Rs :=
  hd vs fun x1_2 vs => hd vs fun x2_2 vs => 
  bV (ldNp 2 x2_2 H) fun x13 => 
  bV (ld1p x1_2 H) fun x14 => 
  bR (noPan (f57 D n [x14] H)) fun x15 H => chk (ldNp 2 x2_2 H) x13 <| 
  bV (bStr .add (.str 1 108) x15) fun x16 => 
  bR (noPan (f76 D n [x13, x16] H)) fun x17 H => 
  bV (pExtract x17 0) fun x18 => 
  bV (pExtract x17 1) fun x19 => 
  bV (aun .not x19) fun x21 => 
  jn (cnd x21 (bC (f38 D n [(.int .i64 (.ofNat 4))] H) (fun x H => some (.ret (.pan x), H)) fun x22 H => 
  some (.norm [x18], H))
  (some (.norm [x18], H))) (f75j0 D n)
/-- jetty/objs.Text$1 -/
def f75 (D : Dyn) (n : Nat) (vs : List AV) (H : AH) : Option (AV × AH) :=
  outR (hd vs fun x0 vs => hd vs fun x1 vs => nl vs <|
  bA (bxV 73 x0) H fun x2 H => 
  bV (ldNp 2 x2 H) fun x6 => 
  bV (ld1p x1 H) fun x7 => 
  bC (f34 D n [x6, x7] H) (fun x H => some (.ret (.pan x), H)) fun x8 H => 
  bV (fd1p 0 x8) fun x9 => 
  bV (bInt .neq x9 (.int .u8 (.ofNat 3))) fun x10 => 
  jn (cnd x10 (bC (f38 D n [(.int .i64 (.ofNat 55))] H) (fun x H => some (.ret (.pan x), H)) fun x11 H => 
  some (.norm [x1, x2], H))
  (some (.norm [x1, x2], H))) (f75j1 D n))
def h75 : Hint := (.s .o (.s (.s .pc (.c [1, 2] .pc .o)) (.s .o (.s (.s .o (.c [4] .pc .o)) (.s .o .o)))))
theorem f75_eq (D : Dyn) (n : Nat) : f75 D n = funKp (s75 D n) D n 75 Tryz.f75 h75 := by kernel_rfl
theorem f75_ok {D : Dyn} (hD : DP D) (n : Nat) : FP 75 (f75 D n) := fun_okP X_ok hD (SP.cons (f34_ok hD n) (SP.cons (f38_ok hD n) (SP.cons (f57_ok hD n) (SP.cons (f76_ok hD n) (SP.nil))))) Tryz.func75 (by kernel_rfl) (by kernel_rfl) (f75_eq D n)

def s16 (D : Dyn) (n : Nat) : Tb := ⟨X, [(74, f74 D n)]⟩
/-- jetty/objs.Text -/
def f16 (D : Dyn) (n : Nat) (vs : List AV) (H : AH) : Option (AV × AH) :=
  outR (hd vs fun x0 vs => hd vs fun x1 vs => nl vs <|
  bA (bxV 3 x1) H fun x3 H => 
  bR (noPan (f74 D n [x0, (.func 75 [] [x3])] H)) fun x8 H => 
  bV (pExtract x8 0) fun x9 => 
  bV (pExtract x8 1) fun x10 => 
  bV (some x9) fun x4 => bV (some x10) fun x5 => some (.ret (.tuple [x4, x5]), H))
def h16 : Hint := (.s .o (.s .o .o))
theorem f16_eq (D : Dyn) (n : Nat) : f16 D n = funKp (s16 D n) D n 16 Tryz.f16 h16 := by kernel_rfl
theorem f16_ok {D : Dyn} (hD : DP D) (n : Nat) : FP 16 (f16 D n) := fun_okP X_ok hD (SP.cons (f74_ok hD n) (SP.nil)) Tryz.func16 (by kernel_rfl) (by kernel_rfl) (f16_eq D n)

def s77 (D : Dyn) (n : Nat) : Tb := ⟨X, [(112, f112 D n)]⟩
/-- jetty/objs.look[int] -/
def f77 (D : Dyn) (n : Nat) (vs : List AV) (H : AH) : Option (AV × AH) :=
  outR (hd vs fun x0 vs => hd vs fun x1 vs => nl vs <|
  bV (cmpO .eql (eqP x0 .nilPtr)) fun x8 => 
  cnd x8 (bV (some (.int .i64 (.ofNat 0))) fun x4 => bV (some (.int .i64 (.ofNat 2))) fun x5 => some (.ret (.tuple [x4, x5]), H))
  (bR (noPan (f112 D n [x0, (.int .i64 (.ofNat 0)), x1] H)) fun x12 H => 
  bV (pExtract x12 0) fun x13 => 
  bV (pExtract x12 1) fun x14 => 
  bV (some x13) fun x4_2 => bV (some x14) fun x5_2 => some (.ret (.tuple [x4_2, x5_2]), H)))
def h77 : Hint := (.s .o (.s (.s .o (.cl (.s .o (.s .o .o)) .o)) (.s .o .o)))
theorem f77_eq (D : Dyn) (n : Nat) : f77 D n = funKp (s77 D n) D n 77 Tryz.f77 h77 := by kernel_rfl
theorem f77_ok {D : Dyn} (hD : DP D) (n : Nat) : FP 77 (f77 D n) := fun_okP X_ok hD (SP.cons (f112_ok hD n) (SP.nil)) Tryz.func77 (by kernel_rfl) (by kernel_rfl) (f77_eq D n)

def s78 (D : Dyn) (n : Nat) : Tb := ⟨X, [(46, f46 D n), (79, f79 D n)]⟩
/-- jetty/objs.Parent$1 -/
def f78 (D : Dyn) (n : Nat) (vs : List AV) (H : AH) : Option (AV × AH) :=
  outR (hd vs fun x0 vs => hd vs fun x1 vs => nl vs <|
  bA (bxV 73 x0) H fun x2 H => 
  bV (ldNp 2 x2 H) fun x4 => 
  bV (ld1p x1 H) fun x5 => 
  bC (f46 D n [x4, x5] H) (fun x H => some (.ret (.pan x), H)) fun x6 H => 
  bV (ldNp 2 x2 H) fun x7 => 
  bV (ld1p x1 H) fun x8 => 
  bC (f79 D n [x7, x8] H) (fun x H => some (.ret (.pan x), H)) fun x9 H => 
  bV (some x9) fun x3 => some (.ret x3, H))
def h78 : Hint := (.s .o (.s .pc (.s .pc .o)))
theorem f78_eq (D : Dyn) (n : Nat) : f78 D n = funKp (s78 D n) D n 78 Tryz.f78 h78 := by kernel_rfl
theorem f78_ok {D : Dyn} (hD : DP D) (n : Nat) : FP 78 (f78 D n) := fun_okP X_ok hD (SP.cons (f46_ok hD n) (SP.cons (f79_ok hD n) (SP.nil))) Tryz.func78 (by kernel_rfl) (by kernel_rfl) (f78_eq D n)

def s17 (D : Dyn) (n : Nat) : Tb := ⟨X, [(77, f77 D n)]⟩
/-- jetty/objs.Parent -/
def f17 (D : Dyn) (n : Nat) (vs : List AV) (H : AH) : Option (AV × AH) :=
  outR (hd vs fun x0 vs => hd vs fun x1 vs => nl vs <|
  bA (bxV 3 x1) H fun x3 H => 
  bR (noPan (f77 D n [x0, (.func 78 [] [x3])] H)) fun x8 H => 
  bV (pExtract x8 0) fun x9 => 
  bV (pExtract x8 1) fun x10 => 
  bV (some x9) fun x4 => bV (some x10) fun x5 => some (.ret (.tuple [x4, x5]), H))
def h17 : Hint := (.s .o (.s .o .o))
theorem f17_eq (D : Dyn) (n : Nat) : f17 D n = funKp (s17 D n) D n 17 Tryz.f17 h17 := by kernel_rfl
theorem f17_ok {D : Dyn} (hD : DP D) (n : Nat) : FP 17 (f17 D n) := fun_okP X_ok hD (SP.cons (f77_ok hD n) (SP.nil)) Tryz.func17 (by kernel_rfl) (by kernel_rfl) (f17_eq D n)

def s136 (D : Dyn) (n : Nat) : Tb := ⟨X, []⟩
/-- jetty/disk.with -/
def f136 (D : Dyn) (n : Nat) (vs : List AV) (H : AH) : Option (AV × AH) :=
  outR (hd vs fun x0 vs => hd vs fun x1 vs => nl vs <|
  bA (mkM [6]) H fun x7 H => 
  bV (bldSp [(0, 1), (1, 1), (2, 1), (3, 1), (4, 1), (5, 1), (6, 1)] [(.int .i64 (.ofNat 0)), .nilMap, .nilSlice, .nilMap, (.int .i64 (.ofNat 0)), .nilSlice, (.bool false)] [(0, x0), (1, x1), (3, x7)]) fun x8 => 
  bA (bxV 306 x8) H fun x9 H => 
  bV (some x9) fun x4 => some (.ret x4, H))
def h136 : Hint := (.s .o (.s .o .o))
theorem f136_eq (D : Dyn) (n : Nat) : f136 D n = funKp (s136 D n) D n 136 Tryz.f136 h136 := by kernel_rfl
theorem f136_ok {D : Dyn} (hD : DP D) (n : Nat) : FP 136 (f136 D n) := fun_okP X_ok hD (SP.nil) Tryz.func136 (by kernel_rfl) (by kernel_rfl) (f136_eq D n)

def s80 (D : Dyn) (n : Nat) : Tb := ⟨X, [(136, f136 D n)]⟩
/-- jetty/disk.New -/
def f80 (D : Dyn) (n : Nat) (vs : List AV) (H : AH) : Option (AV × AH) :=
  outR (hd vs fun x0 vs => nl vs <|
  bV (bInt .lss x0 (.int .i64 (.ofNat 64))) fun x5 => 
  jn (wnt x5 false (bV (bInt .gtr x0 (.int .i64 (.ofNat 8192))) fun x8 => 
  some (.norm [x8], H)) (some (.norm [undefA], H))) fun vs H => hd vs fun x8_2 vs => 
  bV (pk3 (some x5) (some (.bool true)) (some x8_2)) fun x9 => 
  cnd x9 (bV (some .nilPtr) fun x2 => bV (some (.int .i64 (.ofNat 1))) fun x3 => some (.ret (.tuple [x2, x3]), H))
  (bA (mkM [6]) H fun x11 H => 
  bR (noPan (f136 D n [x0, x11] H)) fun x12 H => 
  bV (some x12) fun x2_2 => bV (some (.int .i64 (.ofNat 0))) fun x3_2 => some (.ret (.tuple [x2_2, x3_2]), H)))
def h80 : Hint := (.s .o (.s (.s .o (.cl (.s .o .o) .o)) (.s .o .o)))
theorem f80_eq (D : Dyn) (n : Nat) : f80 D n = funKp (s80 D n) D n 80 Tryz.f80 h80 := by kernel_rfl
theorem f80_ok {D : Dyn} (hD : DP D) (n : Nat) : FP 80 (f80 D n) := fun_okP X_ok hD (SP.cons (f136_ok hD n) (SP.nil)) Tryz.func80 (by kernel_rfl) (by kernel_rfl) (f80_eq D n)

def s137 (D : Dyn) (n : Nat) : Tb := ⟨X, [(209, f209 D n), (210, f210 D n)]⟩
/-- jetty/block.Encode -/
def f137 (D : Dyn) (n : Nat) (vs : List AV) (H : AH) : Option (AV × AH) :=
  outR (hd vs fun x0 vs => nl vs <|
  bA (bxV 119 x0) H fun x1 H => 
  bV (ldNp 3 x1 H) fun x5 => 
  bR (noPan (f209 D n [x5] H)) fun x6 H => 
  bV (aun .not x6) fun x7 => 
  cnd x7 (bV (some (.str 0 0)) fun x2 => bV (some (.int .i64 (.ofNat 4))) fun x3 => some (.ret (.tuple [x2, x3]), H))
  (bA (bxV 307 (.agg [.pk 16 0])) H fun x4 H => 
  bV (slArr 16 1 x4 none (some (.int .i64 (.ofNat 4))) none) fun x8 => 
  bV (fAd 0 x1) fun x9 => 
  bV (ld1p x9 H) fun x10 => 
  bV (cvI .u64 x10) fun x11 => 
  bR (noPan (f210 D n [x8, x11] H)) fun x12 H => 
  bV (slArr 16 1 x4 (some (.int .i64 (.ofNat 4))) (some (.int .i64 (.ofNat 8))) none) fun x13 => 
  bV (fAd 1 x1) fun x14 => 
  bV (ld1p x14 H) fun x15 => 
  bV (cvI .u64 x15) fun x16 => 
  bR (noPan (f210 D n [x13, x16] H)) fun x17 H => 
  bV (slArr 16 1 x4 (some (.int .i64 (.ofNat 8))) none none) fun x18 => 
  bV (fAd 2 x1) fun x19 => 
  bV (ld1p x19 H) fun x20 => 
  bR (noPan (f210 D n [x18, x20] H)) fun x21 H => 
  bV (slArr 16 1 x4 none none none) fun x22 => 
  bV (cvBSp x22 H) fun x23 => 
  bV (some x23) fun x2_2 => bV (some (.int .i64 (.ofNat 0))) fun x3_2 => some (.ret (.tuple [x2_2, x3_2]), H)))
def h137 : Hint := (.s .o (.s (.s .o (.cl (.s .o .o) .o)) (.s .o (.s .o (.s .o (.s .o (.s .o .o)))))))
theorem f137_eq (D : Dyn) (n : Nat) : f137 D n = funKp (s137 D n) D n 137 Tryz.f137 h137 := by kernel_rfl
theorem f137_ok {D : Dyn} (hD : DP D) (n : Nat) : FP 137 (f137 D n) := fun_okP X_ok hD (SP.cons (f209_ok hD n) (SP.cons (f210_ok hD n) (SP.nil))) Tryz.func137 (by kernel_rfl) (by kernel_rfl) (f137_eq D n)

def s81 (D : Dyn) (n : Nat) : Tb := ⟨X, [(137, f137 D n)]⟩
/-- jetty/tree.Open -/
def f81 (D : Dyn) (n : Nat) (vs : List AV) (H : AH) : Option (AV × AH) :=
  outR (hd vs fun x0 vs => hd vs fun x1 vs => hd vs fun x2 vs => nl vs <|
  bA (bxV 119 x2) H fun x5 H => 
  bV (cmpO .eql (eqP x0 .nilPtr)) fun x11 => 
  cnd x11 (bV (some .nilPtr) fun x6 => bV (some (.int .i64 (.ofNat 2))) fun x7 => some (.ret (.tuple [x6, x7]), H))
  (bV (ldNp 3 x5 H) fun x13 => 
  bR (noPan (f137 D n [x13] H)) fun x14 H => 
  bV (pExtract x14 0) fun x15 => 
  bV (pExtract x14 1) fun x16 => 
  bV (bInt .neq x16 (.int .i64 (.ofNat 0))) fun x18 => 
  jn (wnt x18 false (bV (fAd 0 x5) fun x20 => 
  bV (ld1p x20 H) fun x21 => 
  bV (bInt .eql x21 (.int .i64 (.ofNat 1))) fun x22 => 
  some (.norm [x22], H)) (some (.norm [undefA], H))) fun vs H => hd vs fun x22_2 vs => 
  bV (pk3 (some x18) (some (.bool true)) (some x22_2)) fun x23 => 
  cnd x23 (bV (some .nilPtr) fun x6_2 => bV (some (.int .i64 (.ofNat 1))) fun x7_2 => some (.ret (.tuple [x6_2, x7_2]), H))
  (bV (ldNp 3 x5 H) fun x26 => 
  bA (mkM [10]) H fun x27 H => 
  bV (bldSp [(0, 1), (1, 1), (2, 3), (5, 1), (6, 1), (7, 1)] [.nilPtr, .nilPtr, (.int .i64 (.ofNat 0)), (.int .i64 (.ofNat 0)), (.int .u64 (.ofNat 0)), .nilMap, (.int .u64 (.ofNat 0)), .nilSlice] [(0, x0), (1, x1), (2, x26), (3, x27)]) fun x28 => 
  bA (bxV 176 x28) H fun x29 H => 
  bV (some x29) fun x6_3 => bV (some (.int .i64 (.ofNat 0))) fun x7_3 => some (.ret (.tuple [x6_3, x7_3]), H))))
def h81 : Hint := (.s .o (.s (.s .o (.cl (.s .o .o) .o)) (.s (.s .o (.s .o (.cl (.s .o .o) .o))) (.s .o .o))))
theorem f81_eq (D : Dyn) (n : Nat) : f81 D n = funKp (s81 D n) D n 81 Tryz.f81 h81 := by kernel_rfl
theorem f81_ok {D : Dyn} (hD : DP D) (n : Nat) : FP 81 (f81 D n) := fun_okP X_ok hD (SP.cons (f137_ok hD n) (SP.nil)) Tryz.func81 (by kernel_rfl) (by kernel_rfl) (f81_eq D n)

def s18 (D : Dyn) (n : Nat) : Tb := ⟨X, [(80, f80 D n), (81, f81 D n)]⟩
/-- jetty/jettylaw25.empty -/
def f18 (D : Dyn) (n : Nat) (vs : List AV) (H : AH) : Option (AV × AH) :=
  outR (nl vs <|
  bR (noPan (f80 D n [(.int .i64 (.ofNat 64))] H)) fun x5 H => 
  bV (pExtract x5 0) fun x6 => 
  bV (pExtract x5 1) fun x7 => 
  bV (bInt .neq x7 (.int .i64 (.ofNat 0))) fun x9 => 
  cnd x9 (bV (some .nilPtr) fun x0 => some (.ret x0, H))
  (bV (bldSp [(0, 1), (1, 1), (2, 1)] [(.int .i64 (.ofNat 0)), (.int .i64 (.ofNat 0)), (.int .u64 (.ofNat 0))] []) fun x12 => 
  bR (noPan (f81 D n [x6, .nilPtr, x12] H)) fun x13 H => 
  bV (pExtract x13 0) fun x14 => 
  bV (pExtract x13 1) fun x15 => 
  bV (bInt .neq x15 (.int .i64 (.ofNat 0))) fun x17 => 
  cnd x17 (bV (some .nilPtr) fun x0_2 => some (.ret x0_2, H))
  (bV (some x14) fun x0_3 => some (.ret x0_3, H))))
def h18 : Hint := (.s .o (.s .o (.s (.s .o (.cl (.s .o .o) .o)) (.s .o (.s (.s .o (.cl (.s .o .o) .o)) (.s .o .o))))))
theorem f18_eq (D : Dyn) (n : Nat) : f18 D n = funKp (s18 D n) D n 18 Tryz.f18 h18 := by kernel_rfl
theorem f18_ok {D : Dyn} (hD : DP D) (n : Nat) : FP 18 (f18 D n) := fun_okP X_ok hD (SP.cons (f80_ok hD n) (SP.cons (f81_ok hD n) (SP.nil))) Tryz.func18 (by kernel_rfl) (by kernel_rfl) (f18_eq D n)

def s82 (D : Dyn) (n : Nat) : Tb := ⟨X, [(76, f76 D n), (38, f38 D n), (52, f52 D n), (54, f54 D n), (44, f44 D n), (55, f55 D n), (57, f57 D n), (56, f56 D n)]⟩
def f82j0 (D : Dyn) (n : Nat) (vs : List AV) (H : AH) : Rs :=
  hd vs fun x1_2 vs => 
  bV (fAd 1 x1_2) fun x15 => 
  bV (ld1p x15 H) fun x16 => 
  bR (noPan (f52 D n [(.int .u8 (.ofNat 2)), (.int .i64 (.ofNat 493)), (.int .i64 (.ofNat 1)), (.int .i64 (.ofNat 0)), x16] H)) fun x17 H => 
  bV (pExtract x17 0) fun x18 => 
  bV (pExtract x17 1) fun x19 => 
  bA (bxV 23 (.agg [(.int .u8 (.ofNat 0)), (.int .i64 (.ofNat 0)), (.int .i64 (.ofNat 0)), (.int .i64 (.ofNat 0)), (.int .i64 (.ofNat 0)), (.int .i64 (.ofNat 0)), (.int .i64 (.ofNat 0)), (.int .i64 (.ofNat 0))])) H fun x5 H => 
  bR (stNp 8 x5 x18 H) fun x9999 H => 
  bC (f54 D n [x19] H) (fun x H => some (.ret (.pan x), H)) fun x21 H => 
  bV (ldNp 2 x1_2 H) fun x22 => 
  bV (bldSp [(0, 1), (1, 1)] [(.int .i64 (.ofNat 0)), (.int .i64 (.ofNat 0))] []) fun x23 => 
  bC (f44 D n [x22, x23] H) (fun x H => some (.ret (.pan x), H)) fun x24 H => 
  bV (ldNp 2 x1_2 H) fun x25 => 
  bV (ldNp 8 x5 H) fun x26 => 
  bC (f55 D n [x25, x26] H) (fun x H => some (.ret (.pan x), H)) fun x27 H => 
  bV (ldNp 2 x1_2 H) fun x28 => 
  bR (noPan (f57 D n [(.int .i64 (.ofNat 1))] H)) fun x29 H => chk (ldNp 2 x1_2 H) x28 <| 
  bV (bStr .add (.str 1 112) x29) fun x30 => 
  bR (noPan (f57 D n [(.int .i64 (.ofNat 1))] H)) fun x31 H => chk (ldNp 2 x1_2 H) x28 <| 
  bR (noPan (f56 D n [x28, x30, x31] H)) fun x32 H => 
  bV (some (.int .i64 (.ofNat 0))) fun x2 => some (.ret x2, H)
/-- jetty/objs.Format$1 -/
def f82 (D : Dyn) (n : Nat) (vs : List AV) (H : AH) : Option (AV × AH) :=
  outR (hd vs fun x0 vs => nl vs <|
  bA (bxV 73 x0) H fun x1 H => 
  bV (ldNp 2 x1 H) fun x8 => 
  bC (f76 D n [x8, (.str 1 109)] H) (fun x H => some (.ret (.pan x), H)) fun x9 H => 
  bV (pExtract x9 0) fun x10 => 
  bV (pExtract x9 1) fun x11 => 
  jn (cnd x11 (bC (f38 D n [(.int .i64 (.ofNat 6))] H) (fun x H => some (.ret (.pan x), H)) fun x13 H => 
  some (.norm [x1], H))
  (some (.norm [x1], H))) (f82j0 D n))
def h82 : Hint := (.s .o (.s (.s .pc (.s .o (.c [1] .pc .o))) (.s .o (.s .pc (.s .pc (.s .pc (.s .o (.s .o .o))))))))
theorem f82_eq (D : Dyn) (n : Nat) : f82 D n = funKp (s82 D n) D n 82 Tryz.f82 h82 := by kernel_rfl
theorem f82_ok {D : Dyn} (hD : DP D) (n : Nat) : FP 82 (f82 D n) := fun_okP X_ok hD (SP.cons (f76_ok hD n) (SP.cons (f38_ok hD n) (SP.cons (f52_ok hD n) (SP.cons (f54_ok hD n) (SP.cons (f44_ok hD n) (SP.cons (f55_ok hD n) (SP.cons (f57_ok hD n) (SP.cons (f56_ok hD n) (SP.nil))))))))) Tryz.func82 (by kernel_rfl) (by kernel_rfl) (f82_eq D n)

def s19 (D : Dyn) (n : Nat) : Tb := ⟨X, [(42, f42 D n)]⟩
/-- jetty/objs.Format -/
def f19 (D : Dyn) (n : Nat) (vs : List AV) (H : AH) : Option (AV × AH) :=
  outR (hd vs fun x0 vs => hd vs fun x1 vs => nl vs <|
  bR (noPan (f42 D n [x0, x1, (.func 82 [] [])] H)) fun x10 H => 
  bV (pExtract x10 0) fun x11 => 
  bV (pExtract x10 1) fun x12 => 
  bV (some x12) fun x4 => some (.ret x4, H))
def h19 : Hint := (.s .o (.s .o (.s .o .o)))
theorem f19_eq (D : Dyn) (n : Nat) : f19 D n = funKp (s19 D n) D n 19 Tryz.f19 h19 := by kernel_rfl
theorem f19_ok {D : Dyn} (hD : DP D) (n : Nat) : FP 19 (f19 D n) := fun_okP X_ok hD (SP.cons (f42_ok hD n) (SP.nil)) Tryz.func19 (by kernel_rfl) (by kernel_rfl) (f19_eq D n)

def s83 (D : Dyn) (n : Nat) : Tb := ⟨X, [(84, f84 D n), (38, f38 D n), (34, f34 D n), (85, f85 D n), (54, f54 D n), (55, f55 D n)]⟩
def f83j0 (D : Dyn) (n : Nat) (vs : List AV) (H : AH) : Rs :=
  hd vs fun x1_5 vs => hd vs fun x2_5 vs => 
  bV (ldNp 2 x2_5 H) fun x57 => 
  bV (ldNp 8 x1_5 H) fun x58 => 
  bC (f55 D n [x57, x58] H) (fun x H => some (.ret (.pan x), H)) fun x59 H => 
  bV (some (.int .i64 (.ofNat 0))) fun x3 => some (.ret x3, H)
def f83j1 (D : Dyn) (n : Nat) (vs : List AV) (H : AH) : Rs :=
  hd vs fun x1_4 vs => hd vs fun x2_4 vs => hd vs fun x4_3 vs => 
  bV (fAd 3 x1_4) fun x44 => 
  bV (ld1p x44 H) fun x45 => 
  bV (fAd 3 x4_3) fun x46 => 
  bV (ld1p x46 H) fun x47 => 
  bV (bInt .lss x45 x47) fun x48 => 
  jn (cnd x48 (bV (fAd 0 x2_4) fun x49 => 
  bV (ld1p x49 H) fun x50 => 
  bV (fAd 6 x1_4) fun x51 => 
  bV (ld1p x51 H) fun x52 => 
  bV (fAd 3 x1_4) fun x53 => 
  bV (ld1p x53 H) fun x54 => 
  bC (f85 D n [x50, x52, x54] H) (fun x H => some (.ret (.pan x), H)) fun x55 H => 
  bC (f54 D n [x55] H) (fun x H => some (.ret (.pan x), H)) fun x56 H => 
  some (.norm [x1_4, x2_4], H))
  (some (.norm [x1_4, x2_4], H))) (f83j0 D n)
def f83j2 (D : Dyn) (n : Nat) (vs : List AV) (H : AH) : Rs :=
  hd vs fun x1_3 vs => hd vs fun x2_3 vs => hd vs fun x4_2 vs => 
  bV (fAd 2 x1_3) fun x31 => 
  bV (ld1p x31 H) fun x32 => 
  bV (fAd 2 x4_2) fun x33 => 
  bV (ld1p x33 H) fun x34 => 
  bV (bInt .neq x32 x34) fun x35 => 
  jn (wnt x35 false (bV (fAd 7 x1_3) fun x37 => 
  bV (ld1p x37 H) fun x38 => 
  bV (fAd 7 x4_2) fun x39 => 
  bV (ld1p x39 H) fun x40 => 
  bV (bInt .neq x38 x40) fun x41 => 
  some (.norm [x41], H)) (some (.norm [undefA], H))) fun vs H => hd vs fun x41_2 vs => 
  bV (pk3 (some x35) (some (.bool true)) (some x41_2)) fun x42 => 
  jn (cnd x42 (bC (f38 D n [(.int .i64 (.ofNat 1))] H) (fun x H => some (.ret (.pan x), H)) fun x43 H => 
  some (.norm [x1_3, x2_3, x4_2], H))
  (some (.norm [x1_3, x2_3, x4_2], H))) (f83j1 D n)
def f83j3 (D : Dyn) (n : Nat) (vs : List AV) (H : AH) : Rs :=
  hd vs fun x1_2 vs => hd vs fun x2_2 vs => 
  bV (ldNp 2 x2_2 H) fun x9 => 
  bV (fAd 6 x1_2) fun x10 => 
  bV (ld1p x10 H) fun x11 => 
  bC (f34 D n [x9, x11] H) (fun x H => some (.ret (.pan x), H)) fun x12 H => 
  bA (bxV 23 (.agg [(.int .u8 (.ofNat 0)), (.int .i64 (.ofNat 0)), (.int .i64 (.ofNat 0)), (.int .i64 (.ofNat 0)), (.int .i64 (.ofNat 0)), (.int .i64 (.ofNat 0)), (.int .i64 (.ofNat 0)), (.int .i64 (.ofNat 0))])) H fun x4 H => 
  bR (stNp 8 x4 x12 H) fun x9999 H => 
  bV (fAd 0 x1_2) fun x13 => 
  bV (ld1p x13 H) fun x14 => 
  bV (fAd 0 x4) fun x15 => 
  bV (ld1p x15 H) fun x16 => 
  bV (bInt .neq x14 x16) fun x17 => 
  jn (wnt x17 false (bV (fAd 3 x1_2) fun x19 => 
  bV (ld1p x19 H) fun x20 => 
  bV (fAd 3 x4) fun x21 => 
  bV (ld1p x21 H) fun x22 => 
  bV (bInt .neq x20 x22) fun x23 => 
  some (.norm [x23], H)) (some (.norm [undefA], H))) fun vs H => hd vs fun x24 vs => 
  jn (wnt x24 true (bV (fAd 0 x1_2) fun x25 => 
  bV (ld1p x25 H) fun x26 => 
  bV (bInt .neq x26 (.int .u8 (.ofNat 1))) fun x27 => 
  some (.norm [x27], H)) (some (.norm [undefA], H))) fun vs H => hd vs fun x27_2 vs => 
  jn (wnt x17 false (bV (pk3 (some x24) (some x27_2) (some (.bool false))) fun x28 => 
  some (.norm [x28], H)) (some (.norm [undefA], H))) fun vs H => hd vs fun x28_2 vs => 
  bV (pk3 (some x17) (some (.bool true)) (some x28_2)) fun x29 => 
  jn (cnd x29 (bC (f38 D n [(.int .i64 (.ofNat 55))] H) (fun x H => some (.ret (.pan x), H)) fun x30 H => 
  some (.norm [x1_2, x2_2, x4], H))
  (some (.norm [x1_2, x2_2, x4], H))) (f83j2 D n)
/-- jetty/objs.Change$1 -/
def f83 (D : Dyn) (n : Nat) (vs : List AV) (H : AH) : Option (AV × AH) :=
  outR (hd vs fun x0 vs => hd vs fun x1 vs => nl vs <|
  bA (bxV 73 x0) H fun x2 H => 
  bV (ldNp 8 x1 H) fun x5 => 
  bR (noPan (f84 D n [x5] H)) fun x6 H => 
  bV (aun .not x6) fun x7 => 
  jn (cnd x7 (bC (f38 D n [(.int .i64 (.ofNat 4))] H) (fun x H => some (.ret (.pan x), H)) fun x8 H => 
  some (.norm [x1, x2], H))
  (some (.norm [x1, x2], H))) (f83j3 D n))
def h83 : Hint := (.s .o (.s (.s .o (.c [1, 2] .pc .o)) (.s .pc (.s (.s .o (.c [1, 2, 4] .pc .o)) (.s (.s .o (.c [1, 2, 4] .pc .o)) (.s (.s .o (.c [1, 2] .pc .o)) (.s .pc (.s .o .o))))))))
theorem f83_eq (D : Dyn) (n : Nat) : f83 D n = funKp (s83 D n) D n 83 Tryz.f83 h83 := by kernel_rfl
theorem f83_ok {D : Dyn} (hD : DP D) (n : Nat) : FP 83 (f83 D n) := fun_okP X_ok hD (SP.cons (f84_ok hD n) (SP.cons (f38_ok hD n) (SP.cons (f34_ok hD n) (SP.cons (f85_ok hD n) (SP.cons (f54_ok hD n) (SP.cons (f55_ok hD n) (SP.nil))))))) Tryz.func83 (by kernel_rfl) (by kernel_rfl) (f83_eq D n)

def s20 (D : Dyn) (n : Nat) : Tb := ⟨X, [(42, f42 D n)]⟩
/-- jetty/objs.Change -/
def f20 (D : Dyn) (n : Nat) (vs : List AV) (H : AH) : Option (AV × AH) :=
  outR (hd vs fun x0 vs => hd vs fun x1 vs => nl vs <|
  bA (bxV 23 x1) H fun x3 H => 
  bR (noPan (f42 D n [x0, (.int .i64 (.ofNat 0)), (.func 83 [] [x3])] H)) fun x10 H => 
  bV (pExtract x10 0) fun x11 => 
  bV (pExtract x10 1) fun x12 => 
  bV (some x12) fun x4 => some (.ret x4, H))
def h20 : Hint := (.s .o (.s .o (.s .o .o)))
theorem f20_eq (D : Dyn) (n : Nat) : f20 D n = funKp (s20 D n) D n 20 Tryz.f20 h20 := by kernel_rfl
theorem f20_ok {D : Dyn} (hD : DP D) (n : Nat) : FP 20 (f20 D n) := fun_okP X_ok hD (SP.cons (f42_ok hD n) (SP.nil)) Tryz.func20 (by kernel_rfl) (by kernel_rfl) (f20_eq D n)

def s21 (D : Dyn) (n : Nat) : Tb := ⟨X, [(18, f18 D n), (19, f19 D n), (10, f10 D n), (5, f5 D n), (13, f13 D n), (11, f11 D n), (12, f12 D n), (6, f6 D n)]⟩
/-- jetty/jettylaw25.awake -/
def f21 (D : Dyn) (n : Nat) (vs : List AV) (H : AH) : Option (AV × AH) :=
  outR (nl vs <|
  bR (noPan (f18 D n [] H)) fun x20 H => 
  bV (cmpO .eql (eqP x20 .nilPtr)) fun x22 => 
  jn (wnt x22 false (bR (noPan (f19 D n [x20, (.int .i64 (.ofNat 5))] H)) fun x25 H => 
  bV (bInt .neq x25 (.int .i64 (.ofNat 0))) fun x26 => 
  some (.norm [x26], H)) (some (.norm [undefA], H))) fun vs H => hd vs fun x26_2 vs => 
  bV (pk3 (some x22) (some (.bool true)) (some x26_2)) fun x27 => 
  cnd x27 (bV (some (.bool false)) fun x0 => some (.ret x0, H))
  (bR (noPan (f10 D n [x20, (.int .i64 (.ofNat 1)), (.str 1 97), (.int .u8 (.ofNat 1)), (.int .i64 (.ofNat 420)), (.str 0 0), (.int .i64 (.ofNat 6))] H)) fun x30 H => 
  bV (pExtract x30 0) fun x31 => 
  bV (pExtract x30 1) fun x32 => 
  bA (bxV 23 (.agg [(.int .u8 (.ofNat 0)), (.int .i64 (.ofNat 0)), (.int .i64 (.ofNat 0)), (.int .i64 (.ofNat 0)), (.int .i64 (.ofNat 0)), (.int .i64 (.ofNat 0)), (.int .i64 (.ofNat 0)), (.int .i64 (.ofNat 0))])) H fun x2 H => 
  bR (stNp 8 x2 x31 H) fun x9999 H => 
  bR (noPan (f10 D n [x20, (.int .i64 (.ofNat 1)), (.str 1 100), (.int .u8 (.ofNat 2)), (.int .i64 (.ofNat 493)), (.str 0 0), (.int .i64 (.ofNat 7))] H)) fun x35 H => 
  bV (pExtract x35 0) fun x36 => 
  bV (pExtract x35 1) fun x37 => 
  bA (bxV 23 (.agg [(.int .u8 (.ofNat 0)), (.int .i64 (.ofNat 0)), (.int .i64 (.ofNat 0)), (.int .i64 (.ofNat 0)), (.int .i64 (.ofNat 0)), (.int .i64 (.ofNat 0)), (.int .i64 (.ofNat 0)), (.int .i64 (.ofNat 0))])) H fun x4 H => 
  bR (stNp 8 x4 x36 H) fun x9999_2 H => 
  bR (noPan (f5 D n [x20, (.int .i64 (.ofNat 1))] H)) fun x40 H => 
  bV (pExtract x40 0) fun x41 => 
  bV (pExtract x40 1) fun x42 => 
  bA (bxV 23 (.agg [(.int .u8 (.ofNat 0)), (.int .i64 (.ofNat 0)), (.int .i64 (.ofNat 0)), (.int .i64 (.ofNat 0)), (.int .i64 (.ofNat 0)), (.int .i64 (.ofNat 0)), (.int .i64 (.ofNat 0)), (.int .i64 (.ofNat 0))])) H fun x6 H => 
  bR (stNp 8 x6 x41 H) fun x9999_3 H => 
  bR (noPan (f13 D n [x20, (.int .i64 (.ofNat 1)), (.str 1 100), (.int .i64 (.ofNat 3)), (.str 1 120), (.int .i64 (.ofNat 8))] H)) fun x45 H => 
  bV (pExtract x45 0) fun x46 => 
  bV (pExtract x45 1) fun x47 => 
  bR (noPan (f11 D n [x20, (.int .i64 (.ofNat 2)), (.int .i64 (.ofNat 3)), (.str 1 98), (.int .i64 (.ofNat 8))] H)) fun x50 H => 
  bV (pExtract x50 0) fun x51 => 
  bV (pExtract x50 1) fun x52 => 
  bA (bxV 23 (.agg [(.int .u8 (.ofNat 0)), (.int .i64 (.ofNat 0)), (.int .i64 (.ofNat 0)), (.int .i64 (.ofNat 0)), (.int .i64 (.ofNat 0)), (.int .i64 (.ofNat 0)), (.int .i64 (.ofNat 0)), (.int .i64 (.ofNat 0))])) H fun x10 H => 
  bR (stNp 8 x10 x51 H) fun x9999_4 H => 
  bR (noPan (f12 D n [x20, (.int .i64 (.ofNat 1)), (.str 1 100), (.bool false), (.int .i64 (.ofNat 9))] H)) fun x55 H => 
  bV (pExtract x55 0) fun x56 => 
  bV (pExtract x55 1) fun x57 => 
  bR (noPan (f12 D n [x20, (.int .i64 (.ofNat 1)), (.str 1 97), (.bool false), (.int .i64 (.ofNat 9))] H)) fun x60 H => 
  bV (pExtract x60 0) fun x61 => 
  bV (pExtract x60 1) fun x62 => 
  bR (noPan (f12 D n [x20, (.int .i64 (.ofNat 3)), (.str 1 98), (.bool false), (.int .i64 (.ofNat 9))] H)) fun x65 H => 
  bV (pExtract x65 0) fun x66 => 
  bV (pExtract x65 1) fun x67 => 
  bV (bldSp [(0, 1), (1, 1), (2, 1)] [(.int .i64 (.ofNat 0)), (.int .i64 (.ofNat 0)), (.int .i64 (.ofNat 0))] [(1, (.int .i64 (.ofNat 3))), (2, (.int .i64 (.ofNat 1)))]) fun x70 => 
  bR (noPan (f6 D n [x20, x70] H)) fun x71 H => 
  bV (pExtract x71 0) fun x72 => 
  bV (pExtract x71 1) fun x73 => 
  bA (bxV 23 (.agg [(.int .u8 (.ofNat 0)), (.int .i64 (.ofNat 0)), (.int .i64 (.ofNat 0)), (.int .i64 (.ofNat 0)), (.int .i64 (.ofNat 0)), (.int .i64 (.ofNat 0)), (.int .i64 (.ofNat 0)), (.int .i64 (.ofNat 0))])) H fun x18 H => 
  bR (stNp 8 x18 x72 H) fun x9999_5 H => 
  bV (bInt .eql x32 (.int .i64 (.ofNat 0))) fun x75 => 
  jn (wnt x75 true (bV (fAd 6 x2) fun x77 => 
  bV (ld1p x77 H) fun x78 => 
  bV (bInt .eql x78 (.int .i64 (.ofNat 2))) fun x79 => 
  some (.norm [x79], H)) (some (.norm [undefA], H))) fun vs H => hd vs fun x79_2 vs => 
  bV (pk3 (some x75) (some x79_2) (some (.bool false))) fun x80 => 
  jn (wnt x80 true (bV (fAd 7 x2) fun x82 => 
  bV (ld1p x82 H) fun x83 => 
  bV (bInt .eql x83 (.int .i64 (.ofNat 1))) fun x84 => 
  some (.norm [x84], H)) (some (.norm [undefA], H))) fun vs H => hd vs fun x84_2 vs => 
  bV (pk3 (some x80) (some x84_2) (some (.bool false))) fun x85 => 
  jn (wnt x85 true (bV (bInt .eql x37 (.int .i64 (.ofNat 0))) fun x88 => 
  some (.norm [x88], H)) (some (.norm [undefA], H))) fun vs H => hd vs fun x88_2 vs => 
  bV (pk3 (some x85) (some x88_2) (some (.bool false))) fun x89 => 
  jn (wnt x89 true (bV (fAd 6 x4) fun x91 => 
  bV (ld1p x91 H) fun x92 => 
  bV (bInt .eql x92 (.int .i64 (.ofNat 3))) fun x93 => 
  some (.norm [x93], H)) (some (.norm [undefA], H))) fun vs H => hd vs fun x93_2 vs => 
  bV (pk3 (some x89) (some x93_2) (some (.bool false))) fun x94 => 
  jn (wnt x94 true (bV (fAd 2 x4) fun x96 => 
  bV (ld1p x96 H) fun x97 => 
  bV (bInt .eql x97 (.int .i64 (.ofNat 2))) fun x98 => 
  some (.norm [x98], H)) (some (.norm [undefA], H))) fun vs H => hd vs fun x98_2 vs => 
  bV (pk3 (some x94) (some x98_2) (some (.bool false))) fun x99 => 
  jn (wnt x99 true (bV (fAd 3 x6) fun x101 => 
  bV (ld1p x101 H) fun x102 => 
  bV (bInt .eql x102 (.int .i64 (.ofNat 2))) fun x103 => 
  some (.norm [x103], H)) (some (.norm [undefA], H))) fun vs H => hd vs fun x103_2 vs => 
  bV (pk3 (some x99) (some x103_2) (some (.bool false))) fun x104 => 
  jn (wnt x104 true (bV (fAd 2 x6) fun x106 => 
  bV (ld1p x106 H) fun x107 => 
  bV (bInt .eql x107 (.int .i64 (.ofNat 3))) fun x108 => 
  some (.norm [x108], H)) (some (.norm [undefA], H))) fun vs H => hd vs fun x108_2 vs => 
  bV (pk3 (some x104) (some x108_2) (some (.bool false))) fun x109 => 
  jn (wnt x109 true (bV (fAd 5 x6) fun x111 => 
  bV (ld1p x111 H) fun x112 => 
  bV (bInt .eql x112 (.int .i64 (.ofNat 7))) fun x113 => 
  some (.norm [x113], H)) (some (.norm [undefA], H))) fun vs H => hd vs fun x113_2 vs => 
  bV (pk3 (some x109) (some x113_2) (some (.bool false))) fun x114 => 
  jn (wnt x114 true (bV (bInt .eql x42 (.int .i64 (.ofNat 0))) fun x117 => 
  some (.norm [x117], H)) (some (.norm [undefA], H))) fun vs H => hd vs fun x117_2 vs => 
  bV (pk3 (some x114) (some x117_2) (some (.bool false))) fun x118 => 
  jn (wnt x118 true (bV (bInt .eql x47 (.int .i64 (.ofNat 58))) fun x121 => 
  some (.norm [x121], H)) (some (.norm [undefA], H))) fun vs H => hd vs fun x121_2 vs => 
  bV (pk3 (some x118) (some x121_2) (some (.bool false))) fun x122 => 
  jn (wnt x122 true (bV (fAd 2 x10) fun x124 => 
  bV (ld1p x124 H) fun x125 => 
  bV (bInt .eql x125 (.int .i64 (.ofNat 2))) fun x126 => 
  some (.norm [x126], H)) (some (.norm [undefA], H))) fun vs H => hd vs fun x126_2 vs => 
  bV (pk3 (some x122) (some x126_2) (some (.bool false))) fun x127 => 
  jn (wnt x127 true (bV (bInt .eql x52 (.int .i64 (.ofNat 0))) fun x130 => 
  some (.norm [x130], H)) (some (.norm [undefA], H))) fun vs H => hd vs fun x130_2 vs => 
  bV (pk3 (some x127) (some x130_2) (some (.bool false))) fun x131 => 
  jn (wnt x131 true (bV (bInt .eql x57 (.int .i64 (.ofNat 55))) fun x134 => 
  some (.norm [x134], H)) (some (.norm [undefA], H))) fun vs H => hd vs fun x134_2 vs => 
  bV (pk3 (some x131) (some x134_2) (some (.bool false))) fun x135 => 
  jn (wnt x135 true (bV (bInt .eql x61 (.int .i64 (.ofNat 0))) fun x138 => 
  some (.norm [x138], H)) (some (.norm [undefA], H))) fun vs H => hd vs fun x138_2 vs => 
  bV (pk3 (some x135) (some x138_2) (some (.bool false))) fun x139 => 
  jn (wnt x139 true (bV (bInt .eql x62 (.int .i64 (.ofNat 0))) fun x142 => 
  some (.norm [x142], H)) (some (.norm [undefA], H))) fun vs H => hd vs fun x142_2 vs => 
  bV (pk3 (some x139) (some x142_2) (some (.bool false))) fun x143 => 
  jn (wnt x143 true (bV (bInt .eql x66 (.int .i64 (.ofNat 2))) fun x146 => 
  some (.norm [x146], H)) (some (.norm [undefA], H))) fun vs H => hd vs fun x146_2 vs => 
  bV (pk3 (some x143) (some x146_2) (some (.bool false))) fun x147 => 
  jn (wnt x147 true (bV (bInt .eql x67 (.int .i64 (.ofNat 0))) fun x150 => 
  some (.norm [x150], H)) (some (.norm [undefA], H))) fun vs H => hd vs fun x150_2 vs => 
  bV (pk3 (some x147) (some x150_2) (some (.bool false))) fun x151 => 
  jn (wnt x151 true (bV (bInt .eql x73 (.int .i64 (.ofNat 54))) fun x154 => 
  some (.norm [x154], H)) (some (.norm [undefA], H))) fun vs H => hd vs fun x154_2 vs => 
  bV (pk3 (some x151) (some x154_2) (some (.bool false))) fun x155 => 
  bV (some x155) fun x0_2 => some (.ret x0_2, H)))
def h21 : Hint := (.s .o (.s .o (.s (.s .o (.cl (.s .o .o) .o)) (.s .o (.s .o (.s .o (.s .o (.s .o (.s .o (.s .o (.s .o (.s .o (.s .o .o)))))))))))))
theorem f21_eq (D : Dyn) (n : Nat) : f21 D n = funKp (s21 D n) D n 21 Tryz.f21 h21 := by kernel_rfl
theorem f21_ok {D : Dyn} (hD : DP D) (n : Nat) : FP 21 (f21 D n) := fun_okP X_ok hD (SP.cons (f18_ok hD n) (SP.cons (f19_ok hD n) (SP.cons (f10_ok hD n) (SP.cons (f5_ok hD n) (SP.cons (f13_ok hD n) (SP.cons (f11_ok hD n) (SP.cons (f12_ok hD n) (SP.cons (f6_ok hD n) (SP.nil))))))))) Tryz.func21 (by kernel_rfl) (by kernel_rfl) (f21_eq D n)

def s3 (D : Dyn) (n : Nat) : Tb := ⟨X, [(5, f5 D n), (6, f6 D n), (7, f7 D n), (8, f8 D n), (9, f9 D n), (10, f10 D n), (11, f11 D n), (12, f12 D n), (13, f13 D n), (14, f14 D n), (15, f15 D n), (16, f16 D n), (17, f17 D n), (18, f18 D n), (19, f19 D n), (20, f20 D n), (21, f21 D n)]⟩
def f3l0 (D : Dyn) (n : Nat) (vs : List AV) (H : AH) : Rs :=
  hd vs fun x30 vs => hd vs fun x32 vs => hd vs fun x33 vs => hd vs fun x34 vs => hd vs fun x36 vs => hd vs fun x38 vs => hd vs fun x39 vs => hd vs fun x40 vs => hd vs fun x42 vs => hd vs fun x44 vs => hd vs fun x165_2 vs => hd vs fun x166_2 vs => hd vs fun x167 vs => 
  bV (bInt .lss x167 x166_2) fun x168 => 
  cnd x168 (bV (ixSl 1 x165_2 x167) fun x169 => 
  bV (ld1p x169 H) fun x170 => 
  bV (bInt .neq x170 (.int .i64 (.ofNat 2))) fun x172 => 
  cnd x172 (bV (some (.bool false)) fun x0 => some (.ret x0, H))
  (bV (bInt .add x167 (.int .i64 (.ofNat 1))) fun x173 => 
  some (.norm [x30, x32, x33, x34, x36, x38, x39, x40, x42, x44, x165_2, x166_2, x173], H)))
  (some (.exit 0 [x30, x32, x33, x34, x36, x38, x39, x40, x42, x44], H))
def f3b1 (D : Dyn) (n : Nat) (vs : List AV) (H : AH) : Rs :=
  hd vs fun x30_2 vs => hd vs fun x32_2 vs => hd vs fun x33_2 vs => hd vs fun x34_2 vs => hd vs fun x36_2 vs => hd vs fun x38_2 vs => hd vs fun x39_2 vs => hd vs fun x40_2 vs => hd vs fun x42_2 vs => hd vs fun x44_2 vs => 
  bV (bInt .eql x30_2 (.int .i64 (.ofNat 5))) fun x175 => 
  jn (wnt x175 true (bV (bInt .eql x32_2 (.int .i64 (.ofNat 5))) fun x178 => 
  some (.norm [x178], H)) (some (.norm [undefA], H))) fun vs H => hd vs fun x178_2 vs => 
  bV (pk3 (some x175) (some x178_2) (some (.bool false))) fun x179 => 
  jn (wnt x179 true (bV (bInt .eql x33_2 (.int .i64 (.ofNat 1))) fun x182 => 
  some (.norm [x182], H)) (some (.norm [undefA], H))) fun vs H => hd vs fun x182_2 vs => 
  bV (pk3 (some x179) (some x182_2) (some (.bool false))) fun x183 => 
  jn (wnt x183 true (bV (bInt .eql x34_2 (.int .i64 (.ofNat 0))) fun x186 => 
  some (.norm [x186], H)) (some (.norm [undefA], H))) fun vs H => hd vs fun x186_2 vs => 
  bV (pk3 (some x183) (some x186_2) (some (.bool false))) fun x187 => 
  jn (wnt x187 true (bV (bInt .eql x36_2 (.int .i64 (.ofNat 40))) fun x190 => 
  some (.norm [x190], H)) (some (.norm [undefA], H))) fun vs H => hd vs fun x190_2 vs => 
  bV (pk3 (some x187) (some x190_2) (some (.bool false))) fun x191 => 
  jn (wnt x191 true (bV (bInt .eql x38_2 (.int .i64 (.ofNat 0))) fun x194 => 
  some (.norm [x194], H)) (some (.norm [undefA], H))) fun vs H => hd vs fun x194_2 vs => 
  bV (pk3 (some x191) (some x194_2) (some (.bool false))) fun x195 => 
  jn (wnt x195 true (bV (lnStr x39_2) fun x198 => 
  bV (bInt .eql x198 (.int .i64 (.ofNat 160))) fun x199 => 
  some (.norm [x199], H)) (some (.norm [undefA], H))) fun vs H => hd vs fun x199_2 vs => 
  bV (pk3 (some x195) (some x199_2) (some (.bool false))) fun x200 => 
  jn (wnt x200 true (bV (bInt .eql x40_2 (.int .i64 (.ofNat 0))) fun x203 => 
  some (.norm [x203], H)) (some (.norm [undefA], H))) fun vs H => hd vs fun x203_2 vs => 
  bV (pk3 (some x200) (some x203_2) (some (.bool false))) fun x204 => 
  jn (wnt x204 true (bV (bInt .eql x42_2 (.int .i64 (.ofNat 1))) fun x207 => 
  some (.norm [x207], H)) (some (.norm [undefA], H))) fun vs H => hd vs fun x207_2 vs => 
  bV (pk3 (some x204) (some x207_2) (some (.bool false))) fun x208 => 
  jn (wnt x208 true (bV (bInt .eql x44_2 (.int .i64 (.ofNat 55))) fun x211 => 
  some (.norm [x211], H)) (some (.norm [undefA], H))) fun vs H => hd vs fun x211_2 vs => 
  bV (pk3 (some x208) (some x211_2) (some (.bool false))) fun x212 => 
  jn (wnt x212 true (bR (noPan (f21 D n [] H)) fun x214 H => 
  some (.norm [x214], H)) (some (.norm [undefA], H))) fun vs H => hd vs fun x214_2 vs => 
  bV (pk3 (some x212) (some x214_2) (some (.bool false))) fun x215 => 
  bV (some x215) fun x0_2 => some (.ret x0_2, H)
/-- jetty/jettylaw25.ObjsNames -/
def f3 (D : Dyn) (n : Nat) (vs : List AV) (H : AH) : Option (AV × AH) :=
  outR (nl vs <|
  bR (noPan (f5 D n [.nilPtr, (.int .i64 (.ofNat 1))] H)) fun x48 H => 
  bV (pExtract x48 0) fun x49 => 
  bV (pExtract x48 1) fun x50 => 
  bA (bxV 23 (.agg [(.int .u8 (.ofNat 0)), (.int .i64 (.ofNat 0)), (.int .i64 (.ofNat 0)), (.int .i64 (.ofNat 0)), (.int .i64 (.ofNat 0)), (.int .i64 (.ofNat 0)), (.int .i64 (.ofNat 0)), (.int .i64 (.ofNat 0))])) H fun x1 H => 
  bR (stNp 8 x1 x49 H) fun x9999 H => 
  bV (bldSp [(0, 1), (1, 1), (2, 1)] [(.int .i64 (.ofNat 0)), (.int .i64 (.ofNat 0)), (.int .i64 (.ofNat 0))] []) fun x52 => 
  bR (noPan (f6 D n [.nilPtr, x52] H)) fun x53 H => 
  bV (pExtract x53 0) fun x54 => 
  bV (pExtract x53 1) fun x55 => 
  bA (bxV 23 (.agg [(.int .u8 (.ofNat 0)), (.int .i64 (.ofNat 0)), (.int .i64 (.ofNat 0)), (.int .i64 (.ofNat 0)), (.int .i64 (.ofNat 0)), (.int .i64 (.ofNat 0)), (.int .i64 (.ofNat 0)), (.int .i64 (.ofNat 0))])) H fun x3 H => 
  bR (stNp 8 x3 x54 H) fun x9999_2 H => 
  bR (noPan (f7 D n [.nilPtr] H)) fun x57 H => 
  bV (pExtract x57 0) fun x58 => 
  bV (pExtract x57 1) fun x59 => 
  bA (bxV 31 (.agg [(.int .i64 (.ofNat 0)), (.int .i64 (.ofNat 0))])) H fun x5 H => 
  bR (stNp 2 x5 x58 H) fun x9999_3 H => 
  bR (noPan (f8 D n [.nilPtr] H)) fun x61 H => 
  bV (pExtract x61 0) fun x62 => 
  bV (pExtract x61 1) fun x63 => 
  bR (noPan (f9 D n [.nilPtr, (.int .i64 (.ofNat 1)), (.str 1 97)] H)) fun x65 H => 
  bV (pExtract x65 0) fun x66 => 
  bV (pExtract x65 1) fun x67 => 
  bA (bxV 23 (.agg [(.int .u8 (.ofNat 0)), (.int .i64 (.ofNat 0)), (.int .i64 (.ofNat 0)), (.int .i64 (.ofNat 0)), (.int .i64 (.ofNat 0)), (.int .i64 (.ofNat 0)), (.int .i64 (.ofNat 0)), (.int .i64 (.ofNat 0))])) H fun x9 H => 
  bR (stNp 8 x9 x66 H) fun x9999_4 H => 
  bR (noPan (f10 D n [.nilPtr, (.int .i64 (.ofNat 1)), (.str 1 97), (.int .u8 (.ofNat 1)), (.int .i64 (.ofNat 0)), (.str 0 0), (.int .i64 (.ofNat 0))] H)) fun x69 H => 
  bV (pExtract x69 0) fun x70 => 
  bV (pExtract x69 1) fun x71 => 
  bA (bxV 23 (.agg [(.int .u8 (.ofNat 0)), (.int .i64 (.ofNat 0)), (.int .i64 (.ofNat 0)), (.int .i64 (.ofNat 0)), (.int .i64 (.ofNat 0)), (.int .i64 (.ofNat 0)), (.int .i64 (.ofNat 0)), (.int .i64 (.ofNat 0))])) H fun x11 H => 
  bR (stNp 8 x11 x70 H) fun x9999_5 H => 
  bR (noPan (f11 D n [.nilPtr, (.int .i64 (.ofNat 1)), (.int .i64 (.ofNat 1)), (.str 1 97), (.int .i64 (.ofNat 0))] H)) fun x73 H => 
  bV (pExtract x73 0) fun x74 => 
  bV (pExtract x73 1) fun x75 => 
  bA (bxV 23 (.agg [(.int .u8 (.ofNat 0)), (.int .i64 (.ofNat 0)), (.int .i64 (.ofNat 0)), (.int .i64 (.ofNat 0)), (.int .i64 (.ofNat 0)), (.int .i64 (.ofNat 0)), (.int .i64 (.ofNat 0)), (.int .i64 (.ofNat 0))])) H fun x13 H => 
  bR (stNp 8 x13 x74 H) fun x9999_6 H => 
  bR (noPan (f12 D n [.nilPtr, (.int .i64 (.ofNat 1)), (.str 1 97), (.bool false), (.int .i64 (.ofNat 0))] H)) fun x77 H => 
  bV (pExtract x77 0) fun x78 => 
  bV (pExtract x77 1) fun x79 => 
  bR (noPan (f13 D n [.nilPtr, (.int .i64 (.ofNat 1)), (.str 1 97), (.int .i64 (.ofNat 1)), (.str 1 98), (.int .i64 (.ofNat 0))] H)) fun x81 H => 
  bV (pExtract x81 0) fun x82 => 
  bV (pExtract x81 1) fun x83 => 
  bR (noPan (f14 D n [.nilPtr, (.int .i64 (.ofNat 1)), (.int .i64 (.ofNat 0)), (.str 0 0), (.int .i64 (.ofNat 0))] H)) fun x85 H => 
  bV (pExtract x85 0) fun x86 => 
  bV (pExtract x85 1) fun x87 => 
  bA (bxV 23 (.agg [(.int .u8 (.ofNat 0)), (.int .i64 (.ofNat 0)), (.int .i64 (.ofNat 0)), (.int .i64 (.ofNat 0)), (.int .i64 (.ofNat 0)), (.int .i64 (.ofNat 0)), (.int .i64 (.ofNat 0)), (.int .i64 (.ofNat 0))])) H fun x19 H => 
  bR (stNp 8 x19 x86 H) fun x9999_7 H => 
  bR (noPan (f15 D n [.nilPtr, (.int .i64 (.ofNat 1)), (.int .i64 (.ofNat 0)), (.int .i64 (.ofNat 0))] H)) fun x89 H => 
  bV (pExtract x89 0) fun x90 => 
  bV (pExtract x89 1) fun x91 => 
  bV (pExtract x89 2) fun x92 => 
  bR (noPan (f16 D n [.nilPtr, (.int .i64 (.ofNat 1))] H)) fun x94 H => 
  bV (pExtract x94 0) fun x95 => 
  bV (pExtract x94 1) fun x96 => 
  bR (noPan (f17 D n [.nilPtr, (.int .i64 (.ofNat 1))] H)) fun x98 H => 
  bV (pExtract x98 0) fun x99 => 
  bV (pExtract x98 1) fun x100 => 
  bR (noPan (f18 D n [] H)) fun x101 H => 
  bR (noPan (f7 D n [x101] H)) fun x104 H => 
  bV (pExtract x104 0) fun x105 => 
  bV (pExtract x104 1) fun x106 => 
  bA (bxV 31 (.agg [(.int .i64 (.ofNat 0)), (.int .i64 (.ofNat 0))])) H fun x29 H => 
  bR (stNp 2 x29 x105 H) fun x9999_8 H => 
  bR (noPan (f8 D n [x101] H)) fun x109 H => 
  bV (pExtract x109 0) fun x110 => 
  bV (pExtract x109 1) fun x111 => 
  bR (noPan (f19 D n [x101, (.int .i64 (.negSucc 0))] H)) fun x113 H => 
  bR (noPan (f19 D n [x101, (.int .i64 (.ofNat 2147483647))] H)) fun x115 H => 
  bA (mkSlp 5 1 1 [(.int .u8 (.ofNat 0))] (.int .i64 (.ofNat 161)) (.int .i64 (.ofNat 161))) H fun x118 H => 
  bV (cvBSp x118 H) fun x119 => 
  bR (noPan (f10 D n [x101, (.int .i64 (.ofNat 1)), (.str 1 108), (.int .u8 (.ofNat 3)), (.int .i64 (.ofNat 0)), x119, (.int .i64 (.ofNat 0))] H)) fun x120 H => 
  bV (pExtract x120 0) fun x121 => 
  bV (pExtract x120 1) fun x122 => 
  bA (bxV 23 (.agg [(.int .u8 (.ofNat 0)), (.int .i64 (.ofNat 0)), (.int .i64 (.ofNat 0)), (.int .i64 (.ofNat 0)), (.int .i64 (.ofNat 0)), (.int .i64 (.ofNat 0)), (.int .i64 (.ofNat 0)), (.int .i64 (.ofNat 0))])) H fun x35 H => 
  bR (stNp 8 x35 x121 H) fun x9999_9 H => 
  bA (mkSlp 5 1 1 [(.int .u8 (.ofNat 0))] (.int .i64 (.ofNat 160)) (.int .i64 (.ofNat 160))) H fun x125 H => 
  bV (cvBSp x125 H) fun x126 => 
  bR (noPan (f10 D n [x101, (.int .i64 (.ofNat 1)), (.str 1 108), (.int .u8 (.ofNat 3)), (.int .i64 (.ofNat 0)), x126, (.int .i64 (.ofNat 0))] H)) fun x127 H => 
  bV (pExtract x127 0) fun x128 => 
  bV (pExtract x127 1) fun x129 => 
  bA (bxV 23 (.agg [(.int .u8 (.ofNat 0)), (.int .i64 (.ofNat 0)), (.int .i64 (.ofNat 0)), (.int .i64 (.ofNat 0)), (.int .i64 (.ofNat 0)), (.int .i64 (.ofNat 0)), (.int .i64 (.ofNat 0)), (.int .i64 (.ofNat 0))])) H fun x37 H => 
  bR (stNp 8 x37 x128 H) fun x9999_10 H => 
  bV (fAd 6 x37) fun x132 => 
  bV (ld1p x132 H) fun x133 => 
  bR (noPan (f16 D n [x101, x133] H)) fun x134 H => 
  bV (pExtract x134 0) fun x135 => 
  bV (pExtract x134 1) fun x136 => 
  bR (noPan (f10 D n [x101, (.int .i64 (.ofNat 1)), (.str 1 109), (.int .u8 (.ofNat 1)), (.int .i64 (.ofNat 0)), (.str 1 120), (.int .i64 (.ofNat 0))] H)) fun x139 H => 
  bV (pExtract x139 0) fun x140 => 
  bV (pExtract x139 1) fun x141 => 
  bA (bxV 23 (.agg [(.int .u8 (.ofNat 0)), (.int .i64 (.ofNat 0)), (.int .i64 (.ofNat 0)), (.int .i64 (.ofNat 0)), (.int .i64 (.ofNat 0)), (.int .i64 (.ofNat 0)), (.int .i64 (.ofNat 0)), (.int .i64 (.ofNat 0))])) H fun x41 H => 
  bR (stNp 8 x41 x140 H) fun x9999_11 H => 
  bV (fAd 6 x37) fun x144 => 
  bV (ld1p x144 H) fun x145 => 
  bR (noPan (f10 D n [x101, x145, (.str 1 109), (.int .u8 (.ofNat 1)), (.int .i64 (.ofNat 0)), (.str 0 0), (.int .i64 (.ofNat 0))] H)) fun x146 H => 
  bV (pExtract x146 0) fun x147 => 
  bV (pExtract x146 1) fun x148 => 
  bA (bxV 23 (.agg [(.int .u8 (.ofNat 0)), (.int .i64 (.ofNat 0)), (.int .i64 (.ofNat 0)), (.int .i64 (.ofNat 0)), (.int .i64 (.ofNat 0)), (.int .i64 (.ofNat 0)), (.int .i64 (.ofNat 0)), (.int .i64 (.ofNat 0))])) H fun x43 H => 
  bR (stNp 8 x43 x147 H) fun x9999_12 H => 
  bR (noPan (f19 D n [.nilPtr, (.int .i64 (.ofNat 0))] H)) fun x162 H => 
  bV (bldSp [(0, 1), (1, 1), (2, 1), (3, 1), (4, 1), (5, 1), (6, 1), (7, 1)] [(.int .u8 (.ofNat 0)), (.int .i64 (.ofNat 0)), (.int .i64 (.ofNat 0)), (.int .i64 (.ofNat 0)), (.int .i64 (.ofNat 0)), (.int .i64 (.ofNat 0)), (.int .i64 (.ofNat 0)), (.int .i64 (.ofNat 0))] []) fun x163 => 
  bR (noPan (f20 D n [.nilPtr, x163] H)) fun x164 H => 
  bA (bldLp 24 1 15 [(.int .i64 (.ofNat 0))] [(0, x50), (1, x55), (2, x59), (3, x63), (4, x67), (5, x71), (6, x75), (7, x79), (8, x83), (9, x87), (10, x92), (11, x96), (12, x100), (13, x162), (14, x164)]) H fun x165 H => 
  bV (lnSl x165) fun x166 => 
  jb 0 (loopK n (f3l0 D n) [x106, x111, x113, x115, x122, x129, x135, x136, x141, x148, x165, x166, (.int .i64 (.ofNat 0))] H) (f3b1 D n))
def h3 : Hint := (.s .o (.s .o (.s .o (.s .o (.s .o (.s .o (.s .o (.s .o (.s .o (.s .o (.s .o (.s .o (.s .o (.s .o (.s .o (.s .o (.s .o (.s .o (.s .o (.s .o (.s .o (.s .o (.s .o (.s (.s .o (.b [30, 32, 33, 34, 36, 38, 39, 40, 42, 44] (.l [30, 32, 33, 34, 36, 38, 39, 40, 42, 44, 165, 166, 167] (.s .o (.s (.cr .o .o) (.s (.b0 (.s .o (.s .o (.cl (.s .o .o) .o)))) .o)))))) (.s .o .o)))))))))))))))))))))))))
theorem f3_eq (D : Dyn) (n : Nat) : f3 D n = funKp (s3 D n) D n 3 Tryz.f3 h3 := by kernel_rfl
theorem f3_ok {D : Dyn} (hD : DP D) (n : Nat) : FP 3 (f3 D n) := fun_okP X_ok hD (SP.cons (f5_ok hD n) (SP.cons (f6_ok hD n) (SP.cons (f7_ok hD n) (SP.cons (f8_ok hD n) (SP.cons (f9_ok hD n) (SP.cons (f10_ok hD n) (SP.cons (f11_ok hD n) (SP.cons (f12_ok hD n) (SP.cons (f13_ok hD n) (SP.cons (f14_ok hD n) (SP.cons (f15_ok hD n) (SP.cons (f16_ok hD n) (SP.cons (f17_ok hD n) (SP.cons (f18_ok hD n) (SP.cons (f19_ok hD n) (SP.cons (f20_ok hD n) (SP.cons (f21_ok hD n) (SP.nil)))))))))))))))))) Tryz.func3 (by kernel_rfl) (by kernel_rfl) (f3_eq D n)
end Go.Eng.Sh
