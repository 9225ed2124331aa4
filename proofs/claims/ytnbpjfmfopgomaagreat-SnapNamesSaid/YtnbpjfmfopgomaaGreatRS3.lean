/- Shallow functions, by program (gen.py). -/
import Derived.Test.YtnbpjfmfopgomaaGreatRS2
import Derived.Test.YtnbpjfmfopgomaaGreatProg
import Derived.KernelRfl
noncomputable section
namespace Go.Eng.Sh
open Go.Proofs
set_option maxRecDepth 100000
set_option linter.all false
def s44 (D : Dyn) (n : Nat) : Tb := ⟨X, [(109, f109 D n), (110, f110 D n)]⟩
/-- (*jetty/tree.Tree).read -/
def f44 (D : Dyn) (n : Nat) (vs : List AV) (H : AH) : Option (AV × AH) :=
  outR (hd vs fun x0 vs => hd vs fun x1 vs => nl vs <|
  bA (bxV 35 x1) H fun x3 H => 
  bA (bxV 46 (.agg [(.bool false), .nilSlice, .nilSlice, .nilSlice])) H fun x4 H => 
  bV (fAd 0 x3) fun x11 => 
  bV (ld1p x11 H) fun x12 => 
  bV (bInt .eql x12 (.int .i64 (.ofNat 1))) fun x13 => 
  cnd x13 (bV (pNil x0) fun x16 => 
  bV (fAd 5 x16) fun x17 => 
  bV (ld1p x17 H) fun x18 => 
  bV (fAd 2 x3) fun x19 => 
  bV (ld1p x19 H) fun x20 => 
  bV (lkM [10] (.agg [(.bool false), .nilSlice, .nilSlice, .nilSlice]) true x18 x20 H) fun x21 => 
  bV (pExtract x21 0) fun x22 => 
  bV (pExtract x21 1) fun x23 => 
  bA (bxV 46 (.agg [(.bool false), .nilSlice, .nilSlice, .nilSlice])) H fun x6 H => 
  bR (stNp 4 x6 x22 H) fun x9999 H => 
  bV (aun .not x23) fun x25 => 
  jn (wnt x25 false (bV (fAd 1 x3) fun x27 => 
  bV (ld1p x27 H) fun x28 => 
  bV (bInt .neq x28 (.int .i64 (.ofNat 0))) fun x29 => 
  some (.norm [x29], H)) (some (.norm [undefA], H))) fun vs H => hd vs fun x29_2 vs => 
  bV (pk3 (some x25) (some (.bool true)) (some x29_2)) fun x30 => 
  cnd x30 (bV (bldSp [(0, 1), (1, 1), (2, 1), (3, 1)] [(.bool false), .nilSlice, .nilSlice, .nilSlice] []) fun x31 => 
  bR (stNp 4 x4 x31 H) fun x9999_2 H => 
  bV (ldNp 4 x4 H) fun x9004 => bV (some (.int .i64 (.ofNat 1))) fun x5 => some (.ret (.tuple [x9004, x5]), H))
  (bV (ldNp 4 x6 H) fun x32 => 
  bR (stNp 4 x4 x32 H) fun x9999_3 H => 
  bV (ldNp 4 x4 H) fun x9004_2 => bV (some (.int .i64 (.ofNat 0))) fun x5_2 => some (.ret (.tuple [x9004_2, x5_2]), H)))
  (bV (ldNp 3 x3 H) fun x35 => 
  bR (noPan (f109 D n [x0, x35] H)) fun x36 H => 
  bV (pExtract x36 0) fun x37 => 
  bV (pExtract x36 1) fun x38 => 
  bV (pExtract x36 2) fun x39 => 
  bV (bInt .neq x39 (.int .i64 (.ofNat 0))) fun x41 => 
  cnd x41 (bV (bldSp [(0, 1), (1, 1), (2, 1), (3, 1)] [(.bool false), .nilSlice, .nilSlice, .nilSlice] []) fun x42 => 
  bR (stNp 4 x4 x42 H) fun x9999_4 H => 
  bV (ldNp 4 x4 H) fun x9004_3 => bV (some x39) fun x5_3 => some (.ret (.tuple [x9004_3, x5_3]), H))
  (bV (bInt .neq x37 (.int .u8 (.ofNat 1))) fun x45 => 
  jn (wnt x45 true (bV (bInt .neq x37 (.int .u8 (.ofNat 2))) fun x48 => 
  some (.norm [x48], H)) (some (.norm [undefA], H))) fun vs H => hd vs fun x48_2 vs => 
  bV (pk3 (some x45) (some x48_2) (some (.bool false))) fun x49 => 
  cnd x49 (bV (bldSp [(0, 1), (1, 1), (2, 1), (3, 1)] [(.bool false), .nilSlice, .nilSlice, .nilSlice] []) fun x50 => 
  bR (stNp 4 x4 x50 H) fun x9999_5 H => 
  bV (ldNp 4 x4 H) fun x9004_4 => bV (some (.int .i64 (.ofNat 4))) fun x5_4 => some (.ret (.tuple [x9004_4, x5_4]), H))
  (bV (bInt .eql x37 (.int .u8 (.ofNat 1))) fun x52 => 
  bR (noPan (f110 D n [x52, x38] H)) fun x54 H => 
  bV (pExtract x54 0) fun x55 => 
  bV (pExtract x54 1) fun x56 => 
  bR (stNp 4 x4 x55 H) fun x9999_6 H => 
  bV (ldNp 4 x4 H) fun x9004_5 => bV (some x56) fun x5_5 => some (.ret (.tuple [x9004_5, x5_5]), H)))))
def h44 : Hint := (.s .o (.s (.s .o (.cl (.s .o (.s (.s .o (.cl (.s .o .o) .o)) (.s .o .o))) .o)) (.s .o (.s (.s .o (.cl (.s .o .o) .o)) (.s (.s .o (.cl (.s .o .o) .o)) (.s .o .o))))))
theorem f44_eq (D : Dyn) (n : Nat) : f44 D n = funKp (s44 D n) D n 44 Tryz.f44 h44 := by kernel_rfl
theorem f44_ok {D : Dyn} (hD : DP D) (n : Nat) : FP 44 (f44 D n) := fun_okP X_ok hD (SP.cons (f109_ok hD n) (SP.cons (f110_ok hD n) (SP.nil))) Tryz.func44 (by kernel_rfl) (by kernel_rfl) (f44_eq D n)

def s48 (D : Dyn) (n : Nat) : Tb := ⟨X, []⟩
/-- slices.Clone[[]string,string] -/
def f48 (D : Dyn) (n : Nat) (vs : List AV) (H : AH) : Option (AV × AH) :=
  outR (hd vs fun x0 vs => nl vs <|
  bV (cmpO .eql (eqS x0 .nilSlice)) fun x4 => 
  cnd x4 (bV (some .nilSlice) fun x2 => some (.ret x2, H))
  (bA (bldLp 9 1 0 [(.str 0 0)] []) H fun x5 H => 
  bR (apPp 9 1 16 x5 x0 H) fun x7 H => 
  bV (some x7) fun x2_2 => some (.ret x2_2, H)))
def h48 : Hint := (.s .o (.s (.s .o (.cl (.s .o .o) .o)) (.s .o .o)))
theorem f48_eq (D : Dyn) (n : Nat) : f48 D n = funKp (s48 D n) D n 48 Tryz.f48 h48 := by kernel_rfl
theorem f48_ok {D : Dyn} (hD : DP D) (n : Nat) : FP 48 (f48 D n) := fun_okP X_ok hD (SP.nil) Tryz.func48 (by kernel_rfl) (by kernel_rfl) (f48_eq D n)

def s49 (D : Dyn) (n : Nat) : Tb := ⟨X, []⟩
/-- slices.Clone[[]jetty/api.Ptr,jetty/api.Ptr] -/
def f49 (D : Dyn) (n : Nat) (vs : List AV) (H : AH) : Option (AV × AH) :=
  outR (hd vs fun x0 vs => nl vs <|
  bV (cmpO .eql (eqS x0 .nilSlice)) fun x4 => 
  cnd x4 (bV (some .nilSlice) fun x2 => some (.ret x2, H))
  (bA (bldLp 35 3 0 [(.int .i64 (.ofNat 0)), (.int .i64 (.ofNat 0)), (.int .u64 (.ofNat 0))] []) H fun x5 H => 
  bR (apPp 35 3 24 x5 x0 H) fun x7 H => 
  bV (some x7) fun x2_2 => some (.ret x2_2, H)))
def h49 : Hint := (.s .o (.s (.s .o (.cl (.s .o .o) .o)) (.s .o .o)))
theorem f49_eq (D : Dyn) (n : Nat) : f49 D n = funKp (s49 D n) D n 49 Tryz.f49 h49 := by kernel_rfl
theorem f49_ok {D : Dyn} (hD : DP D) (n : Nat) : FP 49 (f49 D n) := fun_okP X_ok hD (SP.nil) Tryz.func49 (by kernel_rfl) (by kernel_rfl) (f49_eq D n)

def s12 (D : Dyn) (n : Nat) : Tb := ⟨X, [(42, f42 D n), (44, f44 D n), (48, f48 D n), (49, f49 D n)]⟩
/-- (*jetty/tree.Tree).Load -/
def f12 (D : Dyn) (n : Nat) (vs : List AV) (H : AH) : Option (AV × AH) :=
  outR (hd vs fun x0 vs => hd vs fun x1 vs => nl vs <|
  bA (bxV 35 x1) H fun x3 H => 
  bA (bxV 46 (.agg [(.bool false), .nilSlice, .nilSlice, .nilSlice])) H fun x4 H => 
  bR (noPan (f42 D n [x0] H)) fun x9 H => 
  cnd x9 (bV (bldSp [(0, 1), (1, 1), (2, 1), (3, 1)] [(.bool false), .nilSlice, .nilSlice, .nilSlice] []) fun x10 => 
  bR (stNp 4 x4 x10 H) fun x9999 H => 
  bV (ldNp 4 x4 H) fun x9004 => bV (some (.int .i64 (.ofNat 2))) fun x5 => some (.ret (.tuple [x9004, x5]), H))
  (bV (fAd 0 x3) fun x11 => 
  bV (ld1p x11 H) fun x12 => 
  bV (bInt .eql x12 (.int .i64 (.ofNat 0))) fun x13 => 
  cnd x13 (bV (bldSp [(0, 1), (1, 1), (2, 1), (3, 1)] [(.bool false), .nilSlice, .nilSlice, .nilSlice] []) fun x14 => 
  bR (stNp 4 x4 x14 H) fun x9999_2 H => 
  bV (ldNp 4 x4 H) fun x9004_2 => bV (some (.int .i64 (.ofNat 1))) fun x5_2 => some (.ret (.tuple [x9004_2, x5_2]), H))
  (bV (ldNp 3 x3 H) fun x17 => 
  bR (noPan (f44 D n [x0, x17] H)) fun x18 H => 
  bV (pExtract x18 0) fun x19 => 
  bV (pExtract x18 1) fun x20 => 
  bA (bxV 46 (.agg [(.bool false), .nilSlice, .nilSlice, .nilSlice])) H fun x6 H => 
  bR (stNp 4 x6 x19 H) fun x9999_3 H => 
  bV (bInt .neq x20 (.int .i64 (.ofNat 0))) fun x22 => 
  cnd x22 (bV (bldSp [(0, 1), (1, 1), (2, 1), (3, 1)] [(.bool false), .nilSlice, .nilSlice, .nilSlice] []) fun x23 => 
  bR (stNp 4 x4 x23 H) fun x9999_4 H => 
  bV (ldNp 4 x4 H) fun x9004_3 => bV (some x20) fun x5_3 => some (.ret (.tuple [x9004_3, x5_3]), H))
  (bV (fAd 0 x6) fun x25 => 
  bV (ld1p x25 H) fun x26 => 
  bV (fAd 1 x6) fun x27 => 
  bV (ld1p x27 H) fun x28 => 
  bV (fAd 2 x6) fun x30 => 
  bV (ld1p x30 H) fun x31 => 
  bV (fAd 3 x6) fun x33 => 
  bV (ld1p x33 H) fun x34 => 
  bR (noPan (f48 D n [x28] H)) fun x29 H => chk (ld1p x25 H) x26 <| chk (ld1p x30 H) x31 <| chk (ld1p x33 H) x34 <| 
  bR (noPan (f48 D n [x31] H)) fun x32 H => chk (ld1p x25 H) x26 <| chk (ld1p x33 H) x34 <| 
  bR (noPan (f49 D n [x34] H)) fun x35 H => chk (ld1p x25 H) x26 <| 
  bV (bldSp [(0, 1), (1, 1), (2, 1), (3, 1)] [(.bool false), .nilSlice, .nilSlice, .nilSlice] [(0, x26), (1, x29), (2, x32), (3, x35)]) fun x36 => 
  bR (stNp 4 x4 x36 H) fun x9999_5 H => 
  bV (ldNp 4 x4 H) fun x9004_4 => bV (some (.int .i64 (.ofNat 0))) fun x5_4 => some (.ret (.tuple [x9004_4, x5_4]), H)))))
def h12 : Hint := (.s .o (.s (.s .o (.cl (.s .o .o) .o)) (.s (.s .o (.cl (.s .o .o) .o)) (.s .o (.s (.s .o (.cl (.s .o .o) .o)) (.s .o .o))))))
theorem f12_eq (D : Dyn) (n : Nat) : f12 D n = funKp (s12 D n) D n 12 Tryz.f12 h12 := by kernel_rfl
theorem f12_ok {D : Dyn} (hD : DP D) (n : Nat) : FP 12 (f12 D n) := fun_okP X_ok hD (SP.cons (f42_ok hD n) (SP.cons (f44_ok hD n) (SP.cons (f48_ok hD n) (SP.cons (f49_ok hD n) (SP.nil))))) Tryz.func12 (by kernel_rfl) (by kernel_rfl) (f12_eq D n)

def s225 (D : Dyn) (n : Nat) : Tb := ⟨X, [(12, f12 D n)]⟩
def f225l0 (D : Dyn) (n : Nat) (vs : List AV) (H : AH) : Rs :=
  hd vs fun x2_2 vs => hd vs fun x3_2 vs => hd vs fun x4_2 vs => hd vs fun x30_2 vs => hd vs fun x31_2 vs => hd vs fun x32 vs => 
  bV (bInt .lss x32 x31_2) fun x33 => 
  cnd x33 (bV (ixSl 3 x30_2 x32) fun x34 => 
  bV (ldNp 3 x34 H) fun x35 => 
  bA (bxV 35 (.agg [(.int .i64 (.ofNat 0)), (.int .i64 (.ofNat 0)), (.int .u64 (.ofNat 0))])) H fun x8 H => 
  bR (stNp 3 x8 x35 H) fun x9999_3 H => 
  bV (ld1p x2_2 H) fun x36 => 
  bV (ldNp 3 x8 H) fun x37 => 
  bV (ld1p x3_2 H) fun x38 => 
  bR (noPan (D.fn 206 [x36, x37, x38] H)) fun x39 H => 
  newB H (.loop ⟨.ready, none, 225, 0, [4], [x4_2]⟩) fun A H => bR (rfC (s225 D n).S D x39 A H) fun _ H => endLp A H fun j H => jmpK j (
  bV (ld1p x3_2 H) fun x45 => 
  bV (pNil x45) fun x46 => 
  bV (ld1p x46 H) fun x47 => 
  bV (bInt .neq x47 (.int .i64 (.ofNat 0))) fun x48 => 
  cnd x48 (some (.ret (.tuple []), H))
  (bV (bInt .add x32 (.int .i64 (.ofNat 1))) fun x49 => 
  some (.norm [x2_2, x3_2, x4_2, x30_2, x31_2, x49], H)))
  (fun id => cond (Nat.beq 0 id) (some (.exit id [], H)) (none)) (some (.ret (.tuple []), H)))
  (some (.exit 0 [], H))
def f225b1 (D : Dyn) (n : Nat) (vs : List AV) (H : AH) : Rs :=
  
  some (.ret (.tuple []), H)
/-- jetty/txg.blocks$1 -/
def f225 (D : Dyn) (n : Nat) (vs : List AV) (H : AH) : Option (AV × AH) :=
  outR (hd vs fun x0 vs => hd vs fun x1 vs => hd vs fun x2 vs => hd vs fun x3 vs => nl vs <|
  bA (bxV 136 x0) H fun x4 H => 
  bV (fAd 0 x1) fun x10 => 
  bV (ld1p x10 H) fun x11 => 
  bV (bInt .eql x11 (.int .i64 (.ofNat 0))) fun x12 => 
  cnd x12 (some (.ret (.tuple []), H))
  (bV (ld1p x2 H) fun x14 => 
  bV (ldNp 3 x1 H) fun x15 => 
  bR (noPan (f12 D n [x14, x15] H)) fun x16 H => 
  bV (pExtract x16 0) fun x17 => 
  bV (pExtract x16 1) fun x18 => 
  bA (bxV 46 (.agg [(.bool false), .nilSlice, .nilSlice, .nilSlice])) H fun x5 H => 
  bR (stNp 4 x5 x17 H) fun x9999 H => 
  bV (bInt .neq x18 (.int .i64 (.ofNat 0))) fun x20 => 
  cnd x20 (bV (ld1p x3 H) fun x21 => 
  bV (pNil x21) fun x23 => 
  bR (stNp 1 x23 x18 H) fun x9999_2 H => 
  some (.ret (.tuple []), H))
  (bV (ld1p x4 H) fun x24 => 
  bV (fAd 0 x1) fun x25 => 
  bV (ld1p x25 H) fun x26 => 
  bR (noPan (callV (s225 D n).S D x24 [x26] H)) fun x27 H => 
  bV (aun .not x27) fun x28 => 
  cnd x28 (some (.ret (.tuple []), H))
  (bV (fAd 3 x5) fun x29 => 
  bV (ld1p x29 H) fun x30 => 
  bV (lnSl x30) fun x31 => 
  jb 0 (loopK n (f225l0 D n) [x2, x3, x4, x30, x31, (.int .i64 (.ofNat 0))] H) (f225b1 D n)))))
def h225 : Hint := (.s .o (.s (.s .o (.cl .o .o)) (.s .o (.s (.s .o (.cl (.s .o .o) .o)) (.s (.s .o (.cl .o .o)) (.s .o (.b [] (.l [2, 3, 4, 30, 31, 32] (.s .o (.s (.cr .o .o) (.s (.b0 (.s .o (.s (.s .o (.b0 (.rf 0 [4]))) (.s .o (.cl .o .o))))) .o)))))))))))
theorem f225_eq (D : Dyn) (n : Nat) : f225 D n = funKp (s225 D n) D n 225 Tryz.f225 h225 := by kernel_rfl
theorem f225_ok {D : Dyn} (hD : DP D) (n : Nat) : FP 225 (f225 D n) := fun_okP X_ok hD (SP.cons (f12_ok hD n) (SP.nil)) Tryz.func225 (by kernel_rfl) (by kernel_rfl) (f225_eq D n)
def r225_0 (D : Dyn) (n : Nat) (A : Nat) (l : ALoop) (az : List AV) (H : AH) : Option (AV × AH) :=
  bif eqNL [4] l.live then endQ A (hd l.vals fun x4 vs => hd az fun x40 az => nl az <|
  beginK A H fun H => 
  bV (ld1p x4 H) fun x41 => 
  bR (noPan (callV (s225 D n).S D x41 [x40] H)) fun x43 H => 
  bV (aun .not x43) fun x44 => 
  cnd x44 (some (.ret (.tuple []), H))
  (some (.norm [], H))) else none
def r225_0a : Hint := .o
def r225_0b : Hint := (.b0 (.s .o (.cl .o .o)))
theorem r225_0_eq (D : Dyn) (n : Nat) : r225_0 D n = rndKp (s225 D n) D n 225 0 [4] [0] r225_0a r225_0b := by kernel_rfl
theorem r225_0_ok {D : Dyn} (hD : DP D) (n : Nat) : RdP 225 0 (r225_0 D n) := round_okP X_ok hD (SP.cons (f12_ok hD n) (SP.nil)) (by kernel_rfl) (r225_0_eq D n)

def s206 (D : Dyn) (n : Nat) : Tb := ⟨X, []⟩
/-- jetty/txg.blocks -/
def f206 (D : Dyn) (n : Nat) (vs : List AV) (H : AH) : Option (AV × AH) :=
  outR (hd vs fun x0 vs => hd vs fun x1 vs => hd vs fun x2 vs => nl vs <|
  bA (bxV 30 x0) H fun x3 H => 
  bA (bxV 35 x1) H fun x4 H => 
  bA (bxV 229 x2) H fun x5 H => 
  bV (some (.func 225 [] [x4, x3, x5])) fun x6 => some (.ret x6, H))
def h206 : Hint := (.s .o (.s .o .o))
theorem f206_eq (D : Dyn) (n : Nat) : f206 D n = funKp (s206 D n) D n 206 Tryz.f206 h206 := by kernel_rfl
theorem f206_ok {D : Dyn} (hD : DP D) (n : Nat) : FP 206 (f206 D n) := fun_okP X_ok hD (SP.nil) Tryz.func206 (by kernel_rfl) (by kernel_rfl) (f206_eq D n)

def s115 (D : Dyn) (n : Nat) : Tb := ⟨X, []⟩
/-- (*jetty/space.Space).ask -/
def f115 (D : Dyn) (n : Nat) (vs : List AV) (H : AH) : Option (AV × AH) :=
  outR (hd vs fun x0 vs => hd vs fun x1 vs => nl vs <|
  bV (cmpO .eql (eqP x0 .nilPtr)) fun x6 => 
  cnd x6 (bV (some (.int .i64 (.ofNat 2))) fun x4 => some (.ret x4, H))
  (bV (bInt .lss x1 (.int .i64 (.ofNat 2))) fun x8 => 
  jn (wnt x8 false (bV (pNil x0) fun x12 => 
  bV (fAd 0 x12) fun x13 => 
  bV (ld1p x13 H) fun x14 => 
  bV (bInt .geq x1 x14) fun x15 => 
  some (.norm [x15], H)) (some (.norm [undefA], H))) fun vs H => hd vs fun x15_2 vs => 
  bV (pk3 (some x8) (some (.bool true)) (some x15_2)) fun x16 => 
  cnd x16 (bV (some (.int .i64 (.ofNat 1))) fun x4_2 => some (.ret x4_2, H))
  (bV (some (.int .i64 (.ofNat 0))) fun x4_3 => some (.ret x4_3, H))))
def h115 : Hint := (.s .o (.s (.s .o (.cl (.s .o .o) .o)) (.s (.s .o (.cl (.s .o .o) .o)) (.s .o .o))))
theorem f115_eq (D : Dyn) (n : Nat) : f115 D n = funKp (s115 D n) D n 115 Tryz.f115 h115 := by kernel_rfl
theorem f115_ok {D : Dyn} (hD : DP D) (n : Nat) : FP 115 (f115 D n) := fun_okP X_ok hD (SP.nil) Tryz.func115 (by kernel_rfl) (by kernel_rfl) (f115_eq D n)

def s207 (D : Dyn) (n : Nat) : Tb := ⟨X, [(115, f115 D n), (40, f40 D n)]⟩
/-- (*jetty/space.Space).Mark -/
def f207 (D : Dyn) (n : Nat) (vs : List AV) (H : AH) : Option (AV × AH) :=
  outR (hd vs fun x0 vs => hd vs fun x1 vs => nl vs <|
  bR (noPan (f115 D n [x0, x1] H)) fun x8 H => 
  bV (bInt .neq x8 (.int .i64 (.ofNat 0))) fun x10 => 
  cnd x10 (bV (some x8) fun x4 => some (.ret x4, H))
  (bV (pNil x0) fun x14 => 
  bV (fAd 2 x14) fun x15 => 
  bV (ixArr 8192 1 x15 x1) fun x16 => 
  bV (ld1p x16 H) fun x17 => 
  bV (bInt .neq x17 (.int .u8 (.ofNat 0))) fun x18 => 
  cnd x18 (bV (some (.int .i64 (.ofNat 6))) fun x4_2 => some (.ret x4_2, H))
  (bR (noPan (f40 D n [x0, x1, (.int .u8 (.ofNat 1))] H)) fun x21 H => 
  bV (some (.int .i64 (.ofNat 0))) fun x4_3 => some (.ret x4_3, H))))
def h207 : Hint := (.s .o (.s (.s .o (.s .o (.cl (.s .o .o) .o))) (.s (.s .o (.cl (.s .o .o) .o)) (.s .o (.s .o .o)))))
theorem f207_eq (D : Dyn) (n : Nat) : f207 D n = funKp (s207 D n) D n 207 Tryz.f207 h207 := by kernel_rfl
theorem f207_ok {D : Dyn} (hD : DP D) (n : Nat) : FP 207 (f207 D n) := fun_okP X_ok hD (SP.cons (f115_ok hD n) (SP.cons (f40_ok hD n) (SP.nil))) Tryz.func207 (by kernel_rfl) (by kernel_rfl) (f207_eq D n)

def s146 (D : Dyn) (n : Nat) : Tb := ⟨X, [(206, f206 D n), (207, f207 D n)]⟩
/-- (*jetty/txg.Store).mark -/
def f146 (D : Dyn) (n : Nat) (vs : List AV) (H : AH) : Option (AV × AH) :=
  outR (hd vs fun x0 vs => nl vs <|
  bA (bxV 121 x0) H fun x1 H => 
  bA (bxV 24 (.int .i64 (.ofNat 0))) H fun x2 H => 
  bA (bxV 24 (.int .i64 (.ofNat 0))) H fun x3 H => 
  bR (stNp 1 x3 (.int .i64 (.ofNat 0)) H) fun x9999 H => 
  bV (ld1p x1 H) fun x6 => 
  bV (pNil x6) fun x7 => 
  bV (fAd 2 x7) fun x8 => 
  bV (ld1p x8 H) fun x9 => 
  bV (ld1p x1 H) fun x10 => 
  bV (pNil x10) fun x11 => 
  bV (fAd 6 x11) fun x12 => 
  bV (ldNp 3 x12 H) fun x13 => 
  bR (noPan (f206 D n [x9, x13, x3] H)) fun x14 H => 
  newB H (.loop ⟨.ready, none, 146, 0, [1, 2], [x1, x2]⟩) fun A H => bR (rfC (s146 D n).S D x14 A H) fun _ H => endLp A H fun j H => jmpK j (
  bV (ld1p x3 H) fun x31 => 
  bR (stNp 1 x2 x31 H) fun x9999_2 H => 
  bV (ld1p x2 H) fun x9002_2 => some (.ret x9002_2, H))
  (fun id => none) (bV (ld1p x2 H) fun x9002 => some (.ret x9002, H)))
def h146 : Hint := (.s .o (.s .o (.s (.s .o (.b0 (.rf 0 [1, 2]))) (.s .o .o))))
theorem f146_eq (D : Dyn) (n : Nat) : f146 D n = funKp (s146 D n) D n 146 Tryz.f146 h146 := by kernel_rfl
theorem f146_ok {D : Dyn} (hD : DP D) (n : Nat) : FP 146 (f146 D n) := fun_okP X_ok hD (SP.cons (f206_ok hD n) (SP.cons (f207_ok hD n) (SP.nil))) Tryz.func146 (by kernel_rfl) (by kernel_rfl) (f146_eq D n)
def r146_0 (D : Dyn) (n : Nat) (A : Nat) (l : ALoop) (az : List AV) (H : AH) : Option (AV × AH) :=
  bif eqNL [1, 2] l.live then endQ A (hd l.vals fun x1 vs => hd vs fun x2 vs => hd az fun x15 az => nl az <|
  beginK A H fun H => 
  bV (ld1p x1 H) fun x16 => 
  bV (pNil x16) fun x17 => 
  bV (fAd 4 x17) fun x18 => 
  bV (ld1p x18 H) fun x19 => 
  bR (noPan (f207 D n [x19, x15] H)) fun x21 H => 
  bV (bInt .neq x21 (.int .i64 (.ofNat 0))) fun x23 => 
  cnd x23 (bR (stNp 1 x2 x21 H) fun x9999 H => 
  some (.ret (.tuple []), H))
  (bV (ld1p x1 H) fun x25 => 
  bV (pNil x25) fun x26 => 
  bV (fAd 9 x26) fun x27 => 
  bV (ld1p x27 H) fun x28 => 
  bV (bldSp [] [] []) fun x30 => 
  bR (upM [6] x28 x15 x30 H) fun x9999_2 H => 
  some (.norm [], H))) else none
def r146_0a : Hint := .o
def r146_0b : Hint := (.b0 (.s (.s .o (.s .o (.cl (.s .o .o) .o))) .o))
theorem r146_0_eq (D : Dyn) (n : Nat) : r146_0 D n = rndKp (s146 D n) D n 146 0 [1, 2] [] r146_0a r146_0b := by kernel_rfl
theorem r146_0_ok {D : Dyn} (hD : DP D) (n : Nat) : RdP 146 0 (r146_0 D n) := round_okP X_ok hD (SP.cons (f206_ok hD n) (SP.cons (f207_ok hD n) (SP.nil))) (by kernel_rfl) (r146_0_eq D n)

def s78 (D : Dyn) (n : Nat) : Tb := ⟨X, [(143, f143 D n), (144, f144 D n), (67, f67 D n), (145, f145 D n), (7, f7 D n), (8, f8 D n), (146, f146 D n)]⟩
def f78j0 (D : Dyn) (n : Nat) (vs : List AV) (H : AH) : Rs :=
  hd vs fun x0_2 vs => hd vs fun x8_2 vs => hd vs fun x9 vs => 
  bR (noPan (f145 D n [x0_2] H)) fun x70 H => 
  bR (noPan (f7 D n [x70] H)) fun x71 H => 
  bV (pExtract x71 0) fun x72 => 
  bV (pExtract x71 1) fun x73 => 
  bV (pNil x9) fun x74 => 
  bV (fAd 4 x74) fun x75 => 
  bR (stNp 1 x75 x72 H) fun x9999_4 H => 
  bV (bInt .neq x73 (.int .i64 (.ofNat 0))) fun x77 => 
  cnd x77 (bV (some .nilPtr) fun x4_7 => bV (some x73) fun x5_7 => some (.ret (.tuple [x4_7, x5_7]), H))
  (bV (pNil x9) fun x83 => 
  bV (fAd 1 x83) fun x84 => 
  bV (ld1p x84 H) fun x85 => 
  bV (ldNp 3 x8_2 H) fun x86 => 
  bR (noPan (f8 D n [x0_2, x85, x86] H)) fun x87 H => 
  bV (pExtract x87 0) fun x88 => 
  bV (pExtract x87 1) fun x89 => 
  bV (pNil x9) fun x90 => 
  bV (fAd 2 x90) fun x91 => 
  bR (stNp 1 x91 x88 H) fun x9999_5 H => 
  bV (bInt .neq x89 (.int .i64 (.ofNat 0))) fun x93 => 
  cnd x93 (bV (some .nilPtr) fun x4_8 => bV (some x89) fun x5_8 => some (.ret (.tuple [x4_8, x5_8]), H))
  (bR (noPan (f146 D n [x9] H)) fun x96 H => 
  bV (bInt .neq x96 (.int .i64 (.ofNat 0))) fun x98 => 
  cnd x98 (bV (some .nilPtr) fun x4_9 => bV (some x96) fun x5_9 => some (.ret (.tuple [x4_9, x5_9]), H))
  (bV (some x9) fun x4_10 => bV (some (.int .i64 (.ofNat 0))) fun x5_10 => some (.ret (.tuple [x4_10, x5_10]), H))))
/-- jetty/txg.Open -/
def f78 (D : Dyn) (n : Nat) (vs : List AV) (H : AH) : Option (AV × AH) :=
  outR (hd vs fun x0 vs => hd vs fun x1 vs => nl vs <|
  bV (cmpO .eql (eqP x0 .nilPtr)) fun x11 => 
  cnd x11 (bV (some .nilPtr) fun x4 => bV (some (.int .i64 (.ofNat 2))) fun x5 => some (.ret (.tuple [x4, x5]), H))
  (bV (bInt .lss x1 (.int .i64 (.ofNat 0))) fun x13 => 
  jn (wnt x13 false (bV (bInt .gtr x1 (.int .i64 (.ofNat 1024))) fun x16 => 
  some (.norm [x16], H)) (some (.norm [undefA], H))) fun vs H => hd vs fun x16_2 vs => 
  bV (pk3 (some x13) (some (.bool true)) (some x16_2)) fun x17 => 
  cnd x17 (bV (some .nilPtr) fun x4_2 => bV (some (.int .i64 (.ofNat 1))) fun x5_2 => some (.ret (.tuple [x4_2, x5_2]), H))
  (bR (noPan (f143 D n [x0] H)) fun x20 H => 
  bV (pExtract x20 0) fun x21 => 
  bV (pExtract x20 1) fun x22 => 
  bA (bxV 161 (.agg [(.int .i64 (.ofNat 0)), (.str 0 0)])) H fun x6 H => 
  bR (stNp 2 x6 x21 H) fun x9999 H => 
  bV (bInt .neq x22 (.int .i64 (.ofNat 0))) fun x24 => 
  cnd x24 (bV (some .nilPtr) fun x4_3 => bV (some x22) fun x5_3 => some (.ret (.tuple [x4_3, x5_3]), H))
  (bV (fAd 1 x6) fun x26 => 
  bV (ld1p x26 H) fun x27 => 
  bV (lnStr x27) fun x28 => 
  bV (bInt .lss x28 (.int .i64 (.ofNat 16))) fun x29 => 
  cnd x29 (bV (some .nilPtr) fun x4_4 => bV (some (.int .i64 (.ofNat 4))) fun x5_4 => some (.ret (.tuple [x4_4, x5_4]), H))
  (bV (fAd 1 x6) fun x31 => 
  bV (ld1p x31 H) fun x32 => 
  bV (slStr x32 none (some (.int .i64 (.ofNat 16)))) fun x33 => 
  bR (noPan (f144 D n [x33] H)) fun x34 H => 
  bV (pExtract x34 0) fun x35 => 
  bV (pExtract x34 1) fun x36 => 
  bA (bxV 35 (.agg [(.int .i64 (.ofNat 0)), (.int .i64 (.ofNat 0)), (.int .u64 (.ofNat 0))])) H fun x8 H => 
  bR (stNp 3 x8 x35 H) fun x9999_2 H => 
  bV (bInt .neq x36 (.int .i64 (.ofNat 0))) fun x38 => 
  jn (wnt x38 false (bV (fAd 0 x8) fun x40 => 
  bV (ld1p x40 H) fun x41 => 
  bV (bInt .eql x41 (.int .i64 (.ofNat 1))) fun x42 => 
  some (.norm [x42], H)) (some (.norm [undefA], H))) fun vs H => hd vs fun x42_2 vs => 
  bV (pk3 (some x38) (some (.bool true)) (some x42_2)) fun x43 => 
  cnd x43 (bV (some .nilPtr) fun x4_5 => bV (some (.int .i64 (.ofNat 4))) fun x5_5 => some (.ret (.tuple [x4_5, x5_5]), H))
  (bV (fAd 1 x6) fun x45 => 
  bV (ld1p x45 H) fun x46 => 
  bV (slStr x46 (some (.int .i64 (.ofNat 16))) none) fun x47 => 
  bV (fAd 0 x6) fun x48 => 
  bV (ld1p x48 H) fun x49 => 
  bV (ldNp 3 x8 H) fun x50 => 
  bA (mkM [6]) H fun x51 H => 
  bV (bldSp [(0, 1), (1, 1), (2, 1), (3, 1), (4, 1), (5, 1), (6, 3), (9, 1)] [.nilPtr, .nilPtr, .nilPtr, (.str 0 0), .nilPtr, (.int .i64 (.ofNat 0)), (.int .i64 (.ofNat 0)), (.int .i64 (.ofNat 0)), (.int .u64 (.ofNat 0)), .nilMap] [(0, x0), (3, x47), (5, x49), (6, x50), (7, x51)]) fun x52 => 
  bA (bxV 215 x52) H fun x53 H => 
  bV (bInt .gtr x1 (.int .i64 (.ofNat 0))) fun x55 => 
  jn (cnd x55 (bR (noPan (f67 D n [x1] H)) fun x59 H => 
  bV (pExtract x59 0) fun x60 => 
  bV (pExtract x59 1) fun x61 => 
  bV (pNil x53) fun x62 => 
  bV (fAd 1 x62) fun x63 => 
  bR (stNp 1 x63 x60 H) fun x9999_3 H => 
  bV (bInt .neq x61 (.int .i64 (.ofNat 0))) fun x65 => 
  cnd x65 (bV (some .nilPtr) fun x4_6 => bV (some x61) fun x5_6 => some (.ret (.tuple [x4_6, x5_6]), H))
  (some (.norm [x0, x8, x53], H)))
  (some (.norm [x0, x8, x53], H))) (f78j0 D n)))))))
def h78 : Hint := (.s .o (.s (.s .o (.cl (.s .o .o) .o)) (.s (.s .o (.cl (.s .o .o) .o)) (.s .o (.s (.s .o (.cl (.s .o .o) .o)) (.s (.s .o (.cl (.s .o .o) .o)) (.s .o (.s (.s .o (.cl (.s .o .o) .o)) (.s .o (.s (.s .o (.c [0, 8, 9] (.s .o (.s .o (.cl (.s .o .o) .o))) .o)) (.s (.s .o (.s .o (.cl (.s .o .o) .o))) (.s (.s .o (.s .o (.cl (.s .o .o) .o))) (.s (.s .o (.s .o (.cl (.s .o .o) .o))) (.s .o .o))))))))))))))
theorem f78_eq (D : Dyn) (n : Nat) : f78 D n = funKp (s78 D n) D n 78 Tryz.f78 h78 := by kernel_rfl
theorem f78_ok {D : Dyn} (hD : DP D) (n : Nat) : FP 78 (f78 D n) := fun_okP X_ok hD (SP.cons (f143_ok hD n) (SP.cons (f144_ok hD n) (SP.cons (f67_ok hD n) (SP.cons (f145_ok hD n) (SP.cons (f7_ok hD n) (SP.cons (f8_ok hD n) (SP.cons (f146_ok hD n) (SP.nil)))))))) Tryz.func78 (by kernel_rfl) (by kernel_rfl) (f78_eq D n)

def s140 (D : Dyn) (n : Nat) : Tb := ⟨X, []⟩
/-- (*jetty/txg.Store).none -/
def f140 (D : Dyn) (n : Nat) (vs : List AV) (H : AH) : Option (AV × AH) :=
  outR (hd vs fun x0 vs => nl vs <|
  bV (cmpO .eql (eqP x0 .nilPtr)) fun x4 => 
  jn (wnt x4 false (bV (pNil x0) fun x7 => 
  bV (fAd 2 x7) fun x8 => 
  bV (ld1p x8 H) fun x9 => 
  bV (cmpO .eql (eqP x9 .nilPtr)) fun x10 => 
  some (.norm [x10], H)) (some (.norm [undefA], H))) fun vs H => hd vs fun x10_2 vs => 
  bV (pk3 (some x4) (some (.bool true)) (some x10_2)) fun x11 => 
  bV (some x11) fun x2 => some (.ret x2, H))
def h140 : Hint := (.s .o (.s .o .o))
theorem f140_eq (D : Dyn) (n : Nat) : f140 D n = funKp (s140 D n) D n 140 Tryz.f140 h140 := by kernel_rfl
theorem f140_ok {D : Dyn} (hD : DP D) (n : Nat) : FP 140 (f140 D n) := fun_okP X_ok hD (SP.nil) Tryz.func140 (by kernel_rfl) (by kernel_rfl) (f140_eq D n)

def s80 (D : Dyn) (n : Nat) : Tb := ⟨X, [(140, f140 D n)]⟩
/-- (*jetty/txg.Store).Extra -/
def f80 (D : Dyn) (n : Nat) (vs : List AV) (H : AH) : Option (AV × AH) :=
  outR (hd vs fun x0 vs => nl vs <|
  bR (noPan (f140 D n [x0] H)) fun x4 H => 
  cnd x4 (bV (some (.str 0 0)) fun x2 => some (.ret x2, H))
  (bV (pNil x0) fun x6 => 
  bV (fAd 3 x6) fun x7 => 
  bV (ld1p x7 H) fun x8 => 
  bV (some x8) fun x2_2 => some (.ret x2_2, H)))
def h80 : Hint := (.s .o (.s (.s .o (.cl (.s .o .o) .o)) (.s .o .o)))
theorem f80_eq (D : Dyn) (n : Nat) : f80 D n = funKp (s80 D n) D n 80 Tryz.f80 h80 := by kernel_rfl
theorem f80_ok {D : Dyn} (hD : DP D) (n : Nat) : FP 80 (f80 D n) := fun_okP X_ok hD (SP.cons (f140_ok hD n) (SP.nil)) Tryz.func80 (by kernel_rfl) (by kernel_rfl) (f80_eq D n)

def s81 (D : Dyn) (n : Nat) : Tb := ⟨X, [(140, f140 D n)]⟩
/-- (*jetty/txg.Store).Group -/
def f81 (D : Dyn) (n : Nat) (vs : List AV) (H : AH) : Option (AV × AH) :=
  outR (hd vs fun x0 vs => nl vs <|
  bR (noPan (f140 D n [x0] H)) fun x4 H => 
  cnd x4 (bV (some (.int .i64 (.ofNat 0))) fun x2 => some (.ret x2, H))
  (bV (pNil x0) fun x6 => 
  bV (fAd 5 x6) fun x7 => 
  bV (ld1p x7 H) fun x8 => 
  bV (some x8) fun x2_2 => some (.ret x2_2, H)))
def h81 : Hint := (.s .o (.s (.s .o (.cl (.s .o .o) .o)) (.s .o .o)))
theorem f81_eq (D : Dyn) (n : Nat) : f81 D n = funKp (s81 D n) D n 81 Tryz.f81 h81 := by kernel_rfl
theorem f81_ok {D : Dyn} (hD : DP D) (n : Nat) : FP 81 (f81 D n) := fun_okP X_ok hD (SP.cons (f140_ok hD n) (SP.nil)) Tryz.func81 (by kernel_rfl) (by kernel_rfl) (f81_eq D n)

def s208 (D : Dyn) (n : Nat) : Tb := ⟨X, []⟩
/-- (*jetty/snap.reader).take -/
def f208 (D : Dyn) (n : Nat) (vs : List AV) (H : AH) : Option (AV × AH) :=
  outR (hd vs fun x0 vs => hd vs fun x1 vs => nl vs <|
  bV (pNil x0) fun x7 => 
  bV (fAd 1 x7) fun x8 => 
  bV (ld1p x8 H) fun x9 => 
  jn (wnt x9 false (bV (pNil x0) fun x12 => 
  bV (fAd 0 x12) fun x13 => 
  bV (ld1p x13 H) fun x14 => 
  bV (lnStr x14) fun x15 => 
  bV (bInt .lss x15 x1) fun x17 => 
  some (.norm [x17], H)) (some (.norm [undefA], H))) fun vs H => hd vs fun x17_2 vs => 
  bV (pk3 (some x9) (some (.bool true)) (some x17_2)) fun x18 => 
  cnd x18 (bV (pNil x0) fun x20 => 
  bV (fAd 1 x20) fun x21 => 
  bR (stNp 1 x21 (.bool true) H) fun x9999 H => 
  bV (some (.str 0 0)) fun x4 => some (.ret x4, H))
  (bV (pNil x0) fun x23 => 
  bV (fAd 0 x23) fun x24 => 
  bV (ld1p x24 H) fun x25 => 
  bV (slStr x25 none (some x1)) fun x27 => 
  bV (pNil x0) fun x30 => 
  bV (fAd 0 x30) fun x31 => 
  bV (ld1p x31 H) fun x32 => 
  bV (slStr x32 (some x1) none) fun x34 => 
  bV (pNil x0) fun x35 => 
  bV (fAd 0 x35) fun x36 => 
  bR (stNp 1 x36 x34 H) fun x9999_2 H => 
  bV (some x27) fun x4_2 => some (.ret x4_2, H)))
def h208 : Hint := (.s .o (.s (.s .o (.cl (.s .o (.s .o .o)) .o)) (.s .o (.s .o (.s .o .o)))))
theorem f208_eq (D : Dyn) (n : Nat) : f208 D n = funKp (s208 D n) D n 208 Tryz.f208 h208 := by kernel_rfl
theorem f208_ok {D : Dyn} (hD : DP D) (n : Nat) : FP 208 (f208 D n) := fun_okP X_ok hD (SP.nil) Tryz.func208 (by kernel_rfl) (by kernel_rfl) (f208_eq D n)

def s147 (D : Dyn) (n : Nat) : Tb := ⟨X, [(208, f208 D n)]⟩
def f147l0 (D : Dyn) (n : Nat) (vs : List AV) (H : AH) : Rs :=
  hd vs fun x5 vs => hd vs fun x11_2 vs => hd vs fun x12_2 vs => hd vs fun x13 vs => 
  bV (bInt .lss x13 x12_2) fun x14 => 
  cnd x14 (bV (ixSl 1 x11_2 x13) fun x15 => 
  bV (ld1p x15 H) fun x16 => 
  bV (bInt .shl x5 (.int .u64 (.ofNat 8))) fun x18 => 
  bV (cvI .i64 x16) fun x20 => 
  bV (bInt .or x18 x20) fun x21 => 
  bV (bInt .add x13 (.int .i64 (.ofNat 1))) fun x22 => 
  some (.norm [x21, x11_2, x12_2, x22], H))
  (some (.exit 0 [x5], H))
def f147b1 (D : Dyn) (n : Nat) (vs : List AV) (H : AH) : Rs :=
  hd vs fun x5_2 vs => 
  bV (some x5_2) fun x4 => some (.ret x4, H)
/-- (*jetty/snap.reader).number -/
def f147 (D : Dyn) (n : Nat) (vs : List AV) (H : AH) : Option (AV × AH) :=
  outR (hd vs fun x0 vs => hd vs fun x1 vs => nl vs <|
  bR (noPan (f208 D n [x0, x1] H)) fun x10 H => 
  bA (cvSBp 5 x10) H fun x11 H => 
  bV (lnSl x11) fun x12 => 
  jb 0 (loopK n (f147l0 D n) [(.int .i64 (.ofNat 0)), x11, x12, (.int .i64 (.ofNat 0))] H) (f147b1 D n))
def h147 : Hint := (.s .o (.s .o (.s (.s .o (.b [5] (.l [5, 11, 12, 13] (.s .o (.s (.cr .o .o) (.s (.b0 (.s .o .o)) .o)))))) (.s .o .o))))
theorem f147_eq (D : Dyn) (n : Nat) : f147 D n = funKp (s147 D n) D n 147 Tryz.f147 h147 := by kernel_rfl
theorem f147_ok {D : Dyn} (hD : DP D) (n : Nat) : FP 147 (f147 D n) := fun_okP X_ok hD (SP.cons (f208_ok hD n) (SP.nil)) Tryz.func147 (by kernel_rfl) (by kernel_rfl) (f147_eq D n)

def s87 (D : Dyn) (n : Nat) : Tb := ⟨X, []⟩
/-- jetty/snap.mayName -/
def f87 (D : Dyn) (n : Nat) (vs : List AV) (H : AH) : Option (AV × AH) :=
  outR (hd vs fun x0 vs => nl vs <|
  bV (lnStr x0) fun x4 => 
  bV (bInt .geq x4 (.int .i64 (.ofNat 1))) fun x5 => 
  jn (wnt x5 true (bV (lnStr x0) fun x8 => 
  bV (bInt .leq x8 (.int .i64 (.ofNat 32))) fun x9 => 
  some (.norm [x9], H)) (some (.norm [undefA], H))) fun vs H => hd vs fun x9_2 vs => 
  bV (pk3 (some x5) (some x9_2) (some (.bool false))) fun x10 => 
  bV (some x10) fun x2 => some (.ret x2, H))
def h87 : Hint := (.s .o (.s .o .o))
theorem f87_eq (D : Dyn) (n : Nat) : f87 D n = funKp (s87 D n) D n 87 Tryz.f87 h87 := by kernel_rfl
theorem f87_ok {D : Dyn} (hD : DP D) (n : Nat) : FP 87 (f87 D n) := fun_okP X_ok hD (SP.nil) Tryz.func87 (by kernel_rfl) (by kernel_rfl) (f87_eq D n)

def s148 (D : Dyn) (n : Nat) : Tb := ⟨X, [(147, f147 D n), (208, f208 D n), (144, f144 D n), (87, f87 D n)]⟩
def f148j0 (D : Dyn) (n : Nat) (vs : List AV) (H : AH) : Rs :=
  hd vs fun x4_2 vs => hd vs fun x5_2 vs => 
  bV (ldNp 6 x5_2 H) fun x53 => 
  bR (stNp 6 x4_2 x53 H) fun x9999_6 H => 
  bV (ldNp 6 x4_2 H) fun x9004 => some (.ret x9004, H)
/-- (*jetty/snap.reader).snap -/
def f148 (D : Dyn) (n : Nat) (vs : List AV) (H : AH) : Option (AV × AH) :=
  outR (hd vs fun x0 vs => hd vs fun x1 vs => nl vs <|
  bA (bxV 59 (.agg [(.int .i64 (.ofNat 0)), (.str 0 0), (.int .i64 (.ofNat 0)), (.int .i64 (.ofNat 0)), (.int .i64 (.ofNat 0)), (.int .u64 (.ofNat 0))])) H fun x4 H => 
  bR (noPan (f147 D n [x0, (.int .i64 (.ofNat 4))] H)) fun x9 H => 
  bR (noPan (f147 D n [x0, (.int .i64 (.ofNat 4))] H)) fun x11 H => 
  bV (bldSp [(0, 1), (1, 1), (2, 1), (3, 3)] [(.int .i64 (.ofNat 0)), (.str 0 0), (.int .i64 (.ofNat 0)), (.int .i64 (.ofNat 0)), (.int .i64 (.ofNat 0)), (.int .u64 (.ofNat 0))] [(0, x9), (2, x11)]) fun x12 => 
  bA (bxV 59 (.agg [(.int .i64 (.ofNat 0)), (.str 0 0), (.int .i64 (.ofNat 0)), (.int .i64 (.ofNat 0)), (.int .i64 (.ofNat 0)), (.int .u64 (.ofNat 0))])) H fun x5 H => 
  bR (stNp 6 x5 x12 H) fun x9999 H => 
  bR (noPan (f208 D n [x0, (.int .i64 (.ofNat 16))] H)) fun x15 H => 
  bR (noPan (f144 D n [x15] H)) fun x16 H => 
  bV (pExtract x16 0) fun x17 => 
  bV (pExtract x16 1) fun x18 => 
  bA (bxV 35 (.agg [(.int .i64 (.ofNat 0)), (.int .i64 (.ofNat 0)), (.int .u64 (.ofNat 0))])) H fun x6 H => 
  bR (stNp 3 x6 x17 H) fun x9999_2 H => 
  bV (ldNp 3 x6 H) fun x19 => 
  bV (fAd 3 x5) fun x20 => 
  bR (stNp 3 x20 x19 H) fun x9999_3 H => 
  bR (noPan (f147 D n [x0, (.int .i64 (.ofNat 1))] H)) fun x23 H => 
  bR (noPan (f208 D n [x0, x23] H)) fun x24 H => 
  bV (fAd 1 x5) fun x25 => 
  bR (stNp 1 x25 x24 H) fun x9999_4 H => 
  bV (bInt .neq x18 (.int .i64 (.ofNat 0))) fun x27 => 
  jn (wnt x27 false (bV (fAd 0 x6) fun x29 => 
  bV (ld1p x29 H) fun x30 => 
  bV (bInt .eql x30 (.int .i64 (.ofNat 1))) fun x31 => 
  some (.norm [x31], H)) (some (.norm [undefA], H))) fun vs H => hd vs fun x31_2 vs => 
  bV (pk3 (some x27) (some (.bool true)) (some x31_2)) fun x32 => 
  jn (wnt x32 false (bV (fAd 2 x5) fun x34 => 
  bV (ld1p x34 H) fun x35 => 
  bV (bInt .lss x35 (.int .i64 (.ofNat 1))) fun x36 => 
  some (.norm [x36], H)) (some (.norm [undefA], H))) fun vs H => hd vs fun x36_2 vs => 
  bV (pk3 (some x32) (some (.bool true)) (some x36_2)) fun x37 => 
  jn (wnt x37 false (bV (fAd 2 x5) fun x39 => 
  bV (ld1p x39 H) fun x40 => 
  bV (bInt .gtr x40 x1) fun x42 => 
  some (.norm [x42], H)) (some (.norm [undefA], H))) fun vs H => hd vs fun x42_2 vs => 
  bV (pk3 (some x37) (some (.bool true)) (some x42_2)) fun x43 => 
  jn (wnt x43 false (bV (fAd 1 x5) fun x45 => 
  bV (ld1p x45 H) fun x46 => 
  bR (noPan (f87 D n [x46] H)) fun x47 H => 
  bV (aun .not x47) fun x48 => 
  some (.norm [x48], H)) (some (.norm [undefA], H))) fun vs H => hd vs fun x48_2 vs => 
  bV (pk3 (some x43) (some (.bool true)) (some x48_2)) fun x49 => 
  jn (cnd x49 (bV (pNil x0) fun x51 => 
  bV (fAd 1 x51) fun x52 => 
  bR (stNp 1 x52 (.bool true) H) fun x9999_5 H => 
  some (.norm [x4, x5], H))
  (some (.norm [x4, x5], H))) (f148j0 D n))
def h148 : Hint := (.s .o (.s .o (.s .o (.s .o (.s .o (.s (.s .o (.c [4, 5] .o .o)) (.s .o .o)))))))
theorem f148_eq (D : Dyn) (n : Nat) : f148 D n = funKp (s148 D n) D n 148 Tryz.f148 h148 := by kernel_rfl
theorem f148_ok {D : Dyn} (hD : DP D) (n : Nat) : FP 148 (f148 D n) := fun_okP X_ok hD (SP.cons (f147_ok hD n) (SP.cons (f208_ok hD n) (SP.cons (f144_ok hD n) (SP.cons (f87_ok hD n) (SP.nil))))) Tryz.func148 (by kernel_rfl) (by kernel_rfl) (f148_eq D n)

def s79 (D : Dyn) (n : Nat) : Tb := ⟨X, [(147, f147 D n), (148, f148 D n)]⟩
def f79l0 (D : Dyn) (n : Nat) (vs : List AV) (H : AH) : Rs :=
  hd vs fun x1_3 vs => hd vs fun x7_2 vs => hd vs fun x8_2 vs => hd vs fun x10_2 vs => hd vs fun x12_2 vs => hd vs fun x36_2 vs => hd vs fun x37_2 vs => hd vs fun x58 vs => hd vs fun x59_2 vs => hd vs fun x60 vs => 
  bV (bInt .lss x60 x59_2) fun x61 => 
  cnd x61 (bV (ixSl 6 x58 x60) fun x62 => 
  bV (ldNp 6 x62 H) fun x63 => 
  bA (bxV 59 (.agg [(.int .i64 (.ofNat 0)), (.str 0 0), (.int .i64 (.ofNat 0)), (.int .i64 (.ofNat 0)), (.int .i64 (.ofNat 0)), (.int .u64 (.ofNat 0))])) H fun x14 H => 
  bR (stNp 6 x14 x63 H) fun x9999_2 H => 
  bV (fAd 1 x14) fun x64 => 
  bV (ld1p x64 H) fun x65 => 
  bV (fAd 1 x12_2) fun x66 => 
  bV (ld1p x66 H) fun x67 => 
  bV (bStr .eql x65 x67) fun x68 => 
  cnd x68 (bV (some (.int .i64 (.ofNat 0))) fun x4_4 => bV (some .nilSlice) fun x5_4 => bV (some (.int .i64 (.ofNat 4))) fun x6_4 => some (.ret (.tuple [x4_4, x5_4, x6_4]), H))
  (bV (bInt .add x60 (.int .i64 (.ofNat 1))) fun x69 => 
  some (.norm [x1_3, x7_2, x8_2, x10_2, x12_2, x36_2, x37_2, x58, x59_2, x69], H)))
  (some (.exit 2 [x1_3, x7_2, x8_2, x10_2, x12_2, x36_2, x37_2], H))
def f79b1 (D : Dyn) (n : Nat) (vs : List AV) (H : AH) : Rs :=
  hd vs fun x1_4 vs => hd vs fun x7_3 vs => hd vs fun x8_3 vs => hd vs fun x10_3 vs => hd vs fun x12_3 vs => hd vs fun x36_3 vs => hd vs fun x37_3 vs => 
  bV (fAd 0 x12_3) fun x70 => 
  bV (ld1p x70 H) fun x71 => 
  bV (ldNp 6 x12_3 H) fun x73 => 
  bA (bldLp 59 6 1 [(.int .i64 (.ofNat 0)), (.str 0 0), (.int .i64 (.ofNat 0)), (.int .i64 (.ofNat 0)), (.int .i64 (.ofNat 0)), (.int .u64 (.ofNat 0))] [(0, x73)]) H fun x74 H => 
  bR (apPp 59 6 56 x10_3 x74 H) fun x75 H => 
  bV (bInt .add x37_3 (.int .i64 (.ofNat 1))) fun x76 => 
  some (.norm [x1_4, x7_3, x8_3, x75, x71, x36_3, x76], H)
def f79l2 (D : Dyn) (n : Nat) (vs : List AV) (H : AH) : Rs :=
  hd vs fun x1_2 vs => hd vs fun x7 vs => hd vs fun x8 vs => hd vs fun x10 vs => hd vs fun x11 vs => hd vs fun x36 vs => hd vs fun x37 vs => 
  bV (bInt .lss x37 x36) fun x38 => 
  cnd x38 (bR (noPan (f148 D n [x7, x1_2] H)) fun x41 H => 
  bA (bxV 59 (.agg [(.int .i64 (.ofNat 0)), (.str 0 0), (.int .i64 (.ofNat 0)), (.int .i64 (.ofNat 0)), (.int .i64 (.ofNat 0)), (.int .u64 (.ofNat 0))])) H fun x12 H => 
  bR (stNp 6 x12 x41 H) fun x9999 H => 
  bV (pNil x7) fun x43 => 
  bV (fAd 1 x43) fun x44 => 
  bV (ld1p x44 H) fun x45 => 
  jn (wnt x45 false (bV (fAd 0 x12) fun x47 => 
  bV (ld1p x47 H) fun x48 => 
  bV (bInt .leq x48 x11) fun x50 => 
  some (.norm [x50], H)) (some (.norm [undefA], H))) fun vs H => hd vs fun x50_2 vs => 
  bV (pk3 (some x45) (some (.bool true)) (some x50_2)) fun x51 => 
  jn (wnt x51 false (bV (fAd 0 x12) fun x53 => 
  bV (ld1p x53 H) fun x54 => 
  bV (bInt .gtr x54 x8) fun x56 => 
  some (.norm [x56], H)) (some (.norm [undefA], H))) fun vs H => hd vs fun x56_2 vs => 
  bV (pk3 (some x51) (some (.bool true)) (some x56_2)) fun x57 => 
  cnd x57 (bV (some (.int .i64 (.ofNat 0))) fun x4_3 => bV (some .nilSlice) fun x5_3 => bV (some (.int .i64 (.ofNat 4))) fun x6_3 => some (.ret (.tuple [x4_3, x5_3, x6_3]), H))
  (bV (lnSl x10) fun x59 => 
  jb 2 (loopK n (f79l0 D n) [x1_2, x7, x8, x10, x12, x36, x37, x10, x59, (.int .i64 (.ofNat 0))] H) (f79b1 D n)))
  (some (.exit 0 [x7, x8, x10], H))
def f79b3 (D : Dyn) (n : Nat) (vs : List AV) (H : AH) : Rs :=
  hd vs fun x7_4 vs => hd vs fun x8_4 vs => hd vs fun x10_4 vs => 
  bV (pNil x7_4) fun x78 => 
  bV (fAd 0 x78) fun x79 => 
  bV (ld1p x79 H) fun x80 => 
  bV (bStr .neq x80 (.str 0 0)) fun x81 => 
  cnd x81 (bV (some (.int .i64 (.ofNat 0))) fun x4_5 => bV (some .nilSlice) fun x5_5 => bV (some (.int .i64 (.ofNat 4))) fun x6_5 => some (.ret (.tuple [x4_5, x5_5, x6_5]), H))
  (bV (some x8_4) fun x4_6 => bV (some x10_4) fun x5_6 => bV (some (.int .i64 (.ofNat 0))) fun x6_6 => some (.ret (.tuple [x4_6, x5_6, x6_6]), H))
/-- jetty/snap.parse -/
def f79 (D : Dyn) (n : Nat) (vs : List AV) (H : AH) : Option (AV × AH) :=
  outR (hd vs fun x0 vs => hd vs fun x1 vs => nl vs <|
  bV (bStr .eql x0 (.str 0 0)) fun x16 => 
  cnd x16 (bV (some (.int .i64 (.ofNat 0))) fun x4 => bV (some .nilSlice) fun x5 => bV (some (.int .i64 (.ofNat 0))) fun x6 => some (.ret (.tuple [x4, x5, x6]), H))
  (bV (bldSp [(0, 1), (1, 1)] [(.str 0 0), (.bool false)] [(0, x0)]) fun x18 => 
  bA (bxV 222 x18) H fun x19 H => 
  bR (noPan (f147 D n [x19, (.int .i64 (.ofNat 4))] H)) fun x21 H => 
  bR (noPan (f147 D n [x19, (.int .i64 (.ofNat 1))] H)) fun x23 H => 
  bV (pNil x19) fun x25 => 
  bV (fAd 1 x25) fun x26 => 
  bV (ld1p x26 H) fun x27 => 
  jn (wnt x27 false (bV (bInt .gtr x21 (.int .i64 (.ofNat 2147483647))) fun x30 => 
  some (.norm [x30], H)) (some (.norm [undefA], H))) fun vs H => hd vs fun x30_2 vs => 
  bV (pk3 (some x27) (some (.bool true)) (some x30_2)) fun x31 => 
  jn (wnt x31 false (bV (bInt .gtr x23 (.int .i64 (.ofNat 6))) fun x34 => 
  some (.norm [x34], H)) (some (.norm [undefA], H))) fun vs H => hd vs fun x34_2 vs => 
  bV (pk3 (some x31) (some (.bool true)) (some x34_2)) fun x35 => 
  cnd x35 (bV (some (.int .i64 (.ofNat 0))) fun x4_2 => bV (some .nilSlice) fun x5_2 => bV (some (.int .i64 (.ofNat 4))) fun x6_2 => some (.ret (.tuple [x4_2, x5_2, x6_2]), H))
  (jb 0 (loopK n (f79l2 D n) [x1, x19, x21, .nilSlice, (.int .i64 (.ofNat 0)), x23, (.int .i64 (.ofNat 0))] H) (f79b3 D n))))
def h79 : Hint := (.s .o (.s (.s .o (.cl (.s .o .o) .o)) (.s .o (.s .o (.s .o (.s (.s .o (.cl (.s .o .o) .o)) (.s .o (.s .o (.s (.s .o (.b [7, 8, 10] (.l [1, 7, 8, 10, 11, 36, 37] (.s .o (.s (.cr .o .o) (.s (.b0 (.s .o (.s (.s .o (.cl (.s .o .o) .o)) (.s (.s .o (.b [1, 7, 8, 10, 12, 36, 37] (.l [1, 7, 8, 10, 12, 36, 37, 58, 59, 60] (.s .o (.s (.cr .o .o) (.s (.b0 (.s .o (.s .o (.cl (.s .o .o) .o)))) .o)))))) (.s .o .o))))) .o)))))) (.s (.s .o (.cl (.s .o .o) .o)) (.s .o .o)))))))))))
theorem f79_eq (D : Dyn) (n : Nat) : f79 D n = funKp (s79 D n) D n 79 Tryz.f79 h79 := by kernel_rfl
theorem f79_ok {D : Dyn} (hD : DP D) (n : Nat) : FP 79 (f79 D n) := fun_okP X_ok hD (SP.cons (f147_ok hD n) (SP.cons (f148_ok hD n) (SP.nil))) Tryz.func79 (by kernel_rfl) (by kernel_rfl) (f79_eq D n)

def s82 (D : Dyn) (n : Nat) : Tb := ⟨X, []⟩
/-- jetty/dead.New -/
def f82 (D : Dyn) (n : Nat) (vs : List AV) (H : AH) : Option (AV × AH) :=
  outR (nl vs <|
  bA (mkM [6]) H fun x1 H => 
  bV (bldSp [(0, 1)] [.nilMap] [(0, x1)]) fun x2 => 
  bA (bxV 227 x2) H fun x3 H => 
  bV (some x3) fun x0 => some (.ret x0, H))
def h82 : Hint := (.s .o (.s .o .o))
theorem f82_eq (D : Dyn) (n : Nat) : f82 D n = funKp (s82 D n) D n 82 Tryz.f82 h82 := by kernel_rfl
theorem f82_ok {D : Dyn} (hD : DP D) (n : Nat) : FP 82 (f82 D n) := fun_okP X_ok hD (SP.nil) Tryz.func82 (by kernel_rfl) (by kernel_rfl) (f82_eq D n)

def s97 (D : Dyn) (n : Nat) : Tb := ⟨X, [(140, f140 D n), (145, f145 D n)]⟩
/-- (*jetty/txg.Store).Blocks -/
def f97 (D : Dyn) (n : Nat) (vs : List AV) (H : AH) : Option (AV × AH) :=
  outR (hd vs fun x0 vs => nl vs <|
  bR (noPan (f140 D n [x0] H)) fun x4 H => 
  cnd x4 (bV (some (.int .i64 (.ofNat 0))) fun x2 => some (.ret x2, H))
  (bV (pNil x0) fun x6 => 
  bV (fAd 0 x6) fun x7 => 
  bV (ld1p x7 H) fun x8 => 
  bR (noPan (f145 D n [x8] H)) fun x9 H => 
  bV (some x9) fun x2_2 => some (.ret x2_2, H)))
def h97 : Hint := (.s .o (.s (.s .o (.cl (.s .o .o) .o)) (.s .o .o)))
theorem f97_eq (D : Dyn) (n : Nat) : f97 D n = funKp (s97 D n) D n 97 Tryz.f97 h97 := by kernel_rfl
theorem f97_ok {D : Dyn} (hD : DP D) (n : Nat) : FP 97 (f97 D n) := fun_okP X_ok hD (SP.cons (f140_ok hD n) (SP.cons (f145_ok hD n) (SP.nil))) Tryz.func97 (by kernel_rfl) (by kernel_rfl) (f97_eq D n)

def s165 (D : Dyn) (n : Nat) : Tb := ⟨X, []⟩
/-- (*jetty/space.Space).Taken -/
def f165 (D : Dyn) (n : Nat) (vs : List AV) (H : AH) : Option (AV × AH) :=
  outR (hd vs fun x0 vs => hd vs fun x1 vs => nl vs <|
  bV (cmpO .neq (eqP x0 .nilPtr)) fun x6 => 
  jn (wnt x6 true (bV (bInt .geq x1 (.int .i64 (.ofNat 0))) fun x9 => 
  some (.norm [x9], H)) (some (.norm [undefA], H))) fun vs H => hd vs fun x9_2 vs => 
  bV (pk3 (some x6) (some x9_2) (some (.bool false))) fun x10 => 
  jn (wnt x10 true (bV (pNil x0) fun x14 => 
  bV (fAd 0 x14) fun x15 => 
  bV (ld1p x15 H) fun x16 => 
  bV (bInt .lss x1 x16) fun x17 => 
  some (.norm [x17], H)) (some (.norm [undefA], H))) fun vs H => hd vs fun x17_2 vs => 
  bV (pk3 (some x10) (some x17_2) (some (.bool false))) fun x18 => 
  jn (wnt x18 true (bV (pNil x0) fun x22 => 
  bV (fAd 2 x22) fun x23 => 
  bV (ixArr 8192 1 x23 x1) fun x24 => 
  bV (ld1p x24 H) fun x25 => 
  bV (bInt .eql x25 (.int .u8 (.ofNat 1))) fun x26 => 
  some (.norm [x26], H)) (some (.norm [undefA], H))) fun vs H => hd vs fun x27 vs => 
  jn (wnt x27 false (bV (pNil x0) fun x30 => 
  bV (fAd 2 x30) fun x31 => 
  bV (ixArr 8192 1 x31 x1) fun x32 => 
  bV (ld1p x32 H) fun x33 => 
  bV (bInt .eql x33 (.int .u8 (.ofNat 2))) fun x34 => 
  some (.norm [x34], H)) (some (.norm [undefA], H))) fun vs H => hd vs fun x34_2 vs => 
  jn (wnt x18 true (bV (pk3 (some x27) (some (.bool true)) (some x34_2)) fun x35 => 
  some (.norm [x35], H)) (some (.norm [undefA], H))) fun vs H => hd vs fun x35_2 vs => 
  bV (pk3 (some x18) (some x35_2) (some (.bool false))) fun x36 => 
  bV (some x36) fun x4 => some (.ret x4, H))
def h165 : Hint := (.s .o (.s .o .o))
theorem f165_eq (D : Dyn) (n : Nat) : f165 D n = funKp (s165 D n) D n 165 Tryz.f165 h165 := by kernel_rfl
theorem f165_ok {D : Dyn} (hD : DP D) (n : Nat) : FP 165 (f165 D n) := fun_okP X_ok hD (SP.nil) Tryz.func165 (by kernel_rfl) (by kernel_rfl) (f165_eq D n)

def s98 (D : Dyn) (n : Nat) : Tb := ⟨X, [(140, f140 D n), (165, f165 D n)]⟩
/-- (*jetty/txg.Store).Taken -/
def f98 (D : Dyn) (n : Nat) (vs : List AV) (H : AH) : Option (AV × AH) :=
  outR (hd vs fun x0 vs => hd vs fun x1 vs => nl vs <|
  bR (noPan (f140 D n [x0] H)) fun x6 H => 
  bV (aun .not x6) fun x7 => 
  jn (wnt x7 true (bV (pNil x0) fun x10 => 
  bV (fAd 4 x10) fun x11 => 
  bV (ld1p x11 H) fun x12 => 
  bR (noPan (f165 D n [x12, x1] H)) fun x14 H => 
  some (.norm [x14], H)) (some (.norm [undefA], H))) fun vs H => hd vs fun x14_2 vs => 
  bV (pk3 (some x7) (some x14_2) (some (.bool false))) fun x15 => 
  bV (some x15) fun x4 => some (.ret x4, H))
def h98 : Hint := (.s .o (.s .o .o))
theorem f98_eq (D : Dyn) (n : Nat) : f98 D n = funKp (s98 D n) D n 98 Tryz.f98 h98 := by kernel_rfl
theorem f98_ok {D : Dyn} (hD : DP D) (n : Nat) : FP 98 (f98 D n) := fun_okP X_ok hD (SP.cons (f140_ok hD n) (SP.cons (f165_ok hD n) (SP.nil))) Tryz.func98 (by kernel_rfl) (by kernel_rfl) (f98_eq D n)

def s155 (D : Dyn) (n : Nat) : Tb := ⟨X, []⟩
/-- (*jetty/dead.Table).none -/
def f155 (D : Dyn) (n : Nat) (vs : List AV) (H : AH) : Option (AV × AH) :=
  outR (hd vs fun x0 vs => nl vs <|
  bV (cmpO .eql (eqP x0 .nilPtr)) fun x4 => 
  jn (wnt x4 false (bV (pNil x0) fun x7 => 
  bV (fAd 0 x7) fun x8 => 
  bV (ld1p x8 H) fun x9 => 
  bV (cmpO .eql (eqM x9 .nilMap)) fun x10 => 
  some (.norm [x10], H)) (some (.norm [undefA], H))) fun vs H => hd vs fun x10_2 vs => 
  bV (pk3 (some x4) (some (.bool true)) (some x10_2)) fun x11 => 
  bV (some x11) fun x2 => some (.ret x2, H))
def h155 : Hint := (.s .o (.s .o .o))
theorem f155_eq (D : Dyn) (n : Nat) : f155 D n = funKp (s155 D n) D n 155 Tryz.f155 h155 := by kernel_rfl
theorem f155_ok {D : Dyn} (hD : DP D) (n : Nat) : FP 155 (f155 D n) := fun_okP X_ok hD (SP.nil) Tryz.func155 (by kernel_rfl) (by kernel_rfl) (f155_eq D n)

def s156 (D : Dyn) (n : Nat) : Tb := ⟨X, []⟩
/-- jetty/dead.isTree -/
def f156 (D : Dyn) (n : Nat) (vs : List AV) (H : AH) : Option (AV × AH) :=
  outR (hd vs fun x0 vs => nl vs <|
  bV (bInt .geq x0 (.int .i64 (.ofNat 0))) fun x4 => 
  jn (wnt x4 true (bV (bInt .leq x0 (.int .i64 (.ofNat 6))) fun x7 => 
  some (.norm [x7], H)) (some (.norm [undefA], H))) fun vs H => hd vs fun x7_2 vs => 
  bV (pk3 (some x4) (some x7_2) (some (.bool false))) fun x8 => 
  bV (some x8) fun x2 => some (.ret x2, H))
def h156 : Hint := (.s .o (.s .o .o))
theorem f156_eq (D : Dyn) (n : Nat) : f156 D n = funKp (s156 D n) D n 156 Tryz.f156 h156 := by kernel_rfl
theorem f156_ok {D : Dyn} (hD : DP D) (n : Nat) : FP 156 (f156 D n) := fun_okP X_ok hD (SP.nil) Tryz.func156 (by kernel_rfl) (by kernel_rfl) (f156_eq D n)

def s169 (D : Dyn) (n : Nat) : Tb := ⟨X, []⟩
/-- jetty/dead.isBlock -/
def f169 (D : Dyn) (n : Nat) (vs : List AV) (H : AH) : Option (AV × AH) :=
  outR (hd vs fun x0 vs => nl vs <|
  bV (bInt .geq x0 (.int .i64 (.ofNat 2))) fun x4 => 
  jn (wnt x4 true (bV (bInt .lss x0 (.int .i64 (.ofNat 8192))) fun x7 => 
  some (.norm [x7], H)) (some (.norm [undefA], H))) fun vs H => hd vs fun x7_2 vs => 
  bV (pk3 (some x4) (some x7_2) (some (.bool false))) fun x8 => 
  bV (some x8) fun x2 => some (.ret x2, H))
def h169 : Hint := (.s .o (.s .o .o))
theorem f169_eq (D : Dyn) (n : Nat) : f169 D n = funKp (s169 D n) D n 169 Tryz.f169 h169 := by kernel_rfl
theorem f169_ok {D : Dyn} (hD : DP D) (n : Nat) : FP 169 (f169 D n) := fun_okP X_ok hD (SP.nil) Tryz.func169 (by kernel_rfl) (by kernel_rfl) (f169_eq D n)

def s170 (D : Dyn) (n : Nat) : Tb := ⟨X, []⟩
/-- (jetty/dead.needs).has -/
def f170 (D : Dyn) (n : Nat) (vs : List AV) (H : AH) : Option (AV × AH) :=
  outR (hd vs fun x0 vs => hd vs fun x1 vs => nl vs <|
  bV (bInt .shr x0 x1) fun x7 => 
  bV (bInt .and x7 (.int .u8 (.ofNat 1))) fun x8 => 
  bV (bInt .eql x8 (.int .u8 (.ofNat 1))) fun x9 => 
  bV (some x9) fun x4 => some (.ret x4, H))
def h170 : Hint := (.s .o (.s .o .o))
theorem f170_eq (D : Dyn) (n : Nat) : f170 D n = funKp (s170 D n) D n 170 Tryz.f170 h170 := by kernel_rfl
theorem f170_ok {D : Dyn} (hD : DP D) (n : Nat) : FP 170 (f170 D n) := fun_okP X_ok hD (SP.nil) Tryz.func170 (by kernel_rfl) (by kernel_rfl) (f170_eq D n)

def s158 (D : Dyn) (n : Nat) : Tb := ⟨X, []⟩
def f158j0 (D : Dyn) (n : Nat) (vs : List AV) (H : AH) : Rs :=
  
  some (.ret (.tuple []), H)
/-- (*jetty/dead.Table).set -/
def f158 (D : Dyn) (n : Nat) (vs : List AV) (H : AH) : Option (AV × AH) :=
  outR (hd vs fun x0 vs => hd vs fun x1 vs => hd vs fun x2 vs => hd vs fun x3 vs => nl vs <|
  bR (noPan (callV (s158 D n).S D x2 [x3] H)) fun x11 H => 
  bV (bInt .eql x11 (.int .u8 (.ofNat 0))) fun x13 => 
  jn (cnd x13 (bV (pNil x0) fun x15 => 
  bV (fAd 0 x15) fun x16 => 
  bV (ld1p x16 H) fun x17 => 
  bR (dlM [6] x17 x1 H) fun x9999 H => 
  some (.norm [], H))
  (bV (pNil x0) fun x20 => 
  bV (fAd 0 x20) fun x21 => 
  bV (ld1p x21 H) fun x22 => 
  bR (upM [6] x22 x1 x11 H) fun x9999_2 H => 
  some (.norm [], H))) (f158j0 D n))
def h158 : Hint := (.s .o (.s .o (.c [] .o .o)))
theorem f158_eq (D : Dyn) (n : Nat) : f158 D n = funKp (s158 D n) D n 158 Tryz.f158 h158 := by kernel_rfl
theorem f158_ok {D : Dyn} (hD : DP D) (n : Nat) : FP 158 (f158 D n) := fun_okP X_ok hD (SP.nil) Tryz.func158 (by kernel_rfl) (by kernel_rfl) (f158_eq D n)

def s159 (D : Dyn) (n : Nat) : Tb := ⟨X, []⟩
/-- (jetty/dead.needs).with -/
def f159 (D : Dyn) (n : Nat) (vs : List AV) (H : AH) : Option (AV × AH) :=
  outR (hd vs fun x0 vs => hd vs fun x1 vs => nl vs <|
  bV (bInt .shl (.int .u8 (.ofNat 1)) x1) fun x7 => 
  bV (bInt .or x0 x7) fun x8 => 
  bV (some x8) fun x4 => some (.ret x4, H))
def h159 : Hint := (.s .o (.s .o .o))
theorem f159_eq (D : Dyn) (n : Nat) : f159 D n = funKp (s159 D n) D n 159 Tryz.f159 h159 := by kernel_rfl
theorem f159_ok {D : Dyn} (hD : DP D) (n : Nat) : FP 159 (f159 D n) := fun_okP X_ok hD (SP.nil) Tryz.func159 (by kernel_rfl) (by kernel_rfl) (f159_eq D n)

def s149 (D : Dyn) (n : Nat) : Tb := ⟨X, [(155, f155 D n), (156, f156 D n), (169, f169 D n), (170, f170 D n), (158, f158 D n)]⟩
/-- (*jetty/dead.Table).Need -/
def f149 (D : Dyn) (n : Nat) (vs : List AV) (H : AH) : Option (AV × AH) :=
  outR (hd vs fun x0 vs => hd vs fun x1 vs => hd vs fun x2 vs => nl vs <|
  bR (noPan (f155 D n [x0] H)) fun x9 H => 
  cnd x9 (bV (some (.int .i64 (.ofNat 2))) fun x6 => some (.ret x6, H))
  (bR (noPan (f156 D n [x1] H)) fun x11 H => 
  bV (aun .not x11) fun x12 => 
  jn (wnt x12 false (bR (noPan (f169 D n [x2] H)) fun x15 H => 
  bV (aun .not x15) fun x16 => 
  some (.norm [x16], H)) (some (.norm [undefA], H))) fun vs H => hd vs fun x16_2 vs => 
  bV (pk3 (some x12) (some (.bool true)) (some x16_2)) fun x17 => 
  cnd x17 (bV (some (.int .i64 (.ofNat 1))) fun x6_2 => some (.ret x6_2, H))
  (bV (pNil x0) fun x19 => 
  bV (fAd 0 x19) fun x20 => 
  bV (ld1p x20 H) fun x21 => 
  bV (lkM [6] (.int .u8 (.ofNat 0)) false x21 x2 H) fun x23 => 
  bR (noPan (f170 D n [x23, x1] H)) fun x26 H => 
  cnd x26 (bV (some (.int .i64 (.ofNat 6))) fun x6_3 => some (.ret x6_3, H))
  (bR (noPan (f158 D n [x0, x2, (.func 159 [x23] []), x1] H)) fun x32 H => 
  bV (some (.int .i64 (.ofNat 0))) fun x6_4 => some (.ret x6_4, H)))))
def h149 : Hint := (.s .o (.s (.s .o (.cl (.s .o .o) .o)) (.s (.s .o (.cl (.s .o .o) .o)) (.s .o (.s (.s .o (.cl (.s .o .o) .o)) (.s .o (.s .o .o)))))))
theorem f149_eq (D : Dyn) (n : Nat) : f149 D n = funKp (s149 D n) D n 149 Tryz.f149 h149 := by kernel_rfl
theorem f149_ok {D : Dyn} (hD : DP D) (n : Nat) : FP 149 (f149 D n) := fun_okP X_ok hD (SP.cons (f155_ok hD n) (SP.cons (f156_ok hD n) (SP.cons (f169_ok hD n) (SP.cons (f170_ok hD n) (SP.cons (f158_ok hD n) (SP.nil)))))) Tryz.func149 (by kernel_rfl) (by kernel_rfl) (f149_eq D n)

def s83 (D : Dyn) (n : Nat) : Tb := ⟨X, [(97, f97 D n), (98, f98 D n), (149, f149 D n)]⟩
def f83j0 (D : Dyn) (n : Nat) (vs : List AV) (H : AH) : Rs :=
  hd vs fun x0_3 vs => hd vs fun x1_3 vs => hd vs fun x9_3 vs => hd vs fun x10_2 vs => 
  bV (bInt .add x10_2 (.int .i64 (.ofNat 1))) fun x35 => 
  some (.norm [x0_3, x1_3, x9_3, x35], H)
def f83l1 (D : Dyn) (n : Nat) (vs : List AV) (H : AH) : Rs :=
  hd vs fun x0_2 vs => hd vs fun x1_2 vs => hd vs fun x9_2 vs => hd vs fun x10 vs => 
  bV (bInt .lss x10 x9_2) fun x11 => 
  cnd x11 (bV (bInt .gtr x10 (.int .i64 (.ofNat 1))) fun x14 => 
  jn (wnt x14 true (bV (pNil x0_2) fun x17 => 
  bV (fAd 0 x17) fun x18 => 
  bV (ld1p x18 H) fun x19 => 
  bR (noPan (f98 D n [x19, x10] H)) fun x21 H => 
  some (.norm [x21], H)) (some (.norm [undefA], H))) fun vs H => hd vs fun x21_2 vs => 
  bV (pk3 (some x14) (some x21_2) (some (.bool false))) fun x22 => 
  jn (wnt x22 true (bR (noPan (callV (s83 D n).S D x1_2 [x10] H)) fun x26 H => 
  bV (aun .not x26) fun x27 => 
  some (.norm [x27], H)) (some (.norm [undefA], H))) fun vs H => hd vs fun x27_2 vs => 
  bV (pk3 (some x22) (some x27_2) (some (.bool false))) fun x28 => 
  jn (cnd x28 (bV (pNil x0_2) fun x30 => 
  bV (fAd 3 x30) fun x31 => 
  bV (ld1p x31 H) fun x32 => 
  bR (noPan (f149 D n [x32, (.int .i64 (.ofNat 0)), x10] H)) fun x34 H => 
  some (.norm [x0_2, x1_2, x9_2, x10], H))
  (some (.norm [x0_2, x1_2, x9_2, x10], H))) (f83j0 D n))
  (some (.exit 0 [], H))
def f83b2 (D : Dyn) (n : Nat) (vs : List AV) (H : AH) : Rs :=
  
  some (.ret (.tuple []), H)
/-- (*jetty/snap.Volume).grown -/
def f83 (D : Dyn) (n : Nat) (vs : List AV) (H : AH) : Option (AV × AH) :=
  outR (hd vs fun x0 vs => hd vs fun x1 vs => nl vs <|
  bV (pNil x0) fun x6 => 
  bV (fAd 0 x6) fun x7 => 
  bV (ld1p x7 H) fun x8 => 
  bR (noPan (f97 D n [x8] H)) fun x9 H => 
  jb 0 (loopK n (f83l1 D n) [x0, x1, x9, (.int .i64 (.ofNat 0))] H) (f83b2 D n))
def h83 : Hint := (.s .o (.b [] (.l [0, 1, 9, 10] (.s .o (.s (.cr .o .o) (.s (.b0 (.s .o (.s .o (.c [0, 1, 9, 10] .o .o)))) .o))))))
theorem f83_eq (D : Dyn) (n : Nat) : f83 D n = funKp (s83 D n) D n 83 Tryz.f83 h83 := by kernel_rfl
theorem f83_ok {D : Dyn} (hD : DP D) (n : Nat) : FP 83 (f83 D n) := fun_okP X_ok hD (SP.cons (f97_ok hD n) (SP.cons (f98_ok hD n) (SP.cons (f149_ok hD n) (SP.nil)))) Tryz.func83 (by kernel_rfl) (by kernel_rfl) (f83_eq D n)

def s94 (D : Dyn) (n : Nat) : Tb := ⟨X, [(140, f140 D n), (8, f8 D n)]⟩
/-- (*jetty/txg.Store).At -/
def f94 (D : Dyn) (n : Nat) (vs : List AV) (H : AH) : Option (AV × AH) :=
  outR (hd vs fun x0 vs => hd vs fun x1 vs => nl vs <|
  bA (bxV 35 x1) H fun x3 H => 
  bR (noPan (f140 D n [x0] H)) fun x7 H => 
  cnd x7 (bV (some .nilPtr) fun x4 => bV (some (.int .i64 (.ofNat 2))) fun x5 => some (.ret (.tuple [x4, x5]), H))
  (bV (pNil x0) fun x9 => 
  bV (fAd 0 x9) fun x10 => 
  bV (ld1p x10 H) fun x11 => 
  bV (pNil x0) fun x13 => 
  bV (fAd 1 x13) fun x14 => 
  bV (ld1p x14 H) fun x15 => 
  bV (ldNp 3 x3 H) fun x16 => 
  bR (noPan (f8 D n [x11, x15, x16] H)) fun x17 H => 
  bV (pExtract x17 0) fun x18 => 
  bV (pExtract x17 1) fun x19 => 
  bV (some x18) fun x4_2 => bV (some x19) fun x5_2 => some (.ret (.tuple [x4_2, x5_2]), H)))
def h94 : Hint := (.s .o (.s (.s .o (.cl (.s .o .o) .o)) (.s .o .o)))
theorem f94_eq (D : Dyn) (n : Nat) : f94 D n = funKp (s94 D n) D n 94 Tryz.f94 h94 := by kernel_rfl
theorem f94_ok {D : Dyn} (hD : DP D) (n : Nat) : FP 94 (f94 D n) := fun_okP X_ok hD (SP.cons (f140_ok hD n) (SP.cons (f8_ok hD n) (SP.nil))) Tryz.func94 (by kernel_rfl) (by kernel_rfl) (f94_eq D n)

def s209 (D : Dyn) (n : Nat) : Tb := ⟨X, [(12, f12 D n)]⟩
def f209l0 (D : Dyn) (n : Nat) (vs : List AV) (H : AH) : Rs :=
  hd vs fun x2_2 vs => hd vs fun x3_2 vs => hd vs fun x4_2 vs => hd vs fun x30_2 vs => hd vs fun x31_2 vs => hd vs fun x32 vs => 
  bV (bInt .lss x32 x31_2) fun x33 => 
  cnd x33 (bV (ixSl 3 x30_2 x32) fun x34 => 
  bV (ldNp 3 x34 H) fun x35 => 
  bA (bxV 35 (.agg [(.int .i64 (.ofNat 0)), (.int .i64 (.ofNat 0)), (.int .u64 (.ofNat 0))])) H fun x8 H => 
  bR (stNp 3 x8 x35 H) fun x9999_3 H => 
  bV (ld1p x2_2 H) fun x36 => 
  bV (ldNp 3 x8 H) fun x37 => 
  bV (ld1p x3_2 H) fun x38 => 
  bR (noPan (D.fn 150 [x36, x37, x38] H)) fun x39 H => 
  newB H (.loop ⟨.ready, none, 209, 0, [4], [x4_2]⟩) fun A H => bR (rfC (s209 D n).S D x39 A H) fun _ H => endLp A H fun j H => jmpK j (
  bV (ld1p x3_2 H) fun x45 => 
  bV (pNil x45) fun x46 => 
  bV (ld1p x46 H) fun x47 => 
  bV (bInt .neq x47 (.int .i64 (.ofNat 0))) fun x48 => 
  cnd x48 (some (.ret (.tuple []), H))
  (bV (bInt .add x32 (.int .i64 (.ofNat 1))) fun x49 => 
  some (.norm [x2_2, x3_2, x4_2, x30_2, x31_2, x49], H)))
  (fun id => cond (Nat.beq 0 id) (some (.exit id [], H)) (none)) (some (.ret (.tuple []), H)))
  (some (.exit 0 [], H))
def f209b1 (D : Dyn) (n : Nat) (vs : List AV) (H : AH) : Rs :=
  
  some (.ret (.tuple []), H)
/-- jetty/snap.blocks$1 -/
def f209 (D : Dyn) (n : Nat) (vs : List AV) (H : AH) : Option (AV × AH) :=
  outR (hd vs fun x0 vs => hd vs fun x1 vs => hd vs fun x2 vs => hd vs fun x3 vs => nl vs <|
  bA (bxV 136 x0) H fun x4 H => 
  bV (fAd 0 x1) fun x10 => 
  bV (ld1p x10 H) fun x11 => 
  bV (bInt .eql x11 (.int .i64 (.ofNat 0))) fun x12 => 
  cnd x12 (some (.ret (.tuple []), H))
  (bV (ld1p x2 H) fun x14 => 
  bV (ldNp 3 x1 H) fun x15 => 
  bR (noPan (f12 D n [x14, x15] H)) fun x16 H => 
  bV (pExtract x16 0) fun x17 => 
  bV (pExtract x16 1) fun x18 => 
  bA (bxV 46 (.agg [(.bool false), .nilSlice, .nilSlice, .nilSlice])) H fun x5 H => 
  bR (stNp 4 x5 x17 H) fun x9999 H => 
  bV (bInt .neq x18 (.int .i64 (.ofNat 0))) fun x20 => 
  cnd x20 (bV (ld1p x3 H) fun x21 => 
  bV (pNil x21) fun x23 => 
  bR (stNp 1 x23 x18 H) fun x9999_2 H => 
  some (.ret (.tuple []), H))
  (bV (ld1p x4 H) fun x24 => 
  bV (fAd 0 x1) fun x25 => 
  bV (ld1p x25 H) fun x26 => 
  bR (noPan (callV (s209 D n).S D x24 [x26] H)) fun x27 H => 
  bV (aun .not x27) fun x28 => 
  cnd x28 (some (.ret (.tuple []), H))
  (bV (fAd 3 x5) fun x29 => 
  bV (ld1p x29 H) fun x30 => 
  bV (lnSl x30) fun x31 => 
  jb 0 (loopK n (f209l0 D n) [x2, x3, x4, x30, x31, (.int .i64 (.ofNat 0))] H) (f209b1 D n)))))
def h209 : Hint := (.s .o (.s (.s .o (.cl .o .o)) (.s .o (.s (.s .o (.cl (.s .o .o) .o)) (.s (.s .o (.cl .o .o)) (.s .o (.b [] (.l [2, 3, 4, 30, 31, 32] (.s .o (.s (.cr .o .o) (.s (.b0 (.s .o (.s (.s .o (.b0 (.rf 0 [4]))) (.s .o (.cl .o .o))))) .o)))))))))))
theorem f209_eq (D : Dyn) (n : Nat) : f209 D n = funKp (s209 D n) D n 209 Tryz.f209 h209 := by kernel_rfl
theorem f209_ok {D : Dyn} (hD : DP D) (n : Nat) : FP 209 (f209 D n) := fun_okP X_ok hD (SP.cons (f12_ok hD n) (SP.nil)) Tryz.func209 (by kernel_rfl) (by kernel_rfl) (f209_eq D n)
def r209_0 (D : Dyn) (n : Nat) (A : Nat) (l : ALoop) (az : List AV) (H : AH) : Option (AV × AH) :=
  bif eqNL [4] l.live then endQ A (hd l.vals fun x4 vs => hd az fun x40 az => nl az <|
  beginK A H fun H => 
  bV (ld1p x4 H) fun x41 => 
  bR (noPan (callV (s209 D n).S D x41 [x40] H)) fun x43 H => 
  bV (aun .not x43) fun x44 => 
  cnd x44 (some (.ret (.tuple []), H))
  (some (.norm [], H))) else none
def r209_0a : Hint := .o
def r209_0b : Hint := (.b0 (.s .o (.cl .o .o)))
theorem r209_0_eq (D : Dyn) (n : Nat) : r209_0 D n = rndKp (s209 D n) D n 209 0 [4] [0] r209_0a r209_0b := by kernel_rfl
theorem r209_0_ok {D : Dyn} (hD : DP D) (n : Nat) : RdP 209 0 (r209_0 D n) := round_okP X_ok hD (SP.cons (f12_ok hD n) (SP.nil)) (by kernel_rfl) (r209_0_eq D n)

def s150 (D : Dyn) (n : Nat) : Tb := ⟨X, []⟩
/-- jetty/snap.blocks -/
def f150 (D : Dyn) (n : Nat) (vs : List AV) (H : AH) : Option (AV × AH) :=
  outR (hd vs fun x0 vs => hd vs fun x1 vs => hd vs fun x2 vs => nl vs <|
  bA (bxV 30 x0) H fun x3 H => 
  bA (bxV 35 x1) H fun x4 H => 
  bA (bxV 229 x2) H fun x5 H => 
  bV (some (.func 209 [] [x4, x3, x5])) fun x6 => some (.ret x6, H))
def h150 : Hint := (.s .o (.s .o .o))
theorem f150_eq (D : Dyn) (n : Nat) : f150 D n = funKp (s150 D n) D n 150 Tryz.f150 h150 := by kernel_rfl
theorem f150_ok {D : Dyn} (hD : DP D) (n : Nat) : FP 150 (f150 D n) := fun_okP X_ok hD (SP.nil) Tryz.func150 (by kernel_rfl) (by kernel_rfl) (f150_eq D n)

def s151 (D : Dyn) (n : Nat) : Tb := ⟨X, [(140, f140 D n), (207, f207 D n)]⟩
/-- (*jetty/txg.Store).Mark -/
def f151 (D : Dyn) (n : Nat) (vs : List AV) (H : AH) : Option (AV × AH) :=
  outR (hd vs fun x0 vs => hd vs fun x1 vs => nl vs <|
  bR (noPan (f140 D n [x0] H)) fun x6 H => 
  cnd x6 (bV (some (.int .i64 (.ofNat 2))) fun x4 => some (.ret x4, H))
  (bV (pNil x0) fun x8 => 
  bV (fAd 4 x8) fun x9 => 
  bV (ld1p x9 H) fun x10 => 
  bR (noPan (f207 D n [x10, x1] H)) fun x12 H => 
  bV (some x12) fun x4_2 => some (.ret x4_2, H)))
def h151 : Hint := (.s .o (.s (.s .o (.cl (.s .o .o) .o)) (.s .o .o)))
theorem f151_eq (D : Dyn) (n : Nat) : f151 D n = funKp (s151 D n) D n 151 Tryz.f151 h151 := by kernel_rfl
theorem f151_ok {D : Dyn} (hD : DP D) (n : Nat) : FP 151 (f151 D n) := fun_okP X_ok hD (SP.cons (f140_ok hD n) (SP.cons (f207_ok hD n) (SP.nil))) Tryz.func151 (by kernel_rfl) (by kernel_rfl) (f151_eq D n)
end Go.Eng.Sh
