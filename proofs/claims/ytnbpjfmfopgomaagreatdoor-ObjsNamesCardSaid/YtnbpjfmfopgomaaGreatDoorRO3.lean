/- Shallow functions, by program (gen.py). -/
import Derived.Test.YtnbpjfmfopgomaaGreatDoorRO2
import Derived.Test.YtnbpjfmfopgomaaGreatDoorProg
import Derived.KernelRfl
noncomputable section
namespace Go.Eng.Sh
open Go.Proofs
set_option maxRecDepth 100000
set_option linter.all false
def s177 (D : Dyn) (n : Nat) : Tb := ⟨X, []⟩
def f177j0 (D : Dyn) (n : Nat) (vs : List AV) (H : AH) : Rs :=
  
  some (.norm [], H)
def f177j1 (D : Dyn) (n : Nat) (vs : List AV) (H : AH) : Rs :=
  
  some (.ret (.tuple []), H)
/-- jetty/objs.run[jetty/inode.Meta]$1 -/
def rc177 (D : Dyn) (n : Nat) (rv : AV) (vs : List AV) (H : AH) : Option (AV × AH) :=
  noPan (outR (hd vs fun x0 vs => hd vs fun x1 vs => nl vs <|
  bV (ifNil .neq rv) fun x8 => 
  jn (cnd x8 (bA (bxV 31 (.agg [(.int .i64 (.ofNat 0)), (.int .i64 (.ofNat 0))])) H fun x3 H => 
  bV (ldNp 2 x3 H) fun x9 => 
  bR (stNp 2 x0 x9 H) fun x9999 H => 
  bR (stNp 1 x1 (.int .i64 (.ofNat 4)) H) fun x9999_2 H => 
  bV (asrK 169 (.agg [(.int .i64 (.ofNat 0))]) rv) fun x12 => 
  bV (pExtract x12 0) fun x13 => 
  bV (pExtract x12 1) fun x14 => 
  bA (bxV 169 (.agg [(.int .i64 (.ofNat 0))])) H fun x4 H => 
  bR (stNp 1 x4 x13 H) fun x9999_3 H => 
  jn (cnd x14 (bV (fAd 0 x4) fun x16 => 
  bV (ld1p x16 H) fun x17 => 
  bR (stNp 1 x1 x17 H) fun x9999_4 H => 
  some (.norm [], H))
  (some (.norm [], H))) (f177j0 D n))
  (some (.norm [], H))) (f177j1 D n)))
def h177 : Hint := (.s .pc (.c [] (.s .pc (.s .pc (.s .pc (.s .pc (.c [] .pc .o))))) .o))
theorem rc177_eq (D : Dyn) (n : Nat) : rc177 D n = funRp (s177 D n) D n 177 Tryz.f177 h177 := by kernel_rfl
theorem rc177_ok {D : Dyn} (hD : DP D) (n : Nat) : RcP 177 (rc177 D n) := funR_okP X_ok hD (SP.nil) Tryz.func177 (by kernel_rfl) (by kernel_rfl) (by kernel_rfl) (rc177_eq D n)

def s109 (D : Dyn) (n : Nat) : Tb := ⟨X, []⟩
/-- jetty/objs.run[jetty/inode.Meta] -/
def f109 (D : Dyn) (n : Nat) (vs : List AV) (H : AH) : Option (AV × AH) :=
  noPan (outR (hd vs fun x0 vs => hd vs fun x1 vs => hd vs fun x2 vs => nl vs <|
  bA (bxV 31 (.agg [(.int .i64 (.ofNat 0)), (.int .i64 (.ofNat 0))])) H fun x6 H => 
  bA (bxV 24 (.int .i64 (.ofNat 0))) H fun x7 H => 
  bV (bldSp [(0, 1), (1, 1)] [.nilPtr, (.int .i64 (.ofNat 0))] [(0, x0), (1, x1)]) fun x12 => 
  bC (callV (s109 D n).S D x2 [x12] H) (fun x H => bR (rc177 D n x [x6, x7] H) fun _ H => bV (ldNp 2 x6 H) fun x9006_5 => bV (ld1p x7 H) fun x9007_5 => some (.ret (.tuple [x9006_5, x9007_5]), H)) fun x13 H => 
  bR (stNp 2 x6 x13 H) fun x9999 H => 
  bR (stNp 1 x7 (.int .i64 (.ofNat 0)) H) fun x9999_2 H => 
  bR (rc177 D n .nilIface [x6, x7] H) fun _ H => bV (ldNp 2 x6 H) fun x9006_8 => bV (ld1p x7 H) fun x9007_8 => some (.ret (.tuple [x9006_8, x9007_8]), H)))
theorem f109_eq (D : Dyn) (n : Nat) : f109 D n = dfunKp (s109 D n) D Tryz.f109 177 (rc177 D n) := by kernel_rfl
theorem f109_ok {D : Dyn} (hD : DP D) (n : Nat) : FP 109 (f109 D n) := dfun_okP X_ok hD (SP.nil) Tryz.func109 (rc177_ok hD n) (f109_eq D n)

def s39 (D : Dyn) (n : Nat) : Tb := ⟨X, [(109, f109 D n)]⟩
/-- jetty/objs.look[jetty/inode.Meta] -/
def f39 (D : Dyn) (n : Nat) (vs : List AV) (H : AH) : Option (AV × AH) :=
  outR (hd vs fun x0 vs => hd vs fun x1 vs => nl vs <|
  bA (bxV 31 (.agg [(.int .i64 (.ofNat 0)), (.int .i64 (.ofNat 0))])) H fun x4 H => 
  bV (cmpO .eql (eqP x0 .nilPtr)) fun x8 => 
  cnd x8 (bA (bxV 31 (.agg [(.int .i64 (.ofNat 0)), (.int .i64 (.ofNat 0))])) H fun x6 H => 
  bV (ldNp 2 x6 H) fun x9 => 
  bR (stNp 2 x4 x9 H) fun x9999 H => 
  bV (ldNp 2 x4 H) fun x9004 => bV (some (.int .i64 (.ofNat 2))) fun x5 => some (.ret (.tuple [x9004, x5]), H))
  (bR (noPan (f109 D n [x0, (.int .i64 (.ofNat 0)), x1] H)) fun x12 H => 
  bV (pExtract x12 0) fun x13 => 
  bV (pExtract x12 1) fun x14 => 
  bR (stNp 2 x4 x13 H) fun x9999_2 H => 
  bV (ldNp 2 x4 H) fun x9004_2 => bV (some x14) fun x5_2 => some (.ret (.tuple [x9004_2, x5_2]), H)))
def h39 : Hint := (.s .o (.s (.s .o (.cl (.s .o (.s .o .o)) .o)) (.s .o .o)))
theorem f39_eq (D : Dyn) (n : Nat) : f39 D n = funKp (s39 D n) D n 39 Tryz.f39 h39 := by kernel_rfl
theorem f39_ok {D : Dyn} (hD : DP D) (n : Nat) : FP 39 (f39 D n) := fun_okP X_ok hD (SP.cons (f109_ok hD n) (SP.nil)) Tryz.func39 (by kernel_rfl) (by kernel_rfl) (f39_eq D n)

def s178 (D : Dyn) (n : Nat) : Tb := ⟨X, []⟩
/-- (*jetty/inode.Meta).numbers -/
def f178 (D : Dyn) (n : Nat) (vs : List AV) (H : AH) : Option (AV × AH) :=
  outR (hd vs fun x0 vs => nl vs <|
  bA (bxV 265 (.agg [.nilPtr, .nilPtr])) H fun x2 H => 
  bV (pNil x0) fun x4 => 
  bV (fAd 0 x4) fun x5 => 
  bV (pNil x0) fun x7 => 
  bV (fAd 1 x7) fun x8 => 
  bV (bldAp 1 [.nilPtr, .nilPtr] [(0, x5), (1, x8)]) fun x9 => 
  bR (stNp 2 x2 x9 H) fun x9999 H => 
  bV (ldNp 2 x2 H) fun x9002 => some (.ret x9002, H))
def h178 : Hint := (.s .o (.s .o .o))
theorem f178_eq (D : Dyn) (n : Nat) : f178 D n = funKp (s178 D n) D n 178 Tryz.f178 h178 := by kernel_rfl
theorem f178_ok {D : Dyn} (hD : DP D) (n : Nat) : FP 178 (f178 D n) := fun_okP X_ok hD (SP.nil) Tryz.func178 (by kernel_rfl) (by kernel_rfl) (f178_eq D n)

def s110 (D : Dyn) (n : Nat) : Tb := ⟨X, [(178, f178 D n), (176, f176 D n), (121, f121 D n)]⟩
def f110l0 (D : Dyn) (n : Nat) (vs : List AV) (H : AH) : Rs :=
  hd vs fun x0_2 vs => hd vs fun x2_2 vs => hd vs fun x4_2 vs => hd vs fun x16_2 vs => hd vs fun x17 vs => 
  bV (bInt .lss x17 (.int .i64 (.ofNat 2))) fun x18 => 
  cnd x18 (bV (ixAg1p 2 1 x16_2 x17) fun x20 => 
  bV (bInt .mul (.int .i64 (.ofNat 4)) x17) fun x24 => 
  bV (bInt .add (.int .i64 (.ofNat 1)) x24) fun x25 => 
  bV (slStr x0_2 (some x25) none) fun x26 => 
  bR (noPan (f176 D n [x26] H)) fun x27 H => 
  bV (pNil x20) fun x28 => 
  bR (stNp 1 x28 x27 H) fun x9999_2 H => 
  bV (pNil x20) fun x30 => 
  bV (ld1p x30 H) fun x31 => 
  bR (noPan (f121 D n [x31, (.int .i64 (.ofNat 0)), (.int .i64 (.ofNat 2147483647))] H)) fun x32 H => 
  bV (aun .not x32) fun x33 => 
  cnd x33 (bV (bldSp [(0, 1), (1, 1)] [(.int .i64 (.ofNat 0)), (.int .i64 (.ofNat 0))] []) fun x34 => 
  bR (stNp 2 x2_2 x34 H) fun x9999_3 H => 
  bV (ldNp 2 x2_2 H) fun x9002_2 => bV (some (.int .i64 (.ofNat 4))) fun x3_2 => some (.ret (.tuple [x9002_2, x3_2]), H))
  (bV (bInt .add x17 (.int .i64 (.ofNat 1))) fun x35 => 
  some (.norm [x0_2, x2_2, x4_2, x16_2, x35], H)))
  (some (.exit 0 [x2_2, x4_2], H))
def f110b1 (D : Dyn) (n : Nat) (vs : List AV) (H : AH) : Rs :=
  hd vs fun x2_3 vs => hd vs fun x4_3 vs => 
  bV (ldNp 2 x4_3 H) fun x36 => 
  bR (stNp 2 x2_3 x36 H) fun x9999_4 H => 
  bV (ldNp 2 x2_3 H) fun x9002_3 => bV (some (.int .i64 (.ofNat 0))) fun x3_3 => some (.ret (.tuple [x9002_3, x3_3]), H)
/-- jetty/inode.DecodeMeta -/
def f110 (D : Dyn) (n : Nat) (vs : List AV) (H : AH) : Option (AV × AH) :=
  outR (hd vs fun x0 vs => nl vs <|
  bA (bxV 31 (.agg [(.int .i64 (.ofNat 0)), (.int .i64 (.ofNat 0))])) H fun x2 H => 
  bV (lnStr x0) fun x8 => 
  bV (bInt .neq x8 (.int .i64 (.ofNat 9))) fun x9 => 
  jn (wnt x9 false (bV (ixStr x0 (.int .i64 (.ofNat 0))) fun x12 => 
  bV (bInt .neq x12 (.int .u8 (.ofNat 109))) fun x13 => 
  some (.norm [x13], H)) (some (.norm [undefA], H))) fun vs H => hd vs fun x13_2 vs => 
  bV (pk3 (some x9) (some (.bool true)) (some x13_2)) fun x14 => 
  cnd x14 (bV (bldSp [(0, 1), (1, 1)] [(.int .i64 (.ofNat 0)), (.int .i64 (.ofNat 0))] []) fun x15 => 
  bR (stNp 2 x2 x15 H) fun x9999 H => 
  bV (ldNp 2 x2 H) fun x9002 => bV (some (.int .i64 (.ofNat 4))) fun x3 => some (.ret (.tuple [x9002, x3]), H))
  (bA (bxV 31 (.agg [(.int .i64 (.ofNat 0)), (.int .i64 (.ofNat 0))])) H fun x4 H => 
  bR (noPan (f178 D n [x4] H)) fun x16 H => 
  jb 0 (loopK n (f110l0 D n) [x0, x2, x4, x16, (.int .i64 (.ofNat 0))] H) (f110b1 D n)))
def h110 : Hint := (.s .o (.s (.s .o (.cl (.s .o .o) .o)) (.s .o (.s (.s .o (.b [2, 4] (.l [0, 2, 4, 16, 17] (.s .o (.s (.cr .o .o) (.s (.b0 (.s .o (.s .o (.s .o (.cl (.s .o .o) .o))))) .o)))))) (.s .o .o)))))
theorem f110_eq (D : Dyn) (n : Nat) : f110 D n = funKp (s110 D n) D n 110 Tryz.f110 h110 := by kernel_rfl
theorem f110_ok {D : Dyn} (hD : DP D) (n : Nat) : FP 110 (f110 D n) := fun_okP X_ok hD (SP.cons (f178_ok hD n) (SP.cons (f176_ok hD n) (SP.cons (f121_ok hD n) (SP.nil)))) Tryz.func110 (by kernel_rfl) (by kernel_rfl) (f110_eq D n)

def s41 (D : Dyn) (n : Nat) : Tb := ⟨X, [(76, f76 D n), (38, f38 D n), (110, f110 D n), (54, f54 D n)]⟩
def f41j0 (D : Dyn) (n : Nat) (vs : List AV) (H : AH) : Rs :=
  hd vs fun x2_2 vs => hd vs fun x3 vs => 
  bR (noPan (f110 D n [x3] H)) fun x17 H => 
  bV (pExtract x17 0) fun x18 => 
  bV (pExtract x17 1) fun x19 => 
  bA (bxV 31 (.agg [(.int .i64 (.ofNat 0)), (.int .i64 (.ofNat 0))])) H fun x5 H => 
  bR (stNp 2 x5 x18 H) fun x9999 H => 
  bC (f54 D n [x19] H) (fun x H => some (.ret (.pan x), H)) fun x21 H => 
  bV (ldNp 2 x5 H) fun x22 => 
  bR (stNp 2 x2_2 x22 H) fun x9999_2 H => 
  bV (ldNp 2 x2_2 H) fun x9002 => some (.ret x9002, H)
/-- (jetty/objs.work).counted -/
def f41 (D : Dyn) (n : Nat) (vs : List AV) (H : AH) : Option (AV × AH) :=
  outR (hd vs fun x0 vs => nl vs <|
  bA (bxV 73 x0) H fun x1 H => 
  bA (bxV 31 (.agg [(.int .i64 (.ofNat 0)), (.int .i64 (.ofNat 0))])) H fun x2 H => 
  bV (ldNp 2 x1 H) fun x8 => 
  bC (f76 D n [x8, (.str 1 109)] H) (fun x H => some (.ret (.pan x), H)) fun x9 H => 
  bV (pExtract x9 0) fun x10 => 
  bV (pExtract x9 1) fun x11 => 
  bV (aun .not x11) fun x13 => 
  jn (cnd x13 (bC (f38 D n [(.int .i64 (.ofNat 5))] H) (fun x H => some (.ret (.pan x), H)) fun x14 H => 
  some (.norm [x2, x10], H))
  (some (.norm [x2, x10], H))) (f41j0 D n))
def h41 : Hint := (.s .o (.s .pc (.s (.s .o (.c [2, 3] .pc .o)) (.s .o (.s .pc (.s .o .o))))))
theorem f41_eq (D : Dyn) (n : Nat) : f41 D n = funKp (s41 D n) D n 41 Tryz.f41 h41 := by kernel_rfl
theorem f41_ok {D : Dyn} (hD : DP D) (n : Nat) : FP 41 (f41 D n) := fun_okP X_ok hD (SP.cons (f76_ok hD n) (SP.cons (f38_ok hD n) (SP.cons (f110_ok hD n) (SP.cons (f54_ok hD n) (SP.nil))))) Tryz.func41 (by kernel_rfl) (by kernel_rfl) (f41_eq D n)

def s40 (D : Dyn) (n : Nat) : Tb := ⟨X, [(41, f41 D n)]⟩
/-- jetty/objs.Meta$1 -/
def f40 (D : Dyn) (n : Nat) (vs : List AV) (H : AH) : Option (AV × AH) :=
  outR (hd vs fun x0 vs => nl vs <|
  bA (bxV 73 x0) H fun x1 H => 
  bA (bxV 31 (.agg [(.int .i64 (.ofNat 0)), (.int .i64 (.ofNat 0))])) H fun x2 H => 
  bV (ldNp 2 x1 H) fun x3 => 
  bC (f41 D n [x3] H) (fun x H => some (.ret (.pan x), H)) fun x4 H => 
  bR (stNp 2 x2 x4 H) fun x9999 H => 
  bV (ldNp 2 x2 H) fun x9002 => some (.ret x9002, H))
def h40 : Hint := (.s .o (.s .pc .o))
theorem f40_eq (D : Dyn) (n : Nat) : f40 D n = funKp (s40 D n) D n 40 Tryz.f40 h40 := by kernel_rfl
theorem f40_ok {D : Dyn} (hD : DP D) (n : Nat) : FP 40 (f40 D n) := fun_okP X_ok hD (SP.cons (f41_ok hD n) (SP.nil)) Tryz.func40 (by kernel_rfl) (by kernel_rfl) (f40_eq D n)

def s7 (D : Dyn) (n : Nat) : Tb := ⟨X, [(39, f39 D n)]⟩
/-- jetty/objs.Meta -/
def f7 (D : Dyn) (n : Nat) (vs : List AV) (H : AH) : Option (AV × AH) :=
  outR (hd vs fun x0 vs => nl vs <|
  bA (bxV 31 (.agg [(.int .i64 (.ofNat 0)), (.int .i64 (.ofNat 0))])) H fun x2 H => 
  bR (noPan (f39 D n [x0, (.func 40 [] [])] H)) fun x5 H => 
  bV (pExtract x5 0) fun x6 => 
  bV (pExtract x5 1) fun x7 => 
  bR (stNp 2 x2 x6 H) fun x9999 H => 
  bV (ldNp 2 x2 H) fun x9002 => bV (some x7) fun x3 => some (.ret (.tuple [x9002, x3]), H))
def h7 : Hint := (.s .o (.s .o .o))
theorem f7_eq (D : Dyn) (n : Nat) : f7 D n = funKp (s7 D n) D n 7 Tryz.f7 h7 := by kernel_rfl
theorem f7_ok {D : Dyn} (hD : DP D) (n : Nat) : FP 7 (f7 D n) := fun_okP X_ok hD (SP.cons (f39_ok hD n) (SP.nil)) Tryz.func7 (by kernel_rfl) (by kernel_rfl) (f7_eq D n)

def s179 (D : Dyn) (n : Nat) : Tb := ⟨X, []⟩
/-- maps.Clone[map[uint64]jetty/node.Node,uint64,jetty/node.Node] -/
def f179 (D : Dyn) (n : Nat) (vs : List AV) (H : AH) : Option (AV × AH) :=
  outR (hd vs fun x0 vs => nl vs <|
  bV (cmpO .eql (eqM x0 .nilMap)) fun x4 => 
  cnd x4 (bV (some .nilMap) fun x2 => some (.ret x2, H))
  (none))
def h179 : Hint := (.s .o (.s (.s .o (.cl (.s .o .o) .o)) (.s .o .o)))
theorem f179_eq (D : Dyn) (n : Nat) : f179 D n = funKp (s179 D n) D n 179 Tryz.f179 h179 := by kernel_rfl
theorem f179_ok {D : Dyn} (hD : DP D) (n : Nat) : FP 179 (f179 D n) := fun_okP X_ok hD (SP.nil) Tryz.func179 (by kernel_rfl) (by kernel_rfl) (f179_eq D n)
def m179 (D : Dyn) (n : Nat) (vs : List AV) (H : AH) : Option (AV × AH) := clnK (f179 D n) vs H
theorem m179_ok {D : Dyn} (hD : DP D) (n : Nat) : FP 179 (m179 D n) := clnK_okP ⟨_, Tryz.func179, rfl⟩ (AnyW.maps_Clone Tryz.clone179) (f179_ok hD n)

def s180 (D : Dyn) (n : Nat) : Tb := ⟨X, []⟩
/-- slices.Clone[[]jetty/api.Ptr,jetty/api.Ptr] -/
def f180 (D : Dyn) (n : Nat) (vs : List AV) (H : AH) : Option (AV × AH) :=
  outR (hd vs fun x0 vs => nl vs <|
  bV (cmpO .eql (eqS x0 .nilSlice)) fun x4 => 
  cnd x4 (bV (some .nilSlice) fun x2 => some (.ret x2, H))
  (bA (bldLp 119 3 0 [(.int .i64 (.ofNat 0)), (.int .i64 (.ofNat 0)), (.int .u64 (.ofNat 0))] []) H fun x5 H => 
  bR (apPp 119 3 24 x5 x0 H) fun x7 H => 
  bV (some x7) fun x2_2 => some (.ret x2_2, H)))
def h180 : Hint := (.s .o (.s (.s .o (.cl (.s .o .o) .o)) (.s .o .o)))
theorem f180_eq (D : Dyn) (n : Nat) : f180 D n = funKp (s180 D n) D n 180 Tryz.f180 h180 := by kernel_rfl
theorem f180_ok {D : Dyn} (hD : DP D) (n : Nat) : FP 180 (f180 D n) := fun_okP X_ok hD (SP.nil) Tryz.func180 (by kernel_rfl) (by kernel_rfl) (f180_eq D n)

def s111 (D : Dyn) (n : Nat) : Tb := ⟨X, [(179, m179 D n), (180, f180 D n)]⟩
/-- (*jetty/tree.Tree).Copy -/
def f111 (D : Dyn) (n : Nat) (vs : List AV) (H : AH) : Option (AV × AH) :=
  outR (hd vs fun x0 vs => nl vs <|
  bV (cmpO .eql (eqP x0 .nilPtr)) fun x5 => 
  cnd x5 (bV (some .nilPtr) fun x2 => some (.ret x2, H))
  (bV (pNil x0) fun x7 => 
  bV (ldNp 8 x7 H) fun x8 => 
  bA (bxV 176 (.agg [.nilPtr, .nilPtr, (.int .i64 (.ofNat 0)), (.int .i64 (.ofNat 0)), (.int .u64 (.ofNat 0)), .nilMap, (.int .u64 (.ofNat 0)), .nilSlice])) H fun x3 H => 
  bR (stNp 8 x3 x8 H) fun x9999 H => 
  bV (pNil x0) fun x10 => 
  bV (fAd 5 x10) fun x11 => 
  bV (ld1p x11 H) fun x12 => 
  bR (noPan (m179 D n [x12] H)) fun x13 H => 
  bV (fAd 5 x3) fun x14 => 
  bR (stNp 1 x14 x13 H) fun x9999_2 H => 
  bV (pNil x0) fun x16 => 
  bV (fAd 7 x16) fun x17 => 
  bV (ld1p x17 H) fun x18 => 
  bR (noPan (f180 D n [x18] H)) fun x19 H => 
  bV (fAd 7 x3) fun x20 => 
  bR (stNp 1 x20 x19 H) fun x9999_3 H => 
  bV (some x3) fun x2_2 => some (.ret x2_2, H)))
def h111 : Hint := (.s .o (.s (.s .o (.cl (.s .o .o) .o)) (.s .o (.s .o (.s .o (.s .o .o))))))
theorem f111_eq (D : Dyn) (n : Nat) : f111 D n = funKp (s111 D n) D n 111 Tryz.f111 h111 := by kernel_rfl
theorem f111_ok {D : Dyn} (hD : DP D) (n : Nat) : FP 111 (f111 D n) := fun_okP X_ok hD (SP.cons (m179_ok hD n) (SP.cons (f180_ok hD n) (SP.nil))) Tryz.func111 (by kernel_rfl) (by kernel_rfl) (f111_eq D n)

def s181 (D : Dyn) (n : Nat) : Tb := ⟨X, []⟩
def f181j0 (D : Dyn) (n : Nat) (vs : List AV) (H : AH) : Rs :=
  
  some (.norm [], H)
def f181j1 (D : Dyn) (n : Nat) (vs : List AV) (H : AH) : Rs :=
  
  some (.ret (.tuple []), H)
/-- jetty/objs.run[int]$1 -/
def rc181 (D : Dyn) (n : Nat) (rv : AV) (vs : List AV) (H : AH) : Option (AV × AH) :=
  noPan (outR (hd vs fun x0 vs => hd vs fun x1 vs => nl vs <|
  bV (ifNil .neq rv) fun x8 => 
  jn (cnd x8 (bR (stNp 1 x0 (.int .i64 (.ofNat 0)) H) fun x9999 H => 
  bR (stNp 1 x1 (.int .i64 (.ofNat 4)) H) fun x9999_2 H => 
  bV (asrK 169 (.agg [(.int .i64 (.ofNat 0))]) rv) fun x12 => 
  bV (pExtract x12 0) fun x13 => 
  bV (pExtract x12 1) fun x14 => 
  bA (bxV 169 (.agg [(.int .i64 (.ofNat 0))])) H fun x4 H => 
  bR (stNp 1 x4 x13 H) fun x9999_3 H => 
  jn (cnd x14 (bV (fAd 0 x4) fun x16 => 
  bV (ld1p x16 H) fun x17 => 
  bR (stNp 1 x1 x17 H) fun x9999_4 H => 
  some (.norm [], H))
  (some (.norm [], H))) (f181j0 D n))
  (some (.norm [], H))) (f181j1 D n)))
def h181 : Hint := (.s .pc (.c [] (.s .pc (.s .pc (.s .pc (.s .pc (.c [] .pc .o))))) .o))
theorem rc181_eq (D : Dyn) (n : Nat) : rc181 D n = funRp (s181 D n) D n 181 Tryz.f181 h181 := by kernel_rfl
theorem rc181_ok {D : Dyn} (hD : DP D) (n : Nat) : RcP 181 (rc181 D n) := funR_okP X_ok hD (SP.nil) Tryz.func181 (by kernel_rfl) (by kernel_rfl) (by kernel_rfl) (rc181_eq D n)

def s112 (D : Dyn) (n : Nat) : Tb := ⟨X, []⟩
/-- jetty/objs.run[int] -/
def f112 (D : Dyn) (n : Nat) (vs : List AV) (H : AH) : Option (AV × AH) :=
  noPan (outR (hd vs fun x0 vs => hd vs fun x1 vs => hd vs fun x2 vs => nl vs <|
  bA (bxV 3 (.int .i64 (.ofNat 0))) H fun x6 H => 
  bA (bxV 24 (.int .i64 (.ofNat 0))) H fun x7 H => 
  bV (bldSp [(0, 1), (1, 1)] [.nilPtr, (.int .i64 (.ofNat 0))] [(0, x0), (1, x1)]) fun x12 => 
  bC (callV (s112 D n).S D x2 [x12] H) (fun x H => bR (rc181 D n x [x6, x7] H) fun _ H => bV (ld1p x6 H) fun x9006_5 => bV (ld1p x7 H) fun x9007_5 => some (.ret (.tuple [x9006_5, x9007_5]), H)) fun x13 H => 
  bR (stNp 1 x6 x13 H) fun x9999 H => 
  bR (stNp 1 x7 (.int .i64 (.ofNat 0)) H) fun x9999_2 H => 
  bR (rc181 D n .nilIface [x6, x7] H) fun _ H => bV (ld1p x6 H) fun x9006_8 => bV (ld1p x7 H) fun x9007_8 => some (.ret (.tuple [x9006_8, x9007_8]), H)))
theorem f112_eq (D : Dyn) (n : Nat) : f112 D n = dfunKp (s112 D n) D Tryz.f112 181 (rc181 D n) := by kernel_rfl
theorem f112_ok {D : Dyn} (hD : DP D) (n : Nat) : FP 112 (f112 D n) := dfun_okP X_ok hD (SP.nil) Tryz.func112 (rc181_ok hD n) (f112_eq D n)

def s42 (D : Dyn) (n : Nat) : Tb := ⟨X, [(111, f111 D n), (112, f112 D n)]⟩
/-- jetty/objs.change[int] -/
def f42 (D : Dyn) (n : Nat) (vs : List AV) (H : AH) : Option (AV × AH) :=
  outR (hd vs fun x0 vs => hd vs fun x1 vs => hd vs fun x2 vs => nl vs <|
  bV (cmpO .eql (eqP x0 .nilPtr)) fun x13 => 
  cnd x13 (bV (some (.int .i64 (.ofNat 0))) fun x6 => bV (some (.int .i64 (.ofNat 2))) fun x7 => some (.ret (.tuple [x6, x7]), H))
  (bV (bInt .lss x1 (.int .i64 (.ofNat 0))) fun x16 => 
  jn (wnt x16 false (bV (bInt .gtr x1 (.int .i64 (.ofNat 2147483647))) fun x19 => 
  some (.norm [x19], H)) (some (.norm [undefA], H))) fun vs H => hd vs fun x19_2 vs => 
  bV (pk3 (some x16) (some (.bool true)) (some x19_2)) fun x20 => 
  cnd x20 (bV (some (.int .i64 (.ofNat 0))) fun x6_2 => bV (some (.int .i64 (.ofNat 1))) fun x7_2 => some (.ret (.tuple [x6_2, x7_2]), H))
  (bR (noPan (f111 D n [x0] H)) fun x23 H => 
  bR (noPan (f112 D n [x23, x1, x2] H)) fun x28 H => 
  bV (pExtract x28 0) fun x29 => 
  bV (pExtract x28 1) fun x30 => 
  bV (bInt .neq x30 (.int .i64 (.ofNat 0))) fun x32 => 
  cnd x32 (bV (some (.int .i64 (.ofNat 0))) fun x6_3 => bV (some x30) fun x7_3 => some (.ret (.tuple [x6_3, x7_3]), H))
  (bV (pNil x23) fun x37 => 
  bV (ldNp 8 x37 H) fun x38 => 
  bV (pNil x0) fun x39 => 
  bR (stNp 8 x39 x38 H) fun x9999 H => 
  bV (some x29) fun x6_4 => bV (some (.int .i64 (.ofNat 0))) fun x7_4 => some (.ret (.tuple [x6_4, x7_4]), H)))))
def h42 : Hint := (.s .o (.s .o (.s (.s .o (.cl (.s .o .o) .o)) (.s (.s .o (.cl (.s .o .o) .o)) (.s .o (.s .o (.s (.s .o (.cl (.s .o .o) .o)) (.s .o (.s .o .o)))))))))
theorem f42_eq (D : Dyn) (n : Nat) : f42 D n = funKp (s42 D n) D n 42 Tryz.f42 h42 := by kernel_rfl
theorem f42_ok {D : Dyn} (hD : DP D) (n : Nat) : FP 42 (f42 D n) := fun_okP X_ok hD (SP.cons (f111_ok hD n) (SP.cons (f112_ok hD n) (SP.nil))) Tryz.func42 (by kernel_rfl) (by kernel_rfl) (f42_eq D n)

def s113 (D : Dyn) (n : Nat) : Tb := ⟨X, [(178, f178 D n), (121, f121 D n), (175, f175 D n)]⟩
def f113l0 (D : Dyn) (n : Nat) (vs : List AV) (H : AH) : Rs :=
  hd vs fun x4 vs => hd vs fun x8_2 vs => hd vs fun x9 vs => 
  bV (bInt .lss x9 (.int .i64 (.ofNat 2))) fun x10 => 
  cnd x10 (bV (ixAg1p 2 1 x8_2 x9) fun x11 => 
  bV (pNil x11) fun x13 => 
  bV (ld1p x13 H) fun x14 => 
  bR (noPan (f121 D n [x14, (.int .i64 (.ofNat 0)), (.int .i64 (.ofNat 2147483647))] H)) fun x15 H => 
  bV (aun .not x15) fun x16 => 
  cnd x16 (bV (some (.str 0 0)) fun x2 => bV (some (.int .i64 (.ofNat 4))) fun x3 => some (.ret (.tuple [x2, x3]), H))
  (bV (pNil x11) fun x19 => 
  bV (ld1p x19 H) fun x20 => 
  bR (noPan (f175 D n [x4, x20] H)) fun x21 H => 
  bV (bInt .add x9 (.int .i64 (.ofNat 1))) fun x22 => 
  some (.norm [x21, x8_2, x22], H)))
  (some (.exit 0 [x4], H))
def f113b1 (D : Dyn) (n : Nat) (vs : List AV) (H : AH) : Rs :=
  hd vs fun x4_2 vs => 
  bV (cvBSp x4_2 H) fun x24 => 
  bV (some x24) fun x2_2 => bV (some (.int .i64 (.ofNat 0))) fun x3_2 => some (.ret (.tuple [x2_2, x3_2]), H)
/-- jetty/inode.EncodeMeta -/
def f113 (D : Dyn) (n : Nat) (vs : List AV) (H : AH) : Option (AV × AH) :=
  outR (hd vs fun x0 vs => nl vs <|
  bA (bxV 31 x0) H fun x1 H => 
  bA (bldLp 5 1 1 [(.int .u8 (.ofNat 0))] [(0, (.int .u8 (.ofNat 109)))]) H fun x7 H => 
  bR (noPan (f178 D n [x1] H)) fun x8 H => 
  jb 0 (loopK n (f113l0 D n) [x7, x8, (.int .i64 (.ofNat 0))] H) (f113b1 D n))
def h113 : Hint := (.s .o (.s .o (.s (.s .o (.b [4] (.l [4, 8, 9] (.s .o (.s (.cr .o .o) (.s (.b0 (.s .o (.s (.s .o (.cl (.s .o .o) .o)) .o))) .o)))))) (.s .o .o))))
theorem f113_eq (D : Dyn) (n : Nat) : f113 D n = funKp (s113 D n) D n 113 Tryz.f113 h113 := by kernel_rfl
theorem f113_ok {D : Dyn} (hD : DP D) (n : Nat) : FP 113 (f113 D n) := fun_okP X_ok hD (SP.cons (f178_ok hD n) (SP.cons (f121_ok hD n) (SP.cons (f175_ok hD n) (SP.nil)))) Tryz.func113 (by kernel_rfl) (by kernel_rfl) (f113_eq D n)

def s261 (D : Dyn) (n : Nat) : Tb := ⟨X, []⟩
/-- (*jetty/tree.change).add -/
def f261 (D : Dyn) (n : Nat) (vs : List AV) (H : AH) : Option (AV × AH) :=
  outR (hd vs fun x0 vs => hd vs fun x1 vs => nl vs <|
  bA (bxV 269 x1) H fun x3 H => 
  bA (bxV 119 (.agg [(.int .i64 (.ofNat 0)), (.int .i64 (.ofNat 0)), (.int .u64 (.ofNat 0))])) H fun x4 H => 
  bV (pNil x0) fun x6 => 
  bV (fAd 1 x6) fun x7 => 
  bV (ld1p x7 H) fun x8 => 
  bV (bInt .add x8 (.int .u64 (.ofNat 1))) fun x9 => 
  bV (pNil x0) fun x10 => 
  bV (fAd 1 x10) fun x11 => 
  bR (stNp 1 x11 x9 H) fun x9999 H => 
  bV (pNil x0) fun x13 => 
  bV (fAd 2 x13) fun x14 => 
  bV (ld1p x14 H) fun x15 => 
  bV (pNil x0) fun x17 => 
  bV (fAd 1 x17) fun x18 => 
  bV (ld1p x18 H) fun x19 => 
  bV (ldNp 4 x3 H) fun x20 => 
  bR (upM [10] x15 x19 x20 H) fun x9999_2 H => 
  bV (pNil x0) fun x22 => 
  bV (fAd 1 x22) fun x23 => 
  bV (ld1p x23 H) fun x24 => 
  bV (bldSp [(0, 1), (1, 1), (2, 1)] [(.int .i64 (.ofNat 0)), (.int .i64 (.ofNat 0)), (.int .u64 (.ofNat 0))] [(0, (.int .i64 (.ofNat 1))), (2, x24)]) fun x25 => 
  bR (stNp 3 x4 x25 H) fun x9999_3 H => 
  bV (ldNp 3 x4 H) fun x9004 => some (.ret x9004, H))
def h261 : Hint := (.s .o (.s .o (.s .o (.s .o .o))))
theorem f261_eq (D : Dyn) (n : Nat) : f261 D n = funKp (s261 D n) D n 261 Tryz.f261 h261 := by kernel_rfl
theorem f261_ok {D : Dyn} (hD : DP D) (n : Nat) : FP 261 (f261 D n) := fun_okP X_ok hD (SP.nil) Tryz.func261 (by kernel_rfl) (by kernel_rfl) (f261_eq D n)

def s260 (D : Dyn) (n : Nat) : Tb := ⟨X, []⟩
def f260j0 (D : Dyn) (n : Nat) (vs : List AV) (H : AH) : Rs :=
  hd vs fun x0_3 vs => hd vs fun x3_3 vs => hd vs fun x4_2 vs => hd vs fun x16_3 vs => hd vs fun x17_3 vs => hd vs fun x18_2 vs => 
  bV (bInt .add x18_2 (.int .i64 (.ofNat 1))) fun x41 => 
  some (.norm [x0_3, x3_3, x4_2, x16_3, x17_3, x41], H)
def f260l1 (D : Dyn) (n : Nat) (vs : List AV) (H : AH) : Rs :=
  hd vs fun x0_2 vs => hd vs fun x3_2 vs => hd vs fun x4 vs => hd vs fun x16_2 vs => hd vs fun x17_2 vs => hd vs fun x18 vs => 
  bV (bInt .lss x18 x17_2) fun x19 => 
  cnd x19 (bV (ixSl 3 x16_2 x18) fun x20 => 
  bV (ldNp 3 x20 H) fun x21 => 
  bA (bxV 119 (.agg [(.int .i64 (.ofNat 0)), (.int .i64 (.ofNat 0)), (.int .u64 (.ofNat 0))])) H fun x6 H => 
  bR (stNp 3 x6 x21 H) fun x9999 H => 
  bV (fAd 0 x6) fun x22 => 
  bV (ld1p x22 H) fun x23 => 
  bV (bInt .eql x23 (.int .i64 (.ofNat 1))) fun x24 => 
  jn (cnd x24 (bV (pNil x4) fun x26 => 
  bV (fAd 5 x26) fun x27 => 
  bV (ld1p x27 H) fun x28 => 
  bV (fAd 2 x6) fun x29 => 
  bV (ld1p x29 H) fun x30 => 
  bR (dlM [10] x28 x30 H) fun x9999_2 H => 
  some (.norm [x0_2, x3_2, x4, x16_2, x17_2, x18], H))
  (bV (pNil x4) fun x33 => 
  bV (fAd 7 x33) fun x34 => 
  bV (ld1p x34 H) fun x35 => 
  bV (ldNp 3 x6 H) fun x36 => 
  bA (bldLp 119 3 1 [(.int .i64 (.ofNat 0)), (.int .i64 (.ofNat 0)), (.int .u64 (.ofNat 0))] [(0, x36)]) H fun x37 H => 
  bR (apPp 119 3 24 x35 x37 H) fun x38 H => 
  bV (pNil x4) fun x39 => 
  bV (fAd 7 x39) fun x40 => 
  bR (stNp 1 x40 x38 H) fun x9999_3 H => 
  some (.norm [x0_2, x3_2, x4, x16_2, x17_2, x18], H))) (f260j0 D n))
  (some (.exit 0 [x0_2, x3_2, x4], H))
def f260b2 (D : Dyn) (n : Nat) (vs : List AV) (H : AH) : Rs :=
  hd vs fun x0_4 vs => hd vs fun x3_4 vs => hd vs fun x4_3 vs => 
  tld (mtp260_0 [x0_4, x3_4, x4_3] H) H.next fun H => 
  bV (pNil x0_4) fun x60 => 
  bV (fAd 1 x60) fun x61 => 
  bV (ld1p x61 H) fun x62 => 
  bV (pNil x4_3) fun x63 => 
  bV (fAd 6 x63) fun x64 => 
  bR (stNp 1 x64 x62 H) fun x9999_4 H => 
  bV (ldNp 3 x3_4 H) fun x66 => 
  bV (pNil x4_3) fun x67 => 
  bV (fAd 2 x67) fun x68 => 
  bR (stNp 3 x68 x66 H) fun x9999_5 H => 
  some (.ret (.tuple []), H)
/-- (*jetty/tree.change).done -/
def f260 (D : Dyn) (n : Nat) (vs : List AV) (H : AH) : Option (AV × AH) :=
  outR (hd vs fun x0 vs => hd vs fun x1 vs => nl vs <|
  bA (bxV 119 x1) H fun x3 H => 
  bV (pNil x0) fun x10 => 
  bV (fAd 0 x10) fun x11 => 
  bV (ld1p x11 H) fun x12 => 
  bV (pNil x0) fun x14 => 
  bV (fAd 3 x14) fun x15 => 
  bV (ld1p x15 H) fun x16 => 
  bV (lnSl x16) fun x17 => 
  jb 0 (loopK n (f260l1 D n) [x0, x3, x12, x16, x17, (.int .i64 (.ofNat 0))] H) (f260b2 D n))
def h260 : Hint := (.s .o (.s .o (.s (.s .o (.b [0, 3, 4] (.l [0, 3, 4, 16, 17, 18] (.s .o (.s (.cr .o .o) (.s (.b0 (.s .o (.s .o (.c [0, 3, 4, 16, 17, 18] .o .o)))) .o)))))) (.s (.t [0, 3, 4] mtp260_0) (.s .o .o)))))
def ho260 : Hint := (.s .o (.s .o (.s (.s .o (.b [0, 3, 4] (.l [0, 3, 4, 16, 17, 18] (.s .o (.s (.cr .o .o) (.s (.b0 (.s .o (.s .o (.c [0, 3, 4, 16, 17, 18] .o .o)))) .o)))))) (.s (.t [0, 3, 4] mt260_0) (.s .o .o)))))
theorem f260_eq (D : Dyn) (n : Nat) : f260 D n = funKp (s260 D n) D n 260 Tryz.f260 h260 := by kernel_rfl
theorem f260_tolds : toldsF Tryz.f260 ho260 = [(q260_0.code, [0, 3, 4], mt260_0)] := by kernel_rfl
theorem f260_told : ∀ x ∈ toldsF Tryz.f260 ho260, ToldOk PP Tryz.f260.ntmps 260 x.1 x.2.1 x.2.2 := by
  rw [f260_tolds]; intro x hx
  simp only [List.mem_cons, List.not_mem_nil, or_false] at hx
  subst hx; exact told260_0
theorem f260_hs : HS h260 ho260 := by
  unfold h260 ho260
  repeat (first | exact HS.t mtp260_0_sim | constructor)
theorem f260_ok {D : Dyn} (hD : DP D) (n : Nat) : FP 260 (f260 D n) := fun_okPT X_ok hD (SP.nil) Tryz.func260 (sitesT_ok (by kernel_rfl) f260_told) f260_hs (f260_eq D n)

def s384 (D : Dyn) (n : Nat) : Tb := ⟨X, [(319, f319 D n)]⟩
def f384j0 (D : Dyn) (n : Nat) (vs : List AV) (H : AH) : Rs :=
  hd vs fun x1_4 vs => hd vs fun x3_3 vs => hd vs fun x4_3 vs => hd vs fun x5_3 vs => hd vs fun x6 vs => hd vs fun x20_2 vs => hd vs fun x21_2 vs => 
  bV (bInt .gtr x6 (.int .i64 (.ofNat 0))) fun x47 => 
  jn (wnt x47 true (bV (bInt .gtr x5_3 x3_3) fun x51 => 
  some (.norm [x51], H)) (some (.norm [undefA], H))) fun vs H => hd vs fun x51_2 vs => 
  bV (pk3 (some x47) (some x51_2) (some (.bool false))) fun x52 => 
  cnd x52 (bV (some x6) fun x2 => some (.ret x2, H))
  (bV (bInt .add x21_2 (.int .i64 (.ofNat 1))) fun x54 => 
  some (.norm [x1_4, x3_3, x4_3, x5_3, x20_2, x54], H))
def f384l1 (D : Dyn) (n : Nat) (vs : List AV) (H : AH) : Rs :=
  hd vs fun x1_3 vs => hd vs fun x3_2 vs => hd vs fun x4_2 vs => hd vs fun x5_2 vs => hd vs fun x20 vs => hd vs fun x21 vs => 
  bV (bInt .lss x21 x20) fun x22 => 
  cnd x22 (bV (fAd 1 x1_3) fun x25 => 
  bV (ld1p x25 H) fun x26 => 
  bV (ixSl 1 x26 x21) fun x28 => 
  bV (ld1p x28 H) fun x29 => 
  bV (lnStr x29) fun x30 => 
  bV (bInt .add (.int .i64 (.ofNat 1)) x30) fun x31 => 
  bV (bInt .add x5_2 x31) fun x32 => 
  bV (fAd 0 x1_3) fun x33 => 
  bV (ld1p x33 H) fun x34 => 
  jn (cnd x34 (bV (fAd 2 x1_3) fun x36 => 
  bV (ld1p x36 H) fun x37 => 
  bV (ixSl 1 x37 x21) fun x39 => 
  bV (ld1p x39 H) fun x40 => 
  bV (lnStr x40) fun x41 => 
  bV (bInt .add (.int .i64 (.ofNat 1)) x41) fun x42 => 
  bV (bInt .add x32 x42) fun x43 => 
  some (.norm [x1_3, x3_2, x4_2, x43, x21, x20, x21], H))
  (bV (bInt .add x32 (.int .i64 (.ofNat 16))) fun x45 => 
  some (.norm [x1_3, x3_2, x4_2, x45, x21, x20, x21], H))) (f384j0 D n))
  (some (.exit 0 [x4_2], H))
def f384b2 (D : Dyn) (n : Nat) (vs : List AV) (H : AH) : Rs :=
  hd vs fun x4_4 vs => 
  bV (some x4_4) fun x2_2 => some (.ret x2_2, H)
def f384j3 (D : Dyn) (n : Nat) (vs : List AV) (H : AH) : Rs :=
  hd vs fun x1_2 vs => hd vs fun x3 vs => hd vs fun x4 vs => hd vs fun x5 vs => 
  jb 0 (loopK n (f384l1 D n) [x1_2, x3, x4, x5, x4, (.int .i64 (.ofNat 0))] H) (f384b2 D n)
/-- jetty/node.half -/
def f384 (D : Dyn) (n : Nat) (vs : List AV) (H : AH) : Option (AV × AH) :=
  outR (hd vs fun x0 vs => nl vs <|
  bA (bxV 269 x0) H fun x1 H => 
  bV (ldNp 4 x1 H) fun x7 => 
  bR (noPan (f319 D n [x7] H)) fun x8 H => 
  bV (bInt .sub x8 (.int .i64 (.ofNat 2))) fun x9 => 
  bV (bInt .quo x9 (.int .i64 (.ofNat 2))) fun x10 => 
  bV (fAd 1 x1) fun x11 => 
  bV (ld1p x11 H) fun x12 => 
  bV (lnSl x12) fun x13 => 
  bV (bInt .sub x13 (.int .i64 (.ofNat 1))) fun x14 => 
  bV (fAd 0 x1) fun x15 => 
  bV (ld1p x15 H) fun x16 => 
  bV (aun .not x16) fun x17 => 
  jn (cnd x17 (bV (bInt .sub x14 (.int .i64 (.ofNat 1))) fun x19 => 
  some (.norm [x1, x10, x19, (.int .i64 (.ofNat 16))], H))
  (some (.norm [x1, x10, x14, (.int .i64 (.ofNat 0))], H))) (f384j3 D n))
def h384 : Hint := (.s .o (.s .o (.s .o (.s .o (.s (.s .o (.c [1, 3, 4, 5] (.s .o .o) .o)) (.s (.s .o (.b [4] (.l [1, 3, 4, 5, 20, 21] (.s .o (.s (.cr .o .o) (.s (.b0 (.s .o (.s .o (.s (.s .o (.c [1, 3, 4, 5, 6, 20, 21] .o .o)) (.s .o (.cl (.s .o .o) .o)))))) .o)))))) (.s .o .o)))))))
theorem f384_eq (D : Dyn) (n : Nat) : f384 D n = funKp (s384 D n) D n 384 Tryz.f384 h384 := by kernel_rfl
theorem f384_ok {D : Dyn} (hD : DP D) (n : Nat) : FP 384 (f384 D n) := fun_okP X_ok hD (SP.cons (f319_ok hD n) (SP.nil)) Tryz.func384 (by kernel_rfl) (by kernel_rfl) (f384_eq D n)

def s268 (D : Dyn) (n : Nat) : Tb := ⟨X, []⟩
/-- slices.Clone[[]string,string] -/
def f268 (D : Dyn) (n : Nat) (vs : List AV) (H : AH) : Option (AV × AH) :=
  outR (hd vs fun x0 vs => nl vs <|
  bV (cmpO .eql (eqS x0 .nilSlice)) fun x4 => 
  cnd x4 (bV (some .nilSlice) fun x2 => some (.ret x2, H))
  (bA (bldLp 9 1 0 [(.str 0 0)] []) H fun x5 H => 
  bR (apPp 9 1 16 x5 x0 H) fun x7 H => 
  bV (some x7) fun x2_2 => some (.ret x2_2, H)))
def h268 : Hint := (.s .o (.s (.s .o (.cl (.s .o .o) .o)) (.s .o .o)))
theorem f268_eq (D : Dyn) (n : Nat) : f268 D n = funKp (s268 D n) D n 268 Tryz.f268 h268 := by kernel_rfl
theorem f268_ok {D : Dyn} (hD : DP D) (n : Nat) : FP 268 (f268 D n) := fun_okP X_ok hD (SP.nil) Tryz.func268 (by kernel_rfl) (by kernel_rfl) (f268_eq D n)

def s359 (D : Dyn) (n : Nat) : Tb := ⟨X, [(266, f266 D n), (384, f384 D n), (268, f268 D n), (180, f180 D n)]⟩
def f359j0 (D : Dyn) (n : Nat) (vs : List AV) (H : AH) : Rs :=
  hd vs fun x1_2 vs => hd vs fun x2_2 vs => hd vs fun x4_2 vs => hd vs fun x6 vs => 
  bV (ldNp 4 x2_2 H) fun x88 => 
  bV (fAd 1 x1_2) fun x89 => 
  bV (ld1p x89 H) fun x90 => 
  bV (ixSl 1 x90 x6) fun x92 => 
  bV (ld1p x92 H) fun x93 => 
  bV (ldNp 4 x4_2 H) fun x94 => 
  bR (stNp 4 x2_2 x88 H) fun x9999_12 H => chk (ld1p x89 H) x90 <| chk (ld1p x92 H) x93 <| chk (ldNp 4 x4_2 H) x94 <| 
  bR (stNp 4 x4_2 x94 H) fun x9999_13 H => 
  bV (ldNp 4 x2_2 H) fun x9002_2 => bV (some x93) fun x3_2 => bV (ldNp 4 x4_2 H) fun x9004_2 => bV (some (.int .i64 (.ofNat 0))) fun x5_2 => some (.ret (.tuple [x9002_2, x3_2, x9004_2, x5_2]), H)
/-- jetty/node.Cut -/
def f359 (D : Dyn) (n : Nat) (vs : List AV) (H : AH) : Option (AV × AH) :=
  outR (hd vs fun x0 vs => nl vs <|
  bA (bxV 269 x0) H fun x1 H => 
  bA (bxV 269 (.agg [(.bool false), .nilSlice, .nilSlice, .nilSlice])) H fun x2 H => 
  bA (bxV 269 (.agg [(.bool false), .nilSlice, .nilSlice, .nilSlice])) H fun x4 H => 
  bV (ldNp 4 x1 H) fun x7 => 
  bR (noPan (f266 D n [x7] H)) fun x8 H => 
  bV (aun .not x8) fun x9 => 
  jn (wnt x9 false (bV (fAd 1 x1) fun x11 => 
  bV (ld1p x11 H) fun x12 => 
  bV (lnSl x12) fun x13 => 
  bV (bInt .lss x13 (.int .i64 (.ofNat 2))) fun x14 => 
  some (.norm [x14], H)) (some (.norm [undefA], H))) fun vs H => hd vs fun x14_2 vs => 
  bV (pk3 (some x9) (some (.bool true)) (some x14_2)) fun x15 => 
  jn (wnt x15 false (bV (fAd 0 x1) fun x17 => 
  bV (ld1p x17 H) fun x18 => 
  bV (aun .not x18) fun x19 => 
  some (.norm [x19], H)) (some (.norm [undefA], H))) fun vs H => hd vs fun x20 vs => 
  jn (wnt x20 true (bV (fAd 1 x1) fun x21 => 
  bV (ld1p x21 H) fun x22 => 
  bV (lnSl x22) fun x23 => 
  bV (bInt .lss x23 (.int .i64 (.ofNat 3))) fun x24 => 
  some (.norm [x24], H)) (some (.norm [undefA], H))) fun vs H => hd vs fun x24_2 vs => 
  jn (wnt x15 false (bV (pk3 (some x20) (some x24_2) (some (.bool false))) fun x25 => 
  some (.norm [x25], H)) (some (.norm [undefA], H))) fun vs H => hd vs fun x25_2 vs => 
  bV (pk3 (some x15) (some (.bool true)) (some x25_2)) fun x26 => 
  cnd x26 (bV (bldSp [(0, 1), (1, 1), (2, 1), (3, 1)] [(.bool false), .nilSlice, .nilSlice, .nilSlice] []) fun x27 => 
  bV (bldSp [(0, 1), (1, 1), (2, 1), (3, 1)] [(.bool false), .nilSlice, .nilSlice, .nilSlice] []) fun x28 => 
  bR (stNp 4 x2 x27 H) fun x9999 H => 
  bR (stNp 4 x4 x28 H) fun x9999_2 H => 
  bV (ldNp 4 x2 H) fun x9002 => bV (some (.str 0 0)) fun x3 => bV (ldNp 4 x4 H) fun x9004 => bV (some (.int .i64 (.ofNat 1))) fun x5 => some (.ret (.tuple [x9002, x3, x9004, x5]), H))
  (bV (ldNp 4 x1 H) fun x29 => 
  bR (noPan (f384 D n [x29] H)) fun x30 H => 
  bV (fAd 0 x1) fun x31 => 
  bV (ld1p x31 H) fun x32 => 
  bV (fAd 0 x1) fun x33 => 
  bV (ld1p x33 H) fun x34 => 
  bV (fAd 0 x2) fun x35 => 
  bR (stNp 1 x35 x32 H) fun x9999_3 H => chk (ld1p x33 H) x34 <| 
  bV (fAd 0 x4) fun x36 => 
  bR (stNp 1 x36 x34 H) fun x9999_4 H => 
  bV (fAd 1 x1) fun x37 => 
  bV (ld1p x37 H) fun x38 => 
  bV (slSlp 1 x38 none (some x30) (some x30) H) fun x41 => 
  bR (noPan (f268 D n [x41] H)) fun x42 H => 
  bV (fAd 1 x2) fun x43 => 
  bR (stNp 1 x43 x42 H) fun x9999_5 H => 
  bV (fAd 0 x1) fun x44 => 
  bV (ld1p x44 H) fun x45 => 
  jn (cnd x45 (bV (fAd 1 x1) fun x46 => 
  bV (ld1p x46 H) fun x47 => 
  bV (slSlp 1 x47 (some x30) none none H) fun x49 => 
  bR (noPan (f268 D n [x49] H)) fun x50 H => 
  bV (fAd 1 x4) fun x51 => 
  bR (stNp 1 x51 x50 H) fun x9999_6 H => 
  bV (fAd 2 x1) fun x52 => 
  bV (ld1p x52 H) fun x53 => 
  bV (slSlp 1 x53 none (some x30) (some x30) H) fun x56 => 
  bV (fAd 2 x1) fun x58 => 
  bV (ld1p x58 H) fun x59 => 
  bV (slSlp 1 x59 (some x30) none none H) fun x61 => 
  bR (noPan (f268 D n [x56] H)) fun x57 H => chk (ld1p x58 H) x59 <| chk (slSlp 1 x59 (some x30) none none H) x61 <| 
  bV (fAd 2 x2) fun x63 => 
  bR (noPan (f268 D n [x61] H)) fun x62 H => 
  bR (stNp 1 x63 x57 H) fun x9999_7 H => 
  bV (fAd 2 x4) fun x64 => 
  bR (stNp 1 x64 x62 H) fun x9999_8 H => 
  some (.norm [x1, x2, x4, x30], H))
  (bV (fAd 1 x1) fun x65 => 
  bV (ld1p x65 H) fun x66 => 
  bV (bInt .add x30 (.int .i64 (.ofNat 1))) fun x68 => 
  bV (slSlp 1 x66 (some x68) none none H) fun x69 => 
  bR (noPan (f268 D n [x69] H)) fun x70 H => 
  bV (fAd 1 x4) fun x71 => 
  bR (stNp 1 x71 x70 H) fun x9999_9 H => 
  bV (fAd 3 x1) fun x72 => 
  bV (ld1p x72 H) fun x73 => 
  bV (bInt .add x30 (.int .i64 (.ofNat 1))) fun x75 => 
  bV (bInt .add x30 (.int .i64 (.ofNat 1))) fun x77 => 
  bV (slSlp 3 x73 none (some x75) (some x77) H) fun x78 => 
  bV (fAd 3 x1) fun x80 => 
  bV (ld1p x80 H) fun x81 => 
  bV (bInt .add x30 (.int .i64 (.ofNat 1))) fun x83 => 
  bV (slSlp 3 x81 (some x83) none none H) fun x84 => 
  bR (noPan (f180 D n [x78] H)) fun x79 H => chk (ld1p x80 H) x81 <| chk (slSlp 3 x81 (some x83) none none H) x84 <| 
  bV (fAd 3 x2) fun x86 => 
  bR (noPan (f180 D n [x84] H)) fun x85 H => 
  bR (stNp 1 x86 x79 H) fun x9999_10 H => 
  bV (fAd 3 x4) fun x87 => 
  bR (stNp 1 x87 x85 H) fun x9999_11 H => 
  some (.norm [x1, x2, x4, x30], H))) (f359j0 D n)))
def h359 : Hint := (.s .o (.s (.s .o (.cl (.s .o .o) .o)) (.s .o (.s .o (.s .o (.s (.s .o (.c [1, 2, 4, 6] (.s .o .o) (.s .o .o))) (.s .o .o)))))))
theorem f359_eq (D : Dyn) (n : Nat) : f359 D n = funKp (s359 D n) D n 359 Tryz.f359 h359 := by kernel_rfl
theorem f359_ok {D : Dyn} (hD : DP D) (n : Nat) : FP 359 (f359 D n) := fun_okP X_ok hD (SP.cons (f266_ok hD n) (SP.cons (f384_ok hD n) (SP.cons (f268_ok hD n) (SP.cons (f180_ok hD n) (SP.nil))))) Tryz.func359 (by kernel_rfl) (by kernel_rfl) (f359_eq D n)

def s321 (D : Dyn) (n : Nat) : Tb := ⟨X, [(319, f319 D n), (359, f359 D n)]⟩
def f321l0 (D : Dyn) (n : Nat) (vs : List AV) (H : AH) : Rs :=
  hd vs fun x1_2 vs => hd vs fun x5 vs => hd vs fun x6 vs => 
  bV (ldNp 4 x1_2 H) fun x11 => 
  bR (noPan (f319 D n [x11] H)) fun x12 H => 
  bV (bInt .gtr x12 (.int .i64 (.ofNat 500))) fun x13 => 
  cnd x13 (bV (ldNp 4 x1_2 H) fun x15 => 
  bR (noPan (f359 D n [x15] H)) fun x16 H => 
  bV (pExtract x16 0) fun x17 => 
  bV (pExtract x16 1) fun x18 => 
  bV (pExtract x16 2) fun x19 => 
  bV (pExtract x16 3) fun x20 => 
  bA (bxV 269 (.agg [(.bool false), .nilSlice, .nilSlice, .nilSlice])) H fun x7 H => 
  bA (bxV 269 (.agg [(.bool false), .nilSlice, .nilSlice, .nilSlice])) H fun x9 H => 
  bR (stNp 4 x7 x17 H) fun x9999 H => 
  bR (stNp 4 x9 x19 H) fun x9999_2 H => 
  bV (bInt .neq x20 (.int .i64 (.ofNat 0))) fun x22 => 
  cnd x22 (bV (some .nilSlice) fun x2 => bV (some .nilSlice) fun x3 => bV (some (.int .i64 (.ofNat 4))) fun x4 => some (.ret (.tuple [x2, x3, x4]), H))
  (bV (ldNp 4 x7 H) fun x24 => 
  bA (bldLp 269 4 1 [(.bool false), .nilSlice, .nilSlice, .nilSlice] [(0, x24)]) H fun x25 H => 
  bR (apPp 269 4 80 x5 x25 H) fun x26 H => 
  bA (bldLp 9 1 1 [(.str 0 0)] [(0, x18)]) H fun x29 H => 
  bR (apPp 9 1 16 x6 x29 H) fun x30 H => 
  bV (ldNp 4 x9 H) fun x31 => 
  bR (stNp 4 x1_2 x31 H) fun x9999_3 H => 
  some (.norm [x1_2, x26, x30], H)))
  (some (.exit 0 [x1_2, x5, x6], H))
def f321b1 (D : Dyn) (n : Nat) (vs : List AV) (H : AH) : Rs :=
  hd vs fun x1_3 vs => hd vs fun x5_2 vs => hd vs fun x6_2 vs => 
  bV (ldNp 4 x1_3 H) fun x33 => 
  bA (bldLp 269 4 1 [(.bool false), .nilSlice, .nilSlice, .nilSlice] [(0, x33)]) H fun x34 H => 
  bR (apPp 269 4 80 x5_2 x34 H) fun x35 H => 
  bV (some x35) fun x2_2 => bV (some x6_2) fun x3_2 => bV (some (.int .i64 (.ofNat 0))) fun x4_2 => some (.ret (.tuple [x2_2, x3_2, x4_2]), H)
/-- jetty/tree.cut -/
def f321 (D : Dyn) (n : Nat) (vs : List AV) (H : AH) : Option (AV × AH) :=
  outR (hd vs fun x0 vs => nl vs <|
  bA (bxV 269 x0) H fun x1 H => 
  jb 0 (loopK n (f321l0 D n) [x1, .nilSlice, .nilSlice] H) (f321b1 D n))
def h321 : Hint := (.s .o (.s .o (.s .o (.s (.b [1, 5, 6] (.l [1, 5, 6] (.s (.s .o (.cr .o .o)) (.b0 (.s .o (.s (.s .o (.cl (.s .o .o) .o)) (.s .o (.s .o .o)))))))) (.s .o .o)))))
theorem f321_eq (D : Dyn) (n : Nat) : f321 D n = funKp (s321 D n) D n 321 Tryz.f321 h321 := by kernel_rfl
theorem f321_ok {D : Dyn} (hD : DP D) (n : Nat) : FP 321 (f321 D n) := fun_okP X_ok hD (SP.cons (f319_ok hD n) (SP.cons (f359_ok hD n) (SP.nil))) Tryz.func321 (by kernel_rfl) (by kernel_rfl) (f321_eq D n)

def s323 (D : Dyn) (n : Nat) : Tb := ⟨X, [(261, f261 D n)]⟩
def f323l0 (D : Dyn) (n : Nat) (vs : List AV) (H : AH) : Rs :=
  hd vs fun x0_2 vs => hd vs fun x5 vs => hd vs fun x8 vs => hd vs fun x9_2 vs => hd vs fun x10 vs => 
  bV (bInt .lss x10 x9_2) fun x11 => 
  cnd x11 (bV (ixSl 4 x8 x10) fun x12 => 
  bV (ldNp 4 x12 H) fun x13 => 
  bA (bxV 269 (.agg [(.bool false), .nilSlice, .nilSlice, .nilSlice])) H fun x7 H => 
  bR (stNp 4 x7 x13 H) fun x9999 H => 
  bV (ldNp 4 x7 H) fun x16 => 
  bR (noPan (f261 D n [x0_2, x16] H)) fun x17 H => 
  bA (bldLp 119 3 1 [(.int .i64 (.ofNat 0)), (.int .i64 (.ofNat 0)), (.int .u64 (.ofNat 0))] [(0, x17)]) H fun x18 H => 
  bR (apPp 119 3 24 x5 x18 H) fun x19 H => 
  bV (bInt .add x10 (.int .i64 (.ofNat 1))) fun x20 => 
  some (.norm [x0_2, x19, x8, x9_2, x20], H))
  (some (.exit 0 [x5], H))
def f323b1 (D : Dyn) (n : Nat) (vs : List AV) (H : AH) : Rs :=
  hd vs fun x5_2 vs => 
  bV (some x5_2) fun x4 => some (.ret x4, H)
/-- (*jetty/tree.change).addAll -/
def f323 (D : Dyn) (n : Nat) (vs : List AV) (H : AH) : Option (AV × AH) :=
  outR (hd vs fun x0 vs => hd vs fun x1 vs => nl vs <|
  bV (lnSl x1) fun x9 => 
  jb 0 (loopK n (f323l0 D n) [x0, .nilSlice, x1, x9, (.int .i64 (.ofNat 0))] H) (f323b1 D n))
def h323 : Hint := (.s .o (.s .o (.s (.s .o (.b [5] (.l [0, 5, 8, 9, 10] (.s .o (.s (.cr .o .o) (.s (.b0 (.s .o .o)) .o)))))) (.s .o .o))))
theorem f323_eq (D : Dyn) (n : Nat) : f323 D n = funKp (s323 D n) D n 323 Tryz.f323 h323 := by kernel_rfl
theorem f323_ok {D : Dyn} (hD : DP D) (n : Nat) : FP 323 (f323 D n) := fun_okP X_ok hD (SP.cons (f261_ok hD n) (SP.nil)) Tryz.func323 (by kernel_rfl) (by kernel_rfl) (f323_eq D n)

def s265 (D : Dyn) (n : Nat) : Tb := ⟨X, [(260, f260 D n), (321, f321 D n), (323, f323 D n), (261, f261 D n)]⟩
def f265j0 (D : Dyn) (n : Nat) (vs : List AV) (H : AH) : Rs :=
  
  bV (some (.int .i64 (.ofNat 0))) fun x4 => some (.ret x4, H)
def f265j1 (D : Dyn) (n : Nat) (vs : List AV) (H : AH) : Rs :=
  
  bV (some (.int .i64 (.ofNat 0))) fun x4_3 => some (.ret x4_3, H)
/-- (*jetty/tree.change).crown -/
def f265 (D : Dyn) (n : Nat) (vs : List AV) (H : AH) : Option (AV × AH) :=
  outR (hd vs fun x0 vs => hd vs fun x1 vs => nl vs <|
  bA (bxV 269 x1) H fun x3 H => 
  bV (fAd 1 x3) fun x9 => 
  bV (ld1p x9 H) fun x10 => 
  bV (lnSl x10) fun x11 => 
  bV (bInt .eql x11 (.int .i64 (.ofNat 0))) fun x12 => 
  cnd x12 (bV (fAd 0 x3) fun x13 => 
  bV (ld1p x13 H) fun x14 => 
  jn (cnd x14 (bV (bldSp [(0, 1), (1, 1), (2, 1)] [(.int .i64 (.ofNat 0)), (.int .i64 (.ofNat 0)), (.int .u64 (.ofNat 0))] []) fun x16 => 
  bR (noPan (f260 D n [x0, x16] H)) fun x17 H => 
  some (.norm [], H))
  (bV (fAd 3 x3) fun x19 => 
  bV (ld1p x19 H) fun x20 => 
  bV (ixSl 3 x20 (.int .i64 (.ofNat 0))) fun x21 => 
  bV (ldNp 3 x21 H) fun x22 => 
  bR (noPan (f260 D n [x0, x22] H)) fun x23 H => 
  some (.norm [], H))) (f265j0 D n))
  (bV (ldNp 4 x3 H) fun x25 => 
  bR (noPan (f321 D n [x25] H)) fun x26 H => 
  bV (pExtract x26 0) fun x27 => 
  bV (pExtract x26 1) fun x28 => 
  bV (pExtract x26 2) fun x29 => 
  bV (bInt .neq x29 (.int .i64 (.ofNat 0))) fun x31 => 
  cnd x31 (bV (some x29) fun x4_2 => some (.ret x4_2, H))
  (bR (noPan (f323 D n [x0, x27] H)) fun x35 H => 
  bV (lnSl x35) fun x37 => 
  bV (bInt .eql x37 (.int .i64 (.ofNat 1))) fun x38 => 
  jn (cnd x38 (bV (ixSl 3 x35 (.int .i64 (.ofNat 0))) fun x41 => 
  bV (ldNp 3 x41 H) fun x42 => 
  bR (noPan (f260 D n [x0, x42] H)) fun x43 H => 
  some (.norm [], H))
  (bV (bldSp [(0, 1), (1, 1), (2, 1), (3, 1)] [(.bool false), .nilSlice, .nilSlice, .nilSlice] [(1, x28), (3, x35)]) fun x48 => 
  bR (noPan (f261 D n [x0, x48] H)) fun x49 H => 
  bR (noPan (f260 D n [x0, x49] H)) fun x50 H => 
  some (.norm [], H))) (f265j1 D n))))
def h265 : Hint := (.s .o (.s (.s .o (.cl (.s (.s .o (.c [] .o .o)) (.s .o .o)) .o)) (.s .o (.s (.s .o (.cl (.s .o .o) .o)) (.s .o (.s (.s .o (.c [] .o .o)) (.s .o .o)))))))
theorem f265_eq (D : Dyn) (n : Nat) : f265 D n = funKp (s265 D n) D n 265 Tryz.f265 h265 := by kernel_rfl
theorem f265_ok {D : Dyn} (hD : DP D) (n : Nat) : FP 265 (f265 D n) := fun_okP X_ok hD (SP.cons (f260_ok hD n) (SP.cons (f321_ok hD n) (SP.cons (f323_ok hD n) (SP.cons (f261_ok hD n) (SP.nil))))) Tryz.func265 (by kernel_rfl) (by kernel_rfl) (f265_eq D n)

def s264 (D : Dyn) (n : Nat) : Tb := ⟨X, []⟩
/-- (*jetty/tree.change).goes -/
def f264 (D : Dyn) (n : Nat) (vs : List AV) (H : AH) : Option (AV × AH) :=
  outR (hd vs fun x0 vs => hd vs fun x1 vs => nl vs <|
  bA (bxV 119 x1) H fun x3 H => 
  bV (pNil x0) fun x6 => 
  bV (fAd 3 x6) fun x7 => 
  bV (ld1p x7 H) fun x8 => 
  bV (ldNp 3 x3 H) fun x9 => 
  bA (bldLp 119 3 1 [(.int .i64 (.ofNat 0)), (.int .i64 (.ofNat 0)), (.int .u64 (.ofNat 0))] [(0, x9)]) H fun x10 H => 
  bR (apPp 119 3 24 x8 x10 H) fun x11 H => 
  bV (pNil x0) fun x12 => 
  bV (fAd 3 x12) fun x13 => 
  bR (stNp 1 x13 x11 H) fun x9999 H => 
  some (.ret (.tuple []), H))
def h264 : Hint := (.s .o .o)
theorem f264_eq (D : Dyn) (n : Nat) : f264 D n = funKp (s264 D n) D n 264 Tryz.f264 h264 := by kernel_rfl
theorem f264_ok {D : Dyn} (hD : DP D) (n : Nat) : FP 264 (f264 D n) := fun_okP X_ok hD (SP.nil) Tryz.func264 (by kernel_rfl) (by kernel_rfl) (f264_eq D n)

def s358 (D : Dyn) (n : Nat) : Tb := ⟨X, [(267, f267 D n)]⟩
/-- jetty/node.parted -/
def f358 (D : Dyn) (n : Nat) (vs : List AV) (H : AH) : Option (AV × AH) :=
  outR (hd vs fun x0 vs => hd vs fun x1 vs => hd vs fun x2 vs => nl vs <|
  bA (bxV 269 x0) H fun x3 H => 
  bA (bxV 269 x2) H fun x5 H => 
  bR (noPan (f267 D n [x1] H)) fun x9 H => 
  bV (aun .not x9) fun x10 => 
  jn (wnt x10 false (bV (fAd 0 x3) fun x12 => 
  bV (ld1p x12 H) fun x13 => 
  bV (fAd 0 x5) fun x14 => 
  bV (ld1p x14 H) fun x15 => 
  bV (bBool .neq x13 x15) fun x16 => 
  some (.norm [x16], H)) (some (.norm [undefA], H))) fun vs H => hd vs fun x16_2 vs => 
  bV (pk3 (some x10) (some (.bool true)) (some x16_2)) fun x17 => 
  cnd x17 (bV (some (.bool false)) fun x6 => some (.ret x6, H))
  (bV (fAd 1 x3) fun x18 => 
  bV (ld1p x18 H) fun x19 => 
  bV (lnSl x19) fun x20 => 
  bV (bInt .gtr x20 (.int .i64 (.ofNat 0))) fun x22 => 
  jn (wnt x22 true (bV (fAd 1 x3) fun x24 => 
  bV (ld1p x24 H) fun x25 => 
  bV (bInt .sub x20 (.int .i64 (.ofNat 1))) fun x27 => 
  bV (ixSl 1 x25 x27) fun x28 => 
  bV (ld1p x28 H) fun x29 => 
  bV (bStr .geq x29 x1) fun x31 => 
  some (.norm [x31], H)) (some (.norm [undefA], H))) fun vs H => hd vs fun x31_2 vs => 
  bV (pk3 (some x22) (some x31_2) (some (.bool false))) fun x32 => 
  cnd x32 (bV (some (.bool false)) fun x6_2 => some (.ret x6_2, H))
  (bV (fAd 1 x5) fun x33 => 
  bV (ld1p x33 H) fun x34 => 
  bV (lnSl x34) fun x35 => 
  bV (bInt .eql x35 (.int .i64 (.ofNat 0))) fun x36 => 
  cnd x36 (bV (some (.bool true)) fun x6_3 => some (.ret x6_3, H))
  (bV (fAd 1 x5) fun x38 => 
  bV (ld1p x38 H) fun x39 => 
  bV (ixSl 1 x39 (.int .i64 (.ofNat 0))) fun x40 => 
  bV (ld1p x40 H) fun x41 => 
  bV (bStr .lss x1 x41) fun x42 => 
  jn (wnt x42 false (bV (fAd 0 x3) fun x44 => 
  bV (ld1p x44 H) fun x45 => 
  some (.norm [x45], H)) (some (.norm [undefA], H))) fun vs H => hd vs fun x46 vs => 
  jn (wnt x46 true (bV (fAd 1 x5) fun x48 => 
  bV (ld1p x48 H) fun x49 => 
  bV (ixSl 1 x49 (.int .i64 (.ofNat 0))) fun x50 => 
  bV (ld1p x50 H) fun x51 => 
  bV (bStr .eql x1 x51) fun x52 => 
  some (.norm [x52], H)) (some (.norm [undefA], H))) fun vs H => hd vs fun x52_2 vs => 
  jn (wnt x42 false (bV (pk3 (some x46) (some x52_2) (some (.bool false))) fun x53 => 
  some (.norm [x53], H)) (some (.norm [undefA], H))) fun vs H => hd vs fun x53_2 vs => 
  bV (pk3 (some x42) (some (.bool true)) (some x53_2)) fun x54 => 
  bV (some x54) fun x6_4 => some (.ret x6_4, H)))))
def h358 : Hint := (.s .o (.s (.s .o (.cl (.s .o .o) .o)) (.s (.s .o (.s .o (.cl (.s .o .o) .o))) (.s (.s .o (.cl (.s .o .o) .o)) (.s .o .o)))))
theorem f358_eq (D : Dyn) (n : Nat) : f358 D n = funKp (s358 D n) D n 358 Tryz.f358 h358 := by kernel_rfl
theorem f358_ok {D : Dyn} (hD : DP D) (n : Nat) : FP 358 (f358 D n) := fun_okP X_ok hD (SP.cons (f267_ok hD n) (SP.nil)) Tryz.func358 (by kernel_rfl) (by kernel_rfl) (f358_eq D n)

def s337 (D : Dyn) (n : Nat) : Tb := ⟨X, []⟩
def f337j0 (D : Dyn) (n : Nat) (vs : List AV) (H : AH) : Rs :=
  hd vs fun x0_3 vs => 
  bV (some x0_3) fun x4 => some (.ret x4, H)
def f337j1 (D : Dyn) (n : Nat) (vs : List AV) (H : AH) : Rs :=
  hd vs fun x0_2 vs => hd vs fun x1_2 vs => 
  bV (acap X 229 x0_2) fun x10 => 
  bV (lnSl x0_2) fun x12 => 
  bV (bInt .sub x10 x12) fun x13 => 
  bV (bInt .sub x1_2 x13) fun x14 => 
  bV (bInt .gtr x14 (.int .i64 (.ofNat 0))) fun x16 => 
  jn (cnd x16 (bV (acap X 229 x0_2) fun x19 => 
  bV (slSlp 1 x0_2 none (some x19) none H) fun x20 => 
  bR (apZp 9 1 16 [(.str 0 0)] x20 x14 H) fun x22 H => 
  bV (lnSl x0_2) fun x24 => 
  bV (slSlp 1 x22 none (some x24) none H) fun x25 => 
  some (.norm [x25], H))
  (some (.norm [x0_2], H))) (f337j0 D n)
/-- slices.Grow[[]string,string] -/
def f337 (D : Dyn) (n : Nat) (vs : List AV) (H : AH) : Option (AV × AH) :=
  outR (hd vs fun x0 vs => hd vs fun x1 vs => nl vs <|
  bV (bInt .lss x1 (.int .i64 (.ofNat 0))) fun x6 => 
  jn (cnd x6 (none)
  (some (.norm [x0, x1], H))) (f337j1 D n))
def h337 : Hint := (.s .o (.s (.s .o (.c [0, 1] .o .o)) (.s (.s .o (.s .o (.c [0] .o .o))) (.s .o .o))))
theorem f337_eq (D : Dyn) (n : Nat) : f337 D n = funKp (s337 D n) D n 337 Tryz.f337 h337 := by kernel_rfl
theorem f337_ok {D : Dyn} (hD : DP D) (n : Nat) : FP 337 (f337 D n) := fun_okP X_ok hD (SP.nil) Tryz.func337 (by kernel_rfl) (by kernel_rfl) (f337_eq D n)

def s281 (D : Dyn) (n : Nat) : Tb := ⟨X, [(337, f337 D n)]⟩
def f281j0 (D : Dyn) (n : Nat) (vs : List AV) (H : AH) : Rs :=
  hd vs fun x0_3 vs => hd vs fun x3_2 vs => hd vs fun x9_2 vs => hd vs fun x10_3 vs => hd vs fun x11_2 vs => 
  bV (bInt .add x11_2 (.int .i64 (.ofNat 1))) fun x22 => 
  some (.norm [x0_3, x3_2, x9_2, x10_3, x22], H)
def f281l1 (D : Dyn) (n : Nat) (vs : List AV) (H : AH) : Rs :=
  hd vs fun x0_2 vs => hd vs fun x3 vs => hd vs fun x9 vs => hd vs fun x10_2 vs => hd vs fun x11 vs => 
  bV (bInt .lss x11 x10_2) fun x12 => 
  cnd x12 (bV (ixSl 1 x9 x11) fun x13 => 
  bV (ld1p x13 H) fun x14 => 
  bV (lnSl x14) fun x17 => 
  bV (bInt .add x3 x17) fun x18 => 
  bV (bInt .lss x18 (.int .i64 (.ofNat 0))) fun x20 => 
  jn (cnd x20 (none)
  (some (.norm [x0_2, x18, x9, x10_2, x11], H))) (f281j0 D n))
  (some (.exit 0 [x0_2, x3], H))
def f281l2 (D : Dyn) (n : Nat) (vs : List AV) (H : AH) : Rs :=
  hd vs fun x6 vs => hd vs fun x25 vs => hd vs fun x26_2 vs => hd vs fun x27 vs => 
  bV (bInt .lss x27 x26_2) fun x28 => 
  cnd x28 (bV (ixSl 1 x25 x27) fun x29 => 
  bV (ld1p x29 H) fun x30 => 
  bR (apPp 9 1 16 x6 x30 H) fun x33 H => 
  bV (bInt .add x27 (.int .i64 (.ofNat 1))) fun x34 => 
  some (.norm [x33, x25, x26_2, x34], H))
  (some (.exit 2 [x6], H))
def f281b3 (D : Dyn) (n : Nat) (vs : List AV) (H : AH) : Rs :=
  hd vs fun x6_2 vs => 
  bV (some x6_2) fun x2 => some (.ret x2, H)
def f281b4 (D : Dyn) (n : Nat) (vs : List AV) (H : AH) : Rs :=
  hd vs fun x0_4 vs => hd vs fun x3_3 vs => 
  bR (noPan (f337 D n [.nilSlice, x3_3] H)) fun x24 H => 
  bV (lnSl x0_4) fun x26 => 
  jb 2 (loopK n (f281l2 D n) [x24, x0_4, x26, (.int .i64 (.ofNat 0))] H) (f281b3 D n)
/-- slices.Concat[[]string,string] -/
def f281 (D : Dyn) (n : Nat) (vs : List AV) (H : AH) : Option (AV × AH) :=
  outR (hd vs fun x0 vs => nl vs <|
  bV (lnSl x0) fun x10 => 
  jb 0 (loopK n (f281l1 D n) [x0, (.int .i64 (.ofNat 0)), x0, x10, (.int .i64 (.ofNat 0))] H) (f281b4 D n))
def h281 : Hint := (.s .o (.s .o (.s (.s .o (.b [0, 3] (.l [0, 3, 9, 10, 11] (.s .o (.s (.cr .o .o) (.s (.b0 (.s .o (.s .o (.s .o (.c [0, 3, 9, 10, 11] .o .o))))) .o)))))) (.s .o (.s (.s .o (.b [6] (.l [6, 25, 26, 27] (.s .o (.s (.cr .o .o) (.s (.b0 (.s .o .o)) .o)))))) (.s .o .o))))))
theorem f281_eq (D : Dyn) (n : Nat) : f281 D n = funKp (s281 D n) D n 281 Tryz.f281 h281 := by kernel_rfl
theorem f281_ok {D : Dyn} (hD : DP D) (n : Nat) : FP 281 (f281 D n) := fun_okP X_ok hD (SP.cons (f337_ok hD n) (SP.nil)) Tryz.func281 (by kernel_rfl) (by kernel_rfl) (f281_eq D n)

def s360 (D : Dyn) (n : Nat) : Tb := ⟨X, []⟩
def f360j0 (D : Dyn) (n : Nat) (vs : List AV) (H : AH) : Rs :=
  hd vs fun x0_3 vs => 
  bV (some x0_3) fun x4 => some (.ret x4, H)
def f360j1 (D : Dyn) (n : Nat) (vs : List AV) (H : AH) : Rs :=
  hd vs fun x0_2 vs => hd vs fun x1_2 vs => 
  bV (acap X 174 x0_2) fun x10 => 
  bV (lnSl x0_2) fun x12 => 
  bV (bInt .sub x10 x12) fun x13 => 
  bV (bInt .sub x1_2 x13) fun x14 => 
  bV (bInt .gtr x14 (.int .i64 (.ofNat 0))) fun x16 => 
  jn (cnd x16 (bV (acap X 174 x0_2) fun x19 => 
  bV (slSlp 3 x0_2 none (some x19) none H) fun x20 => 
  bR (apZp 119 3 24 [(.int .i64 (.ofNat 0)), (.int .i64 (.ofNat 0)), (.int .u64 (.ofNat 0))] x20 x14 H) fun x22 H => 
  bV (lnSl x0_2) fun x24 => 
  bV (slSlp 3 x22 none (some x24) none H) fun x25 => 
  some (.norm [x25], H))
  (some (.norm [x0_2], H))) (f360j0 D n)
/-- slices.Grow[[]jetty/api.Ptr,jetty/api.Ptr] -/
def f360 (D : Dyn) (n : Nat) (vs : List AV) (H : AH) : Option (AV × AH) :=
  outR (hd vs fun x0 vs => hd vs fun x1 vs => nl vs <|
  bV (bInt .lss x1 (.int .i64 (.ofNat 0))) fun x6 => 
  jn (cnd x6 (none)
  (some (.norm [x0, x1], H))) (f360j1 D n))
def h360 : Hint := (.s .o (.s (.s .o (.c [0, 1] .o .o)) (.s (.s .o (.s .o (.c [0] .o .o))) (.s .o .o))))
theorem f360_eq (D : Dyn) (n : Nat) : f360 D n = funKp (s360 D n) D n 360 Tryz.f360 h360 := by kernel_rfl
theorem f360_ok {D : Dyn} (hD : DP D) (n : Nat) : FP 360 (f360 D n) := fun_okP X_ok hD (SP.nil) Tryz.func360 (by kernel_rfl) (by kernel_rfl) (f360_eq D n)

def s322 (D : Dyn) (n : Nat) : Tb := ⟨X, [(360, f360 D n)]⟩
def f322j0 (D : Dyn) (n : Nat) (vs : List AV) (H : AH) : Rs :=
  hd vs fun x0_3 vs => hd vs fun x3_2 vs => hd vs fun x9_2 vs => hd vs fun x10_3 vs => hd vs fun x11_2 vs => 
  bV (bInt .add x11_2 (.int .i64 (.ofNat 1))) fun x22 => 
  some (.norm [x0_3, x3_2, x9_2, x10_3, x22], H)
def f322l1 (D : Dyn) (n : Nat) (vs : List AV) (H : AH) : Rs :=
  hd vs fun x0_2 vs => hd vs fun x3 vs => hd vs fun x9 vs => hd vs fun x10_2 vs => hd vs fun x11 vs => 
  bV (bInt .lss x11 x10_2) fun x12 => 
  cnd x12 (bV (ixSl 1 x9 x11) fun x13 => 
  bV (ld1p x13 H) fun x14 => 
  bV (lnSl x14) fun x17 => 
  bV (bInt .add x3 x17) fun x18 => 
  bV (bInt .lss x18 (.int .i64 (.ofNat 0))) fun x20 => 
  jn (cnd x20 (none)
  (some (.norm [x0_2, x18, x9, x10_2, x11], H))) (f322j0 D n))
  (some (.exit 0 [x0_2, x3], H))
def f322l2 (D : Dyn) (n : Nat) (vs : List AV) (H : AH) : Rs :=
  hd vs fun x6 vs => hd vs fun x25 vs => hd vs fun x26_2 vs => hd vs fun x27 vs => 
  bV (bInt .lss x27 x26_2) fun x28 => 
  cnd x28 (bV (ixSl 1 x25 x27) fun x29 => 
  bV (ld1p x29 H) fun x30 => 
  bR (apPp 119 3 24 x6 x30 H) fun x33 H => 
  bV (bInt .add x27 (.int .i64 (.ofNat 1))) fun x34 => 
  some (.norm [x33, x25, x26_2, x34], H))
  (some (.exit 2 [x6], H))
def f322b3 (D : Dyn) (n : Nat) (vs : List AV) (H : AH) : Rs :=
  hd vs fun x6_2 vs => 
  bV (some x6_2) fun x2 => some (.ret x2, H)
def f322b4 (D : Dyn) (n : Nat) (vs : List AV) (H : AH) : Rs :=
  hd vs fun x0_4 vs => hd vs fun x3_3 vs => 
  bR (noPan (f360 D n [.nilSlice, x3_3] H)) fun x24 H => 
  bV (lnSl x0_4) fun x26 => 
  jb 2 (loopK n (f322l2 D n) [x24, x0_4, x26, (.int .i64 (.ofNat 0))] H) (f322b3 D n)
/-- slices.Concat[[]jetty/api.Ptr,jetty/api.Ptr] -/
def f322 (D : Dyn) (n : Nat) (vs : List AV) (H : AH) : Option (AV × AH) :=
  outR (hd vs fun x0 vs => nl vs <|
  bV (lnSl x0) fun x10 => 
  jb 0 (loopK n (f322l1 D n) [x0, (.int .i64 (.ofNat 0)), x0, x10, (.int .i64 (.ofNat 0))] H) (f322b4 D n))
def h322 : Hint := (.s .o (.s .o (.s (.s .o (.b [0, 3] (.l [0, 3, 9, 10, 11] (.s .o (.s (.cr .o .o) (.s (.b0 (.s .o (.s .o (.s .o (.c [0, 3, 9, 10, 11] .o .o))))) .o)))))) (.s .o (.s (.s .o (.b [6] (.l [6, 25, 26, 27] (.s .o (.s (.cr .o .o) (.s (.b0 (.s .o .o)) .o)))))) (.s .o .o))))))
theorem f322_eq (D : Dyn) (n : Nat) : f322 D n = funKp (s322 D n) D n 322 Tryz.f322 h322 := by kernel_rfl
theorem f322_ok {D : Dyn} (hD : DP D) (n : Nat) : FP 322 (f322 D n) := fun_okP X_ok hD (SP.cons (f360_ok hD n) (SP.nil)) Tryz.func322 (by kernel_rfl) (by kernel_rfl) (f322_eq D n)

def s320 (D : Dyn) (n : Nat) : Tb := ⟨X, [(266, f266 D n), (358, f358 D n), (281, f281 D n), (322, f322 D n)]⟩
/-- jetty/node.Join -/
def f320 (D : Dyn) (n : Nat) (vs : List AV) (H : AH) : Option (AV × AH) :=
  outR (hd vs fun x0 vs => hd vs fun x1 vs => hd vs fun x2 vs => nl vs <|
  bA (bxV 269 x0) H fun x3 H => 
  bA (bxV 269 x2) H fun x5 H => 
  bA (bxV 269 (.agg [(.bool false), .nilSlice, .nilSlice, .nilSlice])) H fun x6 H => 
  bV (ldNp 4 x3 H) fun x8 => 
  bR (noPan (f266 D n [x8] H)) fun x9 H => 
  bV (aun .not x9) fun x10 => 
  jn (wnt x10 false (bV (ldNp 4 x5 H) fun x12 => 
  bR (noPan (f266 D n [x12] H)) fun x13 H => 
  bV (aun .not x13) fun x14 => 
  some (.norm [x14], H)) (some (.norm [undefA], H))) fun vs H => hd vs fun x14_2 vs => 
  bV (pk3 (some x10) (some (.bool true)) (some x14_2)) fun x15 => 
  jn (wnt x15 false (bV (ldNp 4 x3 H) fun x17 => 
  bV (ldNp 4 x5 H) fun x19 => 
  bR (noPan (f358 D n [x17, x1, x19] H)) fun x20 H => 
  bV (aun .not x20) fun x21 => 
  some (.norm [x21], H)) (some (.norm [undefA], H))) fun vs H => hd vs fun x21_2 vs => 
  bV (pk3 (some x15) (some (.bool true)) (some x21_2)) fun x22 => 
  cnd x22 (bV (bldSp [(0, 1), (1, 1), (2, 1), (3, 1)] [(.bool false), .nilSlice, .nilSlice, .nilSlice] []) fun x23 => 
  bR (stNp 4 x6 x23 H) fun x9999 H => 
  bV (ldNp 4 x6 H) fun x9006 => bV (some (.int .i64 (.ofNat 1))) fun x7 => some (.ret (.tuple [x9006, x7]), H))
  (bV (fAd 0 x3) fun x24 => 
  bV (ld1p x24 H) fun x25 => 
  cnd x25 (bV (fAd 1 x3) fun x26 => 
  bV (ld1p x26 H) fun x27 => 
  bV (fAd 1 x5) fun x28 => 
  bV (ld1p x28 H) fun x29 => 
  bA (bldLp 229 1 2 [.nilSlice] [(0, x27), (1, x29)]) H fun x30 H => 
  bV (fAd 2 x3) fun x32 => 
  bV (ld1p x32 H) fun x33 => 
  bV (fAd 2 x5) fun x34 => 
  bV (ld1p x34 H) fun x35 => 
  bA (bldLp 229 1 2 [.nilSlice] [(0, x33), (1, x35)]) H fun x36 H => 
  bR (noPan (f281 D n [x30] H)) fun x31 H => chk (ld1p x32 H) x33 <| chk (ld1p x34 H) x35 <| 
  bR (noPan (f281 D n [x36] H)) fun x37 H => 
  bV (bldSp [(0, 1), (1, 1), (2, 1), (3, 1)] [(.bool false), .nilSlice, .nilSlice, .nilSlice] [(0, (.bool true)), (1, x31), (2, x37)]) fun x38 => 
  bR (stNp 4 x6 x38 H) fun x9999_2 H => 
  bV (ldNp 4 x6 H) fun x9006_2 => bV (some (.int .i64 (.ofNat 0))) fun x7_2 => some (.ret (.tuple [x9006_2, x7_2]), H))
  (bV (fAd 1 x3) fun x39 => 
  bV (ld1p x39 H) fun x40 => 
  bA (bldLp 9 1 1 [(.str 0 0)] [(0, x1)]) H fun x42 H => 
  bV (fAd 1 x5) fun x43 => 
  bV (ld1p x43 H) fun x44 => 
  bA (bldLp 229 1 3 [.nilSlice] [(0, x40), (1, x42), (2, x44)]) H fun x45 H => 
  bV (fAd 3 x3) fun x47 => 
  bV (ld1p x47 H) fun x48 => 
  bV (fAd 3 x5) fun x49 => 
  bV (ld1p x49 H) fun x50 => 
  bA (bldLp 174 1 2 [.nilSlice] [(0, x48), (1, x50)]) H fun x51 H => 
  bR (noPan (f281 D n [x45] H)) fun x46 H => chk (ld1p x47 H) x48 <| chk (ld1p x49 H) x50 <| 
  bR (noPan (f322 D n [x51] H)) fun x52 H => 
  bV (bldSp [(0, 1), (1, 1), (2, 1), (3, 1)] [(.bool false), .nilSlice, .nilSlice, .nilSlice] [(1, x46), (3, x52)]) fun x53 => 
  bR (stNp 4 x6 x53 H) fun x9999_3 H => 
  bV (ldNp 4 x6 H) fun x9006_3 => bV (some (.int .i64 (.ofNat 0))) fun x7_3 => some (.ret (.tuple [x9006_3, x7_3]), H))))
def h320 : Hint := (.s .o (.s (.s .o (.cl (.s .o .o) .o)) (.s (.s .o (.cl (.s .o .o) .o)) (.s .o .o))))
theorem f320_eq (D : Dyn) (n : Nat) : f320 D n = funKp (s320 D n) D n 320 Tryz.f320 h320 := by kernel_rfl
theorem f320_ok {D : Dyn} (hD : DP D) (n : Nat) : FP 320 (f320 D n) := fun_okP X_ok hD (SP.cons (f266_ok hD n) (SP.cons (f358_ok hD n) (SP.cons (f281_ok hD n) (SP.cons (f322_ok hD n) (SP.nil))))) Tryz.func320 (by kernel_rfl) (by kernel_rfl) (f320_eq D n)
end Go.Eng.Sh
