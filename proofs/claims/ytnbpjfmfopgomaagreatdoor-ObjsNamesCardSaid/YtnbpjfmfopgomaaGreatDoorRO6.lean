/- Shallow functions, by program (gen.py). -/
import Derived.Test.YtnbpjfmfopgomaaGreatDoorRO5
import Derived.Test.YtnbpjfmfopgomaaGreatDoorProg
import Derived.KernelRfl
noncomputable section
namespace Go.Eng.Sh
open Go.Proofs
set_option maxRecDepth 100000
set_option linter.all false
def s119 (D : Dyn) (n : Nat) : Tb := ⟨X, [(46, f46 D n), (55, f55 D n)]⟩
def f119j0 (D : Dyn) (n : Nat) (vs : List AV) (H : AH) : Rs :=
  hd vs fun x4_2 vs => hd vs fun x8_2 vs => 
  bV (ldNp 2 x4_2 H) fun x31 => 
  bV (ldNp 8 x8_2 H) fun x32 => 
  bC (f55 D n [x31, x32] H) (fun x H => some (.ret (.pan x), H)) fun x33 H => 
  some (.ret (.tuple []), H)
/-- (jetty/objs.work).turned -/
def f119 (D : Dyn) (n : Nat) (vs : List AV) (H : AH) : Option (AV × AH) :=
  outR (hd vs fun x0 vs => hd vs fun x1 vs => hd vs fun x2 vs => hd vs fun x3 vs => nl vs <|
  bA (bxV 73 x0) H fun x4 H => 
  bA (bxV 23 x3) H fun x7 H => 
  bV (ldNp 2 x4 H) fun x9 => 
  bC (f46 D n [x9, x1] H) (fun x H => some (.ret (.pan x), H)) fun x11 H => 
  bA (bxV 23 (.agg [(.int .u8 (.ofNat 0)), (.int .i64 (.ofNat 0)), (.int .i64 (.ofNat 0)), (.int .i64 (.ofNat 0)), (.int .i64 (.ofNat 0)), (.int .i64 (.ofNat 0)), (.int .i64 (.ofNat 0)), (.int .i64 (.ofNat 0))])) H fun x8 H => 
  bR (stNp 8 x8 x11 H) fun x9999 H => 
  bV (fAd 3 x8) fun x12 => 
  bV (ld1p x12 H) fun x13 => 
  bV (bInt .add x13 x2) fun x15 => 
  bV (fAd 3 x8) fun x16 => 
  bR (stNp 1 x16 x15 H) fun x9999_2 H => 
  bV (fAd 1 x4) fun x17 => 
  bV (ld1p x17 H) fun x18 => 
  bV (fAd 1 x4) fun x19 => 
  bV (ld1p x19 H) fun x20 => 
  bV (fAd 4 x8) fun x21 => 
  bR (stNp 1 x21 x18 H) fun x9999_3 H => chk (ld1p x19 H) x20 <| 
  bV (fAd 5 x8) fun x22 => 
  bR (stNp 1 x22 x20 H) fun x9999_4 H => 
  bV (fAd 0 x7) fun x23 => 
  bV (ld1p x23 H) fun x24 => 
  bV (bInt .eql x24 (.int .u8 (.ofNat 2))) fun x25 => 
  jn (cnd x25 (bV (fAd 2 x8) fun x26 => 
  bV (ld1p x26 H) fun x27 => 
  bV (bInt .add x27 x2) fun x29 => 
  bV (fAd 2 x8) fun x30 => 
  bR (stNp 1 x30 x29 H) fun x9999_5 H => 
  some (.norm [x4, x8], H))
  (some (.norm [x4, x8], H))) (f119j0 D n))
def h119 : Hint := (.s .o (.s .pc (.s .o (.s .o (.s (.s .o (.c [4, 8] .o .o)) .pc)))))
theorem f119_eq (D : Dyn) (n : Nat) : f119 D n = funKp (s119 D n) D n 119 Tryz.f119 h119 := by kernel_rfl
theorem f119_ok {D : Dyn} (hD : DP D) (n : Nat) : FP 119 (f119 D n) := fun_okP X_ok hD (SP.cons (f46_ok hD n) (SP.cons (f55_ok hD n) (SP.nil))) Tryz.func119 (by kernel_rfl) (by kernel_rfl) (f119_eq D n)

def s58 (D : Dyn) (n : Nat) : Tb := ⟨X, [(118, f118 D n), (54, f54 D n), (119, f119 D n)]⟩
/-- (jetty/objs.work).enter -/
def f58 (D : Dyn) (n : Nat) (vs : List AV) (H : AH) : Option (AV × AH) :=
  outR (hd vs fun x0 vs => hd vs fun x1 vs => hd vs fun x2 vs => hd vs fun x3 vs => nl vs <|
  bA (bxV 73 x0) H fun x4 H => 
  bA (bxV 23 x3) H fun x7 H => 
  bV (fAd 0 x4) fun x11 => 
  bV (ld1p x11 H) fun x12 => 
  bV (fAd 6 x7) fun x15 => 
  bV (ld1p x15 H) fun x16 => 
  bR (noPan (f118 D n [x12, x1, x2, x16] H)) fun x17 H => 
  bV (pExtract x17 0) fun x18 => 
  bV (pExtract x17 1) fun x19 => 
  bC (f54 D n [x19] H) (fun x H => some (.ret (.pan x), H)) fun x21 H => 
  bV (ldNp 2 x4 H) fun x22 => 
  bV (ldNp 8 x7 H) fun x24 => 
  bC (f119 D n [x22, x1, (.int .i64 (.ofNat 1)), x24] H) (fun x H => some (.ret (.pan x), H)) fun x25 H => 
  some (.ret (.tuple []), H))
def h58 : Hint := (.s .o (.s .o (.s .pc .pc)))
theorem f58_eq (D : Dyn) (n : Nat) : f58 D n = funKp (s58 D n) D n 58 Tryz.f58 h58 := by kernel_rfl
theorem f58_ok {D : Dyn} (hD : DP D) (n : Nat) : FP 58 (f58 D n) := fun_okP X_ok hD (SP.cons (f118_ok hD n) (SP.cons (f54_ok hD n) (SP.cons (f119_ok hD n) (SP.nil)))) Tryz.func58 (by kernel_rfl) (by kernel_rfl) (f58_eq D n)

def s50 (D : Dyn) (n : Nat) : Tb := ⟨X, [(46, f46 D n), (38, f38 D n), (51, f51 D n), (41, f41 D n), (53, f53 D n), (52, f52 D n), (54, f54 D n), (44, f44 D n), (55, f55 D n), (57, f57 D n), (56, f56 D n), (58, f58 D n)]⟩
def f50j0 (D : Dyn) (n : Nat) (vs : List AV) (H : AH) : Rs :=
  hd vs fun x1_5 vs => hd vs fun x5_5 vs => hd vs fun x6_5 vs => hd vs fun x7_5 vs => hd vs fun x9_2 vs => 
  some (.norm [x1_5, x5_5, x6_5, x7_5, x9_2], H)
def f50j1 (D : Dyn) (n : Nat) (vs : List AV) (H : AH) : Rs :=
  hd vs fun x1_6 vs => hd vs fun x5_6 vs => hd vs fun x6_6 vs => hd vs fun x7_6 vs => hd vs fun x9_3 vs => 
  bV (ldNp 2 x6_6 H) fun x98 => 
  bV (ld1p x1_6 H) fun x99 => 
  bV (ld1p x5_6 H) fun x100 => 
  bV (ldNp 8 x9_3 H) fun x101 => 
  bC (f58 D n [x98, x99, x100, x101] H) (fun x H => some (.ret (.pan x), H)) fun x102 H => 
  bV (ldNp 8 x9_3 H) fun x103 => 
  bR (stNp 8 x7_6 x103 H) fun x9999_5 H => 
  bV (ldNp 8 x7_6 H) fun x9007 => some (.ret x9007, H)
def f50j2 (D : Dyn) (n : Nat) (vs : List AV) (H : AH) : Rs :=
  hd vs fun x1_4 vs => hd vs fun x2_4 vs => hd vs fun x3_4 vs => hd vs fun x4_4 vs => hd vs fun x5_4 vs => hd vs fun x6_4 vs => hd vs fun x7_4 vs => hd vs fun x8_2 vs => 
  bV (fAd 0 x8_2) fun x51 => 
  bV (ld1p x51 H) fun x52 => 
  bV (bInt .add x52 (.int .i64 (.ofNat 1))) fun x53 => 
  bV (fAd 0 x8_2) fun x54 => 
  bR (stNp 1 x54 x53 H) fun x9999_2 H => 
  bV (ld1p x2_4 H) fun x56 => 
  bV (ld1p x3_4 H) fun x57 => 
  bV (ldNp 2 x6_4 H) fun x58 => 
  bV (fAd 0 x8_2) fun x60 => 
  bV (ld1p x60 H) fun x61 => 
  bV (fAd 1 x6_4) fun x62 => 
  bV (ld1p x62 H) fun x63 => 
  bA (bxV 23 (.agg [(.int .u8 (.ofNat 0)), (.int .i64 (.ofNat 0)), (.int .i64 (.ofNat 0)), (.int .i64 (.ofNat 0)), (.int .i64 (.ofNat 0)), (.int .i64 (.ofNat 0)), (.int .i64 (.ofNat 0)), (.int .i64 (.ofNat 0))])) H fun x9 H => 
  bR (noPan (f53 D n [x58] H)) fun x59 H => chk (ld1p x2_4 H) x56 <| chk (ld1p x3_4 H) x57 <| chk (ld1p x60 H) x61 <| chk (ld1p x62 H) x63 <| 
  bR (noPan (f52 D n [x56, x57, x59, x61, x63] H)) fun x64 H => 
  bV (pExtract x64 0) fun x65 => 
  bV (pExtract x64 1) fun x66 => 
  bR (stNp 8 x9 x65 H) fun x9999_3 H => 
  bC (f54 D n [x66] H) (fun x H => some (.ret (.pan x), H)) fun x68 H => 
  bV (ld1p x4_4 H) fun x69 => 
  bV (lnStr x69) fun x70 => 
  bV (fAd 3 x9) fun x71 => 
  bR (stNp 1 x71 x70 H) fun x9999_4 H => 
  bV (ldNp 2 x6_4 H) fun x72 => 
  bV (ldNp 2 x8_2 H) fun x73 => 
  bC (f44 D n [x72, x73] H) (fun x H => some (.ret (.pan x), H)) fun x74 H => 
  bV (ldNp 2 x6_4 H) fun x75 => 
  bV (ldNp 8 x9 H) fun x76 => 
  bC (f55 D n [x75, x76] H) (fun x H => some (.ret (.pan x), H)) fun x77 H => 
  bV (ld1p x2_4 H) fun x78 => 
  bV (bInt .eql x78 (.int .u8 (.ofNat 3))) fun x80 => 
  jn (cnd x80 (bV (ldNp 2 x6_4 H) fun x81 => 
  bV (fAd 6 x9) fun x82 => 
  bV (ld1p x82 H) fun x83 => 
  bV (ld1p x4_4 H) fun x86 => 
  bR (noPan (f57 D n [x83] H)) fun x84 H => chk (ldNp 2 x6_4 H) x81 <| chk (ld1p x4_4 H) x86 <| 
  bV (bStr .add (.str 1 108) x84) fun x85 => 
  bR (noPan (f56 D n [x81, x85, x86] H)) fun x87 H => 
  some (.norm [x1_4, x5_4, x6_4, x7_4, x9], H))
  (bV (bInt .eql x78 (.int .u8 (.ofNat 2))) fun x89 => 
  jn (cnd x89 (bV (ldNp 2 x6_4 H) fun x90 => 
  bV (fAd 6 x9) fun x91 => 
  bV (ld1p x91 H) fun x92 => 
  bV (ld1p x1_4 H) fun x95 => 
  bR (noPan (f57 D n [x92] H)) fun x93 H => chk (ldNp 2 x6_4 H) x90 <| chk (ld1p x1_4 H) x95 <| 
  bV (bStr .add (.str 1 112) x93) fun x94 => 
  bR (noPan (f57 D n [x95] H)) fun x96 H => chk (ldNp 2 x6_4 H) x90 <| 
  bR (noPan (f56 D n [x90, x94, x96] H)) fun x97 H => 
  some (.norm [x1_4, x5_4, x6_4, x7_4, x9], H))
  (some (.norm [x1_4, x5_4, x6_4, x7_4, x9], H))) (f50j0 D n))) (f50j1 D n)
def f50j3 (D : Dyn) (n : Nat) (vs : List AV) (H : AH) : Rs :=
  hd vs fun x1_3 vs => hd vs fun x2_3 vs => hd vs fun x3_3 vs => hd vs fun x4_3 vs => hd vs fun x5_3 vs => hd vs fun x6_3 vs => hd vs fun x7_3 vs => 
  bV (ldNp 2 x6_3 H) fun x41 => 
  bV (ld1p x1_3 H) fun x42 => 
  bV (ld1p x5_3 H) fun x43 => 
  bC (f51 D n [x41, x42, x43] H) (fun x H => some (.ret (.pan x), H)) fun x44 H => 
  bV (ldNp 2 x6_3 H) fun x45 => 
  bC (f41 D n [x45] H) (fun x H => some (.ret (.pan x), H)) fun x46 H => 
  bA (bxV 31 (.agg [(.int .i64 (.ofNat 0)), (.int .i64 (.ofNat 0))])) H fun x8 H => 
  bR (stNp 2 x8 x46 H) fun x9999 H => 
  bV (fAd 0 x8) fun x47 => 
  bV (ld1p x47 H) fun x48 => 
  bV (bInt .geq x48 (.int .i64 (.ofNat 2147483647))) fun x49 => 
  jn (cnd x49 (bC (f38 D n [(.int .i64 (.ofNat 3))] H) (fun x H => some (.ret (.pan x), H)) fun x50 H => 
  some (.norm [x1_3, x2_3, x3_3, x4_3, x5_3, x6_3, x7_3, x8], H))
  (some (.norm [x1_3, x2_3, x3_3, x4_3, x5_3, x6_3, x7_3, x8], H))) (f50j2 D n)
def f50j4 (D : Dyn) (n : Nat) (vs : List AV) (H : AH) : Rs :=
  hd vs fun x1_2 vs => hd vs fun x2_2 vs => hd vs fun x3_2 vs => hd vs fun x4_2 vs => hd vs fun x5_2 vs => hd vs fun x6_2 vs => hd vs fun x7_2 vs => 
  bV (ld1p x4_2 H) fun x37 => 
  bV (lnStr x37) fun x38 => 
  bV (bInt .gtr x38 (.int .i64 (.ofNat 160))) fun x39 => 
  jn (cnd x39 (bC (f38 D n [(.int .i64 (.ofNat 40))] H) (fun x H => some (.ret (.pan x), H)) fun x40 H => 
  some (.norm [x1_2, x2_2, x3_2, x4_2, x5_2, x6_2, x7_2], H))
  (some (.norm [x1_2, x2_2, x3_2, x4_2, x5_2, x6_2, x7_2], H))) (f50j3 D n)
/-- jetty/objs.Make$1 -/
def f50 (D : Dyn) (n : Nat) (vs : List AV) (H : AH) : Option (AV × AH) :=
  outR (hd vs fun x0 vs => hd vs fun x1 vs => hd vs fun x2 vs => hd vs fun x3 vs => hd vs fun x4 vs => hd vs fun x5 vs => nl vs <|
  bA (bxV 73 x0) H fun x6 H => 
  bA (bxV 23 (.agg [(.int .u8 (.ofNat 0)), (.int .i64 (.ofNat 0)), (.int .i64 (.ofNat 0)), (.int .i64 (.ofNat 0)), (.int .i64 (.ofNat 0)), (.int .i64 (.ofNat 0)), (.int .i64 (.ofNat 0)), (.int .i64 (.ofNat 0))])) H fun x7 H => 
  bV (ldNp 2 x6 H) fun x11 => 
  bV (ld1p x1 H) fun x12 => 
  bC (f46 D n [x11, x12] H) (fun x H => some (.ret (.pan x), H)) fun x13 H => 
  bV (ld1p x2 H) fun x14 => 
  bV (bInt .lss x14 (.int .u8 (.ofNat 1))) fun x15 => 
  jn (wnt x15 false (bV (ld1p x2 H) fun x17 => 
  bV (bInt .gtr x17 (.int .u8 (.ofNat 3))) fun x18 => 
  some (.norm [x18], H)) (some (.norm [undefA], H))) fun vs H => hd vs fun x18_2 vs => 
  bV (pk3 (some x15) (some (.bool true)) (some x18_2)) fun x19 => 
  jn (wnt x19 false (bV (ld1p x3 H) fun x21 => 
  bV (bInt .lss x21 (.int .i64 (.ofNat 0))) fun x22 => 
  some (.norm [x22], H)) (some (.norm [undefA], H))) fun vs H => hd vs fun x22_2 vs => 
  bV (pk3 (some x19) (some (.bool true)) (some x22_2)) fun x23 => 
  jn (wnt x23 false (bV (ld1p x3 H) fun x25 => 
  bV (bInt .gtr x25 (.int .i64 (.ofNat 4095))) fun x26 => 
  some (.norm [x26], H)) (some (.norm [undefA], H))) fun vs H => hd vs fun x26_2 vs => 
  bV (pk3 (some x23) (some (.bool true)) (some x26_2)) fun x27 => 
  jn (wnt x27 false (bV (ld1p x4 H) fun x29 => 
  bV (bStr .neq x29 (.str 0 0)) fun x30 => 
  some (.norm [x30], H)) (some (.norm [undefA], H))) fun vs H => hd vs fun x31 vs => 
  jn (wnt x31 true (bV (ld1p x2 H) fun x32 => 
  bV (bInt .neq x32 (.int .u8 (.ofNat 3))) fun x33 => 
  some (.norm [x33], H)) (some (.norm [undefA], H))) fun vs H => hd vs fun x33_2 vs => 
  jn (wnt x27 false (bV (pk3 (some x31) (some x33_2) (some (.bool false))) fun x34 => 
  some (.norm [x34], H)) (some (.norm [undefA], H))) fun vs H => hd vs fun x34_2 vs => 
  bV (pk3 (some x27) (some (.bool true)) (some x34_2)) fun x35 => 
  jn (cnd x35 (bC (f38 D n [(.int .i64 (.ofNat 1))] H) (fun x H => some (.ret (.pan x), H)) fun x36 H => 
  some (.norm [x1, x2, x3, x4, x5, x6, x7], H))
  (some (.norm [x1, x2, x3, x4, x5, x6, x7], H))) (f50j4 D n))
def h50 : Hint := (.s .o (.s .pc (.s (.s .o (.c [1, 2, 3, 4, 5, 6, 7] .pc .o)) (.s (.s .o (.c [1, 2, 3, 4, 5, 6, 7] .pc .o)) (.s .pc (.s .pc (.s (.s .o (.c [1, 2, 3, 4, 5, 6, 7, 8] .pc .o)) (.s .o (.s .o (.s .pc (.s .o (.s .pc (.s .pc (.s (.s .o (.b0 (.s .o (.c [1, 5, 6, 7, 9] .o (.s .o (.c [1, 5, 6, 7, 9] .o .o)))))) (.s .pc (.s .o .o))))))))))))))))
theorem f50_eq (D : Dyn) (n : Nat) : f50 D n = funKp (s50 D n) D n 50 Tryz.f50 h50 := by kernel_rfl
theorem f50_ok {D : Dyn} (hD : DP D) (n : Nat) : FP 50 (f50 D n) := fun_okP X_ok hD (SP.cons (f46_ok hD n) (SP.cons (f38_ok hD n) (SP.cons (f51_ok hD n) (SP.cons (f41_ok hD n) (SP.cons (f53_ok hD n) (SP.cons (f52_ok hD n) (SP.cons (f54_ok hD n) (SP.cons (f44_ok hD n) (SP.cons (f55_ok hD n) (SP.cons (f57_ok hD n) (SP.cons (f56_ok hD n) (SP.cons (f58_ok hD n) (SP.nil))))))))))))) Tryz.func50 (by kernel_rfl) (by kernel_rfl) (f50_eq D n)

def s10 (D : Dyn) (n : Nat) : Tb := ⟨X, [(49, f49 D n)]⟩
/-- jetty/objs.Make -/
def f10 (D : Dyn) (n : Nat) (vs : List AV) (H : AH) : Option (AV × AH) :=
  outR (hd vs fun x0 vs => hd vs fun x1 vs => hd vs fun x2 vs => hd vs fun x3 vs => hd vs fun x4 vs => hd vs fun x5 vs => hd vs fun x6 vs => nl vs <|
  bA (bxV 3 x1) H fun x8 H => 
  bA (bxV 9 x2) H fun x9 H => 
  bA (bxV 5 x3) H fun x10 H => 
  bA (bxV 3 x4) H fun x11 H => 
  bA (bxV 9 x5) H fun x12 H => 
  bA (bxV 23 (.agg [(.int .u8 (.ofNat 0)), (.int .i64 (.ofNat 0)), (.int .i64 (.ofNat 0)), (.int .i64 (.ofNat 0)), (.int .i64 (.ofNat 0)), (.int .i64 (.ofNat 0)), (.int .i64 (.ofNat 0)), (.int .i64 (.ofNat 0))])) H fun x14 H => 
  bR (noPan (f49 D n [x0, x6, (.func 50 [] [x8, x10, x11, x12, x9])] H)) fun x19 H => 
  bV (pExtract x19 0) fun x20 => 
  bV (pExtract x19 1) fun x21 => 
  bR (stNp 8 x14 x20 H) fun x9999 H => 
  bV (ldNp 8 x14 H) fun x9014 => bV (some x21) fun x15 => some (.ret (.tuple [x9014, x15]), H))
def h10 : Hint := (.s .o (.s .o .o))
theorem f10_eq (D : Dyn) (n : Nat) : f10 D n = funKp (s10 D n) D n 10 Tryz.f10 h10 := by kernel_rfl
theorem f10_ok {D : Dyn} (hD : DP D) (n : Nat) : FP 10 (f10 D n) := fun_okP X_ok hD (SP.cons (f49_ok hD n) (SP.nil)) Tryz.func10 (by kernel_rfl) (by kernel_rfl) (f10_eq D n)

def s120 (D : Dyn) (n : Nat) : Tb := ⟨X, [(121, f121 D n)]⟩
/-- jetty/inode.mayTime -/
def f120 (D : Dyn) (n : Nat) (vs : List AV) (H : AH) : Option (AV × AH) :=
  outR (hd vs fun x0 vs => nl vs <|
  bR (noPan (f121 D n [x0, (.int .i64 (.ofNat 0)), (.int .i64 (.ofNat 2147483647))] H)) fun x4 H => 
  bV (some x4) fun x2 => some (.ret x2, H))
def h120 : Hint := (.s .o (.s .o .o))
theorem f120_eq (D : Dyn) (n : Nat) : f120 D n = funKp (s120 D n) D n 120 Tryz.f120 h120 := by kernel_rfl
theorem f120_ok {D : Dyn} (hD : DP D) (n : Nat) : FP 120 (f120 D n) := fun_okP X_ok hD (SP.cons (f121_ok hD n) (SP.nil)) Tryz.func120 (by kernel_rfl) (by kernel_rfl) (f120_eq D n)

def s60 (D : Dyn) (n : Nat) : Tb := ⟨X, [(120, f120 D n), (121, f121 D n)]⟩
/-- jetty/inode.Linked -/
def f60 (D : Dyn) (n : Nat) (vs : List AV) (H : AH) : Option (AV × AH) :=
  outR (hd vs fun x0 vs => hd vs fun x1 vs => hd vs fun x2 vs => nl vs <|
  bA (bxV 23 x0) H fun x3 H => 
  bA (bxV 23 (.agg [(.int .u8 (.ofNat 0)), (.int .i64 (.ofNat 0)), (.int .i64 (.ofNat 0)), (.int .i64 (.ofNat 0)), (.int .i64 (.ofNat 0)), (.int .i64 (.ofNat 0)), (.int .i64 (.ofNat 0)), (.int .i64 (.ofNat 0))])) H fun x6 H => 
  bV (bInt .neq x1 (.int .i64 (.ofNat 1))) fun x9 => 
  jn (wnt x9 true (bV (bInt .neq x1 (.int .i64 (.negSucc 0))) fun x12 => 
  some (.norm [x12], H)) (some (.norm [undefA], H))) fun vs H => hd vs fun x12_2 vs => 
  bV (pk3 (some x9) (some x12_2) (some (.bool false))) fun x13 => 
  jn (wnt x13 false (bR (noPan (f120 D n [x2] H)) fun x16 H => 
  bV (aun .not x16) fun x17 => 
  some (.norm [x17], H)) (some (.norm [undefA], H))) fun vs H => hd vs fun x17_2 vs => 
  bV (pk3 (some x13) (some (.bool true)) (some x17_2)) fun x18 => 
  cnd x18 (bV (bldSp [(0, 1), (1, 1), (2, 1), (3, 1), (4, 1), (5, 1), (6, 1), (7, 1)] [(.int .u8 (.ofNat 0)), (.int .i64 (.ofNat 0)), (.int .i64 (.ofNat 0)), (.int .i64 (.ofNat 0)), (.int .i64 (.ofNat 0)), (.int .i64 (.ofNat 0)), (.int .i64 (.ofNat 0)), (.int .i64 (.ofNat 0))] []) fun x19 => 
  bR (stNp 8 x6 x19 H) fun x9999 H => 
  bV (ldNp 8 x6 H) fun x9006 => bV (some (.int .i64 (.ofNat 1))) fun x7 => some (.ret (.tuple [x9006, x7]), H))
  (bV (fAd 2 x3) fun x20 => 
  bV (ld1p x20 H) fun x21 => 
  bV (bInt .add x21 x1) fun x23 => 
  bR (noPan (f121 D n [x23, (.int .i64 (.ofNat 0)), (.int .i64 (.ofNat 2147483647))] H)) fun x24 H => 
  bV (aun .not x24) fun x25 => 
  cnd x25 (bV (bldSp [(0, 1), (1, 1), (2, 1), (3, 1), (4, 1), (5, 1), (6, 1), (7, 1)] [(.int .u8 (.ofNat 0)), (.int .i64 (.ofNat 0)), (.int .i64 (.ofNat 0)), (.int .i64 (.ofNat 0)), (.int .i64 (.ofNat 0)), (.int .i64 (.ofNat 0)), (.int .i64 (.ofNat 0)), (.int .i64 (.ofNat 0))] []) fun x26 => 
  bR (stNp 8 x6 x26 H) fun x9999_2 H => 
  bV (ldNp 8 x6 H) fun x9006_2 => bV (some (.int .i64 (.ofNat 50))) fun x7_2 => some (.ret (.tuple [x9006_2, x7_2]), H))
  (bV (fAd 2 x3) fun x27 => 
  bV (ld1p x27 H) fun x28 => 
  bV (bInt .add x28 x1) fun x30 => 
  bV (fAd 2 x3) fun x31 => 
  bR (stNp 1 x31 x30 H) fun x9999_3 H => 
  bV (fAd 5 x3) fun x33 => 
  bR (stNp 1 x33 x2 H) fun x9999_4 H => 
  bV (ldNp 8 x3 H) fun x34 => 
  bR (stNp 8 x6 x34 H) fun x9999_5 H => 
  bV (ldNp 8 x6 H) fun x9006_3 => bV (some (.int .i64 (.ofNat 0))) fun x7_3 => some (.ret (.tuple [x9006_3, x7_3]), H))))
def h60 : Hint := (.s .o (.s (.s .o (.cl (.s .o .o) .o)) (.s (.s .o (.cl (.s .o .o) .o)) (.s .o (.s .o (.s .o .o))))))
theorem f60_eq (D : Dyn) (n : Nat) : f60 D n = funKp (s60 D n) D n 60 Tryz.f60 h60 := by kernel_rfl
theorem f60_ok {D : Dyn} (hD : DP D) (n : Nat) : FP 60 (f60 D n) := fun_okP X_ok hD (SP.cons (f120_ok hD n) (SP.cons (f121_ok hD n) (SP.nil))) Tryz.func60 (by kernel_rfl) (by kernel_rfl) (f60_eq D n)

def s59 (D : Dyn) (n : Nat) : Tb := ⟨X, [(34, f34 D n), (38, f38 D n), (46, f46 D n), (51, f51 D n), (60, f60 D n), (54, f54 D n), (58, f58 D n), (55, f55 D n)]⟩
def f59j0 (D : Dyn) (n : Nat) (vs : List AV) (H : AH) : Rs :=
  hd vs fun x2_2 vs => hd vs fun x3_2 vs => hd vs fun x4_2 vs => hd vs fun x5_2 vs => hd vs fun x6_2 vs => 
  bV (ldNp 2 x4_2 H) fun x15 => 
  bV (ld1p x2_2 H) fun x16 => 
  bC (f46 D n [x15, x16] H) (fun x H => some (.ret (.pan x), H)) fun x17 H => 
  bV (ldNp 2 x4_2 H) fun x18 => 
  bV (ld1p x2_2 H) fun x19 => 
  bV (ld1p x3_2 H) fun x20 => 
  bC (f51 D n [x18, x19, x20] H) (fun x H => some (.ret (.pan x), H)) fun x21 H => 
  bV (ldNp 8 x6_2 H) fun x23 => 
  bV (fAd 1 x4_2) fun x24 => 
  bV (ld1p x24 H) fun x25 => 
  bR (noPan (f60 D n [x23, (.int .i64 (.ofNat 1)), x25] H)) fun x26 H => 
  bV (pExtract x26 0) fun x27 => 
  bV (pExtract x26 1) fun x28 => 
  bR (stNp 8 x6_2 x27 H) fun x9999_2 H => 
  bC (f54 D n [x28] H) (fun x H => some (.ret (.pan x), H)) fun x30 H => 
  bV (ldNp 2 x4_2 H) fun x31 => 
  bV (ld1p x2_2 H) fun x32 => 
  bV (ld1p x3_2 H) fun x33 => 
  bV (ldNp 8 x6_2 H) fun x34 => 
  bC (f58 D n [x31, x32, x33, x34] H) (fun x H => some (.ret (.pan x), H)) fun x35 H => 
  bV (ldNp 2 x4_2 H) fun x36 => 
  bV (ldNp 8 x6_2 H) fun x37 => 
  bC (f55 D n [x36, x37] H) (fun x H => some (.ret (.pan x), H)) fun x38 H => 
  bV (ldNp 8 x6_2 H) fun x39 => 
  bR (stNp 8 x5_2 x39 H) fun x9999_3 H => 
  bV (ldNp 8 x5_2 H) fun x9005 => some (.ret x9005, H)
/-- jetty/objs.Link$1 -/
def f59 (D : Dyn) (n : Nat) (vs : List AV) (H : AH) : Option (AV × AH) :=
  outR (hd vs fun x0 vs => hd vs fun x1 vs => hd vs fun x2 vs => hd vs fun x3 vs => nl vs <|
  bA (bxV 73 x0) H fun x4 H => 
  bA (bxV 23 (.agg [(.int .u8 (.ofNat 0)), (.int .i64 (.ofNat 0)), (.int .i64 (.ofNat 0)), (.int .i64 (.ofNat 0)), (.int .i64 (.ofNat 0)), (.int .i64 (.ofNat 0)), (.int .i64 (.ofNat 0)), (.int .i64 (.ofNat 0))])) H fun x5 H => 
  bV (ldNp 2 x4 H) fun x8 => 
  bV (ld1p x1 H) fun x9 => 
  bC (f34 D n [x8, x9] H) (fun x H => some (.ret (.pan x), H)) fun x10 H => 
  bA (bxV 23 (.agg [(.int .u8 (.ofNat 0)), (.int .i64 (.ofNat 0)), (.int .i64 (.ofNat 0)), (.int .i64 (.ofNat 0)), (.int .i64 (.ofNat 0)), (.int .i64 (.ofNat 0)), (.int .i64 (.ofNat 0)), (.int .i64 (.ofNat 0))])) H fun x6 H => 
  bR (stNp 8 x6 x10 H) fun x9999 H => 
  bV (fAd 0 x6) fun x11 => 
  bV (ld1p x11 H) fun x12 => 
  bV (bInt .eql x12 (.int .u8 (.ofNat 2))) fun x13 => 
  jn (cnd x13 (bC (f38 D n [(.int .i64 (.ofNat 55))] H) (fun x H => some (.ret (.pan x), H)) fun x14 H => 
  some (.norm [x2, x3, x4, x5, x6], H))
  (some (.norm [x2, x3, x4, x5, x6], H))) (f59j0 D n))
def h59 : Hint := (.s .o (.s .pc (.s (.s .o (.c [2, 3, 4, 5, 6] .pc .o)) (.s .pc (.s .pc (.s .o (.s .pc (.s .pc (.s .pc (.s .o .o))))))))))
theorem f59_eq (D : Dyn) (n : Nat) : f59 D n = funKp (s59 D n) D n 59 Tryz.f59 h59 := by kernel_rfl
theorem f59_ok {D : Dyn} (hD : DP D) (n : Nat) : FP 59 (f59 D n) := fun_okP X_ok hD (SP.cons (f34_ok hD n) (SP.cons (f38_ok hD n) (SP.cons (f46_ok hD n) (SP.cons (f51_ok hD n) (SP.cons (f60_ok hD n) (SP.cons (f54_ok hD n) (SP.cons (f58_ok hD n) (SP.cons (f55_ok hD n) (SP.nil))))))))) Tryz.func59 (by kernel_rfl) (by kernel_rfl) (f59_eq D n)

def s11 (D : Dyn) (n : Nat) : Tb := ⟨X, [(49, f49 D n)]⟩
/-- jetty/objs.Link -/
def f11 (D : Dyn) (n : Nat) (vs : List AV) (H : AH) : Option (AV × AH) :=
  outR (hd vs fun x0 vs => hd vs fun x1 vs => hd vs fun x2 vs => hd vs fun x3 vs => hd vs fun x4 vs => nl vs <|
  bA (bxV 3 x1) H fun x6 H => 
  bA (bxV 3 x2) H fun x7 H => 
  bA (bxV 9 x3) H fun x8 H => 
  bA (bxV 23 (.agg [(.int .u8 (.ofNat 0)), (.int .i64 (.ofNat 0)), (.int .i64 (.ofNat 0)), (.int .i64 (.ofNat 0)), (.int .i64 (.ofNat 0)), (.int .i64 (.ofNat 0)), (.int .i64 (.ofNat 0)), (.int .i64 (.ofNat 0))])) H fun x10 H => 
  bR (noPan (f49 D n [x0, x4, (.func 59 [] [x6, x7, x8])] H)) fun x15 H => 
  bV (pExtract x15 0) fun x16 => 
  bV (pExtract x15 1) fun x17 => 
  bR (stNp 8 x10 x16 H) fun x9999 H => 
  bV (ldNp 8 x10 H) fun x9010 => bV (some x17) fun x11 => some (.ret (.tuple [x9010, x11]), H))
def h11 : Hint := (.s .o (.s .o .o))
theorem f11_eq (D : Dyn) (n : Nat) : f11 D n = funKp (s11 D n) D n 11 Tryz.f11 h11 := by kernel_rfl
theorem f11_ok {D : Dyn} (hD : DP D) (n : Nat) : FP 11 (f11 D n) := fun_okP X_ok hD (SP.cons (f49_ok hD n) (SP.nil)) Tryz.func11 (by kernel_rfl) (by kernel_rfl) (f11_eq D n)

def s211 (D : Dyn) (n : Nat) : Tb := ⟨X, []⟩
def f211l0 (D : Dyn) (n : Nat) (vs : List AV) (H : AH) : Rs :=
  hd vs fun x0_2 vs => hd vs fun x3 vs => 
  bV (bInt .geq x3 (.int .i64 (.ofNat 0))) fun x8 => 
  cnd x8 (bV (ixStr x0_2 x3) fun x13 => 
  bV (bInt .neq x13 (.int .u8 (.ofNat 255))) fun x14 => 
  cnd x14 (bV (slStr x0_2 none (some x3)) fun x17 => 
  bV (ixStr x0_2 x3) fun x20 => 
  bV (bInt .add x20 (.int .u8 (.ofNat 1))) fun x21 => 
  bA (bldLp 5 1 1 [(.int .u8 (.ofNat 0))] [(0, x21)]) H fun x22 H => 
  bV (cvBSp x22 H) fun x23 => 
  bV (bStr .add x17 x23) fun x24 => 
  bV (some x24) fun x2 => some (.ret x2, H))
  (bV (bInt .sub x3 (.int .i64 (.ofNat 1))) fun x10 => 
  some (.norm [x0_2, x10], H)))
  (some (.exit 0 [], H))
def f211b1 (D : Dyn) (n : Nat) (vs : List AV) (H : AH) : Rs :=
  
  bV (some (.str 0 0)) fun x2_2 => some (.ret x2_2, H)
/-- jetty/walk.Behind -/
def f211 (D : Dyn) (n : Nat) (vs : List AV) (H : AH) : Option (AV × AH) :=
  outR (hd vs fun x0 vs => nl vs <|
  bV (lnStr x0) fun x5 => 
  bV (bInt .sub x5 (.int .i64 (.ofNat 1))) fun x6 => 
  jb 0 (loopK n (f211l0 D n) [x0, x6] H) (f211b1 D n))
def h211 : Hint := (.s .o (.s (.s .o (.b [] (.l [0, 3] (.s (.s .o (.cr .o .o)) (.s (.b0 (.s .o (.cl (.s .o .o) .o))) .o))))) (.s .o .o)))
theorem f211_eq (D : Dyn) (n : Nat) : f211 D n = funKp (s211 D n) D n 211 Tryz.f211 h211 := by kernel_rfl
theorem f211_ok {D : Dyn} (hD : DP D) (n : Nat) : FP 211 (f211 D n) := fun_okP X_ok hD (SP.nil) Tryz.func211 (by kernel_rfl) (by kernel_rfl) (f211_eq D n)

def s197 (D : Dyn) (n : Nat) : Tb := ⟨X, [(190, f190 D n), (195, f195 D n), (196, f196 D n), (211, f211 D n), (115, f115 D n), (271, f271 D n)]⟩
def f197j0 (D : Dyn) (n : Nat) (vs : List AV) (H : AH) : Rs :=
  hd vs fun x13_2 vs => hd vs fun x15_2 vs => hd vs fun x53_2 vs => hd vs fun x54_3 vs => hd vs fun x55_2 vs => 
  bV (bInt .add x55_2 (.int .i64 (.ofNat 1))) fun x74 => 
  some (.norm [x13_2, x15_2, x53_2, x54_3, x74], H)
def f197l1 (D : Dyn) (n : Nat) (vs : List AV) (H : AH) : Rs :=
  hd vs fun x13 vs => hd vs fun x15 vs => hd vs fun x53 vs => hd vs fun x54_2 vs => hd vs fun x55 vs => 
  bV (bInt .lss x55 x54_2) fun x56 => 
  cnd x56 (bV (ixSl 2 x53 x55) fun x57 => 
  bV (ldNp 2 x57 H) fun x58 => 
  bA (bxV 182 (.agg [(.str 0 0), (.str 0 0)])) H fun x17 H => 
  bR (stNp 2 x17 x58 H) fun x9999 H => 
  bV (ldNp 2 x17 H) fun x60 => 
  bR (noPan (f271 D n [x60] H)) fun x61 H => 
  bV (pExtract x61 0) fun x62 => 
  bV (pExtract x61 1) fun x63 => 
  bA (bxV 288 (.agg [(.str 0 0), (.int .i64 (.ofNat 0)), (.int .i64 (.ofNat 0)), (.str 0 0), (.bool false)])) H fun x18 H => 
  bR (stNp 5 x18 x62 H) fun x9999_2 H => 
  jn (wnt x63 true (bV (fAd 4 x18) fun x66 => 
  bV (ld1p x66 H) fun x67 => 
  some (.norm [x67], H)) (some (.norm [undefA], H))) fun vs H => hd vs fun x67_2 vs => 
  bV (pk3 (some x63) (some x67_2) (some (.bool false))) fun x68 => 
  jn (cnd x68 (bV (fAd 0 x18) fun x70 => 
  bV (ldNp 3 x70 H) fun x71 => 
  bA (bldLp 231 3 1 [(.str 0 0), (.int .i64 (.ofNat 0)), (.int .i64 (.ofNat 0))] [(0, x71)]) H fun x72 H => 
  bR (apPp 231 3 32 x15 x72 H) fun x73 H => 
  some (.norm [x13, x73, x53, x54_2, x55], H))
  (some (.norm [x13, x15, x53, x54_2, x55], H))) (f197j0 D n))
  (some (.exit 0 [x13, x15], H))
def f197b2 (D : Dyn) (n : Nat) (vs : List AV) (H : AH) : Rs :=
  hd vs fun x13_3 vs => hd vs fun x15_3 vs => 
  bV (aun .not x13_3) fun x77 => 
  bV (some x15_3) fun x8_4 => bV (some x77) fun x9_4 => bV (some (.int .i64 (.ofNat 0))) fun x10_4 => some (.ret (.tuple [x8_4, x9_4, x10_4]), H)
/-- jetty/dir.List -/
def f197 (D : Dyn) (n : Nat) (vs : List AV) (H : AH) : Option (AV × AH) :=
  outR (hd vs fun x0 vs => hd vs fun x1 vs => hd vs fun x2 vs => hd vs fun x3 vs => nl vs <|
  bV (cmpO .eql (eqP x0 .nilPtr)) fun x21 => 
  cnd x21 (bV (some .nilSlice) fun x8 => bV (some (.bool false)) fun x9 => bV (some (.int .i64 (.ofNat 2))) fun x10 => some (.ret (.tuple [x8, x9, x10]), H))
  (bR (noPan (f190 D n [x1] H)) fun x23 H => 
  bV (aun .not x23) fun x24 => 
  jn (wnt x24 false (bV (bInt .lss x2 (.int .i64 (.ofNat 0))) fun x27 => 
  some (.norm [x27], H)) (some (.norm [undefA], H))) fun vs H => hd vs fun x27_2 vs => 
  bV (pk3 (some x24) (some (.bool true)) (some x27_2)) fun x28 => 
  jn (wnt x28 false (bV (bInt .lss x3 (.int .i64 (.ofNat 0))) fun x31 => 
  some (.norm [x31], H)) (some (.norm [undefA], H))) fun vs H => hd vs fun x31_2 vs => 
  bV (pk3 (some x28) (some (.bool true)) (some x31_2)) fun x32 => 
  cnd x32 (bV (some .nilSlice) fun x8_2 => bV (some (.bool false)) fun x9_2 => bV (some (.int .i64 (.ofNat 1))) fun x10_2 => some (.ret (.tuple [x8_2, x9_2, x10_2]), H))
  (bV (mn2 x2 (.int .i64 (.ofNat 262144))) fun x35 => 
  bV (bInt .add x35 (.int .i64 (.ofNat 1))) fun x36 => 
  bR (noPan (f195 D n [x1, x36] H)) fun x37 H => 
  bR (noPan (f196 D n [x1] H)) fun x42 H => 
  bV (bStr .add (.str 1 101) x42) fun x43 => 
  bR (noPan (f211 D n [x43] H)) fun x44 H => 
  bR (noPan (f115 D n [x0, x37, x44, x3] H)) fun x46 H => 
  bV (pExtract x46 0) fun x47 => 
  bV (pExtract x46 1) fun x48 => 
  bV (pExtract x46 2) fun x49 => 
  bV (bInt .neq x49 (.int .i64 (.ofNat 0))) fun x51 => 
  cnd x51 (bV (some .nilSlice) fun x8_3 => bV (some (.bool false)) fun x9_3 => bV (some x49) fun x10_3 => some (.ret (.tuple [x8_3, x9_3, x10_3]), H))
  (bV (lnSl x47) fun x54 => 
  jb 0 (loopK n (f197l1 D n) [x48, .nilSlice, x47, x54, (.int .i64 (.ofNat 0))] H) (f197b2 D n)))))
def h197 : Hint := (.s .o (.s (.s .o (.cl (.s .o .o) .o)) (.s (.s .o (.cl (.s .o .o) .o)) (.s .o (.s .o (.s (.s .o (.cl (.s .o .o) .o)) (.s .o (.s (.s .o (.b [13, 15] (.l [13, 15, 53, 54, 55] (.s .o (.s (.cr .o .o) (.s (.b0 (.s .o (.s .o (.s .o (.c [13, 15, 53, 54, 55] .o .o))))) .o)))))) (.s .o .o)))))))))
theorem f197_eq (D : Dyn) (n : Nat) : f197 D n = funKp (s197 D n) D n 197 Tryz.f197 h197 := by kernel_rfl
theorem f197_ok {D : Dyn} (hD : DP D) (n : Nat) : FP 197 (f197 D n) := fun_okP X_ok hD (SP.cons (f190_ok hD n) (SP.cons (f195_ok hD n) (SP.cons (f196_ok hD n) (SP.cons (f211_ok hD n) (SP.cons (f115_ok hD n) (SP.cons (f271_ok hD n) (SP.nil))))))) Tryz.func197 (by kernel_rfl) (by kernel_rfl) (f197_eq D n)

def s122 (D : Dyn) (n : Nat) : Tb := ⟨X, [(197, f197 D n)]⟩
/-- jetty/dir.Empty -/
def f122 (D : Dyn) (n : Nat) (vs : List AV) (H : AH) : Option (AV × AH) :=
  outR (hd vs fun x0 vs => hd vs fun x1 vs => nl vs <|
  bR (noPan (f197 D n [x0, x1, (.int .i64 (.ofNat 0)), (.int .i64 (.ofNat 1))] H)) fun x12 H => 
  bV (pExtract x12 0) fun x13 => 
  bV (pExtract x12 1) fun x14 => 
  bV (pExtract x12 2) fun x15 => 
  bV (bInt .eql x15 (.int .i64 (.ofNat 0))) fun x17 => 
  jn (wnt x17 true (some (.norm [x14], H)) (some (.norm [undefA], H))) fun vs H => hd vs fun x19 vs => 
  bV (pk3 (some x17) (some x19) (some (.bool false))) fun x20 => 
  jn (wnt x20 true (bV (lnSl x13) fun x23 => 
  bV (bInt .eql x23 (.int .i64 (.ofNat 0))) fun x24 => 
  some (.norm [x24], H)) (some (.norm [undefA], H))) fun vs H => hd vs fun x24_2 vs => 
  bV (pk3 (some x20) (some x24_2) (some (.bool false))) fun x25 => 
  bV (some x25) fun x4 => bV (some x15) fun x5 => some (.ret (.tuple [x4, x5]), H))
def h122 : Hint := (.s .o (.s .o (.s .o .o)))
theorem f122_eq (D : Dyn) (n : Nat) : f122 D n = funKp (s122 D n) D n 122 Tryz.f122 h122 := by kernel_rfl
theorem f122_ok {D : Dyn} (hD : DP D) (n : Nat) : FP 122 (f122 D n) := fun_okP X_ok hD (SP.cons (f197_ok hD n) (SP.nil)) Tryz.func122 (by kernel_rfl) (by kernel_rfl) (f122_eq D n)

def s62 (D : Dyn) (n : Nat) : Tb := ⟨X, [(122, f122 D n), (54, f54 D n), (38, f38 D n)]⟩
def f62j0 (D : Dyn) (n : Nat) (vs : List AV) (H : AH) : Rs :=
  
  some (.ret (.tuple []), H)
/-- (jetty/objs.work).notBusy -/
def f62 (D : Dyn) (n : Nat) (vs : List AV) (H : AH) : Option (AV × AH) :=
  outR (hd vs fun x0 vs => hd vs fun x1 vs => nl vs <|
  bA (bxV 73 x0) H fun x2 H => 
  bA (bxV 23 x1) H fun x3 H => 
  bV (fAd 0 x3) fun x6 => 
  bV (ld1p x6 H) fun x7 => 
  bV (bInt .neq x7 (.int .u8 (.ofNat 2))) fun x8 => 
  cnd x8 (some (.ret (.tuple []), H))
  (bV (fAd 0 x2) fun x10 => 
  bV (ld1p x10 H) fun x11 => 
  bV (fAd 6 x3) fun x12 => 
  bV (ld1p x12 H) fun x13 => 
  bR (noPan (f122 D n [x11, x13] H)) fun x14 H => 
  bV (pExtract x14 0) fun x15 => 
  bV (pExtract x14 1) fun x16 => 
  bC (f54 D n [x16] H) (fun x H => some (.ret (.pan x), H)) fun x18 H => 
  bV (aun .not x15) fun x20 => 
  jn (cnd x20 (bC (f38 D n [(.int .i64 (.ofNat 57))] H) (fun x H => some (.ret (.pan x), H)) fun x21 H => 
  some (.norm [], H))
  (some (.norm [], H))) (f62j0 D n)))
def h62 : Hint := (.s .o (.s (.s .o (.cl .o .o)) (.s .o (.s .pc (.s .o (.c [] .pc .o))))))
theorem f62_eq (D : Dyn) (n : Nat) : f62 D n = funKp (s62 D n) D n 62 Tryz.f62 h62 := by kernel_rfl
theorem f62_ok {D : Dyn} (hD : DP D) (n : Nat) : FP 62 (f62 D n) := fun_okP X_ok hD (SP.cons (f122_ok hD n) (SP.cons (f54_ok hD n) (SP.cons (f38_ok hD n) (SP.nil)))) Tryz.func62 (by kernel_rfl) (by kernel_rfl) (f62_eq D n)

def s214 (D : Dyn) (n : Nat) : Tb := ⟨X, [(266, f266 D n), (208, f208 D n), (281, f281 D n)]⟩
/-- jetty/node.Del -/
def f214 (D : Dyn) (n : Nat) (vs : List AV) (H : AH) : Option (AV × AH) :=
  outR (hd vs fun x0 vs => hd vs fun x1 vs => nl vs <|
  bA (bxV 269 x0) H fun x2 H => 
  bA (bxV 269 (.agg [(.bool false), .nilSlice, .nilSlice, .nilSlice])) H fun x4 H => 
  bV (ldNp 4 x2 H) fun x7 => 
  bR (noPan (f266 D n [x7] H)) fun x8 H => 
  bV (aun .not x8) fun x9 => 
  jn (wnt x9 false (bV (fAd 0 x2) fun x11 => 
  bV (ld1p x11 H) fun x12 => 
  bV (aun .not x12) fun x13 => 
  some (.norm [x13], H)) (some (.norm [undefA], H))) fun vs H => hd vs fun x13_2 vs => 
  bV (pk3 (some x9) (some (.bool true)) (some x13_2)) fun x14 => 
  cnd x14 (bV (bldSp [(0, 1), (1, 1), (2, 1), (3, 1)] [(.bool false), .nilSlice, .nilSlice, .nilSlice] []) fun x15 => 
  bR (stNp 4 x4 x15 H) fun x9999 H => 
  bV (ldNp 4 x4 H) fun x9004 => bV (some (.int .i64 (.ofNat 1))) fun x5 => some (.ret (.tuple [x9004, x5]), H))
  (bV (ldNp 4 x2 H) fun x16 => 
  bR (noPan (f208 D n [x16, x1] H)) fun x18 H => 
  bV (fAd 1 x2) fun x20 => 
  bV (ld1p x20 H) fun x21 => 
  bV (lnSl x21) fun x22 => 
  bV (bInt .geq x18 x22) fun x23 => 
  jn (wnt x23 false (bV (fAd 1 x2) fun x25 => 
  bV (ld1p x25 H) fun x26 => 
  bV (ixSl 1 x26 x18) fun x28 => 
  bV (ld1p x28 H) fun x29 => 
  bV (bStr .neq x29 x1) fun x31 => 
  some (.norm [x31], H)) (some (.norm [undefA], H))) fun vs H => hd vs fun x31_2 vs => 
  bV (pk3 (some x23) (some (.bool true)) (some x31_2)) fun x32 => 
  cnd x32 (bV (bldSp [(0, 1), (1, 1), (2, 1), (3, 1)] [(.bool false), .nilSlice, .nilSlice, .nilSlice] []) fun x33 => 
  bR (stNp 4 x4 x33 H) fun x9999_2 H => 
  bV (ldNp 4 x4 H) fun x9004_2 => bV (some (.int .i64 (.ofNat 5))) fun x5_2 => some (.ret (.tuple [x9004_2, x5_2]), H))
  (bV (fAd 1 x2) fun x34 => 
  bV (ld1p x34 H) fun x35 => 
  bV (slSlp 1 x35 none (some x18) (some x18) H) fun x38 => 
  bV (fAd 1 x2) fun x39 => 
  bV (ld1p x39 H) fun x40 => 
  bV (bInt .add x18 (.int .i64 (.ofNat 1))) fun x42 => 
  bV (slSlp 1 x40 (some x42) none none H) fun x43 => 
  bA (bldLp 229 1 2 [.nilSlice] [(0, x38), (1, x43)]) H fun x44 H => 
  bV (fAd 2 x2) fun x46 => 
  bV (ld1p x46 H) fun x47 => 
  bV (slSlp 1 x47 none (some x18) (some x18) H) fun x50 => 
  bV (fAd 2 x2) fun x51 => 
  bV (ld1p x51 H) fun x52 => 
  bV (bInt .add x18 (.int .i64 (.ofNat 1))) fun x54 => 
  bV (slSlp 1 x52 (some x54) none none H) fun x55 => 
  bA (bldLp 229 1 2 [.nilSlice] [(0, x50), (1, x55)]) H fun x56 H => 
  bR (noPan (f281 D n [x44] H)) fun x45 H => chk (ld1p x46 H) x47 <| chk (slSlp 1 x47 none (some x18) (some x18) H) x50 <| chk (ld1p x51 H) x52 <| chk (slSlp 1 x52 (some x54) none none H) x55 <| 
  bR (noPan (f281 D n [x56] H)) fun x57 H => 
  bV (bldSp [(0, 1), (1, 1), (2, 1), (3, 1)] [(.bool false), .nilSlice, .nilSlice, .nilSlice] [(0, (.bool true)), (1, x45), (2, x57)]) fun x58 => 
  bR (stNp 4 x4 x58 H) fun x9999_3 H => 
  bV (ldNp 4 x4 H) fun x9004_3 => bV (some (.int .i64 (.ofNat 0))) fun x5_3 => some (.ret (.tuple [x9004_3, x5_3]), H))))
def h214 : Hint := (.s .o (.s (.s .o (.cl (.s .o .o) .o)) (.s .o (.s (.s .o (.cl (.s .o .o) .o)) (.s .o .o)))))
theorem f214_eq (D : Dyn) (n : Nat) : f214 D n = funKp (s214 D n) D n 214 Tryz.f214 h214 := by kernel_rfl
theorem f214_ok {D : Dyn} (hD : DP D) (n : Nat) : FP 214 (f214 D n) := fun_okP X_ok hD (SP.cons (f266_ok hD n) (SP.cons (f208_ok hD n) (SP.cons (f281_ok hD n) (SP.nil)))) Tryz.func214 (by kernel_rfl) (by kernel_rfl) (f214_eq D n)

def s213 (D : Dyn) (n : Nat) : Tb := ⟨X, [(214, f214 D n)]⟩
/-- (*jetty/tree.Tree).Del$1 -/
def f213 (D : Dyn) (n : Nat) (vs : List AV) (H : AH) : Option (AV × AH) :=
  outR (hd vs fun x0 vs => hd vs fun x1 vs => nl vs <|
  bA (bxV 269 x0) H fun x2 H => 
  bA (bxV 269 (.agg [(.bool false), .nilSlice, .nilSlice, .nilSlice])) H fun x3 H => 
  bV (ldNp 4 x2 H) fun x5 => 
  bV (ld1p x1 H) fun x6 => 
  bR (noPan (f214 D n [x5, x6] H)) fun x7 H => 
  bV (pExtract x7 0) fun x8 => 
  bV (pExtract x7 1) fun x9 => 
  bR (stNp 4 x3 x8 H) fun x9999 H => 
  bV (ldNp 4 x3 H) fun x9003 => bV (some x9) fun x4 => some (.ret (.tuple [x9003, x4]), H))
def h213 : Hint := (.s .o (.s .o .o))
theorem f213_eq (D : Dyn) (n : Nat) : f213 D n = funKp (s213 D n) D n 213 Tryz.f213 h213 := by kernel_rfl
theorem f213_ok {D : Dyn} (hD : DP D) (n : Nat) : FP 213 (f213 D n) := fun_okP X_ok hD (SP.cons (f214_ok hD n) (SP.nil)) Tryz.func213 (by kernel_rfl) (by kernel_rfl) (f213_eq D n)

def s143 (D : Dyn) (n : Nat) : Tb := ⟨X, [(186, f186 D n), (187, f187 D n)]⟩
/-- (*jetty/tree.Tree).Del -/
def f143 (D : Dyn) (n : Nat) (vs : List AV) (H : AH) : Option (AV × AH) :=
  outR (hd vs fun x0 vs => hd vs fun x1 vs => nl vs <|
  bA (bxV 9 x1) H fun x3 H => 
  bR (noPan (f186 D n [x0] H)) fun x6 H => 
  cnd x6 (bV (some (.int .i64 (.ofNat 2))) fun x4 => some (.ret x4, H))
  (bV (ld1p x3 H) fun x7 => 
  bV (lnStr x7) fun x8 => 
  bV (bInt .lss x8 (.int .i64 (.ofNat 1))) fun x9 => 
  jn (wnt x9 false (bV (ld1p x3 H) fun x11 => 
  bV (lnStr x11) fun x12 => 
  bV (bInt .gtr x12 (.int .i64 (.ofNat 40))) fun x13 => 
  some (.norm [x13], H)) (some (.norm [undefA], H))) fun vs H => hd vs fun x13_2 vs => 
  bV (pk3 (some x9) (some (.bool true)) (some x13_2)) fun x14 => 
  cnd x14 (bV (some (.int .i64 (.ofNat 1))) fun x4_2 => some (.ret x4_2, H))
  (bV (ld1p x3 H) fun x16 => 
  bR (noPan (f187 D n [x0, x16, (.func 213 [] [x3])] H)) fun x18 H => 
  bV (some x18) fun x4_3 => some (.ret x4_3, H))))
def h143 : Hint := (.s .o (.s (.s .o (.cl (.s .o .o) .o)) (.s (.s .o (.cl (.s .o .o) .o)) (.s .o .o))))
theorem f143_eq (D : Dyn) (n : Nat) : f143 D n = funKp (s143 D n) D n 143 Tryz.f143 h143 := by kernel_rfl
theorem f143_ok {D : Dyn} (hD : DP D) (n : Nat) : FP 143 (f143 D n) := fun_okP X_ok hD (SP.cons (f186_ok hD n) (SP.cons (f187_ok hD n) (SP.nil))) Tryz.func143 (by kernel_rfl) (by kernel_rfl) (f143_eq D n)

def s126 (D : Dyn) (n : Nat) : Tb := ⟨X, [(200, f200 D n), (143, f143 D n)]⟩
/-- jetty/dir.Drop -/
def f126 (D : Dyn) (n : Nat) (vs : List AV) (H : AH) : Option (AV × AH) :=
  outR (hd vs fun x0 vs => hd vs fun x1 vs => hd vs fun x2 vs => nl vs <|
  bR (noPan (f200 D n [x0, x1, x2] H)) fun x15 H => 
  bV (pExtract x15 0) fun x16 => 
  bV (pExtract x15 1) fun x17 => 
  bA (bxV 288 (.agg [(.str 0 0), (.int .i64 (.ofNat 0)), (.int .i64 (.ofNat 0)), (.str 0 0), (.bool false)])) H fun x8 H => 
  bR (stNp 5 x8 x16 H) fun x9999 H => 
  bV (bInt .neq x17 (.int .i64 (.ofNat 0))) fun x19 => 
  cnd x19 (bV (some (.int .i64 (.ofNat 0))) fun x6 => bV (some x17) fun x7 => some (.ret (.tuple [x6, x7]), H))
  (bV (fAd 3 x8) fun x22 => 
  bV (ld1p x22 H) fun x23 => 
  bR (noPan (f143 D n [x0, x23] H)) fun x24 H => 
  bV (bInt .neq x24 (.int .i64 (.ofNat 0))) fun x26 => 
  cnd x26 (bV (some (.int .i64 (.ofNat 0))) fun x6_2 => bV (some x24) fun x7_2 => some (.ret (.tuple [x6_2, x7_2]), H))
  (bV (fAd 0 x8) fun x28 => 
  bV (fAd 1 x28) fun x29 => 
  bV (ld1p x29 H) fun x30 => 
  bV (some x30) fun x6_3 => bV (some (.int .i64 (.ofNat 0))) fun x7_3 => some (.ret (.tuple [x6_3, x7_3]), H))))
def h126 : Hint := (.s .o (.s .o (.s (.s .o (.cl (.s .o .o) .o)) (.s (.s .o (.s .o (.cl (.s .o .o) .o))) (.s .o .o)))))
theorem f126_eq (D : Dyn) (n : Nat) : f126 D n = funKp (s126 D n) D n 126 Tryz.f126 h126 := by kernel_rfl
theorem f126_ok {D : Dyn} (hD : DP D) (n : Nat) : FP 126 (f126 D n) := fun_okP X_ok hD (SP.cons (f200_ok hD n) (SP.cons (f143_ok hD n) (SP.nil))) Tryz.func126 (by kernel_rfl) (by kernel_rfl) (f126_eq D n)

def s67 (D : Dyn) (n : Nat) : Tb := ⟨X, [(126, f126 D n), (54, f54 D n), (119, f119 D n)]⟩
/-- (jetty/objs.work).leave -/
def f67 (D : Dyn) (n : Nat) (vs : List AV) (H : AH) : Option (AV × AH) :=
  outR (hd vs fun x0 vs => hd vs fun x1 vs => hd vs fun x2 vs => hd vs fun x3 vs => nl vs <|
  bA (bxV 73 x0) H fun x4 H => 
  bA (bxV 23 x3) H fun x7 H => 
  bV (fAd 0 x4) fun x11 => 
  bV (ld1p x11 H) fun x12 => 
  bR (noPan (f126 D n [x12, x1, x2] H)) fun x15 H => 
  bV (pExtract x15 0) fun x16 => 
  bV (pExtract x15 1) fun x17 => 
  bC (f54 D n [x17] H) (fun x H => some (.ret (.pan x), H)) fun x19 H => 
  bV (ldNp 2 x4 H) fun x20 => 
  bV (ldNp 8 x7 H) fun x22 => 
  bC (f119 D n [x20, x1, (.int .i64 (.negSucc 0)), x22] H) (fun x H => some (.ret (.pan x), H)) fun x23 H => 
  some (.ret (.tuple []), H))
def h67 : Hint := (.s .o (.s .o (.s .pc .pc)))
theorem f67_eq (D : Dyn) (n : Nat) : f67 D n = funKp (s67 D n) D n 67 Tryz.f67 h67 := by kernel_rfl
theorem f67_ok {D : Dyn} (hD : DP D) (n : Nat) : FP 67 (f67 D n) := fun_okP X_ok hD (SP.cons (f126_ok hD n) (SP.cons (f54_ok hD n) (SP.cons (f119_ok hD n) (SP.nil)))) Tryz.func67 (by kernel_rfl) (by kernel_rfl) (f67_eq D n)

def s127 (D : Dyn) (n : Nat) : Tb := ⟨X, []⟩
/-- jetty/extent.mayIno -/
def f127 (D : Dyn) (n : Nat) (vs : List AV) (H : AH) : Option (AV × AH) :=
  outR (hd vs fun x0 vs => nl vs <|
  bV (bInt .geq x0 (.int .i64 (.ofNat 1))) fun x4 => 
  jn (wnt x4 true (bV (bInt .leq x0 (.int .i64 (.ofNat 2147483647))) fun x7 => 
  some (.norm [x7], H)) (some (.norm [undefA], H))) fun vs H => hd vs fun x7_2 vs => 
  bV (pk3 (some x4) (some x7_2) (some (.bool false))) fun x8 => 
  bV (some x8) fun x2 => some (.ret x2, H))
def h127 : Hint := (.s .o (.s .o .o))
theorem f127_eq (D : Dyn) (n : Nat) : f127 D n = funKp (s127 D n) D n 127 Tryz.f127 h127 := by kernel_rfl
theorem f127_ok {D : Dyn} (hD : DP D) (n : Nat) : FP 127 (f127 D n) := fun_okP X_ok hD (SP.nil) Tryz.func127 (by kernel_rfl) (by kernel_rfl) (f127_eq D n)

def s212 (D : Dyn) (n : Nat) : Tb := ⟨X, []⟩
/-- jetty/extent.start -/
def f212 (D : Dyn) (n : Nat) (vs : List AV) (H : AH) : Option (AV × AH) :=
  outR (hd vs fun x0 vs => nl vs <|
  bV (bInt .shr x0 (.int .u64 (.ofNat 24))) fun x4 => 
  bV (cvI .u8 x4) fun x5 => 
  bV (bInt .shr x0 (.int .u64 (.ofNat 16))) fun x7 => 
  bV (cvI .u8 x7) fun x8 => 
  bV (bInt .shr x0 (.int .u64 (.ofNat 8))) fun x10 => 
  bV (cvI .u8 x10) fun x11 => 
  bV (cvI .u8 x0) fun x13 => 
  bA (bldLp 5 1 5 [(.int .u8 (.ofNat 0))] [(0, (.int .u8 (.ofNat 100))), (1, x5), (2, x8), (3, x11), (4, x13)]) H fun x14 H => 
  bV (cvBSp x14 H) fun x15 => 
  bV (some x15) fun x2 => some (.ret x2, H))
def h212 : Hint := (.s .o (.s .o .o))
theorem f212_eq (D : Dyn) (n : Nat) : f212 D n = funKp (s212 D n) D n 212 Tryz.f212 h212 := by kernel_rfl
theorem f212_ok {D : Dyn} (hD : DP D) (n : Nat) : FP 212 (f212 D n) := fun_okP X_ok hD (SP.nil) Tryz.func212 (by kernel_rfl) (by kernel_rfl) (f212_eq D n)

def s142 (D : Dyn) (n : Nat) : Tb := ⟨X, [(212, f212 D n)]⟩
/-- jetty/extent.Key -/
def f142 (D : Dyn) (n : Nat) (vs : List AV) (H : AH) : Option (AV × AH) :=
  outR (hd vs fun x0 vs => hd vs fun x1 vs => nl vs <|
  bV (bInt .shr x1 (.int .u64 (.ofNat 24))) fun x8 => 
  bV (cvI .u8 x8) fun x9 => 
  bV (bInt .shr x1 (.int .u64 (.ofNat 16))) fun x11 => 
  bV (cvI .u8 x11) fun x12 => 
  bV (bInt .shr x1 (.int .u64 (.ofNat 8))) fun x14 => 
  bV (cvI .u8 x14) fun x15 => 
  bV (cvI .u8 x1) fun x17 => 
  bA (bldLp 5 1 4 [(.int .u8 (.ofNat 0))] [(0, x9), (1, x12), (2, x15), (3, x17)]) H fun x18 H => 
  bV (cvBSp x18 H) fun x19 => 
  bR (noPan (f212 D n [x0] H)) fun x6 H => chk (cvBSp x18 H) x19 <| 
  bV (bStr .add x6 x19) fun x20 => 
  bV (some x20) fun x4 => some (.ret x4, H))
def h142 : Hint := (.s .o (.s .o .o))
theorem f142_eq (D : Dyn) (n : Nat) : f142 D n = funKp (s142 D n) D n 142 Tryz.f142 h142 := by kernel_rfl
theorem f142_ok {D : Dyn} (hD : DP D) (n : Nat) : FP 142 (f142 D n) := fun_okP X_ok hD (SP.cons (f212_ok hD n) (SP.nil)) Tryz.func142 (by kernel_rfl) (by kernel_rfl) (f142_eq D n)

def s140 (D : Dyn) (n : Nat) : Tb := ⟨X, [(142, f142 D n), (212, f212 D n), (211, f211 D n), (115, f115 D n)]⟩
def f140j0 (D : Dyn) (n : Nat) (vs : List AV) (H : AH) : Rs :=
  hd vs fun x11_2 vs => hd vs fun x31_2 vs => hd vs fun x32_3 vs => hd vs fun x33_2 vs => 
  bV (bInt .add x33_2 (.int .i64 (.ofNat 1))) fun x45 => 
  some (.norm [x11_2, x31_2, x32_3, x45], H)
def f140l1 (D : Dyn) (n : Nat) (vs : List AV) (H : AH) : Rs :=
  hd vs fun x11 vs => hd vs fun x31 vs => hd vs fun x32_2 vs => hd vs fun x33 vs => 
  bV (bInt .lss x33 x32_2) fun x34 => 
  cnd x34 (bV (ixSl 2 x31 x33) fun x35 => 
  bV (ldNp 2 x35 H) fun x36 => 
  bA (bxV 182 (.agg [(.str 0 0), (.str 0 0)])) H fun x13 H => 
  bR (stNp 2 x13 x36 H) fun x9999 H => 
  bV (fAd 0 x13) fun x37 => 
  bV (ld1p x37 H) fun x38 => 
  bV (lnStr x38) fun x39 => 
  bV (bInt .eql x39 (.int .i64 (.ofNat 9))) fun x40 => 
  jn (cnd x40 (bV (ldNp 2 x13 H) fun x42 => 
  bA (bldLp 182 2 1 [(.str 0 0), (.str 0 0)] [(0, x42)]) H fun x43 H => 
  bR (apPp 182 2 32 x11 x43 H) fun x44 H => 
  some (.norm [x44, x31, x32_2, x33], H))
  (some (.norm [x11, x31, x32_2, x33], H))) (f140j0 D n))
  (some (.exit 0 [x11], H))
def f140b2 (D : Dyn) (n : Nat) (vs : List AV) (H : AH) : Rs :=
  hd vs fun x11_3 vs => 
  bV (some x11_3) fun x6_3 => bV (some (.int .i64 (.ofNat 0))) fun x7_3 => some (.ret (.tuple [x6_3, x7_3]), H)
/-- jetty/extent.stored -/
def f140 (D : Dyn) (n : Nat) (vs : List AV) (H : AH) : Option (AV × AH) :=
  outR (hd vs fun x0 vs => hd vs fun x1 vs => hd vs fun x2 vs => nl vs <|
  bV (bInt .gtr x2 (.int .i64 (.ofNat 4294967295))) fun x15 => 
  cnd x15 (bV (some .nilSlice) fun x6 => bV (some (.int .i64 (.ofNat 0))) fun x7 => some (.ret (.tuple [x6, x7]), H))
  (bR (noPan (f142 D n [x1, x2] H)) fun x20 H => 
  bR (noPan (f212 D n [x1] H)) fun x22 H => 
  bR (noPan (f211 D n [x22] H)) fun x23 H => 
  bR (noPan (f115 D n [x0, x20, x23, (.int .i64 (.ofNat 9223372036854775807))] H)) fun x24 H => 
  bV (pExtract x24 0) fun x25 => 
  bV (pExtract x24 1) fun x26 => 
  bV (pExtract x24 2) fun x27 => 
  bV (bInt .neq x27 (.int .i64 (.ofNat 0))) fun x29 => 
  cnd x29 (bV (some .nilSlice) fun x6_2 => bV (some x27) fun x7_2 => some (.ret (.tuple [x6_2, x7_2]), H))
  (bV (lnSl x25) fun x32 => 
  jb 0 (loopK n (f140l1 D n) [.nilSlice, x25, x32, (.int .i64 (.ofNat 0))] H) (f140b2 D n))))
def h140 : Hint := (.s .o (.s (.s .o (.cl (.s .o .o) .o)) (.s .o (.s (.s .o (.cl (.s .o .o) .o)) (.s .o (.s (.s .o (.b [11] (.l [11, 31, 32, 33] (.s .o (.s (.cr .o .o) (.s (.b0 (.s .o (.s .o (.c [11, 31, 32, 33] .o .o)))) .o)))))) (.s .o .o)))))))
theorem f140_eq (D : Dyn) (n : Nat) : f140 D n = funKp (s140 D n) D n 140 Tryz.f140 h140 := by kernel_rfl
theorem f140_ok {D : Dyn} (hD : DP D) (n : Nat) : FP 140 (f140 D n) := fun_okP X_ok hD (SP.cons (f142_ok hD n) (SP.cons (f212_ok hD n) (SP.cons (f211_ok hD n) (SP.cons (f115_ok hD n) (SP.nil))))) Tryz.func140 (by kernel_rfl) (by kernel_rfl) (f140_eq D n)

def s128 (D : Dyn) (n : Nat) : Tb := ⟨X, [(111, f111 D n)]⟩
def f128j0 (D : Dyn) (n : Nat) (vs : List AV) (H : AH) : Rs :=
  hd vs fun x6 vs => 
  bV (some x6) fun x4 => some (.ret x4, H)
/-- jetty/extent.whole -/
def f128 (D : Dyn) (n : Nat) (vs : List AV) (H : AH) : Option (AV × AH) :=
  outR (hd vs fun x0 vs => hd vs fun x1 vs => nl vs <|
  bR (noPan (f111 D n [x0] H)) fun x8 H => 
  bR (noPan (callV (s128 D n).S D x1 [] H)) fun x10 H => 
  bV (bInt .neq x10 (.int .i64 (.ofNat 0))) fun x12 => 
  jn (cnd x12 (bV (pNil x8) fun x15 => 
  bV (ldNp 8 x15 H) fun x16 => 
  bV (pNil x0) fun x17 => 
  bR (stNp 8 x17 x16 H) fun x9999 H => 
  some (.norm [x10], H))
  (some (.norm [x10], H))) (f128j0 D n))
def h128 : Hint := (.s .o (.s .o (.s .o (.s (.s .o (.c [6] .o .o)) (.s .o .o)))))
theorem f128_eq (D : Dyn) (n : Nat) : f128 D n = funKp (s128 D n) D n 128 Tryz.f128 h128 := by kernel_rfl
theorem f128_ok {D : Dyn} (hD : DP D) (n : Nat) : FP 128 (f128 D n) := fun_okP X_ok hD (SP.cons (f111_ok hD n) (SP.nil)) Tryz.func128 (by kernel_rfl) (by kernel_rfl) (f128_eq D n)

def s274 (D : Dyn) (n : Nat) : Tb := ⟨X, []⟩
def f274l0 (D : Dyn) (n : Nat) (vs : List AV) (H : AH) : Rs :=
  hd vs fun x0_2 vs => hd vs fun x1_2 vs => 
  bV (lnStr x0_2) fun x6 => 
  bV (bInt .gtr x6 (.int .i64 (.ofNat 0))) fun x7 => 
  jn (wnt x7 true (bV (lnStr x0_2) fun x11 => 
  bV (bInt .sub x11 (.int .i64 (.ofNat 1))) fun x12 => 
  bV (ixStr x0_2 x12) fun x13 => 
  bV (bInt .eql x13 x1_2) fun x15 => 
  some (.norm [x15], H)) (some (.norm [undefA], H))) fun vs H => hd vs fun x15_2 vs => 
  bV (pk3 (some x7) (some x15_2) (some (.bool false))) fun x16 => 
  cnd x16 (bV (lnStr x0_2) fun x19 => 
  bV (bInt .sub x19 (.int .i64 (.ofNat 1))) fun x20 => 
  bV (slStr x0_2 none (some x20)) fun x21 => 
  some (.norm [x21, x1_2], H))
  (some (.exit 0 [x0_2], H))
def f274b1 (D : Dyn) (n : Nat) (vs : List AV) (H : AH) : Rs :=
  hd vs fun x0_3 vs => 
  bV (some x0_3) fun x4 => some (.ret x4, H)
/-- strings.trimRightByte -/
def f274 (D : Dyn) (n : Nat) (vs : List AV) (H : AH) : Option (AV × AH) :=
  outR (hd vs fun x0 vs => hd vs fun x1 vs => nl vs <|
  jb 0 (loopK n (f274l0 D n) [x0, x1] H) (f274b1 D n))
def h274 : Hint := (.s .o (.s (.b [0] (.l [0, 1] (.s (.s .o (.cr .o .o)) (.b0 .o)))) (.s .o .o)))
theorem f274_eq (D : Dyn) (n : Nat) : f274 D n = funKp (s274 D n) D n 274 Tryz.f274 h274 := by kernel_rfl
theorem f274_ok {D : Dyn} (hD : DP D) (n : Nat) : FP 274 (f274 D n) := fun_okP X_ok hD (SP.nil) Tryz.func274 (by kernel_rfl) (by kernel_rfl) (f274_eq D n)

def s276 (D : Dyn) (n : Nat) : Tb := ⟨X, [(315, f315 D n)]⟩
def f276l0 (D : Dyn) (n : Nat) (vs : List AV) (H : AH) : Rs :=
  hd vs fun x0_2 vs => hd vs fun x1_2 vs => 
  bV (lnStr x0_2) fun x6 => 
  bV (bInt .gtr x6 (.int .i64 (.ofNat 0))) fun x7 => 
  cnd x7 (bV (lnStr x0_2) fun x11 => 
  bV (bInt .sub x11 (.int .i64 (.ofNat 1))) fun x12 => 
  bV (ixStr x0_2 x12) fun x13 => 
  bR (noPan (f315 D n [x1_2, x13] H)) fun x14 H => 
  bV (aun .not x14) fun x15 => 
  cnd x15 (some (.exit 0 [x0_2], H))
  (bV (lnStr x0_2) fun x18 => 
  bV (bInt .sub x18 (.int .i64 (.ofNat 1))) fun x19 => 
  bV (slStr x0_2 none (some x19)) fun x20 => 
  some (.norm [x20, x1_2], H)))
  (some (.exit 0 [x0_2], H))
def f276b1 (D : Dyn) (n : Nat) (vs : List AV) (H : AH) : Rs :=
  hd vs fun x0_3 vs => 
  bV (some x0_3) fun x4 => some (.ret x4, H)
/-- strings.trimRightASCII -/
def f276 (D : Dyn) (n : Nat) (vs : List AV) (H : AH) : Option (AV × AH) :=
  outR (hd vs fun x0 vs => hd vs fun x1 vs => nl vs <|
  jb 0 (loopK n (f276l0 D n) [x0, x1] H) (f276b1 D n))
def h276 : Hint := (.s .o (.s (.b [0] (.l [0, 1] (.s (.s .o (.cr .o .o)) (.b0 (.s (.s .o (.cl .o .o)) .o))))) (.s .o .o)))
theorem f276_eq (D : Dyn) (n : Nat) : f276 D n = funKp (s276 D n) D n 276 Tryz.f276 h276 := by kernel_rfl
theorem f276_ok {D : Dyn} (hD : DP D) (n : Nat) : FP 276 (f276 D n) := fun_okP X_ok hD (SP.cons (f315_ok hD n) (SP.nil)) Tryz.func276 (by kernel_rfl) (by kernel_rfl) (f276_eq D n)

def s362 (D : Dyn) (n : Nat) : Tb := ⟨X, []⟩
/-- unicode/utf8.RuneStart -/
def f362 (D : Dyn) (n : Nat) (vs : List AV) (H : AH) : Option (AV × AH) :=
  outR (hd vs fun x0 vs => nl vs <|
  bV (bInt .and x0 (.int .u8 (.ofNat 192))) fun x4 => 
  bV (bInt .neq x4 (.int .u8 (.ofNat 128))) fun x5 => 
  bV (some x5) fun x2 => some (.ret x2, H))
def h362 : Hint := (.s .o (.s .o .o))
theorem f362_eq (D : Dyn) (n : Nat) : f362 D n = funKp (s362 D n) D n 362 Tryz.f362 h362 := by kernel_rfl
theorem f362_ok {D : Dyn} (hD : DP D) (n : Nat) : FP 362 (f362 D n) := fun_okP X_ok hD (SP.nil) Tryz.func362 (by kernel_rfl) (by kernel_rfl) (f362_eq D n)

def s386 (D : Dyn) (n : Nat) : Tb := ⟨X, []⟩
/-- unicode/utf8.decodeRuneInStringSlow -/
def f386 (D : Dyn) (n : Nat) (vs : List AV) (H : AH) : Option (AV × AH) :=
  outR (hd vs fun x0 vs => nl vs <|
  bV (lnStr x0) fun x14 => 
  bV (bInt .lss x14 (.int .i64 (.ofNat 1))) fun x16 => 
  cnd x16 (bV (some (.int .i32 (.ofNat 65533))) fun x2 => bV (some (.int .i64 (.ofNat 0))) fun x3 => some (.ret (.tuple [x2, x3]), H))
  (bV (ixStr x0 (.int .i64 (.ofNat 0))) fun x18 => 
  none))
def h386 : Hint := (.s .o (.s .o (.s (.s .o (.cl (.s .o .o) .o)) (.s .o (.s .o (.s (.s .o (.cl (.s .o (.s .o .o)) .o)) (.s .o (.s .o (.s (.s .o (.cl (.s .o .o) .o)) (.s .o (.s (.s .o (.cl (.s .o .o) .o)) (.s (.s .o (.cl (.s .o .o) .o)) (.s .o (.s (.s .o (.cl (.s .o .o) .o)) (.s (.s .o (.cl (.s .o .o) .o)) (.s .o (.s (.s .o (.cl (.s .o .o) .o)) (.s .o .o))))))))))))))))))
theorem f386_eq (D : Dyn) (n : Nat) : f386 D n = funKp (s386 D n) D n 386 Tryz.f386 h386 := by kernel_rfl
theorem f386_ok {D : Dyn} (hD : DP D) (n : Nat) : FP 386 (f386 D n) := fun_okP X_ok hD (SP.nil) Tryz.func386 (by kernel_rfl) (by kernel_rfl) (f386_eq D n)

def s363 (D : Dyn) (n : Nat) : Tb := ⟨X, [(386, f386 D n)]⟩
/-- unicode/utf8.DecodeRuneInString -/
def f363 (D : Dyn) (n : Nat) (vs : List AV) (H : AH) : Option (AV × AH) :=
  outR (hd vs fun x0 vs => nl vs <|
  bV (bStr .neq x0 (.str 0 0)) fun x5 => 
  jn (wnt x5 true (bV (ixStr x0 (.int .i64 (.ofNat 0))) fun x8 => 
  bV (bInt .lss x8 (.int .u8 (.ofNat 128))) fun x9 => 
  some (.norm [x9], H)) (some (.norm [undefA], H))) fun vs H => hd vs fun x9_2 vs => 
  bV (pk3 (some x5) (some x9_2) (some (.bool false))) fun x10 => 
  cnd x10 (bV (ixStr x0 (.int .i64 (.ofNat 0))) fun x12 => 
  bV (cvI .i32 x12) fun x13 => 
  bV (some x13) fun x2 => bV (some (.int .i64 (.ofNat 1))) fun x3 => some (.ret (.tuple [x2, x3]), H))
  (bR (noPan (f386 D n [x0] H)) fun x16 H => 
  bV (pExtract x16 0) fun x17 => 
  bV (pExtract x16 1) fun x18 => 
  bV (some x17) fun x2_2 => bV (some x18) fun x3_2 => some (.ret (.tuple [x2_2, x3_2]), H)))
def h363 : Hint := (.s .o (.s (.s .o (.cl (.s .o .o) .o)) .o))
theorem f363_eq (D : Dyn) (n : Nat) : f363 D n = funKp (s363 D n) D n 363 Tryz.f363 h363 := by kernel_rfl
theorem f363_ok {D : Dyn} (hD : DP D) (n : Nat) : FP 363 (f363 D n) := fun_okP X_ok hD (SP.cons (f386_ok hD n) (SP.nil)) Tryz.func363 (by kernel_rfl) (by kernel_rfl) (f363_eq D n)

def s327 (D : Dyn) (n : Nat) : Tb := ⟨X, [(362, f362 D n), (363, f363 D n)]⟩
def f327l0 (D : Dyn) (n : Nat) (vs : List AV) (H : AH) : Rs :=
  hd vs fun x0_2 vs => hd vs fun x4 vs => hd vs fun x5 vs => hd vs fun x6 vs => 
  bV (bInt .geq x5 x6) fun x27 => 
  cnd x27 (bV (ixStr x0_2 x5) fun x32 => 
  bR (noPan (f362 D n [x32] H)) fun x33 H => 
  cnd x33 (some (.exit 0 [x0_2, x4, x5], H))
  (bV (bInt .sub x5 (.int .i64 (.ofNat 1))) fun x29 => 
  some (.norm [x0_2, x4, x29, x6], H)))
  (some (.exit 0 [x0_2, x4, x5], H))
def f327j1 (D : Dyn) (n : Nat) (vs : List AV) (H : AH) : Rs :=
  hd vs fun x0_4 vs => hd vs fun x4_3 vs => hd vs fun x5_3 vs => 
  bV (slStr x0_4 (some x5_3) (some x4_3)) fun x40 => 
  bR (noPan (f363 D n [x40] H)) fun x41 H => 
  bV (pExtract x41 0) fun x42 => 
  bV (pExtract x41 1) fun x43 => 
  bV (bInt .add x5_3 x43) fun x46 => 
  bV (bInt .neq x46 x4_3) fun x48 => 
  cnd x48 (bV (some (.int .i32 (.ofNat 65533))) fun x2_3 => bV (some (.int .i64 (.ofNat 1))) fun x3_3 => some (.ret (.tuple [x2_3, x3_3]), H))
  (bV (some x42) fun x2_4 => bV (some x43) fun x3_4 => some (.ret (.tuple [x2_4, x3_4]), H))
def f327b2 (D : Dyn) (n : Nat) (vs : List AV) (H : AH) : Rs :=
  hd vs fun x0_3 vs => hd vs fun x4_2 vs => hd vs fun x5_2 vs => 
  bV (bInt .lss x5_2 (.int .i64 (.ofNat 0))) fun x35 => 
  jn (cnd x35 (some (.norm [x0_3, x4_2, (.int .i64 (.ofNat 0))], H))
  (some (.norm [x0_3, x4_2, x5_2], H))) (f327j1 D n)
/-- unicode/utf8.DecodeLastRuneInString -/
def f327 (D : Dyn) (n : Nat) (vs : List AV) (H : AH) : Option (AV × AH) :=
  outR (hd vs fun x0 vs => nl vs <|
  bV (lnStr x0) fun x8 => 
  bV (bInt .eql x8 (.int .i64 (.ofNat 0))) fun x10 => 
  cnd x10 (bV (some (.int .i32 (.ofNat 65533))) fun x2 => bV (some (.int .i64 (.ofNat 0))) fun x3 => some (.ret (.tuple [x2, x3]), H))
  (bV (bInt .sub x8 (.int .i64 (.ofNat 1))) fun x12 => 
  bV (ixStr x0 x12) fun x15 => 
  bV (cvI .i32 x15) fun x16 => 
  bV (bInt .lss x16 (.int .i32 (.ofNat 128))) fun x18 => 
  cnd x18 (bV (some x16) fun x2_2 => bV (some (.int .i64 (.ofNat 1))) fun x3_2 => some (.ret (.tuple [x2_2, x3_2]), H))
  (bV (bInt .sub x8 (.int .i64 (.ofNat 4))) fun x21 => 
  bV (mx2 x21 (.int .i64 (.ofNat 0))) fun x22 => 
  bV (bInt .sub x12 (.int .i64 (.ofNat 1))) fun x24 => 
  jb 0 (loopK n (f327l0 D n) [x0, x8, x24, x22] H) (f327b2 D n))))
def h327 : Hint := (.s .o (.s .o (.s (.s .o (.cl (.s .o .o) .o)) (.s .o (.s .o (.s (.s .o (.cl (.s .o .o) .o)) (.s .o (.s (.s .o (.b [0, 4, 5] (.l [0, 4, 5, 6] (.s (.s .o (.cr .o .o)) (.s (.b0 (.s .o (.cl .o .o))) .o))))) (.s (.s .o (.c [0, 4, 5] .o .o)) (.s .o (.s (.s .o (.cl (.s .o .o) .o)) (.s .o .o))))))))))))
theorem f327_eq (D : Dyn) (n : Nat) : f327 D n = funKp (s327 D n) D n 327 Tryz.f327 h327 := by kernel_rfl
theorem f327_ok {D : Dyn} (hD : DP D) (n : Nat) : FP 327 (f327 D n) := fun_okP X_ok hD (SP.cons (f362_ok hD n) (SP.cons (f363_ok hD n) (SP.nil))) Tryz.func327 (by kernel_rfl) (by kernel_rfl) (f327_eq D n)

def s328 (D : Dyn) (n : Nat) : Tb := ⟨X, []⟩
/-- strings.ContainsRune -/
def f328 (D : Dyn) (n : Nat) (vs : List AV) (H : AH) : Option (AV × AH) :=
  outR (hd vs fun x0 vs => hd vs fun x1 vs => nl vs <|
  bR (noPan (D.fn 313 [x0, x1] H)) fun x7 H => 
  bV (bInt .geq x7 (.int .i64 (.ofNat 0))) fun x8 => 
  bV (some x8) fun x4 => some (.ret x4, H))
def h328 : Hint := (.s .o (.s .o .o))
theorem f328_eq (D : Dyn) (n : Nat) : f328 D n = funKp (s328 D n) D n 328 Tryz.f328 h328 := by kernel_rfl
theorem f328_ok {D : Dyn} (hD : DP D) (n : Nat) : FP 328 (f328 D n) := fun_okP X_ok hD (SP.nil) Tryz.func328 (by kernel_rfl) (by kernel_rfl) (f328_eq D n)

def s277 (D : Dyn) (n : Nat) : Tb := ⟨X, [(327, f327 D n), (328, f328 D n)]⟩
def f277j0 (D : Dyn) (n : Nat) (vs : List AV) (H : AH) : Rs :=
  hd vs fun x0_3 vs => hd vs fun x1_3 vs => hd vs fun x5 vs => hd vs fun x6 vs => 
  bR (noPan (f328 D n [x1_3, x5] H)) fun x25 H => 
  bV (aun .not x25) fun x26 => 
  cnd x26 (some (.exit 0 [x0_3], H))
  (bV (lnStr x0_3) fun x29 => 
  bV (bInt .sub x29 x6) fun x31 => 
  bV (slStr x0_3 none (some x31)) fun x32 => 
  some (.norm [x32, x1_3], H))
def f277l1 (D : Dyn) (n : Nat) (vs : List AV) (H : AH) : Rs :=
  hd vs fun x0_2 vs => hd vs fun x1_2 vs => 
  bV (lnStr x0_2) fun x8 => 
  bV (bInt .gtr x8 (.int .i64 (.ofNat 0))) fun x9 => 
  cnd x9 (bV (lnStr x0_2) fun x12 => 
  bV (bInt .sub x12 (.int .i64 (.ofNat 1))) fun x13 => 
  bV (ixStr x0_2 x13) fun x14 => 
  bV (cvI .i32 x14) fun x15 => 
  bV (bInt .geq x15 (.int .i32 (.ofNat 128))) fun x17 => 
  jn (cnd x17 (bR (noPan (f327 D n [x0_2] H)) fun x20 H => 
  bV (pExtract x20 0) fun x21 => 
  bV (pExtract x20 1) fun x22 => 
  some (.norm [x0_2, x1_2, x21, x22], H))
  (some (.norm [x0_2, x1_2, x15, (.int .i64 (.ofNat 1))], H))) (f277j0 D n))
  (some (.exit 0 [x0_2], H))
def f277b2 (D : Dyn) (n : Nat) (vs : List AV) (H : AH) : Rs :=
  hd vs fun x0_4 vs => 
  bV (some x0_4) fun x4 => some (.ret x4, H)
/-- strings.trimRightUnicode -/
def f277 (D : Dyn) (n : Nat) (vs : List AV) (H : AH) : Option (AV × AH) :=
  outR (hd vs fun x0 vs => hd vs fun x1 vs => nl vs <|
  jb 0 (loopK n (f277l1 D n) [x0, x1] H) (f277b2 D n))
def h277 : Hint := (.s .o (.s (.b [0] (.l [0, 1] (.s (.s .o (.cr .o .o)) (.b0 (.s .o (.s (.s .o (.c [0, 1, 5, 6] .o .o)) (.s (.s .o (.cl .o .o)) .o))))))) (.s .o .o)))
theorem f277_eq (D : Dyn) (n : Nat) : f277 D n = funKp (s277 D n) D n 277 Tryz.f277 h277 := by kernel_rfl
theorem f277_ok {D : Dyn} (hD : DP D) (n : Nat) : FP 277 (f277 D n) := fun_okP X_ok hD (SP.cons (f327_ok hD n) (SP.cons (f328_ok hD n) (SP.nil))) Tryz.func277 (by kernel_rfl) (by kernel_rfl) (f277_eq D n)

def s202 (D : Dyn) (n : Nat) : Tb := ⟨X, [(274, f274 D n), (275, f275 D n), (276, f276 D n), (277, f277 D n)]⟩
/-- strings.TrimRight -/
def f202 (D : Dyn) (n : Nat) (vs : List AV) (H : AH) : Option (AV × AH) :=
  outR (hd vs fun x0 vs => hd vs fun x1 vs => nl vs <|
  bV (bStr .eql x0 (.str 0 0)) fun x8 => 
  jn (wnt x8 false (bV (bStr .eql x1 (.str 0 0)) fun x11 => 
  some (.norm [x11], H)) (some (.norm [undefA], H))) fun vs H => hd vs fun x11_2 vs => 
  bV (pk3 (some x8) (some (.bool true)) (some x11_2)) fun x12 => 
  cnd x12 (bV (some x0) fun x4 => some (.ret x4, H))
  (bV (lnStr x1) fun x15 => 
  bV (bInt .eql x15 (.int .i64 (.ofNat 1))) fun x16 => 
  jn (wnt x16 true (bV (ixStr x1 (.int .i64 (.ofNat 0))) fun x19 => 
  bV (bInt .lss x19 (.int .u8 (.ofNat 128))) fun x20 => 
  some (.norm [x20], H)) (some (.norm [undefA], H))) fun vs H => hd vs fun x20_2 vs => 
  bV (pk3 (some x16) (some x20_2) (some (.bool false))) fun x21 => 
  cnd x21 (bV (ixStr x1 (.int .i64 (.ofNat 0))) fun x24 => 
  bR (noPan (f274 D n [x0, x24] H)) fun x25 H => 
  bV (some x25) fun x4_2 => some (.ret x4_2, H))
  (bR (noPan (f275 D n [x1] H)) fun x28 H => 
  bV (pExtract x28 0) fun x29 => 
  bV (pExtract x28 1) fun x30 => 
  bA (bxV 378 (.agg (rep 256 [(.bool false)]))) H fun x5 H => 
  bR (stNp 256 x5 x29 H) fun x9999 H => 
  cnd x30 (bR (noPan (f276 D n [x0, x5] H)) fun x33 H => 
  bV (some x33) fun x4_3 => some (.ret x4_3, H))
  (bR (noPan (f277 D n [x0, x1] H)) fun x36 H => 
  bV (some x36) fun x4_4 => some (.ret x4_4, H)))))
def h202 : Hint := (.s .o (.s (.s .o (.cl (.s .o .o) .o)) (.s (.s .o (.cl (.s .o .o) .o)) (.s (.s .o (.s .o (.cl (.s .o .o) .o))) (.s .o .o)))))
theorem f202_eq (D : Dyn) (n : Nat) : f202 D n = funKp (s202 D n) D n 202 Tryz.f202 h202 := by kernel_rfl
theorem f202_ok {D : Dyn} (hD : DP D) (n : Nat) : FP 202 (f202 D n) := fun_okP X_ok hD (SP.cons (f274_ok hD n) (SP.cons (f275_ok hD n) (SP.cons (f276_ok hD n) (SP.cons (f277_ok hD n) (SP.nil))))) Tryz.func202 (by kernel_rfl) (by kernel_rfl) (f202_eq D n)
end Go.Eng.Sh
