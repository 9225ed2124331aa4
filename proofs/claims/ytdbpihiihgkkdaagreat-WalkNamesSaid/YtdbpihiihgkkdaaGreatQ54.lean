/- Shallow functions, by program (gen.py). -/
import Derived.Test.YtdbpihiihgkkdaaGreatQ53
import Derived.Test.YtdbpihiihgkkdaaGreatProg
import Derived.KernelRfl
noncomputable section
namespace Go.Eng.Sh
open Go.Proofs
set_option maxRecDepth 100000
set_option linter.all false
def s153 (D : Dyn) (n : Nat) : Tb := ⟨X, [(221, f221 D n)]⟩
def f153j0 (D : Dyn) (n : Nat) (vs : List AV) (H : AH) : Rs :=
  hd vs fun x0_3 vs => hd vs fun x1_3 vs => hd vs fun x9_3 vs => hd vs fun x10_3 vs => hd vs fun x11_2 vs => 
  bV (bInt .add x11_2 (.int .i64 (.ofNat 1))) fun x34 => 
  some (.norm [x0_3, x1_3, x9_3, x10_3, x34], H)
def f153l1 (D : Dyn) (n : Nat) (vs : List AV) (H : AH) : Rs :=
  hd vs fun x0_2 vs => hd vs fun x1_2 vs => hd vs fun x9_2 vs => hd vs fun x10_2 vs => hd vs fun x11 vs => 
  bV (bInt .lss x11 x10_2) fun x12 => 
  cnd x12 (bV (ixSl 513 x9_2 x11) fun x14 => 
  bV (ldN 513 x14 H) fun x15 => 
  bA (bxV 284 (.agg ([(.int .i64 (.ofNat 0))] ++ rep 512 [(.int .u8 (.ofNat 0))]))) H fun x5 H => 
  bR (stN 513 x5 x15 H) fun x9999 H => 
  bV (lnSl x1_2) fun x18 => 
  bV (bInt .lss x11 x18) fun x19 => 
  jn (wnt x19 true (bV (ixSl 1 x1_2 x11) fun x23 => 
  bV (ld1 x23 H) fun x24 => 
  some (.norm [x24], H)) (some (.norm [undefA], H))) fun vs H => hd vs fun x24_2 vs => 
  bV (pk3 (some x19) (some x24_2) (some (.bool false))) fun x25 => 
  jn (cnd x25 (bV (pNil x0_2) fun x27 => 
  bV (fAd 1 x27) fun x28 => 
  bV (ld1 x28 H) fun x29 => 
  bV (fAd 0 x5) fun x30 => 
  bV (ld1 x30 H) fun x31 => 
  bV (fAd 1 x5) fun x32 => 
  bV (ldN 512 x32 H) fun x33 => 
  bR (upM [6] x29 x31 x33 H) fun x9999_2 H => 
  some (.norm [x0_2, x1_2, x9_2, x10_2, x11], H))
  (some (.norm [x0_2, x1_2, x9_2, x10_2, x11], H))) (f153j0 D n))
  (some (.exit 0 [x0_2], H))
def f153b2 (D : Dyn) (n : Nat) (vs : List AV) (H : AH) : Rs :=
  hd vs fun x0_4 vs => 
  bR (f221 D n [x0_4] H) fun x36 H => 
  bV (pNil x0_4) fun x39 => 
  bV (fAd 4 x39) fun x40 => 
  bR (stN 1 x40 (.int .i64 (.ofNat 0)) H) fun x9999_3 H => 
  bV (pNil x0_4) fun x41 => 
  bV (fAd 5 x41) fun x42 => 
  bR (stN 1 x42 .nilSlice H) fun x9999_4 H => 
  bV (pNil x0_4) fun x44 => 
  bV (fAd 6 x44) fun x45 => 
  bR (stN 1 x45 (.bool true) H) fun x9999_5 H => 
  some (.ret (.tuple []), H)
/-- (*jetty/disk.Disk).fail -/
def f153 (D : Dyn) (n : Nat) (vs : List AV) (H : AH) : Option (AV × AH) :=
  outR (hd vs fun x0 vs => hd vs fun x1 vs => nl vs <|
  bV (pNil x0) fun x7 => 
  bV (fAd 2 x7) fun x8 => 
  bV (ld1 x8 H) fun x9 => 
  bV (lnSl x9) fun x10 => 
  jb 0 (loopK n (f153l1 D n) [x0, x1, x9, x10, (.int .i64 (.ofNat 0))] H) (f153b2 D n))
def h153 : Hint := (.s (.s .o (.b [0] (.l [0, 1, 9, 10, 11] (.s .o (.s (.cr .o .o) (.s (.b0 (.s .o (.s .o (.c [0, 1, 9, 10, 11] .o .o)))) .o)))))) (.s .o (.s .o .o)))
theorem f153_eq (D : Dyn) (n : Nat) : f153 D n = funK (s153 D n) D n 153 Tryz.f153 h153 := by kernel_rfl
theorem f153_ok {D : Dyn} (hD : DG D) (n : Nat) : FI 153 (f153 D n) := fun_ok X_ok hD (SOk.cons (f221_ok hD n).fs (SOk.nil)) Tryz.func153 (by kernel_rfl) (f153_eq D n)

def s209 (D : Dyn) (n : Nat) : Tb := ⟨X, [(153, f153 D n)]⟩
/-- (*jetty/disk.Disk).count -/
def f209 (D : Dyn) (n : Nat) (vs : List AV) (H : AH) : Option (AV × AH) :=
  outR (hd vs fun x0 vs => nl vs <|
  bV (pNil x0) fun x4 => 
  bV (fAd 4 x4) fun x5 => 
  bV (ld1 x5 H) fun x6 => 
  bV (bInt .eql x6 (.int .i64 (.ofNat 0))) fun x7 => 
  cnd x7 (bV (some (.int .i64 (.ofNat 0))) fun x2 => some (.ret x2, H))
  (bV (pNil x0) fun x9 => 
  bV (fAd 4 x9) fun x10 => 
  bV (ld1 x10 H) fun x11 => 
  bV (bInt .sub x11 (.int .i64 (.ofNat 1))) fun x12 => 
  bV (pNil x0) fun x13 => 
  bV (fAd 4 x13) fun x14 => 
  bR (stN 1 x14 x12 H) fun x9999 H => 
  bV (pNil x0) fun x16 => 
  bV (fAd 4 x16) fun x17 => 
  bV (ld1 x17 H) fun x18 => 
  bV (bInt .gtr x18 (.int .i64 (.ofNat 0))) fun x19 => 
  cnd x19 (bV (some (.int .i64 (.ofNat 0))) fun x2_2 => some (.ret x2_2, H))
  (bV (pNil x0) fun x22 => 
  bV (fAd 5 x22) fun x23 => 
  bV (ld1 x23 H) fun x24 => 
  bR (f153 D n [x0, x24] H) fun x25 H => 
  bV (some (.int .i64 (.ofNat 51))) fun x2_3 => some (.ret x2_3, H))))
def h209 : Hint := (.s .o (.s (.s .o (.cl (.s .o .o) .o)) (.s .o (.s (.s .o (.cl (.s .o .o) .o)) (.s .o (.s .o .o))))))
theorem f209_eq (D : Dyn) (n : Nat) : f209 D n = funK (s209 D n) D n 209 Tryz.f209 h209 := by kernel_rfl
theorem f209_ok {D : Dyn} (hD : DG D) (n : Nat) : FI 209 (f209 D n) := fun_ok X_ok hD (SOk.cons (f153_ok hD n).fs (SOk.nil)) Tryz.func209 (by kernel_rfl) (f209_eq D n)

def s118 (D : Dyn) (n : Nat) : Tb := ⟨X, [(208, f208 D n), (209, f209 D n)]⟩
/-- (*jetty/disk.Disk).Write -/
def f118 (D : Dyn) (n : Nat) (vs : List AV) (H : AH) : Option (AV × AH) :=
  outR (hd vs fun x0 vs => hd vs fun x1 vs => hd vs fun x2 vs => nl vs <|
  bA (bxV 164 x2) H fun x5 H => 
  bR (f208 D n [x0, x1] H) fun x10 H => 
  bV (bInt .neq x10 (.int .i64 (.ofNat 0))) fun x12 => 
  cnd x12 (bV (some x10) fun x6 => some (.ret x6, H))
  (bV (pNil x0) fun x15 => 
  bV (fAd 3 x15) fun x16 => 
  bV (ld1 x16 H) fun x17 => 
  bV (pNil x0) fun x20 => 
  bV (fAd 2 x20) fun x21 => 
  bV (ld1 x21 H) fun x22 => 
  bV (lnSl x22) fun x23 => 
  bR (upM [6] x17 x1 x23 H) fun x9999 H => 
  bV (pNil x0) fun x26 => 
  bV (fAd 2 x26) fun x27 => 
  bV (ld1 x27 H) fun x28 => 
  bV (ldN 512 x5 H) fun x30 => 
  bV (bldS [(0, 1), (1, 512)] ([(.int .i64 (.ofNat 0))] ++ rep 512 [(.int .u8 (.ofNat 0))]) [(0, x1), (1, x30)]) fun x31 => 
  bA (bldL 284 513 1 ([(.int .i64 (.ofNat 0))] ++ rep 512 [(.int .u8 (.ofNat 0))]) [(0, x31)]) H fun x32 H => 
  bR (apP 284 513 520 x28 x32 H) fun x33 H => 
  bV (pNil x0) fun x34 => 
  bV (fAd 2 x34) fun x35 => 
  bR (stN 1 x35 x33 H) fun x9999_2 H => 
  bR (f209 D n [x0] H) fun x37 H => 
  bV (some x37) fun x6_2 => some (.ret x6_2, H)))
def h118 : Hint := (.s .o (.s (.s .o (.s .o (.cl (.s .o .o) .o))) (.s .o (.s .o (.s .o .o)))))
theorem f118_eq (D : Dyn) (n : Nat) : f118 D n = funK (s118 D n) D n 118 Tryz.f118 h118 := by kernel_rfl
theorem f118_ok {D : Dyn} (hD : DG D) (n : Nat) : FI 118 (f118 D n) := fun_ok X_ok hD (SOk.cons (f208_ok hD n).fs (SOk.cons (f209_ok hD n).fs (SOk.nil))) Tryz.func118 (by kernel_rfl) (f118_eq D n)

def s121 (D : Dyn) (n : Nat) : Tb := ⟨X, [(210, f210 D n), (211, f211 D n)]⟩
/-- jetty/block.To -/
def f121 (D : Dyn) (n : Nat) (vs : List AV) (H : AH) : Option (AV × AH) :=
  outR (hd vs fun x0 vs => hd vs fun x1 vs => nl vs <|
  bA (bxV 164 x1) H fun x3 H => 
  bA (bxV 52 (.agg [(.int .i64 (.ofNat 0)), (.int .i64 (.ofNat 0)), (.int .u64 (.ofNat 0))])) H fun x4 H => 
  bV (ldN 512 x3 H) fun x11 => 
  bR (f210 D n [x11] H) fun x12 H => 
  bV (pExtract x12 0) fun x13 => 
  bV (pExtract x12 1) fun x14 => 
  bV (pExtract x12 2) fun x15 => 
  bV (pExtract x12 3) fun x16 => 
  bV (bInt .neq x16 (.int .i64 (.ofNat 0))) fun x18 => 
  cnd x18 (bV (bldS [(0, 1), (1, 1), (2, 1)] [(.int .i64 (.ofNat 0)), (.int .i64 (.ofNat 0)), (.int .u64 (.ofNat 0))] []) fun x19 => 
  bR (stN 3 x4 x19 H) fun x9999 H => 
  bV (ldN 3 x4 H) fun x9004 => bV (some x16) fun x5 => some (.ret (.tuple [x9004, x5]), H))
  (bV (bInt .lss x0 (.int .i64 (.ofNat 1))) fun x22 => 
  jn (wnt x22 false (bV (bInt .geq x0 (.int .i64 (.ofNat 8192))) fun x25 => 
  some (.norm [x25], H)) (some (.norm [undefA], H))) fun vs H => hd vs fun x25_2 vs => 
  bV (pk3 (some x22) (some (.bool true)) (some x25_2)) fun x26 => 
  cnd x26 (bV (bldS [(0, 1), (1, 1), (2, 1)] [(.int .i64 (.ofNat 0)), (.int .i64 (.ofNat 0)), (.int .u64 (.ofNat 0))] []) fun x27 => 
  bR (stN 3 x4 x27 H) fun x9999_2 H => 
  bV (ldN 3 x4 H) fun x9004_2 => bV (some (.int .i64 (.ofNat 1))) fun x5_2 => some (.ret (.tuple [x9004_2, x5_2]), H))
  (bV (ldN 512 x3 H) fun x30 => 
  bR (f211 D n [x30] H) fun x31 H => 
  bV (bldS [(0, 1), (1, 1), (2, 1)] [(.int .i64 (.ofNat 0)), (.int .i64 (.ofNat 0)), (.int .u64 (.ofNat 0))] [(0, x0), (1, x14), (2, x31)]) fun x32 => 
  bR (stN 3 x4 x32 H) fun x9999_3 H => 
  bV (ldN 3 x4 H) fun x9004_3 => bV (some (.int .i64 (.ofNat 0))) fun x5_3 => some (.ret (.tuple [x9004_3, x5_3]), H))))
def h121 : Hint := (.s .o (.s .o (.s (.s .o (.cl (.s .o .o) .o)) (.s (.s .o (.cl (.s .o .o) .o)) (.s .o .o)))))
theorem f121_eq (D : Dyn) (n : Nat) : f121 D n = funK (s121 D n) D n 121 Tryz.f121 h121 := by kernel_rfl
theorem f121_ok {D : Dyn} (hD : DG D) (n : Nat) : FI 121 (f121 D n) := fun_ok X_ok hD (SOk.cons (f210_ok hD n).fs (SOk.cons (f211_ok hD n).fs (SOk.nil))) Tryz.func121 (by kernel_rfl) (f121_eq D n)

def s197 (D : Dyn) (n : Nat) : Tb := ⟨X, [(115, f115 D n), (118, f118 D n), (121, f121 D n)]⟩
/-- (*jetty/tree.writer).put -/
def f197 (D : Dyn) (n : Nat) (vs : List AV) (H : AH) : Option (AV × AH) :=
  outR (hd vs fun x0 vs => hd vs fun x1 vs => nl vs <|
  bA (bxV 164 x1) H fun x3 H => 
  bA (bxV 52 (.agg [(.int .i64 (.ofNat 0)), (.int .i64 (.ofNat 0)), (.int .u64 (.ofNat 0))])) H fun x4 H => 
  bV (pNil x0) fun x11 => 
  bV (fAd 1 x11) fun x12 => 
  bV (ld1 x12 H) fun x13 => 
  bR (f115 D n [x13] H) fun x14 H => 
  bV (pExtract x14 0) fun x15 => 
  bV (pExtract x14 1) fun x16 => 
  bV (bInt .neq x16 (.int .i64 (.ofNat 0))) fun x18 => 
  cnd x18 (bV (bldS [(0, 1), (1, 1), (2, 1)] [(.int .i64 (.ofNat 0)), (.int .i64 (.ofNat 0)), (.int .u64 (.ofNat 0))] []) fun x19 => 
  bR (stN 3 x4 x19 H) fun x9999 H => 
  bV (ldN 3 x4 H) fun x9004 => bV (some x16) fun x5 => some (.ret (.tuple [x9004, x5]), H))
  (bV (pNil x0) fun x23 => 
  bV (fAd 4 x23) fun x24 => 
  bV (ld1 x24 H) fun x25 => 
  bA (bldL 3 1 1 [(.int .i64 (.ofNat 0))] [(0, x15)]) H fun x27 H => 
  bR (apP 3 1 8 x25 x27 H) fun x28 H => 
  bV (pNil x0) fun x29 => 
  bV (fAd 4 x29) fun x30 => 
  bR (stN 1 x30 x28 H) fun x9999_2 H => 
  bV (pNil x0) fun x32 => 
  bV (fAd 0 x32) fun x33 => 
  bV (ld1 x33 H) fun x34 => 
  bV (pNil x34) fun x35 => 
  bV (fAd 0 x35) fun x36 => 
  bV (ld1 x36 H) fun x37 => 
  bV (ldN 512 x3 H) fun x39 => 
  bR (f118 D n [x37, x15, x39] H) fun x40 H => 
  bV (bInt .neq x40 (.int .i64 (.ofNat 0))) fun x42 => 
  cnd x42 (bV (bldS [(0, 1), (1, 1), (2, 1)] [(.int .i64 (.ofNat 0)), (.int .i64 (.ofNat 0)), (.int .u64 (.ofNat 0))] []) fun x43 => 
  bR (stN 3 x4 x43 H) fun x9999_3 H => 
  bV (ldN 3 x4 H) fun x9004_2 => bV (some x40) fun x5_2 => some (.ret (.tuple [x9004_2, x5_2]), H))
  (bV (pNil x0) fun x47 => 
  bV (fAd 5 x47) fun x48 => 
  bV (ld1 x48 H) fun x49 => 
  bV (ldN 512 x3 H) fun x51 => 
  bV (bldS [(0, 1), (1, 512)] ([(.int .i64 (.ofNat 0))] ++ rep 512 [(.int .u8 (.ofNat 0))]) [(0, x15), (1, x51)]) fun x52 => 
  bA (bldL 166 513 1 ([(.int .i64 (.ofNat 0))] ++ rep 512 [(.int .u8 (.ofNat 0))]) [(0, x52)]) H fun x53 H => 
  bR (apP 166 513 520 x49 x53 H) fun x54 H => 
  bV (pNil x0) fun x55 => 
  bV (fAd 5 x55) fun x56 => 
  bR (stN 1 x56 x54 H) fun x9999_4 H => 
  bV (ldN 512 x3 H) fun x58 => 
  bR (f121 D n [x15, x58] H) fun x59 H => 
  bV (pExtract x59 0) fun x60 => 
  bV (pExtract x59 1) fun x61 => 
  bR (stN 3 x4 x60 H) fun x9999_5 H => 
  bV (ldN 3 x4 H) fun x9004_3 => bV (some x61) fun x5_3 => some (.ret (.tuple [x9004_3, x5_3]), H))))
def h197 : Hint := (.s .o (.s .o (.s (.s .o (.cl (.s .o .o) .o)) (.s .o (.s (.s .o (.s .o (.cl (.s .o .o) .o))) (.s .o (.s .o .o)))))))
theorem f197_eq (D : Dyn) (n : Nat) : f197 D n = funK (s197 D n) D n 197 Tryz.f197 h197 := by kernel_rfl
theorem f197_ok {D : Dyn} (hD : DG D) (n : Nat) : FI 197 (f197 D n) := fun_ok X_ok hD (SOk.cons (f115_ok hD n).fs (SOk.cons (f118_ok hD n).fs (SOk.cons (f121_ok hD n).fs (SOk.nil)))) Tryz.func197 (by kernel_rfl) (f197_eq D n)

def s106 (D : Dyn) (n : Nat) : Tb := ⟨X, [(90, f90 D n), (196, f196 D n), (120, f120 D n), (197, f197 D n)]⟩
def f106l0 (D : Dyn) (n : Nat) (vs : List AV) (H : AH) : Rs :=
  hd vs fun x0_2 vs => hd vs fun x4_2 vs => hd vs fun x6_2 vs => hd vs fun x8 vs => hd vs fun x49_2 vs => hd vs fun x50_2 vs => hd vs fun x51 vs => 
  bV (bInt .lss x51 x50_2) fun x52 => 
  cnd x52 (bV (ixSl 3 x49_2 x51) fun x54 => 
  bV (ldN 3 x54 H) fun x55 => 
  bA (bxV 52 (.agg [(.int .i64 (.ofNat 0)), (.int .i64 (.ofNat 0)), (.int .u64 (.ofNat 0))])) H fun x10 H => 
  bR (stN 3 x10 x55 H) fun x9999_6 H => 
  bV (ldN 3 x10 H) fun x60 => 
  bR (D.fn 106 [x0_2, x60] H) fun x61 H => 
  bV (pExtract x61 0) fun x62 => 
  bV (pExtract x61 1) fun x63 => 
  bV (ixSl 3 x8 x51) fun x64 => 
  bR (stN 3 x64 x62 H) fun x9999_7 H => 
  bV (bInt .neq x63 (.int .i64 (.ofNat 0))) fun x66 => 
  cnd x66 (bV (bldS [(0, 1), (1, 1), (2, 1)] [(.int .i64 (.ofNat 0)), (.int .i64 (.ofNat 0)), (.int .u64 (.ofNat 0))] []) fun x67 => 
  bR (stN 3 x4_2 x67 H) fun x9999_8 H => 
  bV (ldN 3 x4_2 H) fun x9004_4 => bV (some x63) fun x5_4 => some (.ret (.tuple [x9004_4, x5_4]), H))
  (bV (bInt .add x51 (.int .i64 (.ofNat 1))) fun x69 => 
  some (.norm [x0_2, x4_2, x6_2, x8, x49_2, x50_2, x69], H)))
  (some (.exit 0 [x0_2, x4_2, x6_2, x8], H))
def f106j1 (D : Dyn) (n : Nat) (vs : List AV) (H : AH) : Rs :=
  hd vs fun x0_4 vs => hd vs fun x4_4 vs => hd vs fun x6_4 vs => hd vs fun x11 vs => 
  bV (ldN 4 x6_4 H) fun x75 => 
  bR (f196 D n [x75] H) fun x76 H => 
  bV (pExtract x76 0) fun x77 => 
  bV (pExtract x76 1) fun x78 => 
  bV (bInt .neq x78 (.int .i64 (.ofNat 0))) fun x80 => 
  cnd x80 (bV (bldS [(0, 1), (1, 1), (2, 1)] [(.int .i64 (.ofNat 0)), (.int .i64 (.ofNat 0)), (.int .u64 (.ofNat 0))] []) fun x81 => 
  bR (stN 3 x4_4 x81 H) fun x9999_10 H => 
  bV (ldN 3 x4_4 H) fun x9004_5 => bV (some x78) fun x5_5 => some (.ret (.tuple [x9004_5, x5_5]), H))
  (bV (pNil x0_4) fun x86 => 
  bV (fAd 2 x86) fun x87 => 
  bV (ld1 x87 H) fun x88 => 
  bR (f120 D n [x11, x88, x77] H) fun x90 H => 
  bV (pExtract x90 0) fun x91 => 
  bV (pExtract x90 1) fun x92 => 
  bA (bxV 164 (.agg (rep 512 [(.int .u8 (.ofNat 0))]))) H fun x13 H => 
  bR (stN 512 x13 x91 H) fun x9999_11 H => 
  bV (bInt .neq x92 (.int .i64 (.ofNat 0))) fun x94 => 
  cnd x94 (bV (bldS [(0, 1), (1, 1), (2, 1)] [(.int .i64 (.ofNat 0)), (.int .i64 (.ofNat 0)), (.int .u64 (.ofNat 0))] []) fun x95 => 
  bR (stN 3 x4_4 x95 H) fun x9999_12 H => 
  bV (ldN 3 x4_4 H) fun x9004_6 => bV (some x92) fun x5_6 => some (.ret (.tuple [x9004_6, x5_6]), H))
  (bV (ldN 512 x13 H) fun x98 => 
  bR (f197 D n [x0_4, x98] H) fun x99 H => 
  bV (pExtract x99 0) fun x100 => 
  bV (pExtract x99 1) fun x101 => 
  bR (stN 3 x4_4 x100 H) fun x9999_13 H => 
  bV (ldN 3 x4_4 H) fun x9004_7 => bV (some x101) fun x5_7 => some (.ret (.tuple [x9004_7, x5_7]), H)))
def f106b2 (D : Dyn) (n : Nat) (vs : List AV) (H : AH) : Rs :=
  hd vs fun x0_3 vs => hd vs fun x4_3 vs => hd vs fun x6_3 vs => hd vs fun x8_2 vs => 
  bV (fAd 3 x6_3) fun x71 => 
  bR (stN 1 x71 x8_2 H) fun x9999_9 H => 
  bV (fAd 0 x6_3) fun x72 => 
  bV (ld1 x72 H) fun x73 => 
  jn (cnd x73 (some (.norm [x0_3, x4_3, x6_3, (.int .u8 (.ofNat 1))], H))
  (some (.norm [x0_3, x4_3, x6_3, (.int .u8 (.ofNat 2))], H))) (f106j1 D n)
/-- (*jetty/tree.writer).node -/
def f106 (D : Dyn) (n : Nat) (vs : List AV) (H : AH) : Option (AV × AH) :=
  outR (hd vs fun x0 vs => hd vs fun x1 vs => nl vs <|
  bA (bxV 52 x1) H fun x3 H => 
  bA (bxV 52 (.agg [(.int .i64 (.ofNat 0)), (.int .i64 (.ofNat 0)), (.int .u64 (.ofNat 0))])) H fun x4 H => 
  bV (fAd 0 x3) fun x14 => 
  bV (ld1 x14 H) fun x15 => 
  bV (bInt .neq x15 (.int .i64 (.ofNat 1))) fun x16 => 
  cnd x16 (bV (ldN 3 x3 H) fun x17 => 
  bR (stN 3 x4 x17 H) fun x9999 H => 
  bV (ldN 3 x4 H) fun x9004 => bV (some (.int .i64 (.ofNat 0))) fun x5 => some (.ret (.tuple [x9004, x5]), H))
  (bV (pNil x0) fun x19 => 
  bV (fAd 3 x19) fun x20 => 
  bV (ld1 x20 H) fun x21 => 
  bV (bInt .sub x21 (.int .i64 (.ofNat 1))) fun x22 => 
  bV (pNil x0) fun x23 => 
  bV (fAd 3 x23) fun x24 => 
  bR (stN 1 x24 x22 H) fun x9999_2 H => 
  bV (pNil x0) fun x26 => 
  bV (fAd 3 x26) fun x27 => 
  bV (ld1 x27 H) fun x28 => 
  bV (bInt .lss x28 (.int .i64 (.ofNat 0))) fun x29 => 
  cnd x29 (bV (bldS [(0, 1), (1, 1), (2, 1)] [(.int .i64 (.ofNat 0)), (.int .i64 (.ofNat 0)), (.int .u64 (.ofNat 0))] []) fun x30 => 
  bR (stN 3 x4 x30 H) fun x9999_3 H => 
  bV (ldN 3 x4 H) fun x9004_2 => bV (some (.int .i64 (.ofNat 4))) fun x5_2 => some (.ret (.tuple [x9004_2, x5_2]), H))
  (bV (pNil x0) fun x33 => 
  bV (fAd 0 x33) fun x34 => 
  bV (ld1 x34 H) fun x35 => 
  bV (ldN 3 x3 H) fun x36 => 
  bA (bxV 57 (.agg [(.bool false), .nilSlice, .nilSlice, .nilSlice])) H fun x6 H => 
  bR (f90 D n [x35, x36] H) fun x37 H => 
  bV (pExtract x37 0) fun x38 => 
  bV (pExtract x37 1) fun x39 => 
  bR (stN 4 x6 x38 H) fun x9999_4 H => 
  bV (bInt .neq x39 (.int .i64 (.ofNat 0))) fun x41 => 
  cnd x41 (bV (bldS [(0, 1), (1, 1), (2, 1)] [(.int .i64 (.ofNat 0)), (.int .i64 (.ofNat 0)), (.int .u64 (.ofNat 0))] []) fun x42 => 
  bR (stN 3 x4 x42 H) fun x9999_5 H => 
  bV (ldN 3 x4 H) fun x9004_3 => bV (some x39) fun x5_3 => some (.ret (.tuple [x9004_3, x5_3]), H))
  (bV (fAd 3 x6) fun x44 => 
  bV (ld1 x44 H) fun x45 => 
  bV (lnSl x45) fun x46 => 
  bA (mkSl 52 3 24 [(.int .i64 (.ofNat 0)), (.int .i64 (.ofNat 0)), (.int .u64 (.ofNat 0))] x46 x46) H fun x47 H => 
  bV (fAd 3 x6) fun x48 => 
  bV (ld1 x48 H) fun x49 => 
  bV (lnSl x49) fun x50 => 
  jb 0 (loopK n (f106l0 D n) [x0, x4, x6, x47, x49, x50, (.int .i64 (.ofNat 0))] H) (f106b2 D n)))))
def h106 : Hint := (.s .o (.s (.s .o (.cl (.s .o .o) .o)) (.s (.s .o (.s .o (.cl (.s .o .o) .o))) (.s .o (.s (.s .o (.cl (.s .o .o) .o)) (.s .o (.s (.s .o (.b [0, 4, 6, 8] (.l [0, 4, 6, 8, 49, 50, 51] (.s .o (.s (.cr .o .o) (.s (.b0 (.s .o (.s .o (.s .o (.cl (.s .o .o) .o))))) .o)))))) (.s .o (.s .o (.s (.s .o (.c [0, 4, 6, 11] .o .o)) (.s .o (.s (.s .o (.cl (.s .o .o) .o)) (.s .o (.s (.s .o (.cl (.s .o .o) .o)) (.s .o .o)))))))))))))))
theorem f106_eq (D : Dyn) (n : Nat) : f106 D n = funK (s106 D n) D n 106 Tryz.f106 h106 := by kernel_rfl
theorem f106_ok {D : Dyn} (hD : DG D) (n : Nat) : FI 106 (f106 D n) := fun_ok X_ok hD (SOk.cons (f90_ok hD n).fs (SOk.cons (f196_ok hD n).fs (SOk.cons (f120_ok hD n).fs (SOk.cons (f197_ok hD n).fs (SOk.nil))))) Tryz.func106 (by kernel_rfl) (f106_eq D n)

def s198 (D : Dyn) (n : Nat) : Tb := ⟨X, []⟩
/-- (*jetty/space.Space).ask -/
def f198 (D : Dyn) (n : Nat) (vs : List AV) (H : AH) : Option (AV × AH) :=
  outR (hd vs fun x0 vs => hd vs fun x1 vs => nl vs <|
  bV (cmpO .eql (eqP x0 .nilPtr)) fun x6 => 
  cnd x6 (bV (some (.int .i64 (.ofNat 2))) fun x4 => some (.ret x4, H))
  (bV (bInt .lss x1 (.int .i64 (.ofNat 2))) fun x8 => 
  jn (wnt x8 false (bV (pNil x0) fun x12 => 
  bV (fAd 0 x12) fun x13 => 
  bV (ld1 x13 H) fun x14 => 
  bV (bInt .geq x1 x14) fun x15 => 
  some (.norm [x15], H)) (some (.norm [undefA], H))) fun vs H => hd vs fun x15_2 vs => 
  bV (pk3 (some x8) (some (.bool true)) (some x15_2)) fun x16 => 
  cnd x16 (bV (some (.int .i64 (.ofNat 1))) fun x4_2 => some (.ret x4_2, H))
  (bV (some (.int .i64 (.ofNat 0))) fun x4_3 => some (.ret x4_3, H))))
def h198 : Hint := (.s .o (.s (.s .o (.cl (.s .o .o) .o)) (.s (.s .o (.cl (.s .o .o) .o)) (.s .o .o))))
theorem f198_eq (D : Dyn) (n : Nat) : f198 D n = funK (s198 D n) D n 198 Tryz.f198 h198 := by kernel_rfl
theorem f198_ok {D : Dyn} (hD : DG D) (n : Nat) : FI 198 (f198 D n) := fun_ok X_ok hD (SOk.nil) Tryz.func198 (by kernel_rfl) (f198_eq D n)

def s107 (D : Dyn) (n : Nat) : Tb := ⟨X, [(198, f198 D n), (101, f101 D n)]⟩
def f107j0 (D : Dyn) (n : Nat) (vs : List AV) (H : AH) : Rs :=
  
  bV (some (.int .i64 (.ofNat 0))) fun x4_3 => some (.ret x4_3, H)
/-- (*jetty/space.Space).Give -/
def f107 (D : Dyn) (n : Nat) (vs : List AV) (H : AH) : Option (AV × AH) :=
  outR (hd vs fun x0 vs => hd vs fun x1 vs => nl vs <|
  bR (f198 D n [x0, x1] H) fun x8 H => 
  bV (bInt .neq x8 (.int .i64 (.ofNat 0))) fun x10 => 
  cnd x10 (bV (some x8) fun x4 => some (.ret x4, H))
  (bV (pNil x0) fun x14 => 
  bV (fAd 2 x14) fun x15 => 
  bV (ixArr 8192 1 x15 x1) fun x16 => 
  bV (ld1 x16 H) fun x17 => 
  bV (bInt .eql x17 (.int .u8 (.ofNat 2))) fun x19 => 
  jn (cnd x19 (bR (f101 D n [x0, x1, (.int .u8 (.ofNat 0))] H) fun x22 H => 
  some (.norm [], H))
  (bV (bInt .eql x17 (.int .u8 (.ofNat 1))) fun x24 => 
  cnd x24 (bR (f101 D n [x0, x1, (.int .u8 (.ofNat 3))] H) fun x27 H => 
  some (.norm [], H))
  (bV (some (.int .i64 (.ofNat 5))) fun x4_2 => some (.ret x4_2, H)))) (f107j0 D n)))
def h107 : Hint := (.s .o (.s (.s .o (.s .o (.cl (.s .o .o) .o))) (.s (.s .o (.b0 (.s .o (.c [] .o (.s .o (.cr .o (.s .o .o))))))) (.s .o .o))))
theorem f107_eq (D : Dyn) (n : Nat) : f107 D n = funK (s107 D n) D n 107 Tryz.f107 h107 := by kernel_rfl
theorem f107_ok {D : Dyn} (hD : DG D) (n : Nat) : FI 107 (f107 D n) := fun_ok X_ok hD (SOk.cons (f198_ok hD n).fs (SOk.cons (f101_ok hD n).fs (SOk.nil))) Tryz.func107 (by kernel_rfl) (f107_eq D n)

def s26 (D : Dyn) (n : Nat) : Tb := ⟨X, [(88, f88 D n), (105, f105 D n), (106, f106 D n), (107, f107 D n), (108, f108 D n)]⟩
def f26l0 (D : Dyn) (n : Nat) (vs : List AV) (H : AH) : Rs :=
  hd vs fun x1_2 vs => hd vs fun x6_2 vs => hd vs fun x11 vs => hd vs fun x64_2 vs => hd vs fun x65_2 vs => hd vs fun x66 vs => 
  bV (bInt .lss x66 x65_2) fun x67 => 
  cnd x67 (bV (ixSl 1 x64_2 x66) fun x68 => 
  bV (ld1 x68 H) fun x69 => 
  bR (f107 D n [x1_2, x69] H) fun x72 H => 
  bV (bInt .add x66 (.int .i64 (.ofNat 1))) fun x73 => 
  some (.norm [x1_2, x6_2, x11, x64_2, x65_2, x73], H))
  (some (.exit 0 [x6_2, x11], H))
def f26b1 (D : Dyn) (n : Nat) (vs : List AV) (H : AH) : Rs :=
  hd vs fun x6_3 vs => hd vs fun x11_2 vs => 
  bV (bldS [(0, 1), (1, 1), (2, 1)] [(.int .i64 (.ofNat 0)), (.int .i64 (.ofNat 0)), (.int .u64 (.ofNat 0))] []) fun x74 => 
  bR (stN 3 x6_3 x74 H) fun x9999_5 H => 
  bV (ldN 3 x6_3 H) fun x9006_4 => bV (some .nilSlice) fun x7_4 => bV (some x11_2) fun x8_4 => some (.ret (.tuple [x9006_4, x7_4, x8_4]), H)
def f26l2 (D : Dyn) (n : Nat) (vs : List AV) (H : AH) : Rs :=
  hd vs fun x0_2 vs => hd vs fun x6_4 vs => hd vs fun x10_2 vs => hd vs fun x84_2 vs => hd vs fun x85_2 vs => hd vs fun x86 vs => 
  bV (bInt .lss x86 x85_2) fun x87 => 
  cnd x87 (bV (ixSl 513 x84_2 x86) fun x88 => 
  bV (ldN 513 x88 H) fun x89 => 
  bA (bxV 166 (.agg ([(.int .i64 (.ofNat 0))] ++ rep 512 [(.int .u8 (.ofNat 0))]))) H fun x15 H => 
  bR (stN 513 x15 x89 H) fun x9999_6 H => 
  bV (pNil x0_2) fun x91 => 
  bV (fAd 1 x91) fun x92 => 
  bV (ld1 x92 H) fun x93 => 
  bV (fAd 0 x15) fun x94 => 
  bV (ld1 x94 H) fun x95 => 
  bV (fAd 1 x15) fun x96 => 
  bV (ldN 512 x96 H) fun x97 => 
  bR (f108 D n [x93, x95, x97] H) fun x98 H => 
  bV (bInt .add x86 (.int .i64 (.ofNat 1))) fun x99 => 
  some (.norm [x0_2, x6_4, x10_2, x84_2, x85_2, x99], H))
  (some (.exit 2 [x0_2, x6_4, x10_2], H))
def f26b3 (D : Dyn) (n : Nat) (vs : List AV) (H : AH) : Rs :=
  hd vs fun x0_3 vs => hd vs fun x6_5 vs => hd vs fun x10_3 vs => 
  some (.norm [x0_3, x6_5, x10_3], H)
def f26j4 (D : Dyn) (n : Nat) (vs : List AV) (H : AH) : Rs :=
  hd vs fun x0_4 vs => hd vs fun x6_6 vs => hd vs fun x10_4 vs => 
  bV (pNil x0_4) fun x101 => 
  bV (fAd 7 x101) fun x102 => 
  bV (ld1 x102 H) fun x103 => 
  bV (ldN 3 x10_4 H) fun x106 => 
  bV (pNil x0_4) fun x107 => 
  bV (fAd 2 x107) fun x108 => 
  bR (stN 3 x108 x106 H) fun x9999_7 H => 
  bV (pNil x0_4) fun x109 => 
  bV (fAd 7 x109) fun x110 => 
  bR (stN 1 x110 .nilSlice H) fun x9999_8 H => 
  bA (mkM [10]) H fun x112 H => 
  bV (pNil x0_4) fun x113 => 
  bV (fAd 5 x113) fun x114 => 
  bR (stN 1 x114 x112 H) fun x9999_9 H => 
  bV (ldN 3 x10_4 H) fun x115 => 
  bR (stN 3 x6_6 x115 H) fun x9999_10 H => 
  bV (ldN 3 x6_6 H) fun x9006_5 => bV (some x103) fun x7_5 => bV (some (.int .i64 (.ofNat 0))) fun x8_5 => some (.ret (.tuple [x9006_5, x7_5, x8_5]), H)
/-- (*jetty/tree.Tree).Write -/
def f26 (D : Dyn) (n : Nat) (vs : List AV) (H : AH) : Option (AV × AH) :=
  outR (hd vs fun x0 vs => hd vs fun x1 vs => hd vs fun x2 vs => nl vs <|
  bA (bxV 52 (.agg [(.int .i64 (.ofNat 0)), (.int .i64 (.ofNat 0)), (.int .u64 (.ofNat 0))])) H fun x6 H => 
  bR (f88 D n [x0] H) fun x18 H => 
  jn (wnt x18 false (bV (cmpO .eql (eqP x1 .nilPtr)) fun x21 => 
  some (.norm [x21], H)) (some (.norm [undefA], H))) fun vs H => hd vs fun x21_2 vs => 
  bV (pk3 (some x18) (some (.bool true)) (some x21_2)) fun x22 => 
  cnd x22 (bV (bldS [(0, 1), (1, 1), (2, 1)] [(.int .i64 (.ofNat 0)), (.int .i64 (.ofNat 0)), (.int .u64 (.ofNat 0))] []) fun x23 => 
  bR (stN 3 x6 x23 H) fun x9999 H => 
  bV (ldN 3 x6 H) fun x9006 => bV (some .nilSlice) fun x7 => bV (some (.int .i64 (.ofNat 2))) fun x8 => some (.ret (.tuple [x9006, x7, x8]), H))
  (bV (bInt .lss x2 (.int .i64 (.ofNat 1))) fun x25 => 
  jn (wnt x25 false (bV (bInt .gtr x2 (.int .i64 (.ofNat 2147483647))) fun x28 => 
  some (.norm [x28], H)) (some (.norm [undefA], H))) fun vs H => hd vs fun x28_2 vs => 
  bV (pk3 (some x25) (some (.bool true)) (some x28_2)) fun x29 => 
  cnd x29 (bV (bldS [(0, 1), (1, 1), (2, 1)] [(.int .i64 (.ofNat 0)), (.int .i64 (.ofNat 0)), (.int .u64 (.ofNat 0))] []) fun x30 => 
  bR (stN 3 x6 x30 H) fun x9999_2 H => 
  bV (ldN 3 x6 H) fun x9006_2 => bV (some .nilSlice) fun x7_2 => bV (some (.int .i64 (.ofNat 1))) fun x8_2 => some (.ret (.tuple [x9006_2, x7_2, x8_2]), H))
  (bV (pNil x0) fun x34 => 
  bV (fAd 5 x34) fun x35 => 
  bV (ld1 x35 H) fun x36 => 
  bR (f105 D n [x1] H) fun x32 H => chk (ld1 x35 H) x36 <| 
  bV (lnMap x36 H) fun x37 => 
  bV (bInt .lss x32 x37) fun x38 => 
  cnd x38 (bV (bldS [(0, 1), (1, 1), (2, 1)] [(.int .i64 (.ofNat 0)), (.int .i64 (.ofNat 0)), (.int .u64 (.ofNat 0))] []) fun x39 => 
  bR (stN 3 x6 x39 H) fun x9999_3 H => 
  bV (ldN 3 x6 H) fun x9006_3 => bV (some .nilSlice) fun x7_3 => bV (some (.int .i64 (.ofNat 3))) fun x8_3 => some (.ret (.tuple [x9006_3, x7_3, x8_3]), H))
  (bV (pNil x0) fun x44 => 
  bV (fAd 5 x44) fun x45 => 
  bV (ld1 x45 H) fun x46 => 
  bV (lnMap x46 H) fun x47 => 
  bV (bldS [(0, 1), (1, 1), (2, 1), (3, 1), (4, 1), (5, 1)] [.nilPtr, .nilPtr, (.int .i64 (.ofNat 0)), (.int .i64 (.ofNat 0)), .nilSlice, .nilSlice] [(0, x0), (1, x1), (2, x2), (3, x47)]) fun x48 => 
  bA (bxV 160 x48) H fun x49 H => 
  bV (pNil x0) fun x53 => 
  bV (fAd 2 x53) fun x54 => 
  bV (ldN 3 x54 H) fun x55 => 
  bR (f106 D n [x49, x55] H) fun x56 H => 
  bV (pExtract x56 0) fun x57 => 
  bV (pExtract x56 1) fun x58 => 
  bA (bxV 52 (.agg [(.int .i64 (.ofNat 0)), (.int .i64 (.ofNat 0)), (.int .u64 (.ofNat 0))])) H fun x10 H => 
  bR (stN 3 x10 x57 H) fun x9999_4 H => 
  bV (bInt .neq x58 (.int .i64 (.ofNat 0))) fun x60 => 
  cnd x60 (bV (pNil x49) fun x62 => 
  bV (fAd 4 x62) fun x63 => 
  bV (ld1 x63 H) fun x64 => 
  bV (lnSl x64) fun x65 => 
  jb 0 (loopK n (f26l0 D n) [x1, x6, x58, x64, x65, (.int .i64 (.ofNat 0))] H) (f26b1 D n))
  (bV (pNil x0) fun x77 => 
  bV (fAd 1 x77) fun x78 => 
  bV (ld1 x78 H) fun x79 => 
  bV (cmpO .neq (eqP x79 .nilPtr)) fun x80 => 
  jn (cnd x80 (bV (pNil x49) fun x82 => 
  bV (fAd 5 x82) fun x83 => 
  bV (ld1 x83 H) fun x84 => 
  bV (lnSl x84) fun x85 => 
  jb 2 (loopK n (f26l2 D n) [x0, x6, x10, x84, x85, (.int .i64 (.ofNat 0))] H) (f26b3 D n))
  (some (.norm [x0, x6, x10], H))) (f26j4 D n))))))
def h26 : Hint := (.s .o (.s (.s .o (.cl (.s .o .o) .o)) (.s (.s .o (.cl (.s .o .o) .o)) (.s (.s .o (.cl (.s .o .o) .o)) (.s .o (.s .o (.s (.s .o (.cl (.s (.s .o (.b [6, 11] (.l [1, 6, 11, 64, 65, 66] (.s .o (.s (.cr .o .o) (.s (.b0 (.s .o .o)) .o)))))) (.s .o .o)) .o)) (.s (.s .o (.c [0, 6, 10] (.s .o (.b [0, 6, 10] (.l [0, 6, 10, 84, 85, 86] (.s .o (.s (.cr .o .o) (.s (.b0 (.s .o .o)) .o)))))) .o)) (.s .o (.s .o (.s .o (.s .o .o))))))))))))
theorem f26_eq (D : Dyn) (n : Nat) : f26 D n = funK (s26 D n) D n 26 Tryz.f26 h26 := by kernel_rfl
theorem f26_ok {D : Dyn} (hD : DG D) (n : Nat) : FI 26 (f26 D n) := fun_ok X_ok hD (SOk.cons (f88_ok hD n).fs (SOk.cons (f105_ok hD n).fs (SOk.cons (f106_ok hD n).fs (SOk.cons (f107_ok hD n).fs (SOk.cons (f108_ok hD n).fs (SOk.nil)))))) Tryz.func26 (by kernel_rfl) (f26_eq D n)

def s97 (D : Dyn) (n : Nat) : Tb := ⟨X, [(88, f88 D n)]⟩
/-- (*jetty/tree.Tree).Root -/
def f97 (D : Dyn) (n : Nat) (vs : List AV) (H : AH) : Option (AV × AH) :=
  outR (hd vs fun x0 vs => nl vs <|
  bA (bxV 52 (.agg [(.int .i64 (.ofNat 0)), (.int .i64 (.ofNat 0)), (.int .u64 (.ofNat 0))])) H fun x2 H => 
  bR (f88 D n [x0] H) fun x4 H => 
  cnd x4 (bV (bldS [(0, 1), (1, 1), (2, 1)] [(.int .i64 (.ofNat 0)), (.int .i64 (.ofNat 0)), (.int .u64 (.ofNat 0))] []) fun x5 => 
  bR (stN 3 x2 x5 H) fun x9999 H => 
  bV (ldN 3 x2 H) fun x9002 => some (.ret x9002, H))
  (bV (pNil x0) fun x7 => 
  bV (fAd 2 x7) fun x8 => 
  bV (ldN 3 x8 H) fun x9 => 
  bR (stN 3 x2 x9 H) fun x9999_2 H => 
  bV (ldN 3 x2 H) fun x9002_2 => some (.ret x9002_2, H)))
def h97 : Hint := (.s .o (.s (.s .o (.cl (.s .o .o) .o)) (.s .o .o)))
theorem f97_eq (D : Dyn) (n : Nat) : f97 D n = funK (s97 D n) D n 97 Tryz.f97 h97 := by kernel_rfl
theorem f97_ok {D : Dyn} (hD : DG D) (n : Nat) : FI 97 (f97 D n) := fun_ok X_ok hD (SOk.cons (f88_ok hD n).fs (SOk.nil)) Tryz.func97 (by kernel_rfl) (f97_eq D n)

def s212 (D : Dyn) (n : Nat) : Tb := ⟨X, [(17, f17 D n), (271, f271 D n), (27, f27 D n), (272, f272 D n), (273, f273 D n), (26, f26 D n), (97, f97 D n), (22, f22 D n)]⟩
def f212j0 (D : Dyn) (n : Nat) (vs : List AV) (H : AH) : Rs :=
  hd vs fun x0_3 vs => hd vs fun x1_3 vs => hd vs fun x5_2 vs => 
  some (.norm [x0_3, x1_3, x5_2], H)
def f212j1 (D : Dyn) (n : Nat) (vs : List AV) (H : AH) : Rs :=
  hd vs fun x0_4 vs => hd vs fun x1_4 vs => hd vs fun x5_3 vs => 
  some (.norm [x0_4, x1_4, x5_3], H)
def f212j2 (D : Dyn) (n : Nat) (vs : List AV) (H : AH) : Rs :=
  hd vs fun x0_5 vs => hd vs fun x1_5 vs => hd vs fun x5_4 vs => 
  some (.norm [x0_5, x1_5, x5_4], H)
def f212b3 (D : Dyn) (n : Nat) (vs : List AV) (H : AH) : Rs :=
  hd vs fun x0_6 vs => hd vs fun x1_6 vs => hd vs fun x5_5 vs => 
  bV (bInt .add x5_5 (.int .i64 (.ofNat 1))) fun x16 => 
  some (.norm [x0_6, x1_6, x16], H)
def f212l4 (D : Dyn) (n : Nat) (vs : List AV) (H : AH) : Rs :=
  hd vs fun x0_2 vs => hd vs fun x1_2 vs => hd vs fun x5 vs => 
  bV (lnSl x1_2) fun x13 => 
  bV (bInt .lss x5 x13) fun x14 => 
  cnd x14 (jb 1 (bV (ixSl 3 x1_2 x5) fun x19 => 
  bV (ldN 3 x19 H) fun x20 => 
  bA (bxV 67 (.agg [(.int .u8 (.ofNat 0)), (.str 0 0), (.str 0 0)])) H fun x6 H => 
  bR (stN 3 x6 x20 H) fun x9999 H => 
  bV (fAd 0 x6) fun x21 => 
  bV (ld1 x21 H) fun x22 => 
  bV (bInt .eql x22 (.int .u8 (.ofNat 0))) fun x69 => 
  jn (cnd x69 (bV (pNil x0_2) fun x71 => 
  bV (fAd 0 x71) fun x72 => 
  bV (ld1 x72 H) fun x73 => 
  bV (fAd 1 x6) fun x74 => 
  bV (ld1 x74 H) fun x75 => 
  bV (fAd 2 x6) fun x76 => 
  bV (ld1 x76 H) fun x77 => 
  bR (f17 D n [x73, x75, x77] H) fun x78 H => 
  bV (bInt .eql x78 (.int .i64 (.ofNat 0))) fun x79 => 
  jn (cnd x79 (bV (pNil x0_2) fun x82 => 
  bV (fAd 1 x82) fun x83 => 
  bV (ld1 x83 H) fun x84 => 
  bV (fAd 1 x6) fun x85 => 
  bV (ld1 x85 H) fun x86 => 
  bV (fAd 2 x6) fun x87 => 
  bV (ld1 x87 H) fun x88 => 
  bR (f271 D n [x84, x86, x88] H) fun x89 H => 
  bV (pNil x0_2) fun x90 => 
  bV (fAd 1 x90) fun x91 => 
  bR (stN 1 x91 x89 H) fun x9999_2 H => 
  some (.norm [x0_2, x1_2, x5], H))
  (some (.norm [x0_2, x1_2, x5], H))) (f212j0 D n))
  (bV (bInt .eql x22 (.int .u8 (.ofNat 1))) fun x93 => 
  jn (cnd x93 (bV (pNil x0_2) fun x95 => 
  bV (fAd 0 x95) fun x96 => 
  bV (ld1 x96 H) fun x97 => 
  bV (fAd 1 x6) fun x98 => 
  bV (ld1 x98 H) fun x99 => 
  bV (pNil x0_2) fun x103 => 
  bV (fAd 1 x103) fun x104 => 
  bV (ld1 x104 H) fun x105 => 
  bV (fAd 1 x6) fun x106 => 
  bV (ld1 x106 H) fun x107 => 
  bR (f27 D n [x97, x99] H) fun x100 H => chk (ld1 x104 H) x105 <| chk (ld1 x106 H) x107 <| 
  bV (bInt .eql x100 (.int .i64 (.ofNat 0))) fun x101 => 
  bR (f272 D n [x105, x107] H) fun x108 H => 
  bV (bBool .neq x101 x108) fun x109 => 
  cnd x109 (bV (some (.bool false)) fun x4 => some (.ret x4, H))
  (bV (pNil x0_2) fun x112 => 
  bV (fAd 1 x112) fun x113 => 
  bV (ld1 x113 H) fun x114 => 
  bV (fAd 1 x6) fun x115 => 
  bV (ld1 x115 H) fun x116 => 
  bR (f273 D n [x114, x116] H) fun x117 H => 
  bV (pNil x0_2) fun x118 => 
  bV (fAd 1 x118) fun x119 => 
  bR (stN 1 x119 x117 H) fun x9999_3 H => 
  some (.norm [x0_2, x1_2, x5], H)))
  (bV (pNil x0_2) fun x24 => 
  bV (fAd 4 x24) fun x25 => 
  bV (ld1 x25 H) fun x26 => 
  bV (bInt .add x26 (.int .i64 (.ofNat 1))) fun x27 => 
  bV (pNil x0_2) fun x28 => 
  bV (fAd 4 x28) fun x29 => 
  bR (stN 1 x29 x27 H) fun x9999_4 H => 
  bV (pNil x0_2) fun x32 => 
  bV (fAd 0 x32) fun x33 => 
  bV (ld1 x33 H) fun x34 => 
  bV (pNil x0_2) fun x36 => 
  bV (fAd 3 x36) fun x37 => 
  bV (ld1 x37 H) fun x38 => 
  bV (pNil x0_2) fun x40 => 
  bV (fAd 4 x40) fun x41 => 
  bV (ld1 x41 H) fun x42 => 
  bA (bxV 52 (.agg [(.int .i64 (.ofNat 0)), (.int .i64 (.ofNat 0)), (.int .u64 (.ofNat 0))])) H fun x7 H => 
  bR (f26 D n [x34, x38, x42] H) fun x43 H => 
  bV (pExtract x43 0) fun x44 => 
  bV (pExtract x43 1) fun x45 => 
  bV (pExtract x43 2) fun x46 => 
  bR (stN 3 x7 x44 H) fun x9999_5 H => 
  bV (bInt .neq x46 (.int .i64 (.ofNat 0))) fun x48 => 
  cnd x48 (some (.exit 1 [x0_2, x1_2, x5], H))
  (bV (pNil x0_2) fun x51 => 
  bV (fAd 2 x51) fun x52 => 
  bV (ld1 x52 H) fun x53 => 
  bV (pNil x0_2) fun x55 => 
  bV (fAd 0 x55) fun x56 => 
  bV (ld1 x56 H) fun x57 => 
  bR (f97 D n [x57] H) fun x58 H => chk (ld1 x52 H) x53 <| 
  bR (f22 D n [x53, .nilPtr, x58] H) fun x59 H => 
  bV (pExtract x59 0) fun x60 => 
  bV (pExtract x59 1) fun x61 => 
  bV (bInt .neq x61 (.int .i64 (.ofNat 0))) fun x63 => 
  cnd x63 (bV (some (.bool false)) fun x4_2 => some (.ret x4_2, H))
  (bV (pNil x0_2) fun x66 => 
  bV (fAd 0 x66) fun x67 => 
  bR (stN 1 x67 x60 H) fun x9999_6 H => 
  some (.norm [x0_2, x1_2, x5], H))))) (f212j1 D n))) (f212j2 D n)) (f212b3 D n))
  (some (.exit 0 [], H))
def f212b5 (D : Dyn) (n : Nat) (vs : List AV) (H : AH) : Rs :=
  
  bV (some (.bool true)) fun x4_3 => some (.ret x4_3, H)
/-- (*jetty/jettylaw14.grown).grow -/
def f212 (D : Dyn) (n : Nat) (vs : List AV) (H : AH) : Option (AV × AH) :=
  outR (hd vs fun x0 vs => hd vs fun x1 vs => nl vs <|
  jb 0 (loopK n (f212l4 D n) [x0, x1, (.int .i64 (.ofNat 0))] H) (f212b5 D n))
def h212 : Hint := (.s .o (.s (.s .o (.b [] (.l [0, 1, 5] (.s (.s .o (.cr .o .o)) (.s (.b [0, 1, 5] (.s .o (.s .o (.b0 (.s .o (.c [0, 1, 5] (.s .o (.c [0, 1, 5] .o .o)) (.s .o (.c [0, 1, 5] (.s (.s .o (.cl (.s .o .o) .o)) .o) (.s .o (.s .o (.s (.s .o (.cl .o .o)) (.s .o (.s (.s .o (.cl (.s .o .o) .o)) .o))))))))))))) .o))))) (.s .o .o)))
theorem f212_eq (D : Dyn) (n : Nat) : f212 D n = funK (s212 D n) D n 212 Tryz.f212 h212 := by kernel_rfl
theorem f212_ok {D : Dyn} (hD : DG D) (n : Nat) : FI 212 (f212 D n) := fun_ok X_ok hD (SOk.cons (f17_ok hD n).fs (SOk.cons (f271_ok hD n).fs (SOk.cons (f27_ok hD n).fs (SOk.cons (f272_ok hD n).fs (SOk.cons (f273_ok hD n).fs (SOk.cons (f26_ok hD n).fs (SOk.cons (f97_ok hD n).fs (SOk.cons (f22_ok hD n).fs (SOk.nil))))))))) Tryz.func212 (by kernel_rfl) (f212_eq D n)

def s122 (D : Dyn) (n : Nat) : Tb := ⟨X, [(22, f22 D n), (212, f212 D n)]⟩
/-- jetty/jettylaw14.beside -/
def f122 (D : Dyn) (n : Nat) (vs : List AV) (H : AH) : Option (AV × AH) :=
  outR (hd vs fun x0 vs => hd vs fun x1 vs => hd vs fun x2 vs => nl vs <|
  bV (bldS [(0, 1), (1, 1), (2, 1)] [(.int .i64 (.ofNat 0)), (.int .i64 (.ofNat 0)), (.int .u64 (.ofNat 0))] []) fun x13 => 
  bR (f22 D n [x0, .nilPtr, x13] H) fun x14 H => 
  bV (pExtract x14 0) fun x15 => 
  bV (pExtract x14 1) fun x16 => 
  bV (bInt .neq x16 (.int .i64 (.ofNat 0))) fun x18 => 
  cnd x18 (bV (some .nilPtr) fun x6 => bV (some (.bool false)) fun x7 => some (.ret (.tuple [x6, x7]), H))
  (bV (bldS [(0, 1), (1, 1), (2, 1), (3, 1), (4, 1)] [.nilPtr, .nilSlice, .nilPtr, .nilPtr, (.int .i64 (.ofNat 0))] [(0, x15), (2, x0), (3, x1)]) fun x22 => 
  bA (bxV 79 x22) H fun x23 H => 
  bR (f212 D n [x23, x2] H) fun x27 H => 
  bV (some x23) fun x6_2 => bV (some x27) fun x7_2 => some (.ret (.tuple [x6_2, x7_2]), H)))
def h122 : Hint := (.s .o (.s .o (.s (.s .o (.cl (.s .o .o) .o)) (.s .o (.s .o .o)))))
theorem f122_eq (D : Dyn) (n : Nat) : f122 D n = funK (s122 D n) D n 122 Tryz.f122 h122 := by kernel_rfl
theorem f122_ok {D : Dyn} (hD : DG D) (n : Nat) : FI 122 (f122 D n) := fun_ok X_ok hD (SOk.cons (f22_ok hD n).fs (SOk.cons (f212_ok hD n).fs (SOk.nil))) Tryz.func122 (by kernel_rfl) (f122_eq D n)

def s33 (D : Dyn) (n : Nat) : Tb := ⟨X, [(20, f20 D n), (21, f21 D n), (122, f122 D n)]⟩
/-- jetty/jettylaw14.plant -/
def f33 (D : Dyn) (n : Nat) (vs : List AV) (H : AH) : Option (AV × AH) :=
  outR (hd vs fun x0 vs => nl vs <|
  bR (f20 D n [(.int .i64 (.ofNat 1024))] H) fun x9 H => 
  bV (pExtract x9 0) fun x10 => 
  bV (pExtract x9 1) fun x11 => 
  bR (f21 D n [(.int .i64 (.ofNat 1024))] H) fun x13 H => 
  bV (pExtract x13 0) fun x14 => 
  bV (pExtract x13 1) fun x15 => 
  bV (bInt .neq x11 (.int .i64 (.ofNat 0))) fun x17 => 
  jn (wnt x17 false (bV (bInt .neq x15 (.int .i64 (.ofNat 0))) fun x20 => 
  some (.norm [x20], H)) (some (.norm [undefA], H))) fun vs H => hd vs fun x20_2 vs => 
  bV (pk3 (some x17) (some (.bool true)) (some x20_2)) fun x21 => 
  cnd x21 (bV (some .nilPtr) fun x2 => bV (some (.bool false)) fun x3 => some (.ret (.tuple [x2, x3]), H))
  (bR (f122 D n [x10, x14, x0] H) fun x25 H => 
  bV (pExtract x25 0) fun x26 => 
  bV (pExtract x25 1) fun x27 => 
  bV (some x26) fun x2_2 => bV (some x27) fun x3_2 => some (.ret (.tuple [x2_2, x3_2]), H)))
def h33 : Hint := (.s .o (.s .o (.s .o (.s (.s .o (.cl (.s .o .o) .o)) (.s .o .o)))))
theorem f33_eq (D : Dyn) (n : Nat) : f33 D n = funK (s33 D n) D n 33 Tryz.f33 h33 := by kernel_rfl
theorem f33_ok {D : Dyn} (hD : DG D) (n : Nat) : FI 33 (f33 D n) := fun_ok X_ok hD (SOk.cons (f20_ok hD n).fs (SOk.cons (f21_ok hD n).fs (SOk.cons (f122_ok hD n).fs (SOk.nil)))) Tryz.func33 (by kernel_rfl) (f33_eq D n)

def s98 (D : Dyn) (n : Nat) : Tb := ⟨X, [(88, f88 D n)]⟩
/-- (*jetty/tree.Tree).Dirty -/
def f98 (D : Dyn) (n : Nat) (vs : List AV) (H : AH) : Option (AV × AH) :=
  outR (hd vs fun x0 vs => nl vs <|
  bR (f88 D n [x0] H) fun x4 H => 
  cnd x4 (bV (some (.int .i64 (.ofNat 0))) fun x2 => some (.ret x2, H))
  (bV (pNil x0) fun x6 => 
  bV (fAd 5 x6) fun x7 => 
  bV (ld1 x7 H) fun x8 => 
  bV (lnMap x8 H) fun x9 => 
  bV (some x9) fun x2_2 => some (.ret x2_2, H)))
def h98 : Hint := (.s .o (.s (.s .o (.cl (.s .o .o) .o)) (.s .o .o)))
theorem f98_eq (D : Dyn) (n : Nat) : f98 D n = funK (s98 D n) D n 98 Tryz.f98 h98 := by kernel_rfl
theorem f98_ok {D : Dyn} (hD : DG D) (n : Nat) : FI 98 (f98 D n) := fun_ok X_ok hD (SOk.cons (f88_ok hD n).fs (SOk.nil)) Tryz.func98 (by kernel_rfl) (f98_eq D n)

def s123 (D : Dyn) (n : Nat) : Tb := ⟨X, [(98, f98 D n)]⟩
/-- jetty/walk.through -/
def f123 (D : Dyn) (n : Nat) (vs : List AV) (H : AH) : Option (AV × AH) :=
  outR (hd vs fun x0 vs => nl vs <|
  bR (f98 D n [x0] H) fun x5 H => 
  bV (bInt .add (.int .i64 (.ofNat 8192)) x5) fun x6 => 
  bV (bldS [(0, 1), (1, 1), (2, 1), (3, 1)] [.nilPtr, .nilMap, (.int .i64 (.ofNat 0)), (.int .i64 (.ofNat 0))] [(0, x0), (2, x6)]) fun x7 => 
  bA (bxV 187 x7) H fun x8 H => 
  bV (some x8) fun x2 => some (.ret x2, H))
def h123 : Hint := (.s .o (.s .o .o))
theorem f123_eq (D : Dyn) (n : Nat) : f123 D n = funK (s123 D n) D n 123 Tryz.f123 h123 := by kernel_rfl
theorem f123_ok {D : Dyn} (hD : DG D) (n : Nat) : FI 123 (f123 D n) := fun_ok X_ok hD (SOk.cons (f98_ok hD n).fs (SOk.nil)) Tryz.func123 (by kernel_rfl) (f123_eq D n)

def s25 (D : Dyn) (n : Nat) : Tb := ⟨X, [(88, f88 D n), (90, f90 D n), (103, f103 D n), (104, f104 D n)]⟩
/-- (*jetty/tree.Tree).Load -/
def f25 (D : Dyn) (n : Nat) (vs : List AV) (H : AH) : Option (AV × AH) :=
  outR (hd vs fun x0 vs => hd vs fun x1 vs => nl vs <|
  bA (bxV 52 x1) H fun x3 H => 
  bA (bxV 57 (.agg [(.bool false), .nilSlice, .nilSlice, .nilSlice])) H fun x4 H => 
  bR (f88 D n [x0] H) fun x9 H => 
  cnd x9 (bV (bldS [(0, 1), (1, 1), (2, 1), (3, 1)] [(.bool false), .nilSlice, .nilSlice, .nilSlice] []) fun x10 => 
  bR (stN 4 x4 x10 H) fun x9999 H => 
  bV (ldN 4 x4 H) fun x9004 => bV (some (.int .i64 (.ofNat 2))) fun x5 => some (.ret (.tuple [x9004, x5]), H))
  (bV (fAd 0 x3) fun x11 => 
  bV (ld1 x11 H) fun x12 => 
  bV (bInt .eql x12 (.int .i64 (.ofNat 0))) fun x13 => 
  cnd x13 (bV (bldS [(0, 1), (1, 1), (2, 1), (3, 1)] [(.bool false), .nilSlice, .nilSlice, .nilSlice] []) fun x14 => 
  bR (stN 4 x4 x14 H) fun x9999_2 H => 
  bV (ldN 4 x4 H) fun x9004_2 => bV (some (.int .i64 (.ofNat 1))) fun x5_2 => some (.ret (.tuple [x9004_2, x5_2]), H))
  (bV (ldN 3 x3 H) fun x17 => 
  bR (f90 D n [x0, x17] H) fun x18 H => 
  bV (pExtract x18 0) fun x19 => 
  bV (pExtract x18 1) fun x20 => 
  bA (bxV 57 (.agg [(.bool false), .nilSlice, .nilSlice, .nilSlice])) H fun x6 H => 
  bR (stN 4 x6 x19 H) fun x9999_3 H => 
  bV (bInt .neq x20 (.int .i64 (.ofNat 0))) fun x22 => 
  cnd x22 (bV (bldS [(0, 1), (1, 1), (2, 1), (3, 1)] [(.bool false), .nilSlice, .nilSlice, .nilSlice] []) fun x23 => 
  bR (stN 4 x4 x23 H) fun x9999_4 H => 
  bV (ldN 4 x4 H) fun x9004_3 => bV (some x20) fun x5_3 => some (.ret (.tuple [x9004_3, x5_3]), H))
  (bV (fAd 0 x6) fun x25 => 
  bV (ld1 x25 H) fun x26 => 
  bV (fAd 1 x6) fun x27 => 
  bV (ld1 x27 H) fun x28 => 
  bV (fAd 2 x6) fun x30 => 
  bV (ld1 x30 H) fun x31 => 
  bV (fAd 3 x6) fun x33 => 
  bV (ld1 x33 H) fun x34 => 
  bR (f103 D n [x28] H) fun x29 H => chk (ld1 x25 H) x26 <| chk (ld1 x30 H) x31 <| chk (ld1 x33 H) x34 <| 
  bR (f103 D n [x31] H) fun x32 H => chk (ld1 x25 H) x26 <| chk (ld1 x33 H) x34 <| 
  bR (f104 D n [x34] H) fun x35 H => chk (ld1 x25 H) x26 <| 
  bV (bldS [(0, 1), (1, 1), (2, 1), (3, 1)] [(.bool false), .nilSlice, .nilSlice, .nilSlice] [(0, x26), (1, x29), (2, x32), (3, x35)]) fun x36 => 
  bR (stN 4 x4 x36 H) fun x9999_5 H => 
  bV (ldN 4 x4 H) fun x9004_4 => bV (some (.int .i64 (.ofNat 0))) fun x5_4 => some (.ret (.tuple [x9004_4, x5_4]), H)))))
def h25 : Hint := (.s .o (.s (.s .o (.cl (.s .o .o) .o)) (.s (.s .o (.cl (.s .o .o) .o)) (.s .o (.s (.s .o (.cl (.s .o .o) .o)) (.s .o .o))))))
theorem f25_eq (D : Dyn) (n : Nat) : f25 D n = funK (s25 D n) D n 25 Tryz.f25 h25 := by kernel_rfl
theorem f25_ok {D : Dyn} (hD : DG D) (n : Nat) : FI 25 (f25 D n) := fun_ok X_ok hD (SOk.cons (f88_ok hD n).fs (SOk.cons (f90_ok hD n).fs (SOk.cons (f103_ok hD n).fs (SOk.cons (f104_ok hD n).fs (SOk.nil))))) Tryz.func25 (by kernel_rfl) (f25_eq D n)

def s215 (D : Dyn) (n : Nat) : Tb := ⟨X, [(25, f25 D n), (91, f91 D n)]⟩
def f215l0 (D : Dyn) (n : Nat) (vs : List AV) (H : AH) : Rs :=
  hd vs fun x0_3 vs => hd vs fun x2_3 vs => hd vs fun x3_3 vs => hd vs fun x4_3 vs => hd vs fun x5_3 vs => hd vs fun x13_3 vs => hd vs fun x15 vs => hd vs fun x16 vs => 
  bV (fAd 3 x13_3) fun x77 => 
  bV (ld1 x77 H) fun x78 => 
  bV (lnSl x78) fun x79 => 
  bV (bInt .lss x16 x79) fun x80 => 
  cnd x80 (bV (bInt .gtr x16 x15) fun x85 => 
  jn (wnt x85 true (bV (bStr .neq x3_3 (.str 0 0)) fun x88 => 
  some (.norm [x88], H)) (some (.norm [undefA], H))) fun vs H => hd vs fun x88_2 vs => 
  bV (pk3 (some x85) (some x88_2) (some (.bool false))) fun x89 => 
  jn (wnt x89 true (bV (fAd 1 x13_3) fun x91 => 
  bV (ld1 x91 H) fun x92 => 
  bV (bInt .sub x16 (.int .i64 (.ofNat 1))) fun x94 => 
  bV (ixSl 1 x92 x94) fun x95 => 
  bV (ld1 x95 H) fun x96 => 
  bV (bStr .geq x96 x3_3) fun x98 => 
  some (.norm [x98], H)) (some (.norm [undefA], H))) fun vs H => hd vs fun x98_2 vs => 
  bV (pk3 (some x89) (some x98_2) (some (.bool false))) fun x99 => 
  cnd x99 (some (.exit 0 [], H))
  (bV (fAd 3 x13_3) fun x101 => 
  bV (ld1 x101 H) fun x102 => 
  bV (ixSl 3 x102 x16) fun x104 => 
  bV (ldN 3 x104 H) fun x105 => 
  bR (D.fn 215 [x0_3, x105, x2_3, x3_3, x4_3, x5_3] H) fun x110 H => 
  bV (aun .not x110) fun x111 => 
  cnd x111 (bV (some (.bool false)) fun x12_5 => some (.ret x12_5, H))
  (bV (bInt .add x16 (.int .i64 (.ofNat 1))) fun x82 => 
  some (.norm [x0_3, x2_3, x3_3, x4_3, x5_3, x13_3, x15, x82], H))))
  (some (.exit 0 [], H))
def f215b1 (D : Dyn) (n : Nat) (vs : List AV) (H : AH) : Rs :=
  
  bV (some (.bool true)) fun x12_6 => some (.ret x12_6, H)
def f215j2 (D : Dyn) (n : Nat) (vs : List AV) (H : AH) : Rs :=
  hd vs fun x0_2 vs => hd vs fun x2_2 vs => hd vs fun x3_2 vs => hd vs fun x4_2 vs => hd vs fun x5_2 vs => hd vs fun x7_2 vs => hd vs fun x13_2 vs => 
  bV (pNil x0_2) fun x59 => 
  bV (fAd 3 x59) fun x60 => 
  bV (ld1 x60 H) fun x61 => 
  bV (bInt .neq x61 (.int .i64 (.ofNat 0))) fun x62 => 
  jn (wnt x62 false (bV (ldN 3 x7_2 H) fun x65 => 
  bV (ldN 4 x13_2 H) fun x66 => 
  bR (callV (s215 D n).S D x5_2 [x65, x66] H) fun x67 H => 
  bV (aun .not x67) fun x68 => 
  some (.norm [x68], H)) (some (.norm [undefA], H))) fun vs H => hd vs fun x68_2 vs => 
  bV (pk3 (some x62) (some (.bool true)) (some x68_2)) fun x69 => 
  cnd x69 (bV (some (.bool false)) fun x12_3 => some (.ret x12_3, H))
  (bV (fAd 0 x13_2) fun x70 => 
  bV (ld1 x70 H) fun x71 => 
  cnd x71 (bV (some (.bool true)) fun x12_4 => some (.ret x12_4, H))
  (bV (ldN 4 x13_2 H) fun x72 => 
  bR (f91 D n [x72, x2_2] H) fun x74 H => 
  jb 0 (loopK n (f215l0 D n) [x0_2, x2_2, x3_2, x4_2, x5_2, x13_2, x74, x74] H) (f215b1 D n)))
/-- (*jetty/walk.walker).down -/
def f215 (D : Dyn) (n : Nat) (vs : List AV) (H : AH) : Option (AV × AH) :=
  outR (hd vs fun x0 vs => hd vs fun x1 vs => hd vs fun x2 vs => hd vs fun x3 vs => hd vs fun x4 vs => hd vs fun x5 vs => nl vs <|
  bA (bxV 52 x1) H fun x7 H => 
  bV (ldN 3 x7 H) fun x18 => 
  bR (callV (s215 D n).S D x4 [x18] H) fun x19 H => 
  cnd x19 (bV (some (.bool true)) fun x12 => some (.ret x12, H))
  (bV (pNil x0) fun x21 => 
  bV (fAd 2 x21) fun x22 => 
  bV (ld1 x22 H) fun x23 => 
  bV (bInt .sub x23 (.int .i64 (.ofNat 1))) fun x24 => 
  bV (pNil x0) fun x25 => 
  bV (fAd 2 x25) fun x26 => 
  bR (stN 1 x26 x24 H) fun x9999 H => 
  bV (pNil x0) fun x28 => 
  bV (fAd 2 x28) fun x29 => 
  bV (ld1 x29 H) fun x30 => 
  bV (bInt .lss x30 (.int .i64 (.ofNat 0))) fun x31 => 
  cnd x31 (bV (pNil x0) fun x33 => 
  bV (fAd 3 x33) fun x34 => 
  bR (stN 1 x34 (.int .i64 (.ofNat 4)) H) fun x9999_2 H => 
  bV (some (.bool false)) fun x12_2 => some (.ret x12_2, H))
  (bV (pNil x0) fun x37 => 
  bV (fAd 1 x37) fun x38 => 
  bV (ld1 x38 H) fun x39 => 
  bV (ldN 3 x7 H) fun x40 => 
  bV (lkM (1 :: [6, 6, 10]) (.agg [(.bool false), .nilSlice, .nilSlice, .nilSlice]) true x39 x40 H) fun x41 => 
  bV (pExtract x41 0) fun x42 => 
  bV (pExtract x41 1) fun x43 => 
  bA (bxV 57 (.agg [(.bool false), .nilSlice, .nilSlice, .nilSlice])) H fun x13 H => 
  bR (stN 4 x13 x42 H) fun x9999_3 H => 
  bV (aun .not x43) fun x45 => 
  jn (cnd x45 (bV (pNil x0) fun x49 => 
  bV (fAd 0 x49) fun x50 => 
  bV (ld1 x50 H) fun x51 => 
  bV (ldN 3 x7 H) fun x52 => 
  bR (f25 D n [x51, x52] H) fun x53 H => 
  bV (pExtract x53 0) fun x54 => 
  bV (pExtract x53 1) fun x55 => 
  bR (stN 4 x13 x54 H) fun x9999_4 H => 
  bV (pNil x0) fun x56 => 
  bV (fAd 3 x56) fun x57 => 
  bR (stN 1 x57 x55 H) fun x9999_5 H => 
  some (.norm [x0, x2, x3, x4, x5, x7, x13], H))
  (some (.norm [x0, x2, x3, x4, x5, x7, x13], H))) (f215j2 D n))))
def h215 : Hint := (.s .o (.s (.s .o (.cl (.s .o .o) .o)) (.s (.s .o (.s .o (.cl (.s .o (.s .o .o)) .o))) (.s .o (.s (.s .o (.c [0, 2, 3, 4, 5, 7, 13] .o .o)) (.s (.s .o (.cl (.s .o .o) .o)) (.s (.s .o (.cl (.s .o .o) .o)) (.s .o (.s (.s .o (.b [] (.l [0, 2, 3, 4, 5, 13, 15, 16] (.s (.s .o (.cr .o .o)) (.s (.b0 (.s (.s .o (.cl .o .o)) (.s .o (.cl (.s .o .o) .o)))) .o))))) (.s .o .o))))))))))
theorem f215_eq (D : Dyn) (n : Nat) : f215 D n = funK (s215 D n) D n 215 Tryz.f215 h215 := by kernel_rfl
theorem f215_ok {D : Dyn} (hD : DG D) (n : Nat) : FI 215 (f215 D n) := fun_ok X_ok hD (SOk.cons (f25_ok hD n).fs (SOk.cons (f91_ok hD n).fs (SOk.nil))) Tryz.func215 (by kernel_rfl) (f215_eq D n)

def s214 (D : Dyn) (n : Nat) : Tb := ⟨X, [(97, f97 D n), (215, f215 D n)]⟩
def f214j0 (D : Dyn) (n : Nat) (vs : List AV) (H : AH) : Rs :=
  
  some (.ret (.tuple []), H)
/-- (*jetty/walk.walker).nodes$1 -/
def f214 (D : Dyn) (n : Nat) (vs : List AV) (H : AH) : Option (AV × AH) :=
  outR (hd vs fun x0 vs => hd vs fun x1 vs => hd vs fun x2 vs => hd vs fun x3 vs => hd vs fun x4 vs => nl vs <|
  bV (ld1 x1 H) fun x7 => 
  bV (pNil x7) fun x8 => 
  bV (fAd 0 x8) fun x9 => 
  bV (ld1 x9 H) fun x10 => 
  bR (f97 D n [x10] H) fun x11 H => 
  bA (bxV 52 (.agg [(.int .i64 (.ofNat 0)), (.int .i64 (.ofNat 0)), (.int .u64 (.ofNat 0))])) H fun x6 H => 
  bR (stN 3 x6 x11 H) fun x9999 H => 
  bV (fAd 0 x6) fun x12 => 
  bV (ld1 x12 H) fun x13 => 
  bV (bInt .neq x13 (.int .i64 (.ofNat 0))) fun x14 => 
  jn (wnt x14 true (bV (ld1 x2 H) fun x16 => 
  bV (bStr .eql x16 (.str 0 0)) fun x17 => 
  some (.norm [x17], H)) (some (.norm [undefA], H))) fun vs H => hd vs fun x18 vs => 
  jn (wnt x18 false (bV (ld1 x3 H) fun x19 => 
  bV (ld1 x2 H) fun x20 => 
  bV (bStr .lss x19 x20) fun x21 => 
  some (.norm [x21], H)) (some (.norm [undefA], H))) fun vs H => hd vs fun x21_2 vs => 
  jn (wnt x14 true (bV (pk3 (some x18) (some (.bool true)) (some x21_2)) fun x22 => 
  some (.norm [x22], H)) (some (.norm [undefA], H))) fun vs H => hd vs fun x22_2 vs => 
  bV (pk3 (some x14) (some x22_2) (some (.bool false))) fun x23 => 
  jn (cnd x23 (bV (ld1 x1 H) fun x24 => 
  bV (ldN 3 x6 H) fun x25 => 
  bV (ld1 x3 H) fun x26 => 
  bV (ld1 x2 H) fun x27 => 
  bV (ld1 x4 H) fun x28 => 
  bR (f215 D n [x24, x25, x26, x27, x28, x0] H) fun x30 H => 
  some (.norm [], H))
  (some (.norm [], H))) (f214j0 D n))
def h214 : Hint := (.s .o (.s .o (.c [] .o .o)))
theorem f214_eq (D : Dyn) (n : Nat) : f214 D n = funK (s214 D n) D n 214 Tryz.f214 h214 := by kernel_rfl
theorem f214_ok {D : Dyn} (hD : DG D) (n : Nat) : FI 214 (f214 D n) := fun_ok X_ok hD (SOk.cons (f97_ok hD n).fs (SOk.cons (f215_ok hD n).fs (SOk.nil))) Tryz.func214 (by kernel_rfl) (f214_eq D n)

def s126 (D : Dyn) (n : Nat) : Tb := ⟨X, []⟩
/-- (*jetty/walk.walker).nodes -/
def f126 (D : Dyn) (n : Nat) (vs : List AV) (H : AH) : Option (AV × AH) :=
  outR (hd vs fun x0 vs => hd vs fun x1 vs => hd vs fun x2 vs => hd vs fun x3 vs => nl vs <|
  bA (bxV 179 x0) H fun x4 H => 
  bA (bxV 9 x1) H fun x5 H => 
  bA (bxV 9 x2) H fun x6 H => 
  bA (bxV 184 x3) H fun x7 H => 
  bV (some (.func 214 [] [x4, x6, x5, x7])) fun x8 => some (.ret x8, H))
def h126 : Hint := (.s .o (.s .o .o))
theorem f126_eq (D : Dyn) (n : Nat) : f126 D n = funK (s126 D n) D n 126 Tryz.f126 h126 := by kernel_rfl
theorem f126_ok {D : Dyn} (hD : DG D) (n : Nat) : FI 126 (f126 D n) := fun_ok X_ok hD (SOk.nil) Tryz.func126 (by kernel_rfl) (f126_eq D n)

def s213 (D : Dyn) (n : Nat) : Tb := ⟨X, [(126, f126 D n), (91, f91 D n)]⟩
/-- (*jetty/walk.walker).pairs$1 -/
def f213 (D : Dyn) (n : Nat) (vs : List AV) (H : AH) : Option (AV × AH) :=
  outR (hd vs fun x0 vs => hd vs fun x1 vs => hd vs fun x2 vs => hd vs fun x3 vs => hd vs fun x4 vs => nl vs <|
  bA (bxV 301 x0) H fun x5 H => 
  bV (ld1 x1 H) fun x9 => 
  bV (ld1 x2 H) fun x10 => 
  bV (ld1 x3 H) fun x11 => 
  bV (ld1 x4 H) fun x12 => 
  bR (f126 D n [x9, x10, x11, x12] H) fun x13 H => 
  newB H (.loop ⟨.ready, none, 213, 0, [2, 3, 5], [x2, x3, x5]⟩) fun A H => bR (rfC (s213 D n).S D x13 A H) fun _ H => endLp A H fun j H => jmpK j (
  some (.ret (.tuple []), H))
  (fun id => none) (some (.ret (.tuple []), H)))
def h213 : Hint := (.s .o (.s .o (.b0 (.rf 0 [2, 3, 5]))))
theorem f213_eq (D : Dyn) (n : Nat) : f213 D n = funK (s213 D n) D n 213 Tryz.f213 h213 := by kernel_rfl
theorem f213_ok {D : Dyn} (hD : DG D) (n : Nat) : FI 213 (f213 D n) := fun_ok X_ok hD (SOk.cons (f126_ok hD n).fs (SOk.cons (f91_ok hD n).fs (SOk.nil))) Tryz.func213 (by kernel_rfl) (f213_eq D n)
def f213l0 (D : Dyn) (n : Nat) (vs : List AV) (H : AH) : Rs :=
  hd vs fun x3_2 vs => hd vs fun x5_2 vs => hd vs fun x7_2 vs => hd vs fun x8 vs => 
  bV (fAd 1 x7_2) fun x23 => 
  bV (ld1 x23 H) fun x24 => 
  bV (lnSl x24) fun x25 => 
  bV (bInt .lss x8 x25) fun x26 => 
  cnd x26 (bV (ld1 x3_2 H) fun x29 => 
  bV (bStr .neq x29 (.str 0 0)) fun x30 => 
  jn (wnt x30 true (bV (fAd 1 x7_2) fun x32 => 
  bV (ld1 x32 H) fun x33 => 
  bV (ixSl 1 x33 x8) fun x35 => 
  bV (ld1 x35 H) fun x36 => 
  bV (ld1 x3_2 H) fun x37 => 
  bV (bStr .geq x36 x37) fun x38 => 
  some (.norm [x38], H)) (some (.norm [undefA], H))) fun vs H => hd vs fun x38_2 vs => 
  bV (pk3 (some x30) (some x38_2) (some (.bool false))) fun x39 => 
  jn (wnt x39 false (bV (ld1 x5_2 H) fun x41 => 
  bV (fAd 1 x7_2) fun x42 => 
  bV (ld1 x42 H) fun x43 => 
  bV (ixSl 1 x43 x8) fun x45 => 
  bV (ld1 x45 H) fun x46 => 
  bV (fAd 2 x7_2) fun x47 => 
  bV (ld1 x47 H) fun x48 => 
  bV (ixSl 1 x48 x8) fun x50 => 
  bV (ld1 x50 H) fun x51 => 
  bV (bldS [(0, 1), (1, 1)] [(.str 0 0), (.str 0 0)] [(0, x46), (1, x51)]) fun x52 => 
  bR (callV (s213 D n).S D x41 [x52] H) fun x53 H => 
  bV (aun .not x53) fun x54 => 
  some (.norm [x54], H)) (some (.norm [undefA], H))) fun vs H => hd vs fun x54_2 vs => 
  bV (pk3 (some x39) (some (.bool true)) (some x54_2)) fun x55 => 
  cnd x55 (some (.ret (.tuple []), H))
  (bV (bInt .add x8 (.int .i64 (.ofNat 1))) fun x28 => 
  some (.norm [x3_2, x5_2, x7_2, x28], H)))
  (some (.exit 2 [], H))
def f213b1 (D : Dyn) (n : Nat) (vs : List AV) (H : AH) : Rs :=
  
  some (.norm [], H)
def f213b2 (D : Dyn) (n : Nat) (vs : List AV) (H : AH) : Rs :=
  
  some (.norm [], H)
def r213_0 (D : Dyn) (n : Nat) (A : Nat) (l : ALoop) (az : List AV) (H : AH) : Option (AV × AH) :=
  bif eqNL [2, 3, 5] l.live then endQ A (hd l.vals fun x2 vs => hd vs fun x3 vs => hd vs fun x5 vs => hd az fun x14 az => hd az fun x15 az => nl az <|
  bA (bxV 57 (.agg [(.bool false), .nilSlice, .nilSlice, .nilSlice])) H fun x7 H => 
  bR (stN 4 x7 x15 H) fun x9999 H => 
  beginK A H fun H => 
  jb 1 (bV (fAd 0 x7) fun x16 => 
  bV (ld1 x16 H) fun x17 => 
  bV (aun .not x17) fun x18 => 
  cnd x18 (some (.exit 1 [], H))
  (bV (ldN 4 x7 H) fun x19 => 
  bV (ld1 x2 H) fun x20 => 
  bR (f91 D n [x19, x20] H) fun x21 H => 
  jb 2 (loopK n (f213l0 D n) [x3, x5, x7, x21] H) (f213b1 D n))) (f213b2 D n)) else none
def r213_0a : Hint := .o
def r213_0b : Hint := (.b [] (.s (.s .o (.cl .o .o)) (.s .o (.b [] (.l [3, 5, 7, 8] (.s (.s .o (.cr .o .o)) (.s (.b0 (.s .o (.cl .o .o))) .o)))))))
theorem r213_0_eq (D : Dyn) (n : Nat) : r213_0 D n = rndK (s213 D n) D n 213 0 [2, 3, 5] [] r213_0a r213_0b := by kernel_rfl
theorem r213_0_ok {D : Dyn} (hD : DG D) (n : Nat) : RS 213 0 (r213_0 D n) := round_ok X_ok hD (SOk.cons (f126_ok hD n).fs (SOk.cons (f91_ok hD n).fs (SOk.nil))) (by kernel_rfl) (r213_0_eq D n)

def s124 (D : Dyn) (n : Nat) : Tb := ⟨X, []⟩
/-- (*jetty/walk.walker).pairs -/
def f124 (D : Dyn) (n : Nat) (vs : List AV) (H : AH) : Option (AV × AH) :=
  outR (hd vs fun x0 vs => hd vs fun x1 vs => hd vs fun x2 vs => hd vs fun x3 vs => nl vs <|
  bA (bxV 179 x0) H fun x4 H => 
  bA (bxV 9 x1) H fun x5 H => 
  bA (bxV 9 x2) H fun x6 H => 
  bA (bxV 184 x3) H fun x7 H => 
  bV (some (.func 213 [] [x4, x5, x6, x7])) fun x8 => some (.ret x8, H))
def h124 : Hint := (.s .o (.s .o .o))
theorem f124_eq (D : Dyn) (n : Nat) : f124 D n = funK (s124 D n) D n 124 Tryz.f124 h124 := by kernel_rfl
theorem f124_ok {D : Dyn} (hD : DG D) (n : Nat) : FI 124 (f124 D n) := fun_ok X_ok hD (SOk.nil) Tryz.func124 (by kernel_rfl) (f124_eq D n)

def s125 (D : Dyn) (n : Nat) : Tb := ⟨X, []⟩
/-- jetty/walk.all -/
def f125 (D : Dyn) (n : Nat) (vs : List AV) (H : AH) : Option (AV × AH) :=
  outR (hd vs fun x0 vs => nl vs <|
  bA (bxV 52 x0) H fun x1 H => 
  bV (some (.bool false)) fun x2 => some (.ret x2, H))
def h125 : Hint := (.s .o (.s .o .o))
theorem f125_eq (D : Dyn) (n : Nat) : f125 D n = funK (s125 D n) D n 125 Tryz.f125 h125 := by kernel_rfl
theorem f125_ok {D : Dyn} (hD : DG D) (n : Nat) : FI 125 (f125 D n) := fun_ok X_ok hD (SOk.nil) Tryz.func125 (by kernel_rfl) (f125_eq D n)

def s34 (D : Dyn) (n : Nat) : Tb := ⟨X, [(123, f123 D n), (124, f124 D n)]⟩
def f34b0 (D : Dyn) (n : Nat) (vs : List AV) (H : AH) : Rs :=
  hd vs fun x11 vs => hd vs fun x12_2 vs => hd vs fun x13_2 vs => 
  bV (pNil x11) fun x35 => 
  bV (fAd 3 x35) fun x36 => 
  bV (ld1 x36 H) fun x37 => 
  bV (bInt .neq x37 (.int .i64 (.ofNat 0))) fun x38 => 
  cnd x38 (bV (pNil x11) fun x40 => 
  bV (fAd 3 x40) fun x41 => 
  bV (ld1 x41 H) fun x42 => 
  bV (some .nilSlice) fun x8_4 => bV (some (.bool false)) fun x9_4 => bV (some x42) fun x10_4 => some (.ret (.tuple [x8_4, x9_4, x10_4]), H))
  (bV (ld1 x12_2 H) fun x43 => 
  bV (ld1 x13_2 H) fun x44 => 
  bV (some x43) fun x8_5 => bV (some x44) fun x9_5 => bV (some (.int .i64 (.ofNat 0))) fun x10_5 => some (.ret (.tuple [x8_5, x9_5, x10_5]), H))
/-- jetty/walk.Range -/
def f34 (D : Dyn) (n : Nat) (vs : List AV) (H : AH) : Option (AV × AH) :=
  outR (hd vs fun x0 vs => hd vs fun x1 vs => hd vs fun x2 vs => hd vs fun x3 vs => nl vs <|
  bA (bxV 3 x3) H fun x7 H => 
  bV (cmpO .eql (eqP x0 .nilPtr)) fun x16 => 
  cnd x16 (bV (some .nilSlice) fun x8 => bV (some (.bool false)) fun x9 => bV (some (.int .i64 (.ofNat 2))) fun x10 => some (.ret (.tuple [x8, x9, x10]), H))
  (bV (ld1 x7 H) fun x17 => 
  bV (bInt .lss x17 (.int .i64 (.ofNat 0))) fun x18 => 
  cnd x18 (bV (some .nilSlice) fun x8_2 => bV (some (.bool false)) fun x9_2 => bV (some (.int .i64 (.ofNat 1))) fun x10_2 => some (.ret (.tuple [x8_2, x9_2, x10_2]), H))
  (bR (f123 D n [x0] H) fun x20 H => 
  bA (bxV 40 .nilSlice) H fun x12 H => 
  bA (bxV 4 (.bool false)) H fun x13 H => 
  bR (stN 1 x13 (.bool false) H) fun x9999 H => 
  bR (f124 D n [x20, x1, x2, (.func 125 [] [])] H) fun x24 H => 
  jb 0 (newB H (.loop ⟨.ready, none, 34, 0, [7, 12, 13], [x7, x12, x13]⟩) fun A H => bR (rfC (s34 D n).S D x24 A H) fun _ H => endLp A H fun j H => jmpK j (
  some (.norm [x20, x12, x13], H))
  (fun id => cond (Nat.beq 0 id) (some (.exit id [x20, x12, x13], H)) (none)) (bV (some .nilSlice) fun x8_3 => bV (some (.bool false)) fun x9_3 => bV (some (.int .i64 (.ofNat 0))) fun x10_3 => some (.ret (.tuple [x8_3, x9_3, x10_3]), H))) (f34b0 D n))))
def h34 : Hint := (.s .o (.s (.s .o (.cl (.s .o .o) .o)) (.s (.s .o (.cl (.s .o .o) .o)) (.s .o (.s .o (.s .o (.s (.s .o (.b [11, 12, 13] (.rf 0 [7, 12, 13]))) (.s (.s .o (.cl (.s .o .o) .o)) (.s .o .o)))))))))
theorem f34_eq (D : Dyn) (n : Nat) : f34 D n = funK (s34 D n) D n 34 Tryz.f34 h34 := by kernel_rfl
theorem f34_ok {D : Dyn} (hD : DG D) (n : Nat) : FI 34 (f34 D n) := fun_ok X_ok hD (SOk.cons (f123_ok hD n).fs (SOk.cons (f124_ok hD n).fs (SOk.nil))) Tryz.func34 (by kernel_rfl) (f34_eq D n)
def r34_0 (D : Dyn) (n : Nat) (A : Nat) (l : ALoop) (az : List AV) (H : AH) : Option (AV × AH) :=
  bif eqNL [7, 12, 13] l.live then endQ A (hd l.vals fun x7 vs => hd vs fun x12 vs => hd vs fun x13 vs => hd az fun x25 az => nl az <|
  bA (bxV 36 (.agg [(.str 0 0), (.str 0 0)])) H fun x14 H => 
  bR (stN 2 x14 x25 H) fun x9999 H => 
  beginK A H fun H => 
  bV (ld1 x12 H) fun x26 => 
  bV (lnSl x26) fun x27 => 
  bV (ld1 x7 H) fun x28 => 
  bV (bInt .eql x27 x28) fun x29 => 
  cnd x29 (bR (stN 1 x13 (.bool true) H) fun x9999_2 H => 
  some (.exit 0 [], H))
  (bV (ld1 x12 H) fun x30 => 
  bV (ldN 2 x14 H) fun x31 => 
  bA (bldL 36 2 1 [(.str 0 0), (.str 0 0)] [(0, x31)]) H fun x32 H => 
  bR (apP 36 2 32 x30 x32 H) fun x33 H => 
  bR (stN 1 x12 x33 H) fun x9999_3 H => 
  some (.norm [], H))) else none
def r34_0a : Hint := .o
def r34_0b : Hint := (.b0 (.s (.s .o (.cl (.s .o .o) .o)) .o))
theorem r34_0_eq (D : Dyn) (n : Nat) : r34_0 D n = rndK (s34 D n) D n 34 0 [7, 12, 13] [0] r34_0a r34_0b := by kernel_rfl
theorem r34_0_ok {D : Dyn} (hD : DG D) (n : Nat) : RS 34 0 (r34_0 D n) := round_ok X_ok hD (SOk.cons (f123_ok hD n).fs (SOk.cons (f124_ok hD n).fs (SOk.nil))) (by kernel_rfl) (r34_0_eq D n)
end Go.Eng.Sh
