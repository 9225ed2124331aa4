/- Shallow functions, by program (gen.py). -/
import Derived.Test.YtdbpihiihgkkdaaGreatQ54
import Derived.Test.YtdbpihiihgkkdaaGreatProg
import Derived.KernelRfl
noncomputable section
namespace Go.Eng.Sh
open Go.Proofs
set_option maxRecDepth 100000
set_option linter.all false
def s35 (D : Dyn) (n : Nat) : Tb := ⟨X, [(123, f123 D n), (124, f124 D n)]⟩
/-- jetty/walk.Count -/
def f35 (D : Dyn) (n : Nat) (vs : List AV) (H : AH) : Option (AV × AH) :=
  outR (hd vs fun x0 vs => hd vs fun x1 vs => hd vs fun x2 vs => nl vs <|
  bV (cmpO .eql (eqP x0 .nilPtr)) fun x11 => 
  cnd x11 (bV (some (.int .i64 (.ofNat 0))) fun x6 => bV (some (.int .i64 (.ofNat 2))) fun x7 => some (.ret (.tuple [x6, x7]), H))
  (bR (f123 D n [x0] H) fun x13 H => 
  bA (bxV 3 (.int .i64 (.ofNat 0))) H fun x9 H => 
  bR (stN 1 x9 (.int .i64 (.ofNat 0)) H) fun x9999 H => 
  bR (f124 D n [x13, x1, x2, (.func 125 [] [])] H) fun x17 H => 
  newB H (.loop ⟨.ready, none, 35, 0, [9], [x9]⟩) fun A H => bR (rfC (s35 D n).S D x17 A H) fun _ H => endLp A H fun j H => jmpK j (
  bV (pNil x13) fun x22 => 
  bV (fAd 3 x22) fun x23 => 
  bV (ld1 x23 H) fun x24 => 
  bV (bInt .neq x24 (.int .i64 (.ofNat 0))) fun x25 => 
  cnd x25 (bV (pNil x13) fun x27 => 
  bV (fAd 3 x27) fun x28 => 
  bV (ld1 x28 H) fun x29 => 
  bV (some (.int .i64 (.ofNat 0))) fun x6_3 => bV (some x29) fun x7_3 => some (.ret (.tuple [x6_3, x7_3]), H))
  (bV (ld1 x9 H) fun x30 => 
  bV (some x30) fun x6_4 => bV (some (.int .i64 (.ofNat 0))) fun x7_4 => some (.ret (.tuple [x6_4, x7_4]), H)))
  (fun id => none) (bV (some (.int .i64 (.ofNat 0))) fun x6_2 => bV (some (.int .i64 (.ofNat 0))) fun x7_2 => some (.ret (.tuple [x6_2, x7_2]), H))))
def h35 : Hint := (.s .o (.s (.s .o (.cl (.s .o .o) .o)) (.s .o (.s .o (.s (.s .o (.b0 (.rf 0 [9]))) (.s (.s .o (.cl (.s .o .o) .o)) (.s .o .o)))))))
theorem f35_eq (D : Dyn) (n : Nat) : f35 D n = funK (s35 D n) D n 35 Tryz.f35 h35 := by kernel_rfl
theorem f35_ok {D : Dyn} (hD : DG D) (n : Nat) : FI 35 (f35 D n) := fun_ok X_ok hD (SOk.cons (f123_ok hD n).fs (SOk.cons (f124_ok hD n).fs (SOk.nil))) Tryz.func35 (by kernel_rfl) (f35_eq D n)
def r35_0 (D : Dyn) (n : Nat) (A : Nat) (l : ALoop) (az : List AV) (H : AH) : Option (AV × AH) :=
  bif eqNL [9] l.live then endQ A (hd l.vals fun x9 vs => hd az fun x18 az => nl az <|
  beginK A H fun H => 
  bV (ld1 x9 H) fun x19 => 
  bV (bInt .add x19 (.int .i64 (.ofNat 1))) fun x20 => 
  bR (stN 1 x9 x20 H) fun x9999 H => 
  some (.norm [], H)) else none
def r35_0a : Hint := .o
def r35_0b : Hint := (.b0 .o)
theorem r35_0_eq (D : Dyn) (n : Nat) : r35_0 D n = rndK (s35 D n) D n 35 0 [9] [] r35_0a r35_0b := by kernel_rfl
theorem r35_0_ok {D : Dyn} (hD : DG D) (n : Nat) : RS 35 0 (r35_0 D n) := round_ok X_ok hD (SOk.cons (f123_ok hD n).fs (SOk.cons (f124_ok hD n).fs (SOk.nil))) (by kernel_rfl) (r35_0_eq D n)

def s36 (D : Dyn) (n : Nat) : Tb := ⟨X, [(123, f123 D n), (126, f126 D n)]⟩
/-- jetty/walk.Blocks -/
def f36 (D : Dyn) (n : Nat) (vs : List AV) (H : AH) : Option (AV × AH) :=
  outR (hd vs fun x0 vs => nl vs <|
  bV (cmpO .eql (eqP x0 .nilPtr)) fun x8 => 
  cnd x8 (bV (some .nilSlice) fun x2 => bV (some (.int .i64 (.ofNat 2))) fun x3 => some (.ret (.tuple [x2, x3]), H))
  (bR (f123 D n [x0] H) fun x10 H => 
  bA (bxV 55 .nilSlice) H fun x5 H => 
  bR (f126 D n [x10, (.str 0 0), (.str 0 0), (.func 125 [] [])] H) fun x12 H => 
  newB H (.loop ⟨.ready, none, 36, 0, [5], [x5]⟩) fun A H => bR (rfC (s36 D n).S D x12 A H) fun _ H => endLp A H fun j H => jmpK j (
  bV (pNil x10) fun x23 => 
  bV (fAd 3 x23) fun x24 => 
  bV (ld1 x24 H) fun x25 => 
  bV (bInt .neq x25 (.int .i64 (.ofNat 0))) fun x26 => 
  cnd x26 (bV (pNil x10) fun x28 => 
  bV (fAd 3 x28) fun x29 => 
  bV (ld1 x29 H) fun x30 => 
  bV (some .nilSlice) fun x2_3 => bV (some x30) fun x3_3 => some (.ret (.tuple [x2_3, x3_3]), H))
  (bV (ld1 x5 H) fun x31 => 
  bV (some x31) fun x2_4 => bV (some (.int .i64 (.ofNat 0))) fun x3_4 => some (.ret (.tuple [x2_4, x3_4]), H)))
  (fun id => none) (bV (some .nilSlice) fun x2_2 => bV (some (.int .i64 (.ofNat 0))) fun x3_2 => some (.ret (.tuple [x2_2, x3_2]), H))))
def h36 : Hint := (.s .o (.s (.s .o (.cl (.s .o .o) .o)) (.s .o (.s .o (.s (.s .o (.b0 (.rf 0 [5]))) (.s (.s .o (.cl (.s .o .o) .o)) (.s .o .o)))))))
theorem f36_eq (D : Dyn) (n : Nat) : f36 D n = funK (s36 D n) D n 36 Tryz.f36 h36 := by kernel_rfl
theorem f36_ok {D : Dyn} (hD : DG D) (n : Nat) : FI 36 (f36 D n) := fun_ok X_ok hD (SOk.cons (f123_ok hD n).fs (SOk.cons (f126_ok hD n).fs (SOk.nil))) Tryz.func36 (by kernel_rfl) (f36_eq D n)
def f36j0 (D : Dyn) (n : Nat) (vs : List AV) (H : AH) : Rs :=
  
  some (.norm [], H)
def r36_0 (D : Dyn) (n : Nat) (A : Nat) (l : ALoop) (az : List AV) (H : AH) : Option (AV × AH) :=
  bif eqNL [5] l.live then endQ A (hd l.vals fun x5 vs => hd az fun x13 az => hd az fun x14 az => nl az <|
  bA (bxV 52 (.agg [(.int .i64 (.ofNat 0)), (.int .i64 (.ofNat 0)), (.int .u64 (.ofNat 0))])) H fun x6 H => 
  bR (stN 3 x6 x13 H) fun x9999 H => 
  beginK A H fun H => 
  bV (fAd 0 x6) fun x15 => 
  bV (ld1 x15 H) fun x16 => 
  bV (bInt .neq x16 (.int .i64 (.ofNat 1))) fun x17 => 
  jn (cnd x17 (bV (ld1 x5 H) fun x18 => 
  bV (ldN 3 x6 H) fun x19 => 
  bA (bldL 52 3 1 [(.int .i64 (.ofNat 0)), (.int .i64 (.ofNat 0)), (.int .u64 (.ofNat 0))] [(0, x19)]) H fun x20 H => 
  bR (apP 52 3 24 x18 x20 H) fun x21 H => 
  bR (stN 1 x5 x21 H) fun x9999_2 H => 
  some (.norm [], H))
  (some (.norm [], H))) (f36j0 D n)) else none
def r36_0a : Hint := .o
def r36_0b : Hint := (.b0 (.s .o (.c [] .o .o)))
theorem r36_0_eq (D : Dyn) (n : Nat) : r36_0 D n = rndK (s36 D n) D n 36 0 [5] [] r36_0a r36_0b := by kernel_rfl
theorem r36_0_ok {D : Dyn} (hD : DG D) (n : Nat) : RS 36 0 (r36_0 D n) := round_ok X_ok hD (SOk.cons (f123_ok hD n).fs (SOk.cons (f126_ok hD n).fs (SOk.nil))) (by kernel_rfl) (r36_0_eq D n)

def s127 (D : Dyn) (n : Nat) : Tb := ⟨X, [(123, f123 D n), (124, f124 D n)]⟩
/-- jetty/walk.unshared -/
def f127 (D : Dyn) (n : Nat) (vs : List AV) (H : AH) : Option (AV × AH) :=
  outR (hd vs fun x0 vs => hd vs fun x1 vs => hd vs fun x2 vs => nl vs <|
  bR (f123 D n [x0] H) fun x12 H => 
  bV (pNil x12) fun x15 => 
  bV (fAd 1 x15) fun x16 => 
  bR (stN 1 x16 x1 H) fun x9999 H => 
  bA (bxV 40 .nilSlice) H fun x9 H => 
  bR (f124 D n [x12, (.str 0 0), (.str 0 0), x2] H) fun x19 H => 
  newB H (.loop ⟨.ready, none, 127, 0, [9], [x9]⟩) fun A H => bR (rfC (s127 D n).S D x19 A H) fun _ H => endLp A H fun j H => jmpK j (
  bV (ld1 x9 H) fun x25 => 
  bV (pNil x12) fun x27 => 
  bV (fAd 3 x27) fun x28 => 
  bV (ld1 x28 H) fun x29 => 
  bV (some x25) fun x6_2 => bV (some x29) fun x7_2 => some (.ret (.tuple [x6_2, x7_2]), H))
  (fun id => none) (bV (some .nilSlice) fun x6 => bV (some (.int .i64 (.ofNat 0))) fun x7 => some (.ret (.tuple [x6, x7]), H)))
def h127 : Hint := (.s .o (.s .o (.s .o (.s .o (.s (.s .o (.b0 (.rf 0 [9]))) (.s .o .o))))))
theorem f127_eq (D : Dyn) (n : Nat) : f127 D n = funK (s127 D n) D n 127 Tryz.f127 h127 := by kernel_rfl
theorem f127_ok {D : Dyn} (hD : DG D) (n : Nat) : FI 127 (f127 D n) := fun_ok X_ok hD (SOk.cons (f123_ok hD n).fs (SOk.cons (f124_ok hD n).fs (SOk.nil))) Tryz.func127 (by kernel_rfl) (f127_eq D n)
def r127_0 (D : Dyn) (n : Nat) (A : Nat) (l : ALoop) (az : List AV) (H : AH) : Option (AV × AH) :=
  bif eqNL [9] l.live then endQ A (hd l.vals fun x9 vs => hd az fun x20 az => nl az <|
  bA (bxV 36 (.agg [(.str 0 0), (.str 0 0)])) H fun x10 H => 
  bR (stN 2 x10 x20 H) fun x9999 H => 
  beginK A H fun H => 
  bV (ld1 x9 H) fun x21 => 
  bV (ldN 2 x10 H) fun x22 => 
  bA (bldL 36 2 1 [(.str 0 0), (.str 0 0)] [(0, x22)]) H fun x23 H => 
  bR (apP 36 2 32 x21 x23 H) fun x24 H => 
  bR (stN 1 x9 x24 H) fun x9999_2 H => 
  some (.norm [], H)) else none
def r127_0a : Hint := .o
def r127_0b : Hint := (.b0 .o)
theorem r127_0_eq (D : Dyn) (n : Nat) : r127_0 D n = rndK (s127 D n) D n 127 0 [9] [] r127_0a r127_0b := by kernel_rfl
theorem r127_0_ok {D : Dyn} (hD : DG D) (n : Nat) : RS 127 0 (r127_0 D n) := round_ok X_ok hD (SOk.cons (f123_ok hD n).fs (SOk.cons (f124_ok hD n).fs (SOk.nil))) (by kernel_rfl) (r127_0_eq D n)

def s274 (D : Dyn) (n : Nat) : Tb := ⟨X, []⟩
/-- cmp.isNaN[string] -/
def f274 (D : Dyn) (n : Nat) (vs : List AV) (H : AH) : Option (AV × AH) :=
  outR (hd vs fun x0 vs => nl vs <|
  bV (bStr .neq x0 x0) fun x5 => 
  bV (some x5) fun x2 => some (.ret x2, H))
def h274 : Hint := (.s .o (.s .o .o))
theorem f274_eq (D : Dyn) (n : Nat) : f274 D n = funK (s274 D n) D n 274 Tryz.f274 h274 := by kernel_rfl
theorem f274_ok {D : Dyn} (hD : DG D) (n : Nat) : FI 274 (f274 D n) := fun_ok X_ok hD (SOk.nil) Tryz.func274 (by kernel_rfl) (f274_eq D n)

def s216 (D : Dyn) (n : Nat) : Tb := ⟨X, [(274, f274 D n)]⟩
/-- cmp.Compare[string] -/
def f216 (D : Dyn) (n : Nat) (vs : List AV) (H : AH) : Option (AV × AH) :=
  outR (hd vs fun x0 vs => hd vs fun x1 vs => nl vs <|
  bR (f274 D n [x0] H) fun x8 H => 
  bR (f274 D n [x1] H) fun x10 H => 
  cnd x8 (cnd x10 (bV (some (.int .i64 (.ofNat 0))) fun x4 => some (.ret x4, H))
  (bV (some (.int .i64 (.negSucc 0))) fun x4_2 => some (.ret x4_2, H)))
  (cnd x10 (bV (some (.int .i64 (.ofNat 1))) fun x4_3 => some (.ret x4_3, H))
  (bV (bStr .lss x0 x1) fun x16 => 
  cnd x16 (bV (some (.int .i64 (.negSucc 0))) fun x4_4 => some (.ret x4_4, H))
  (bV (bStr .gtr x0 x1) fun x19 => 
  cnd x19 (bV (some (.int .i64 (.ofNat 1))) fun x4_5 => some (.ret x4_5, H))
  (bV (some (.int .i64 (.ofNat 0))) fun x4_6 => some (.ret x4_6, H))))))
def h216 : Hint := (.s .o (.s .o (.s .o (.s (.s .o (.cl (.s (.s .o (.cl (.s .o .o) .o)) (.s .o .o)) .o)) (.s (.s .o (.cl (.s .o .o) .o)) (.s (.s .o (.cl (.s .o .o) .o)) (.s (.s .o (.cl (.s .o .o) .o)) (.s .o .o))))))))
theorem f216_eq (D : Dyn) (n : Nat) : f216 D n = funK (s216 D n) D n 216 Tryz.f216 h216 := by kernel_rfl
theorem f216_ok {D : Dyn} (hD : DG D) (n : Nat) : FI 216 (f216 D n) := fun_ok X_ok hD (SOk.cons (f274_ok hD n).fs (SOk.nil)) Tryz.func216 (by kernel_rfl) (f216_eq D n)

def s130 (D : Dyn) (n : Nat) : Tb := ⟨X, [(216, f216 D n)]⟩
def f130j0 (D : Dyn) (n : Nat) (vs : List AV) (H : AH) : Rs :=
  hd vs fun x0_3 vs => hd vs fun x1_3 vs => hd vs fun x5_2 vs => hd vs fun x6 vs => 
  some (.norm [x0_3, x1_3, x5_2, x6], H)
def f130j1 (D : Dyn) (n : Nat) (vs : List AV) (H : AH) : Rs :=
  hd vs fun x0_7 vs => hd vs fun x1_7 vs => hd vs fun x5_6 vs => 
  some (.norm [x0_7, x1_7, x5_6], H)
def f130j2 (D : Dyn) (n : Nat) (vs : List AV) (H : AH) : Rs :=
  hd vs fun x0_6 vs => hd vs fun x1_6 vs => hd vs fun x5_5 vs => hd vs fun x6_4 vs => hd vs fun x7_3 vs => 
  bV (bInt .neq x6_4 (.int .i64 (.ofNat 0))) fun x64 => 
  jn (wnt x64 false (bV (fAd 1 x7_3) fun x66 => 
  bV (ld1 x66 H) fun x67 => 
  bV (fAd 2 x7_3) fun x68 => 
  bV (ld1 x68 H) fun x69 => 
  bV (bStr .neq x67 x69) fun x70 => 
  some (.norm [x70], H)) (some (.norm [undefA], H))) fun vs H => hd vs fun x70_2 vs => 
  bV (pk3 (some x64) (some (.bool true)) (some x70_2)) fun x71 => 
  jn (cnd x71 (bV (ldN 5 x7_3 H) fun x73 => 
  bA (bldL 199 5 1 [(.str 0 0), (.str 0 0), (.str 0 0), (.bool false), (.bool false)] [(0, x73)]) H fun x74 H => 
  bR (apP 199 5 56 x5_5 x74 H) fun x75 H => 
  some (.norm [x0_6, x1_6, x75], H))
  (some (.norm [x0_6, x1_6, x5_5], H))) (f130j1 D n)
def f130j3 (D : Dyn) (n : Nat) (vs : List AV) (H : AH) : Rs :=
  hd vs fun x0_5 vs => hd vs fun x1_5 vs => hd vs fun x5_4 vs => hd vs fun x6_3 vs => hd vs fun x7_2 vs => 
  bV (bInt .geq x6_3 (.int .i64 (.ofNat 0))) fun x49 => 
  jn (cnd x49 (bV (ixSl 2 x1_5 (.int .i64 (.ofNat 0))) fun x51 => 
  bV (fAd 0 x51) fun x52 => 
  bV (ld1 x52 H) fun x53 => 
  bV (ixSl 2 x1_5 (.int .i64 (.ofNat 0))) fun x55 => 
  bV (fAd 1 x55) fun x56 => 
  bV (ld1 x56 H) fun x57 => 
  bV (fAd 0 x7_2) fun x58 => 
  bR (stN 1 x58 x53 H) fun x9999_4 H => chk (ld1 x56 H) x57 <| 
  bV (fAd 2 x7_2) fun x59 => 
  bR (stN 1 x59 x57 H) fun x9999_5 H => 
  bV (fAd 4 x7_2) fun x60 => 
  bR (stN 1 x60 (.bool true) H) fun x9999_6 H => 
  bV (slSl 2 x1_5 (some (.int .i64 (.ofNat 1))) none none H) fun x62 => 
  some (.norm [x0_5, x62, x5_4, x6_3, x7_2], H))
  (some (.norm [x0_5, x1_5, x5_4, x6_3, x7_2], H))) (f130j2 D n)
def f130j4 (D : Dyn) (n : Nat) (vs : List AV) (H : AH) : Rs :=
  hd vs fun x0_4 vs => hd vs fun x1_4 vs => hd vs fun x5_3 vs => hd vs fun x6_2 vs => 
  bA (bxV 199 (.agg [(.str 0 0), (.str 0 0), (.str 0 0), (.bool false), (.bool false)])) H fun x7 H => 
  bV (bInt .leq x6_2 (.int .i64 (.ofNat 0))) fun x34 => 
  jn (cnd x34 (bV (ixSl 2 x0_4 (.int .i64 (.ofNat 0))) fun x36 => 
  bV (fAd 0 x36) fun x37 => 
  bV (ld1 x37 H) fun x38 => 
  bV (ixSl 2 x0_4 (.int .i64 (.ofNat 0))) fun x40 => 
  bV (fAd 1 x40) fun x41 => 
  bV (ld1 x41 H) fun x42 => 
  bV (fAd 0 x7) fun x43 => 
  bR (stN 1 x43 x38 H) fun x9999 H => chk (ld1 x41 H) x42 <| 
  bV (fAd 1 x7) fun x44 => 
  bR (stN 1 x44 x42 H) fun x9999_2 H => 
  bV (fAd 3 x7) fun x45 => 
  bR (stN 1 x45 (.bool true) H) fun x9999_3 H => 
  bV (slSl 2 x0_4 (some (.int .i64 (.ofNat 1))) none none H) fun x47 => 
  some (.norm [x47, x1_4, x5_3, x6_2, x7], H))
  (some (.norm [x0_4, x1_4, x5_3, x6_2, x7], H))) (f130j3 D n)
def f130l5 (D : Dyn) (n : Nat) (vs : List AV) (H : AH) : Rs :=
  hd vs fun x0_2 vs => hd vs fun x1_2 vs => hd vs fun x5 vs => 
  bV (lnSl x0_2) fun x9 => 
  bV (bInt .gtr x9 (.int .i64 (.ofNat 0))) fun x10 => 
  jn (wnt x10 false (bV (lnSl x1_2) fun x13 => 
  bV (bInt .gtr x13 (.int .i64 (.ofNat 0))) fun x14 => 
  some (.norm [x14], H)) (some (.norm [undefA], H))) fun vs H => hd vs fun x14_2 vs => 
  bV (pk3 (some x10) (some (.bool true)) (some x14_2)) fun x15 => 
  cnd x15 (bV (lnSl x0_2) fun x27 => 
  bV (bInt .eql x27 (.int .i64 (.ofNat 0))) fun x28 => 
  jn (cnd x28 (some (.norm [x0_2, x1_2, x5, (.int .i64 (.ofNat 1))], H))
  (bV (lnSl x1_2) fun x31 => 
  bV (bInt .eql x31 (.int .i64 (.ofNat 0))) fun x32 => 
  jn (cnd x32 (some (.norm [x0_2, x1_2, x5, (.int .i64 (.negSucc 0))], H))
  (bV (ixSl 2 x0_2 (.int .i64 (.ofNat 0))) fun x17 => 
  bV (fAd 0 x17) fun x18 => 
  bV (ld1 x18 H) fun x19 => 
  bV (ixSl 2 x1_2 (.int .i64 (.ofNat 0))) fun x21 => 
  bV (fAd 0 x21) fun x22 => 
  bV (ld1 x22 H) fun x23 => 
  bR (f216 D n [x19, x23] H) fun x24 H => 
  some (.norm [x0_2, x1_2, x5, x24], H))) (f130j0 D n))) (f130j4 D n))
  (some (.exit 0 [x5], H))
def f130b6 (D : Dyn) (n : Nat) (vs : List AV) (H : AH) : Rs :=
  hd vs fun x5_7 vs => 
  bV (some x5_7) fun x4 => some (.ret x4, H)
/-- jetty/walk.unlike -/
def f130 (D : Dyn) (n : Nat) (vs : List AV) (H : AH) : Option (AV × AH) :=
  outR (hd vs fun x0 vs => hd vs fun x1 vs => nl vs <|
  jb 0 (loopK n (f130l5 D n) [x0, x1, .nilSlice] H) (f130b6 D n))
def h130 : Hint := (.s .o (.s .o (.s (.b [5] (.l [0, 1, 5] (.s (.s .o (.cr .o .o)) (.b0 (.s .o (.s (.b0 (.s .o (.c [0, 1, 5, 6] .o (.s .o (.c [0, 1, 5, 6] .o .o))))) (.s .o (.s (.s .o (.c [0, 1, 5, 6, 7] (.s .o .o) .o)) (.s (.s .o (.c [0, 1, 5, 6, 7] (.s .o .o) .o)) (.s .o (.c [0, 1, 5] .o .o))))))))))) (.s .o .o))))
theorem f130_eq (D : Dyn) (n : Nat) : f130 D n = funK (s130 D n) D n 130 Tryz.f130 h130 := by kernel_rfl
theorem f130_ok {D : Dyn} (hD : DG D) (n : Nat) : FI 130 (f130 D n) := fun_ok X_ok hD (SOk.cons (f216_ok hD n).fs (SOk.nil)) Tryz.func130 (by kernel_rfl) (f130_eq D n)

def s128 (D : Dyn) (n : Nat) : Tb := ⟨X, []⟩
def f128j0 (D : Dyn) (n : Nat) (vs : List AV) (H : AH) : Rs :=
  hd vs fun x6 vs => 
  bV (some x6) fun x4 => some (.ret x4, H)
/-- jetty/walk.Diff$1 -/
def f128 (D : Dyn) (n : Nat) (vs : List AV) (H : AH) : Option (AV × AH) :=
  outR (hd vs fun x0 vs => hd vs fun x1 vs => hd vs fun x2 vs => nl vs <|
  bA (bxV 52 x0) H fun x3 H => 
  bV (ld1 x1 H) fun x8 => 
  bV (ldN 3 x3 H) fun x9 => 
  bV (lkM (1 :: [6, 6, 10]) (.agg [(.bool false), .nilSlice, .nilSlice, .nilSlice]) true x8 x9 H) fun x10 => 
  bV (pExtract x10 0) fun x11 => 
  bV (pExtract x10 1) fun x12 => 
  bA (bxV 57 (.agg [(.bool false), .nilSlice, .nilSlice, .nilSlice])) H fun x5 H => 
  bR (stN 4 x5 x11 H) fun x9999 H => 
  jn (wnt x12 true (bV (fAd 0 x3) fun x15 => 
  bV (ld1 x15 H) fun x16 => 
  bV (bInt .neq x16 (.int .i64 (.ofNat 1))) fun x17 => 
  some (.norm [x17], H)) (some (.norm [undefA], H))) fun vs H => hd vs fun x17_2 vs => 
  bV (pk3 (some x12) (some x17_2) (some (.bool false))) fun x18 => 
  jn (cnd x18 (bV (ld1 x2 H) fun x20 => 
  bV (ldN 3 x3 H) fun x21 => 
  bV (bldS [] [] []) fun x22 => 
  bR (upM (1 :: [6, 6, 10]) x20 x21 x22 H) fun x9999_2 H => 
  some (.norm [x18], H))
  (some (.norm [x18], H))) (f128j0 D n))
def h128 : Hint := (.s .o (.s .o (.s (.s .o (.s .o (.c [6] .o .o))) (.s .o .o))))
theorem f128_eq (D : Dyn) (n : Nat) : f128 D n = funK (s128 D n) D n 128 Tryz.f128 h128 := by kernel_rfl
theorem f128_ok {D : Dyn} (hD : DG D) (n : Nat) : FI 128 (f128 D n) := fun_ok X_ok hD (SOk.nil) Tryz.func128 (by kernel_rfl) (f128_eq D n)

def s129 (D : Dyn) (n : Nat) : Tb := ⟨X, []⟩
/-- jetty/walk.Diff$2 -/
def f129 (D : Dyn) (n : Nat) (vs : List AV) (H : AH) : Option (AV × AH) :=
  outR (hd vs fun x0 vs => hd vs fun x1 vs => nl vs <|
  bA (bxV 52 x0) H fun x2 H => 
  bV (ld1 x1 H) fun x7 => 
  bV (ldN 3 x2 H) fun x8 => 
  bV (lkM (1 :: [6, 6, 10]) (.agg []) true x7 x8 H) fun x9 => 
  bV (pExtract x9 0) fun x10 => 
  bV (pExtract x9 1) fun x11 => 
  bA (bxV 195 (.agg [])) H fun x4 H => 
  bR (stN 0 x4 x10 H) fun x9999 H => 
  bV (some x11) fun x3 => some (.ret x3, H))
def h129 : Hint := (.s .o (.s .o (.s .o .o)))
theorem f129_eq (D : Dyn) (n : Nat) : f129 D n = funK (s129 D n) D n 129 Tryz.f129 h129 := by kernel_rfl
theorem f129_ok {D : Dyn} (hD : DG D) (n : Nat) : FI 129 (f129 D n) := fun_ok X_ok hD (SOk.nil) Tryz.func129 (by kernel_rfl) (f129_eq D n)

def s37 (D : Dyn) (n : Nat) : Tb := ⟨X, [(123, f123 D n), (126, f126 D n), (127, f127 D n), (130, f130 D n)]⟩
/-- jetty/walk.Diff -/
def f37 (D : Dyn) (n : Nat) (vs : List AV) (H : AH) : Option (AV × AH) :=
  outR (hd vs fun x0 vs => hd vs fun x1 vs => nl vs <|
  bV (cmpO .eql (eqP x0 .nilPtr)) fun x15 => 
  jn (wnt x15 false (bV (cmpO .eql (eqP x1 .nilPtr)) fun x18 => 
  some (.norm [x18], H)) (some (.norm [undefA], H))) fun vs H => hd vs fun x18_2 vs => 
  bV (pk3 (some x15) (some (.bool true)) (some x18_2)) fun x19 => 
  cnd x19 (bV (some .nilSlice) fun x4 => bV (some (.int .i64 (.ofNat 2))) fun x5 => some (.ret (.tuple [x4, x5]), H))
  (bA (mkM (1 :: [6, 6, 10])) H fun x20 H => 
  bA (bxV 185 .nilMap) H fun x6 H => 
  bR (stN 1 x6 x20 H) fun x9999 H => 
  bR (f123 D n [x0] H) fun x22 H => 
  bR (f126 D n [x22, (.str 0 0), (.str 0 0), (.func 125 [] [])] H) fun x24 H => 
  newB H (.loop ⟨.ready, none, 37, 0, [6], [x6]⟩) fun A H => bR (rfC (s37 D n).S D x24 A H) fun _ H => endLp A H fun j H => jmpK j (
  bV (pNil x22) fun x31 => 
  bV (fAd 3 x31) fun x32 => 
  bV (ld1 x32 H) fun x33 => 
  bV (bInt .neq x33 (.int .i64 (.ofNat 0))) fun x34 => 
  cnd x34 (bV (pNil x22) fun x36 => 
  bV (fAd 3 x36) fun x37 => 
  bV (ld1 x37 H) fun x38 => 
  bV (some .nilSlice) fun x4_3 => bV (some x38) fun x5_3 => some (.ret (.tuple [x4_3, x5_3]), H))
  (bA (mkM (1 :: [6, 6, 10])) H fun x39 H => 
  bA (bxV 191 .nilMap) H fun x10 H => 
  bR (stN 1 x10 x39 H) fun x9999_2 H => 
  bR (f127 D n [x1, .nilMap, (.func 128 [] [x6, x10])] H) fun x43 H => 
  bV (pExtract x43 0) fun x44 => 
  bV (pExtract x43 1) fun x45 => 
  bV (bInt .neq x45 (.int .i64 (.ofNat 0))) fun x47 => 
  cnd x47 (bV (some .nilSlice) fun x4_4 => bV (some x45) fun x5_4 => some (.ret (.tuple [x4_4, x5_4]), H))
  (bV (ld1 x6 H) fun x51 => 
  bR (f127 D n [x0, x51, (.func 129 [] [x10])] H) fun x53 H => 
  bV (pExtract x53 0) fun x54 => 
  bV (pExtract x53 1) fun x55 => 
  bV (bInt .neq x55 (.int .i64 (.ofNat 0))) fun x57 => 
  cnd x57 (bV (some .nilSlice) fun x4_5 => bV (some x55) fun x5_5 => some (.ret (.tuple [x4_5, x5_5]), H))
  (bR (f130 D n [x54, x44] H) fun x61 H => 
  bV (some x61) fun x4_6 => bV (some (.int .i64 (.ofNat 0))) fun x5_6 => some (.ret (.tuple [x4_6, x5_6]), H)))))
  (fun id => none) (bV (some .nilSlice) fun x4_2 => bV (some (.int .i64 (.ofNat 0))) fun x5_2 => some (.ret (.tuple [x4_2, x5_2]), H))))
def h37 : Hint := (.s .o (.s (.s .o (.cl (.s .o .o) .o)) (.s .o (.s .o (.s (.s .o (.b0 (.rf 0 [6]))) (.s (.s .o (.cl (.s .o .o) .o)) (.s .o (.s .o (.s (.s .o (.cl (.s .o .o) .o)) (.s .o (.s (.s .o (.cl (.s .o .o) .o)) (.s .o .o))))))))))))
theorem f37_eq (D : Dyn) (n : Nat) : f37 D n = funK (s37 D n) D n 37 Tryz.f37 h37 := by kernel_rfl
theorem f37_ok {D : Dyn} (hD : DG D) (n : Nat) : FI 37 (f37 D n) := fun_ok X_ok hD (SOk.cons (f123_ok hD n).fs (SOk.cons (f126_ok hD n).fs (SOk.cons (f127_ok hD n).fs (SOk.cons (f130_ok hD n).fs (SOk.nil))))) Tryz.func37 (by kernel_rfl) (f37_eq D n)
def r37_0 (D : Dyn) (n : Nat) (A : Nat) (l : ALoop) (az : List AV) (H : AH) : Option (AV × AH) :=
  bif eqNL [6] l.live then endQ A (hd l.vals fun x6 vs => hd az fun x25 az => hd az fun x26 az => nl az <|
  bA (bxV 52 (.agg [(.int .i64 (.ofNat 0)), (.int .i64 (.ofNat 0)), (.int .u64 (.ofNat 0))])) H fun x8 H => 
  bR (stN 3 x8 x25 H) fun x9999 H => 
  bA (bxV 57 (.agg [(.bool false), .nilSlice, .nilSlice, .nilSlice])) H fun x9 H => 
  bR (stN 4 x9 x26 H) fun x9999_2 H => 
  beginK A H fun H => 
  bV (ld1 x6 H) fun x27 => 
  bV (ldN 3 x8 H) fun x28 => 
  bV (ldN 4 x9 H) fun x29 => 
  bR (upM (1 :: [6, 6, 10]) x27 x28 x29 H) fun x9999_3 H => 
  some (.norm [], H)) else none
def r37_0a : Hint := (.s .o .o)
def r37_0b : Hint := (.b0 .o)
theorem r37_0_eq (D : Dyn) (n : Nat) : r37_0 D n = rndK (s37 D n) D n 37 0 [6] [] r37_0a r37_0b := by kernel_rfl
theorem r37_0_ok {D : Dyn} (hD : DG D) (n : Nat) : RS 37 0 (r37_0 D n) := round_ok X_ok hD (SOk.cons (f123_ok hD n).fs (SOk.cons (f126_ok hD n).fs (SOk.cons (f127_ok hD n).fs (SOk.cons (f130_ok hD n).fs (SOk.nil))))) (by kernel_rfl) (r37_0_eq D n)

def s38 (D : Dyn) (n : Nat) : Tb := ⟨X, []⟩
def f38l0 (D : Dyn) (n : Nat) (vs : List AV) (H : AH) : Rs :=
  hd vs fun x0_2 vs => hd vs fun x3 vs => 
  bV (bInt .geq x3 (.int .i64 (.ofNat 0))) fun x8 => 
  cnd x8 (bV (ixStr x0_2 x3) fun x13 => 
  bV (bInt .neq x13 (.int .u8 (.ofNat 255))) fun x14 => 
  cnd x14 (bV (slStr x0_2 none (some x3)) fun x17 => 
  bV (ixStr x0_2 x3) fun x20 => 
  bV (bInt .add x20 (.int .u8 (.ofNat 1))) fun x21 => 
  bA (bldL 5 1 1 [(.int .u8 (.ofNat 0))] [(0, x21)]) H fun x22 H => 
  bV (cvBS x22 H) fun x23 => 
  bV (bStr .add x17 x23) fun x24 => 
  bV (some x24) fun x2 => some (.ret x2, H))
  (bV (bInt .sub x3 (.int .i64 (.ofNat 1))) fun x10 => 
  some (.norm [x0_2, x10], H)))
  (some (.exit 0 [], H))
def f38b1 (D : Dyn) (n : Nat) (vs : List AV) (H : AH) : Rs :=
  
  bV (some (.str 0 0)) fun x2_2 => some (.ret x2_2, H)
/-- jetty/walk.Behind -/
def f38 (D : Dyn) (n : Nat) (vs : List AV) (H : AH) : Option (AV × AH) :=
  outR (hd vs fun x0 vs => nl vs <|
  bV (lnStr x0) fun x5 => 
  bV (bInt .sub x5 (.int .i64 (.ofNat 1))) fun x6 => 
  jb 0 (loopK n (f38l0 D n) [x0, x6] H) (f38b1 D n))
def h38 : Hint := (.s .o (.s (.s .o (.b [] (.l [0, 3] (.s (.s .o (.cr .o .o)) (.s (.b0 (.s .o (.cl (.s .o .o) .o))) .o))))) (.s .o .o)))
theorem f38_eq (D : Dyn) (n : Nat) : f38 D n = funK (s38 D n) D n 38 Tryz.f38 h38 := by kernel_rfl
theorem f38_ok {D : Dyn} (hD : DG D) (n : Nat) : FI 38 (f38 D n) := fun_ok X_ok hD (SOk.nil) Tryz.func38 (by kernel_rfl) (f38_eq D n)

def s39 (D : Dyn) (n : Nat) : Tb := ⟨X, [(33, f33 D n), (34, f34 D n), (35, f35 D n), (37, f37 D n), (36, f36 D n), (97, f97 D n), (38, f38 D n)]⟩
/-- jetty/jettylaw14.awake -/
def f39 (D : Dyn) (n : Nat) (vs : List AV) (H : AH) : Option (AV × AH) :=
  outR (nl vs <|
  bV (bldS [(0, 1), (1, 1), (2, 1)] [(.int .u8 (.ofNat 0)), (.str 0 0), (.str 0 0)] [(1, (.str 1 97)), (2, (.str 1 49))]) fun x18 => 
  bV (bldS [(0, 1), (1, 1), (2, 1)] [(.int .u8 (.ofNat 0)), (.str 0 0), (.str 0 0)] [(1, (.str 1 98)), (2, (.str 1 50))]) fun x19 => 
  bV (bldS [(0, 1), (1, 1), (2, 1)] [(.int .u8 (.ofNat 0)), (.str 0 0), (.str 0 0)] [(1, (.str 2 24931)), (2, (.str 1 51))]) fun x20 => 
  bV (bldS [(0, 1), (1, 1), (2, 1)] [(.int .u8 (.ofNat 0)), (.str 0 0), (.str 0 0)] [(0, (.int .u8 (.ofNat 2)))]) fun x21 => 
  bA (bldL 67 3 4 [(.int .u8 (.ofNat 0)), (.str 0 0), (.str 0 0)] [(0, x18), (1, x19), (2, x20), (3, x21)]) H fun x22 H => 
  bR (f33 D n [x22] H) fun x23 H => 
  bV (pExtract x23 0) fun x24 => 
  bV (pExtract x23 1) fun x25 => 
  bV (bldS [(0, 1), (1, 1), (2, 1)] [(.int .u8 (.ofNat 0)), (.str 0 0), (.str 0 0)] [(1, (.str 1 98)), (2, (.str 1 50))]) fun x27 => 
  bV (bldS [(0, 1), (1, 1), (2, 1)] [(.int .u8 (.ofNat 0)), (.str 0 0), (.str 0 0)] [(1, (.str 2 24931)), (2, (.str 1 52))]) fun x28 => 
  bA (bldL 67 3 2 [(.int .u8 (.ofNat 0)), (.str 0 0), (.str 0 0)] [(0, x27), (1, x28)]) H fun x29 H => 
  bR (f33 D n [x29] H) fun x30 H => 
  bV (pExtract x30 0) fun x31 => 
  bV (pExtract x30 1) fun x32 => 
  bV (aun .not x25) fun x34 => 
  jn (wnt x34 false (bV (aun .not x32) fun x37 => 
  some (.norm [x37], H)) (some (.norm [undefA], H))) fun vs H => hd vs fun x37_2 vs => 
  bV (pk3 (some x34) (some (.bool true)) (some x37_2)) fun x38 => 
  cnd x38 (bV (some (.bool false)) fun x0 => some (.ret x0, H))
  (bV (pNil x24) fun x41 => 
  bV (fAd 0 x41) fun x42 => 
  bV (ld1 x42 H) fun x43 => 
  bR (f34 D n [x43, (.str 1 97), (.str 1 99), (.int .i64 (.ofNat 9))] H) fun x44 H => 
  bV (pExtract x44 0) fun x45 => 
  bV (pExtract x44 1) fun x46 => 
  bV (pExtract x44 2) fun x47 => 
  bV (pNil x24) fun x50 => 
  bV (fAd 0 x50) fun x51 => 
  bV (ld1 x51 H) fun x52 => 
  bR (f34 D n [x52, (.str 0 0), (.str 0 0), (.int .i64 (.ofNat 1))] H) fun x53 H => 
  bV (pExtract x53 0) fun x54 => 
  bV (pExtract x53 1) fun x55 => 
  bV (pExtract x53 2) fun x56 => 
  bV (pNil x24) fun x59 => 
  bV (fAd 0 x59) fun x60 => 
  bV (ld1 x60 H) fun x61 => 
  bR (f35 D n [x61, (.str 1 98), (.str 0 0)] H) fun x62 H => 
  bV (pExtract x62 0) fun x63 => 
  bV (pExtract x62 1) fun x64 => 
  bV (pNil x24) fun x67 => 
  bV (fAd 0 x67) fun x68 => 
  bV (ld1 x68 H) fun x69 => 
  bV (pNil x31) fun x71 => 
  bV (fAd 0 x71) fun x72 => 
  bV (ld1 x72 H) fun x73 => 
  bR (f37 D n [x69, x73] H) fun x74 H => 
  bV (pExtract x74 0) fun x75 => 
  bV (pExtract x74 1) fun x76 => 
  bV (pNil x24) fun x79 => 
  bV (fAd 0 x79) fun x80 => 
  bV (ld1 x80 H) fun x81 => 
  bR (f36 D n [x81] H) fun x82 H => 
  bV (pExtract x82 0) fun x83 => 
  bV (pExtract x82 1) fun x84 => 
  bV (lnSl x45) fun x86 => 
  bV (bInt .eql x86 (.int .i64 (.ofNat 2))) fun x87 => 
  jn (wnt x87 true (bV (ixSl 2 x45 (.int .i64 (.ofNat 1))) fun x90 => 
  bV (ldN 2 x90 H) fun x91 => 
  bV (bldS [(0, 1), (1, 1)] [(.str 0 0), (.str 0 0)] [(0, (.str 1 98)), (1, (.str 1 50))]) fun x92 => 
  bV (cmpO .eql (eqA [2, 2] x91 x92)) fun x93 => 
  some (.norm [x93], H)) (some (.norm [undefA], H))) fun vs H => hd vs fun x93_2 vs => 
  bV (pk3 (some x87) (some x93_2) (some (.bool false))) fun x94 => 
  jn (wnt x94 true (bV (aun .not x46) fun x97 => 
  some (.norm [x97], H)) (some (.norm [undefA], H))) fun vs H => hd vs fun x97_2 vs => 
  bV (pk3 (some x94) (some x97_2) (some (.bool false))) fun x98 => 
  jn (wnt x98 true (bV (bInt .eql x47 (.int .i64 (.ofNat 0))) fun x101 => 
  some (.norm [x101], H)) (some (.norm [undefA], H))) fun vs H => hd vs fun x101_2 vs => 
  bV (pk3 (some x98) (some x101_2) (some (.bool false))) fun x102 => 
  jn (wnt x102 true (bV (lnSl x54) fun x105 => 
  bV (bInt .eql x105 (.int .i64 (.ofNat 1))) fun x106 => 
  some (.norm [x106], H)) (some (.norm [undefA], H))) fun vs H => hd vs fun x106_2 vs => 
  bV (pk3 (some x102) (some x106_2) (some (.bool false))) fun x107 => 
  jn (wnt x107 true (some (.norm [x55], H)) (some (.norm [undefA], H))) fun vs H => hd vs fun x109 vs => 
  bV (pk3 (some x107) (some x109) (some (.bool false))) fun x110 => 
  jn (wnt x110 true (bV (bInt .eql x56 (.int .i64 (.ofNat 0))) fun x113 => 
  some (.norm [x113], H)) (some (.norm [undefA], H))) fun vs H => hd vs fun x113_2 vs => 
  bV (pk3 (some x110) (some x113_2) (some (.bool false))) fun x114 => 
  jn (wnt x114 true (bV (bInt .eql x63 (.int .i64 (.ofNat 2))) fun x117 => 
  some (.norm [x117], H)) (some (.norm [undefA], H))) fun vs H => hd vs fun x117_2 vs => 
  bV (pk3 (some x114) (some x117_2) (some (.bool false))) fun x118 => 
  jn (wnt x118 true (bV (bInt .eql x64 (.int .i64 (.ofNat 0))) fun x121 => 
  some (.norm [x121], H)) (some (.norm [undefA], H))) fun vs H => hd vs fun x121_2 vs => 
  bV (pk3 (some x118) (some x121_2) (some (.bool false))) fun x122 => 
  jn (wnt x122 true (bV (lnSl x75) fun x125 => 
  bV (bInt .eql x125 (.int .i64 (.ofNat 2))) fun x126 => 
  some (.norm [x126], H)) (some (.norm [undefA], H))) fun vs H => hd vs fun x126_2 vs => 
  bV (pk3 (some x122) (some x126_2) (some (.bool false))) fun x127 => 
  jn (wnt x127 true (bV (ixSl 5 x75 (.int .i64 (.ofNat 0))) fun x130 => 
  bV (ldN 5 x130 H) fun x131 => 
  bV (bldS [(0, 1), (1, 1), (2, 1), (3, 1), (4, 1)] [(.str 0 0), (.str 0 0), (.str 0 0), (.bool false), (.bool false)] [(0, (.str 1 97)), (1, (.str 1 49)), (3, (.bool true))]) fun x132 => 
  bV (cmpO .eql (eqA [2, 2, 2, 0, 0] x131 x132)) fun x133 => 
  some (.norm [x133], H)) (some (.norm [undefA], H))) fun vs H => hd vs fun x133_2 vs => 
  bV (pk3 (some x127) (some x133_2) (some (.bool false))) fun x134 => 
  jn (wnt x134 true (bV (ixSl 5 x75 (.int .i64 (.ofNat 1))) fun x137 => 
  bV (ldN 5 x137 H) fun x138 => 
  bV (bldS [(0, 1), (1, 1), (2, 1), (3, 1), (4, 1)] [(.str 0 0), (.str 0 0), (.str 0 0), (.bool false), (.bool false)] [(0, (.str 2 24931)), (1, (.str 1 51)), (2, (.str 1 52)), (3, (.bool true)), (4, (.bool true))]) fun x139 => 
  bV (cmpO .eql (eqA [2, 2, 2, 0, 0] x138 x139)) fun x140 => 
  some (.norm [x140], H)) (some (.norm [undefA], H))) fun vs H => hd vs fun x140_2 vs => 
  bV (pk3 (some x134) (some x140_2) (some (.bool false))) fun x141 => 
  jn (wnt x141 true (bV (bInt .eql x76 (.int .i64 (.ofNat 0))) fun x144 => 
  some (.norm [x144], H)) (some (.norm [undefA], H))) fun vs H => hd vs fun x144_2 vs => 
  bV (pk3 (some x141) (some x144_2) (some (.bool false))) fun x145 => 
  jn (wnt x145 true (bV (lnSl x83) fun x148 => 
  bV (bInt .eql x148 (.int .i64 (.ofNat 1))) fun x149 => 
  some (.norm [x149], H)) (some (.norm [undefA], H))) fun vs H => hd vs fun x149_2 vs => 
  bV (pk3 (some x145) (some x149_2) (some (.bool false))) fun x150 => 
  jn (wnt x150 true (bV (ixSl 3 x83 (.int .i64 (.ofNat 0))) fun x153 => 
  bV (ldN 3 x153 H) fun x154 => 
  bV (pNil x24) fun x156 => 
  bV (fAd 0 x156) fun x157 => 
  bV (ld1 x157 H) fun x158 => 
  bR (f97 D n [x158] H) fun x159 H => chk (ldN 3 x153 H) x154 <| 
  bV (cmpO .eql (eqA [6, 6, 10] x154 x159)) fun x160 => 
  some (.norm [x160], H)) (some (.norm [undefA], H))) fun vs H => hd vs fun x160_2 vs => 
  bV (pk3 (some x150) (some x160_2) (some (.bool false))) fun x161 => 
  jn (wnt x161 true (bV (bInt .eql x84 (.int .i64 (.ofNat 0))) fun x164 => 
  some (.norm [x164], H)) (some (.norm [undefA], H))) fun vs H => hd vs fun x164_2 vs => 
  bV (pk3 (some x161) (some x164_2) (some (.bool false))) fun x165 => 
  jn (wnt x165 true (bR (f38 D n [(.str 1 99)] H) fun x167 H => 
  bV (bStr .eql x167 (.str 1 100)) fun x168 => 
  some (.norm [x168], H)) (some (.norm [undefA], H))) fun vs H => hd vs fun x168_2 vs => 
  bV (pk3 (some x165) (some x168_2) (some (.bool false))) fun x169 => 
  bV (some x169) fun x0_2 => some (.ret x0_2, H)))
def h39 : Hint := (.s .o (.s .o (.s .o (.s (.s .o (.cl (.s .o .o) .o)) (.s .o (.s .o (.s .o (.s .o (.s .o (.s .o .o))))))))))
theorem f39_eq (D : Dyn) (n : Nat) : f39 D n = funK (s39 D n) D n 39 Tryz.f39 h39 := by kernel_rfl
theorem f39_ok {D : Dyn} (hD : DG D) (n : Nat) : FI 39 (f39 D n) := fun_ok X_ok hD (SOk.cons (f33_ok hD n).fs (SOk.cons (f34_ok hD n).fs (SOk.cons (f35_ok hD n).fs (SOk.cons (f37_ok hD n).fs (SOk.cons (f36_ok hD n).fs (SOk.cons (f97_ok hD n).fs (SOk.cons (f38_ok hD n).fs (SOk.nil)))))))) Tryz.func39 (by kernel_rfl) (f39_eq D n)

def s5 (D : Dyn) (n : Nat) : Tb := ⟨X, [(33, f33 D n), (34, f34 D n), (35, f35 D n), (36, f36 D n), (37, f37 D n), (38, f38 D n), (39, f39 D n)]⟩
/-- jetty/jettylaw14.WalkNames -/
def f5 (D : Dyn) (n : Nat) (vs : List AV) (H : AH) : Option (AV × AH) :=
  outR (nl vs <|
  bV (bldS [(0, 1), (1, 1), (2, 1)] [(.int .u8 (.ofNat 0)), (.str 0 0), (.str 0 0)] [(1, (.str 1 97)), (2, (.str 1 49))]) fun x33 => 
  bV (bldS [(0, 1), (1, 1), (2, 1)] [(.int .u8 (.ofNat 0)), (.str 0 0), (.str 0 0)] [(1, (.str 1 98)), (2, (.str 1 50))]) fun x34 => 
  bV (bldS [(0, 1), (1, 1), (2, 1)] [(.int .u8 (.ofNat 0)), (.str 0 0), (.str 0 0)] [(1, (.str 2 24931)), (2, (.str 1 51))]) fun x35 => 
  bA (bldL 67 3 3 [(.int .u8 (.ofNat 0)), (.str 0 0), (.str 0 0)] [(0, x33), (1, x34), (2, x35)]) H fun x36 H => 
  bR (f33 D n [x36] H) fun x37 H => 
  bV (pExtract x37 0) fun x38 => 
  bV (pExtract x37 1) fun x39 => 
  bR (f33 D n [.nilSlice] H) fun x41 H => 
  bV (pExtract x41 0) fun x42 => 
  bV (pExtract x41 1) fun x43 => 
  bV (aun .not x39) fun x45 => 
  jn (wnt x45 false (bV (aun .not x43) fun x48 => 
  some (.norm [x48], H)) (some (.norm [undefA], H))) fun vs H => hd vs fun x48_2 vs => 
  bV (pk3 (some x45) (some (.bool true)) (some x48_2)) fun x49 => 
  cnd x49 (bV (some (.bool false)) fun x0 => some (.ret x0, H))
  (bR (f34 D n [.nilPtr, (.str 0 0), (.str 0 0), (.int .i64 (.ofNat 1))] H) fun x51 H => 
  bV (pExtract x51 0) fun x52 => 
  bV (pExtract x51 1) fun x53 => 
  bV (pExtract x51 2) fun x54 => 
  bR (f35 D n [.nilPtr, (.str 0 0), (.str 0 0)] H) fun x56 H => 
  bV (pExtract x56 0) fun x57 => 
  bV (pExtract x56 1) fun x58 => 
  bR (f36 D n [.nilPtr] H) fun x60 H => 
  bV (pExtract x60 0) fun x61 => 
  bV (pExtract x60 1) fun x62 => 
  bV (pNil x38) fun x65 => 
  bV (fAd 0 x65) fun x66 => 
  bV (ld1 x66 H) fun x67 => 
  bR (f37 D n [.nilPtr, x67] H) fun x68 H => 
  bV (pExtract x68 0) fun x69 => 
  bV (pExtract x68 1) fun x70 => 
  bV (pNil x38) fun x73 => 
  bV (fAd 0 x73) fun x74 => 
  bV (ld1 x74 H) fun x75 => 
  bR (f37 D n [x75, .nilPtr] H) fun x76 H => 
  bV (pExtract x76 0) fun x77 => 
  bV (pExtract x76 1) fun x78 => 
  bV (pNil x38) fun x81 => 
  bV (fAd 0 x81) fun x82 => 
  bV (ld1 x82 H) fun x83 => 
  bR (f34 D n [x83, (.str 0 0), (.str 0 0), (.int .i64 (.negSucc 0))] H) fun x84 H => 
  bV (pExtract x84 0) fun x85 => 
  bV (pExtract x84 1) fun x86 => 
  bV (pExtract x84 2) fun x87 => 
  bV (pNil x38) fun x90 => 
  bV (fAd 0 x90) fun x91 => 
  bV (ld1 x91 H) fun x92 => 
  bR (f34 D n [x92, (.str 0 0), (.str 0 0), (.int .i64 (.ofNat 0))] H) fun x93 H => 
  bV (pExtract x93 0) fun x94 => 
  bV (pExtract x93 1) fun x95 => 
  bV (pExtract x93 2) fun x96 => 
  bV (pNil x42) fun x99 => 
  bV (fAd 0 x99) fun x100 => 
  bV (ld1 x100 H) fun x101 => 
  bR (f34 D n [x101, (.str 0 0), (.str 0 0), (.int .i64 (.ofNat 0))] H) fun x102 H => 
  bV (pExtract x102 0) fun x103 => 
  bV (pExtract x102 1) fun x104 => 
  bV (pExtract x102 2) fun x105 => 
  bV (pNil x42) fun x108 => 
  bV (fAd 0 x108) fun x109 => 
  bV (ld1 x109 H) fun x110 => 
  bR (f36 D n [x110] H) fun x111 H => 
  bV (pExtract x111 0) fun x112 => 
  bV (pExtract x111 1) fun x113 => 
  bV (pNil x38) fun x116 => 
  bV (fAd 0 x116) fun x117 => 
  bV (ld1 x117 H) fun x118 => 
  bV (pNil x38) fun x120 => 
  bV (fAd 0 x120) fun x121 => 
  bV (ld1 x121 H) fun x122 => 
  bR (f37 D n [x118, x122] H) fun x123 H => 
  bV (pExtract x123 0) fun x124 => 
  bV (pExtract x123 1) fun x125 => 
  bV (pNil x38) fun x128 => 
  bV (fAd 0 x128) fun x129 => 
  bV (ld1 x129 H) fun x130 => 
  bR (f34 D n [x130, (.str 1 98), (.str 0 0), (.int .i64 (.ofNat 2))] H) fun x131 H => 
  bV (pExtract x131 0) fun x132 => 
  bV (pExtract x131 1) fun x133 => 
  bV (pExtract x131 2) fun x134 => 
  bV (bInt .eql x54 (.int .i64 (.ofNat 2))) fun x136 => 
  jn (wnt x136 true (bV (bInt .eql x58 (.int .i64 (.ofNat 2))) fun x139 => 
  some (.norm [x139], H)) (some (.norm [undefA], H))) fun vs H => hd vs fun x139_2 vs => 
  bV (pk3 (some x136) (some x139_2) (some (.bool false))) fun x140 => 
  jn (wnt x140 true (bV (bInt .eql x62 (.int .i64 (.ofNat 2))) fun x143 => 
  some (.norm [x143], H)) (some (.norm [undefA], H))) fun vs H => hd vs fun x143_2 vs => 
  bV (pk3 (some x140) (some x143_2) (some (.bool false))) fun x144 => 
  jn (wnt x144 true (bV (bInt .eql x70 (.int .i64 (.ofNat 2))) fun x147 => 
  some (.norm [x147], H)) (some (.norm [undefA], H))) fun vs H => hd vs fun x147_2 vs => 
  bV (pk3 (some x144) (some x147_2) (some (.bool false))) fun x148 => 
  jn (wnt x148 true (bV (bInt .eql x78 (.int .i64 (.ofNat 2))) fun x151 => 
  some (.norm [x151], H)) (some (.norm [undefA], H))) fun vs H => hd vs fun x151_2 vs => 
  bV (pk3 (some x148) (some x151_2) (some (.bool false))) fun x152 => 
  jn (wnt x152 true (bV (bInt .eql x87 (.int .i64 (.ofNat 1))) fun x155 => 
  some (.norm [x155], H)) (some (.norm [undefA], H))) fun vs H => hd vs fun x155_2 vs => 
  bV (pk3 (some x152) (some x155_2) (some (.bool false))) fun x156 => 
  jn (wnt x156 true (bV (lnSl x94) fun x159 => 
  bV (bInt .eql x159 (.int .i64 (.ofNat 0))) fun x160 => 
  some (.norm [x160], H)) (some (.norm [undefA], H))) fun vs H => hd vs fun x160_2 vs => 
  bV (pk3 (some x156) (some x160_2) (some (.bool false))) fun x161 => 
  jn (wnt x161 true (some (.norm [x95], H)) (some (.norm [undefA], H))) fun vs H => hd vs fun x163 vs => 
  bV (pk3 (some x161) (some x163) (some (.bool false))) fun x164 => 
  jn (wnt x164 true (bV (bInt .eql x96 (.int .i64 (.ofNat 0))) fun x167 => 
  some (.norm [x167], H)) (some (.norm [undefA], H))) fun vs H => hd vs fun x167_2 vs => 
  bV (pk3 (some x164) (some x167_2) (some (.bool false))) fun x168 => 
  jn (wnt x168 true (bV (lnSl x103) fun x171 => 
  bV (bInt .eql x171 (.int .i64 (.ofNat 0))) fun x172 => 
  some (.norm [x172], H)) (some (.norm [undefA], H))) fun vs H => hd vs fun x172_2 vs => 
  bV (pk3 (some x168) (some x172_2) (some (.bool false))) fun x173 => 
  jn (wnt x173 true (bV (aun .not x104) fun x176 => 
  some (.norm [x176], H)) (some (.norm [undefA], H))) fun vs H => hd vs fun x176_2 vs => 
  bV (pk3 (some x173) (some x176_2) (some (.bool false))) fun x177 => 
  jn (wnt x177 true (bV (bInt .eql x105 (.int .i64 (.ofNat 0))) fun x180 => 
  some (.norm [x180], H)) (some (.norm [undefA], H))) fun vs H => hd vs fun x180_2 vs => 
  bV (pk3 (some x177) (some x180_2) (some (.bool false))) fun x181 => 
  jn (wnt x181 true (bV (lnSl x112) fun x184 => 
  bV (bInt .eql x184 (.int .i64 (.ofNat 0))) fun x185 => 
  some (.norm [x185], H)) (some (.norm [undefA], H))) fun vs H => hd vs fun x185_2 vs => 
  bV (pk3 (some x181) (some x185_2) (some (.bool false))) fun x186 => 
  jn (wnt x186 true (bV (bInt .eql x113 (.int .i64 (.ofNat 0))) fun x189 => 
  some (.norm [x189], H)) (some (.norm [undefA], H))) fun vs H => hd vs fun x189_2 vs => 
  bV (pk3 (some x186) (some x189_2) (some (.bool false))) fun x190 => 
  jn (wnt x190 true (bV (lnSl x124) fun x193 => 
  bV (bInt .eql x193 (.int .i64 (.ofNat 0))) fun x194 => 
  some (.norm [x194], H)) (some (.norm [undefA], H))) fun vs H => hd vs fun x194_2 vs => 
  bV (pk3 (some x190) (some x194_2) (some (.bool false))) fun x195 => 
  jn (wnt x195 true (bV (bInt .eql x125 (.int .i64 (.ofNat 0))) fun x198 => 
  some (.norm [x198], H)) (some (.norm [undefA], H))) fun vs H => hd vs fun x198_2 vs => 
  bV (pk3 (some x195) (some x198_2) (some (.bool false))) fun x199 => 
  jn (wnt x199 true (bV (aun .not x133) fun x202 => 
  some (.norm [x202], H)) (some (.norm [undefA], H))) fun vs H => hd vs fun x202_2 vs => 
  bV (pk3 (some x199) (some x202_2) (some (.bool false))) fun x203 => 
  jn (wnt x203 true (bV (bInt .eql x134 (.int .i64 (.ofNat 0))) fun x206 => 
  some (.norm [x206], H)) (some (.norm [undefA], H))) fun vs H => hd vs fun x206_2 vs => 
  bV (pk3 (some x203) (some x206_2) (some (.bool false))) fun x207 => 
  jn (wnt x207 true (bR (f38 D n [(.str 0 0)] H) fun x209 H => 
  bV (bStr .eql x209 (.str 0 0)) fun x210 => 
  some (.norm [x210], H)) (some (.norm [undefA], H))) fun vs H => hd vs fun x210_2 vs => 
  bV (pk3 (some x207) (some x210_2) (some (.bool false))) fun x211 => 
  jn (wnt x211 true (bR (f38 D n [(.str 3 16777057)] H) fun x213 H => 
  bV (bStr .eql x213 (.str 1 98)) fun x214 => 
  some (.norm [x214], H)) (some (.norm [undefA], H))) fun vs H => hd vs fun x214_2 vs => 
  bV (pk3 (some x211) (some x214_2) (some (.bool false))) fun x215 => 
  jn (wnt x215 true (bR (f38 D n [(.str 1 255)] H) fun x217 H => 
  bV (bStr .eql x217 (.str 0 0)) fun x218 => 
  some (.norm [x218], H)) (some (.norm [undefA], H))) fun vs H => hd vs fun x218_2 vs => 
  bV (pk3 (some x215) (some x218_2) (some (.bool false))) fun x219 => 
  jn (wnt x219 true (bR (f39 D n [] H) fun x221 H => 
  some (.norm [x221], H)) (some (.norm [undefA], H))) fun vs H => hd vs fun x221_2 vs => 
  bV (pk3 (some x219) (some x221_2) (some (.bool false))) fun x222 => 
  bV (some x222) fun x0_2 => some (.ret x0_2, H)))
def h5 : Hint := (.s .o (.s .o (.s .o (.s (.s .o (.cl (.s .o .o) .o)) (.s .o (.s .o (.s .o (.s .o (.s .o (.s .o (.s .o (.s .o (.s .o (.s .o (.s .o (.s .o .o))))))))))))))))
theorem f5_eq (D : Dyn) (n : Nat) : f5 D n = funK (s5 D n) D n 5 Tryz.f5 h5 := by kernel_rfl
theorem f5_ok {D : Dyn} (hD : DG D) (n : Nat) : FI 5 (f5 D n) := fun_ok X_ok hD (SOk.cons (f33_ok hD n).fs (SOk.cons (f34_ok hD n).fs (SOk.cons (f35_ok hD n).fs (SOk.cons (f36_ok hD n).fs (SOk.cons (f37_ok hD n).fs (SOk.cons (f38_ok hD n).fs (SOk.cons (f39_ok hD n).fs (SOk.nil)))))))) Tryz.func5 (by kernel_rfl) (f5_eq D n)
end Go.Eng.Sh
