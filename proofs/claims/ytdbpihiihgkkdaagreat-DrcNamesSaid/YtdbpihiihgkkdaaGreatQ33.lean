/- Shallow functions, by program (gen.py). -/
import Derived.Test.YtdbpihiihgkkdaaGreatQ32
import Derived.Test.YtdbpihiihgkkdaaGreatProg
import Derived.KernelRfl
noncomputable section
namespace Go.Eng.Sh
open Go.Proofs
set_option maxRecDepth 100000
set_option linter.all false
def s82 (D : Dyn) (n : Nat) : Tb := ⟨X, [(178, f178 D n), (179, f179 D n)]⟩
/-- jetty/drc.rows -/
def f82 (D : Dyn) (n : Nat) (vs : List AV) (H : AH) : Option (AV × AH) :=
  outR (hd vs fun x0 vs => hd vs fun x1 vs => nl vs <|
  bA (bxV 119 .nilSlice) H fun x4 H => 
  bA (bxV 26 (.int .i64 (.ofNat 0))) H fun x5 H => 
  bV (cmpO .eql (eqP x0 .nilPtr)) fun x12 => 
  cnd x12 (bR (stN 1 x4 .nilSlice H) fun x9999 H => 
  bR (stN 1 x5 (.int .i64 (.ofNat 2)) H) fun x9999_2 H => 
  bV (ld1 x4 H) fun x9004 => bV (ld1 x5 H) fun x9005 => some (.ret (.tuple [x9004, x9005]), H))
  (bV (bInt .lss x1 (.int .i64 (.ofNat 1))) fun x14 => 
  jn (wnt x14 false (bV (bInt .gtr x1 (.int .i64 (.ofNat 16))) fun x17 => 
  some (.norm [x17], H)) (some (.norm [undefA], H))) fun vs H => hd vs fun x17_2 vs => 
  bV (pk3 (some x14) (some (.bool true)) (some x17_2)) fun x18 => 
  cnd x18 (bR (stN 1 x4 .nilSlice H) fun x9999_3 H => 
  bR (stN 1 x5 (.int .i64 (.ofNat 1)) H) fun x9999_4 H => 
  bV (ld1 x4 H) fun x9004_2 => bV (ld1 x5 H) fun x9005_2 => some (.ret (.tuple [x9004_2, x9005_2]), H))
  (bA (bxV 119 .nilSlice) H fun x6 H => 
  bR (f178 D n [x0, x1] H) fun x21 H => 
  newB H (.loop ⟨.ready, none, 82, 0, [4, 5, 6], [x4, x5, x6]⟩) fun A H => bR (rfC (s82 D n).S D x21 A H) fun _ H => endLp A H fun j H => jmpK j (
  bV (ld1 x6 H) fun x38 => 
  bR (stN 1 x4 x38 H) fun x9999_5 H => 
  bR (stN 1 x5 (.int .i64 (.ofNat 0)) H) fun x9999_6 H => 
  bV (ld1 x4 H) fun x9004_4 => bV (ld1 x5 H) fun x9005_4 => some (.ret (.tuple [x9004_4, x9005_4]), H))
  (fun id => none) (bV (ld1 x4 H) fun x9004_3 => bV (ld1 x5 H) fun x9005_3 => some (.ret (.tuple [x9004_3, x9005_3]), H)))))
def h82 : Hint := (.s .o (.s (.s .o (.cl (.s .o .o) .o)) (.s (.s .o (.cl (.s .o .o) .o)) (.s .o (.s (.s .o (.b0 (.rf 0 [4, 5, 6]))) (.s .o .o))))))
theorem f82_eq (D : Dyn) (n : Nat) : f82 D n = funK (s82 D n) D n 82 Tryz.f82 h82 := by kernel_rfl
theorem f82_ok {D : Dyn} (hD : DG D) (n : Nat) : FI 82 (f82 D n) := fun_ok X_ok hD (SOk.cons (f178_ok hD n).fs (SOk.cons (f179_ok hD n).fs (SOk.nil))) Tryz.func82 (by kernel_rfl) (f82_eq D n)
def r82_0 (D : Dyn) (n : Nat) (A : Nat) (l : ALoop) (az : List AV) (H : AH) : Option (AV × AH) :=
  bif eqNL [4, 5, 6] l.live then endQ A (hd l.vals fun x4 vs => hd vs fun x5 vs => hd vs fun x6 vs => hd az fun x22 az => hd az fun x23 az => nl az <|
  bA (bxV 36 (.agg [(.str 0 0), (.str 0 0)])) H fun x7 H => 
  bR (stN 2 x7 x22 H) fun x9999 H => 
  beginK A H fun H => 
  bV (bInt .neq x23 (.int .i64 (.ofNat 0))) fun x25 => 
  cnd x25 (bR (stN 1 x4 .nilSlice H) fun x9999_2 H => 
  bR (stN 1 x5 x23 H) fun x9999_3 H => 
  some (.ret (.tuple []), H))
  (bV (ldN 2 x7 H) fun x28 => 
  bR (f179 D n [x28] H) fun x29 H => 
  bV (pExtract x29 0) fun x30 => 
  bV (pExtract x29 1) fun x31 => 
  bA (bxV 125 (.agg [(.int .i64 (.ofNat 0)), (.int .u64 (.ofNat 0)), (.str 0 0), (.int .i64 (.ofNat 0))])) H fun x9 H => 
  bR (stN 4 x9 x30 H) fun x9999_4 H => 
  bV (aun .not x31) fun x33 => 
  cnd x33 (bR (stN 1 x4 .nilSlice H) fun x9999_5 H => 
  bR (stN 1 x5 (.int .i64 (.ofNat 4)) H) fun x9999_6 H => 
  some (.ret (.tuple []), H))
  (bV (ld1 x6 H) fun x34 => 
  bV (ldN 4 x9 H) fun x35 => 
  bA (bldL 125 4 1 [(.int .i64 (.ofNat 0)), (.int .u64 (.ofNat 0)), (.str 0 0), (.int .i64 (.ofNat 0))] [(0, x35)]) H fun x36 H => 
  bR (apP 125 4 40 x34 x36 H) fun x37 H => 
  bR (stN 1 x6 x37 H) fun x9999_7 H => 
  some (.norm [], H)))) else none
def r82_0a : Hint := (.s .o .o)
def r82_0b : Hint := (.b0 (.s (.s .o (.cl (.s .o .o) .o)) (.s .o (.s (.s .o (.cl (.s .o .o) .o)) .o))))
theorem r82_0_eq (D : Dyn) (n : Nat) : r82_0 D n = rndK (s82 D n) D n 82 0 [4, 5, 6] [] r82_0a r82_0b := by kernel_rfl
theorem r82_0_ok {D : Dyn} (hD : DG D) (n : Nat) : RS 82 0 (r82_0 D n) := round_ok X_ok hD (SOk.cons (f178_ok hD n).fs (SOk.cons (f179_ok hD n).fs (SOk.nil))) (by kernel_rfl) (r82_0_eq D n)

def s83 (D : Dyn) (n : Nat) : Tb := ⟨X, []⟩
/-- jetty/drc.isXid -/
def f83 (D : Dyn) (n : Nat) (vs : List AV) (H : AH) : Option (AV × AH) :=
  outR (hd vs fun x0 vs => nl vs <|
  bV (bInt .geq x0 (.int .i64 (.ofNat 0))) fun x4 => 
  jn (wnt x4 true (bV (bInt .leq x0 (.int .i64 (.ofNat 4294967295))) fun x7 => 
  some (.norm [x7], H)) (some (.norm [undefA], H))) fun vs H => hd vs fun x7_2 vs => 
  bV (pk3 (some x4) (some x7_2) (some (.bool false))) fun x8 => 
  bV (some x8) fun x2 => some (.ret x2, H))
def h83 : Hint := (.s .o (.s .o .o))
theorem f83_eq (D : Dyn) (n : Nat) : f83 D n = funK (s83 D n) D n 83 Tryz.f83 h83 := by kernel_rfl
theorem f83_ok {D : Dyn} (hD : DG D) (n : Nat) : FI 83 (f83 D n) := fun_ok X_ok hD (SOk.nil) Tryz.func83 (by kernel_rfl) (f83_eq D n)

def s87 (D : Dyn) (n : Nat) : Tb := ⟨X, []⟩
def f87l0 (D : Dyn) (n : Nat) (vs : List AV) (H : AH) : Rs :=
  hd vs fun x0_2 vs => hd vs fun x1_2 vs => hd vs fun x5 vs => hd vs fun x10_2 vs => hd vs fun x11 vs => 
  bV (bInt .lss x11 x10_2) fun x12 => 
  cnd x12 (bV (bInt .sub x1_2 (.int .i64 (.ofNat 1))) fun x18 => 
  bV (bInt .sub x18 x11) fun x20 => 
  bV (bInt .mul (.int .i64 (.ofNat 8)) x20) fun x21 => 
  bV (bInt .shr x0_2 x21) fun x22 => 
  bV (cvI .u8 x22) fun x23 => 
  bV (ixSl 1 x5 x11) fun x24 => 
  bR (stN 1 x24 x23 H) fun x9999 H => 
  bV (bInt .add x11 (.int .i64 (.ofNat 1))) fun x25 => 
  some (.norm [x0_2, x1_2, x5, x10_2, x25], H))
  (some (.exit 0 [x5], H))
def f87b1 (D : Dyn) (n : Nat) (vs : List AV) (H : AH) : Rs :=
  hd vs fun x5_2 vs => 
  bV (cvBS x5_2 H) fun x27 => 
  bV (some x27) fun x4 => some (.ret x4, H)
/-- jetty/drc.digits -/
def f87 (D : Dyn) (n : Nat) (vs : List AV) (H : AH) : Option (AV × AH) :=
  outR (hd vs fun x0 vs => hd vs fun x1 vs => nl vs <|
  bA (mkSl 5 1 1 [(.int .u8 (.ofNat 0))] x1 x1) H fun x8 H => 
  bV (lnSl x8) fun x10 => 
  jb 0 (loopK n (f87l0 D n) [x0, x1, x8, x10, (.int .i64 (.ofNat 0))] H) (f87b1 D n))
def h87 : Hint := (.s .o (.s .o (.s (.s .o (.b [5] (.l [0, 1, 5, 10, 11] (.s .o (.s (.cr .o .o) (.s (.b0 (.s .o .o)) .o)))))) (.s .o .o))))
theorem f87_eq (D : Dyn) (n : Nat) : f87 D n = funK (s87 D n) D n 87 Tryz.f87 h87 := by kernel_rfl
theorem f87_ok {D : Dyn} (hD : DG D) (n : Nat) : FI 87 (f87 D n) := fun_ok X_ok hD (SOk.nil) Tryz.func87 (by kernel_rfl) (f87_eq D n)

def s86 (D : Dyn) (n : Nat) : Tb := ⟨X, [(180, f180 D n), (87, f87 D n)]⟩
/-- jetty/drc.key -/
def f86 (D : Dyn) (n : Nat) (vs : List AV) (H : AH) : Option (AV × AH) :=
  outR (hd vs fun x0 vs => hd vs fun x1 vs => nl vs <|
  bR (f180 D n [x0] H) fun x6 H => 
  bV (cvI .u64 x1) fun x8 => 
  bR (f87 D n [x8, (.int .i64 (.ofNat 4))] H) fun x9 H => 
  bV (bStr .add x6 x9) fun x10 => 
  bV (some x10) fun x4 => some (.ret x4, H))
def h86 : Hint := (.s .o (.s .o .o))
theorem f86_eq (D : Dyn) (n : Nat) : f86 D n = funK (s86 D n) D n 86 Tryz.f86 h86 := by kernel_rfl
theorem f86_ok {D : Dyn} (hD : DG D) (n : Nat) : FI 86 (f86 D n) := fun_ok X_ok hD (SOk.cons (f180_ok hD n).fs (SOk.cons (f87_ok hD n).fs (SOk.nil))) Tryz.func86 (by kernel_rfl) (f86_eq D n)

def s185 (D : Dyn) (n : Nat) : Tb := ⟨X, []⟩
/-- (*jetty/tree.change).add -/
def f185 (D : Dyn) (n : Nat) (vs : List AV) (H : AH) : Option (AV × AH) :=
  outR (hd vs fun x0 vs => hd vs fun x1 vs => nl vs <|
  bA (bxV 57 x1) H fun x3 H => 
  bA (bxV 52 (.agg [(.int .i64 (.ofNat 0)), (.int .i64 (.ofNat 0)), (.int .u64 (.ofNat 0))])) H fun x4 H => 
  bV (pNil x0) fun x6 => 
  bV (fAd 1 x6) fun x7 => 
  bV (ld1 x7 H) fun x8 => 
  bV (bInt .add x8 (.int .u64 (.ofNat 1))) fun x9 => 
  bV (pNil x0) fun x10 => 
  bV (fAd 1 x10) fun x11 => 
  bR (stN 1 x11 x9 H) fun x9999 H => 
  bV (pNil x0) fun x13 => 
  bV (fAd 2 x13) fun x14 => 
  bV (ld1 x14 H) fun x15 => 
  bV (pNil x0) fun x17 => 
  bV (fAd 1 x17) fun x18 => 
  bV (ld1 x18 H) fun x19 => 
  bV (ldN 4 x3 H) fun x20 => 
  bR (upM [10] x15 x19 x20 H) fun x9999_2 H => 
  bV (pNil x0) fun x22 => 
  bV (fAd 1 x22) fun x23 => 
  bV (ld1 x23 H) fun x24 => 
  bV (bldS [(0, 1), (1, 1), (2, 1)] [(.int .i64 (.ofNat 0)), (.int .i64 (.ofNat 0)), (.int .u64 (.ofNat 0))] [(0, (.int .i64 (.ofNat 1))), (2, x24)]) fun x25 => 
  bR (stN 3 x4 x25 H) fun x9999_3 H => 
  bV (ldN 3 x4 H) fun x9004 => some (.ret x9004, H))
def h185 : Hint := (.s .o (.s .o (.s .o (.s .o .o))))
theorem f185_eq (D : Dyn) (n : Nat) : f185 D n = funK (s185 D n) D n 185 Tryz.f185 h185 := by kernel_rfl
theorem f185_ok {D : Dyn} (hD : DG D) (n : Nat) : FI 185 (f185 D n) := fun_ok X_ok hD (SOk.nil) Tryz.func185 (by kernel_rfl) (f185_eq D n)

def s184 (D : Dyn) (n : Nat) : Tb := ⟨X, []⟩
def f184j0 (D : Dyn) (n : Nat) (vs : List AV) (H : AH) : Rs :=
  hd vs fun x0_3 vs => hd vs fun x3_3 vs => hd vs fun x4_2 vs => hd vs fun x16_3 vs => hd vs fun x17_3 vs => hd vs fun x18_2 vs => 
  bV (bInt .add x18_2 (.int .i64 (.ofNat 1))) fun x41 => 
  some (.norm [x0_3, x3_3, x4_2, x16_3, x17_3, x41], H)
def f184l1 (D : Dyn) (n : Nat) (vs : List AV) (H : AH) : Rs :=
  hd vs fun x0_2 vs => hd vs fun x3_2 vs => hd vs fun x4 vs => hd vs fun x16_2 vs => hd vs fun x17_2 vs => hd vs fun x18 vs => 
  bV (bInt .lss x18 x17_2) fun x19 => 
  cnd x19 (bV (ixSl 3 x16_2 x18) fun x20 => 
  bV (ldN 3 x20 H) fun x21 => 
  bA (bxV 52 (.agg [(.int .i64 (.ofNat 0)), (.int .i64 (.ofNat 0)), (.int .u64 (.ofNat 0))])) H fun x6 H => 
  bR (stN 3 x6 x21 H) fun x9999 H => 
  bV (fAd 0 x6) fun x22 => 
  bV (ld1 x22 H) fun x23 => 
  bV (bInt .eql x23 (.int .i64 (.ofNat 1))) fun x24 => 
  jn (cnd x24 (bV (pNil x4) fun x26 => 
  bV (fAd 5 x26) fun x27 => 
  bV (ld1 x27 H) fun x28 => 
  bV (fAd 2 x6) fun x29 => 
  bV (ld1 x29 H) fun x30 => 
  bR (dlM [10] x28 x30 H) fun x9999_2 H => 
  some (.norm [x0_2, x3_2, x4, x16_2, x17_2, x18], H))
  (bV (pNil x4) fun x33 => 
  bV (fAd 7 x33) fun x34 => 
  bV (ld1 x34 H) fun x35 => 
  bV (ldN 3 x6 H) fun x36 => 
  bA (bldL 52 3 1 [(.int .i64 (.ofNat 0)), (.int .i64 (.ofNat 0)), (.int .u64 (.ofNat 0))] [(0, x36)]) H fun x37 H => 
  bR (apP 52 3 24 x35 x37 H) fun x38 H => 
  bV (pNil x4) fun x39 => 
  bV (fAd 7 x39) fun x40 => 
  bR (stN 1 x40 x38 H) fun x9999_3 H => 
  some (.norm [x0_2, x3_2, x4, x16_2, x17_2, x18], H))) (f184j0 D n))
  (some (.exit 0 [x0_2, x3_2, x4], H))
def f184b2 (D : Dyn) (n : Nat) (vs : List AV) (H : AH) : Rs :=
  hd vs fun x0_4 vs => hd vs fun x3_4 vs => hd vs fun x4_3 vs => 
  tld (mt184_0 [x0_4, x3_4, x4_3] H) H.next fun H => 
  bV (pNil x0_4) fun x60 => 
  bV (fAd 1 x60) fun x61 => 
  bV (ld1 x61 H) fun x62 => 
  bV (pNil x4_3) fun x63 => 
  bV (fAd 6 x63) fun x64 => 
  bR (stN 1 x64 x62 H) fun x9999_4 H => 
  bV (ldN 3 x3_4 H) fun x66 => 
  bV (pNil x4_3) fun x67 => 
  bV (fAd 2 x67) fun x68 => 
  bR (stN 3 x68 x66 H) fun x9999_5 H => 
  some (.ret (.tuple []), H)
/-- (*jetty/tree.change).done -/
def f184 (D : Dyn) (n : Nat) (vs : List AV) (H : AH) : Option (AV × AH) :=
  outR (hd vs fun x0 vs => hd vs fun x1 vs => nl vs <|
  bA (bxV 52 x1) H fun x3 H => 
  bV (pNil x0) fun x10 => 
  bV (fAd 0 x10) fun x11 => 
  bV (ld1 x11 H) fun x12 => 
  bV (pNil x0) fun x14 => 
  bV (fAd 3 x14) fun x15 => 
  bV (ld1 x15 H) fun x16 => 
  bV (lnSl x16) fun x17 => 
  jb 0 (loopK n (f184l1 D n) [x0, x3, x12, x16, x17, (.int .i64 (.ofNat 0))] H) (f184b2 D n))
def h184 : Hint := (.s .o (.s .o (.s (.s .o (.b [0, 3, 4] (.l [0, 3, 4, 16, 17, 18] (.s .o (.s (.cr .o .o) (.s (.b0 (.s .o (.s .o (.c [0, 3, 4, 16, 17, 18] .o .o)))) .o)))))) (.s (.t [0, 3, 4] mt184_0) (.s .o .o)))))
theorem f184_eq (D : Dyn) (n : Nat) : f184 D n = funK (s184 D n) D n 184 Tryz.f184 h184 := by kernel_rfl
theorem f184_tolds : toldsF Tryz.f184 h184 = [(q184_0.code, [0, 3, 4], mt184_0)] := by kernel_rfl
theorem f184_told : ∀ x ∈ toldsF Tryz.f184 h184, ToldOk PP Tryz.f184.ntmps 184 x.1 x.2.1 x.2.2 := by
  rw [f184_tolds]; intro x hx
  simp only [List.mem_cons, List.not_mem_nil, or_false] at hx
  subst hx; exact told184_0
theorem f184_ok {D : Dyn} (hD : DG D) (n : Nat) : FI 184 (f184 D n) := fun_okT X_ok hD (SOk.nil) Tryz.func184 (sitesT_ok (by kernel_rfl) f184_told) (f184_eq D n)

def s294 (D : Dyn) (n : Nat) : Tb := ⟨X, [(254, f254 D n)]⟩
def f294j0 (D : Dyn) (n : Nat) (vs : List AV) (H : AH) : Rs :=
  hd vs fun x1_4 vs => hd vs fun x3_3 vs => hd vs fun x4_3 vs => hd vs fun x5_3 vs => hd vs fun x6 vs => hd vs fun x20_2 vs => hd vs fun x21_2 vs => 
  bV (bInt .gtr x6 (.int .i64 (.ofNat 0))) fun x47 => 
  jn (wnt x47 true (bV (bInt .gtr x5_3 x3_3) fun x51 => 
  some (.norm [x51], H)) (some (.norm [undefA], H))) fun vs H => hd vs fun x51_2 vs => 
  bV (pk3 (some x47) (some x51_2) (some (.bool false))) fun x52 => 
  cnd x52 (bV (some x6) fun x2 => some (.ret x2, H))
  (bV (bInt .add x21_2 (.int .i64 (.ofNat 1))) fun x54 => 
  some (.norm [x1_4, x3_3, x4_3, x5_3, x20_2, x54], H))
def f294l1 (D : Dyn) (n : Nat) (vs : List AV) (H : AH) : Rs :=
  hd vs fun x1_3 vs => hd vs fun x3_2 vs => hd vs fun x4_2 vs => hd vs fun x5_2 vs => hd vs fun x20 vs => hd vs fun x21 vs => 
  bV (bInt .lss x21 x20) fun x22 => 
  cnd x22 (bV (fAd 1 x1_3) fun x25 => 
  bV (ld1 x25 H) fun x26 => 
  bV (ixSl 1 x26 x21) fun x28 => 
  bV (ld1 x28 H) fun x29 => 
  bV (lnStr x29) fun x30 => 
  bV (bInt .add (.int .i64 (.ofNat 1)) x30) fun x31 => 
  bV (bInt .add x5_2 x31) fun x32 => 
  bV (fAd 0 x1_3) fun x33 => 
  bV (ld1 x33 H) fun x34 => 
  jn (cnd x34 (bV (fAd 2 x1_3) fun x36 => 
  bV (ld1 x36 H) fun x37 => 
  bV (ixSl 1 x37 x21) fun x39 => 
  bV (ld1 x39 H) fun x40 => 
  bV (lnStr x40) fun x41 => 
  bV (bInt .add (.int .i64 (.ofNat 1)) x41) fun x42 => 
  bV (bInt .add x32 x42) fun x43 => 
  some (.norm [x1_3, x3_2, x4_2, x43, x21, x20, x21], H))
  (bV (bInt .add x32 (.int .i64 (.ofNat 16))) fun x45 => 
  some (.norm [x1_3, x3_2, x4_2, x45, x21, x20, x21], H))) (f294j0 D n))
  (some (.exit 0 [x4_2], H))
def f294b2 (D : Dyn) (n : Nat) (vs : List AV) (H : AH) : Rs :=
  hd vs fun x4_4 vs => 
  bV (some x4_4) fun x2_2 => some (.ret x2_2, H)
def f294j3 (D : Dyn) (n : Nat) (vs : List AV) (H : AH) : Rs :=
  hd vs fun x1_2 vs => hd vs fun x3 vs => hd vs fun x4 vs => hd vs fun x5 vs => 
  jb 0 (loopK n (f294l1 D n) [x1_2, x3, x4, x5, x4, (.int .i64 (.ofNat 0))] H) (f294b2 D n)
/-- jetty/node.half -/
def f294 (D : Dyn) (n : Nat) (vs : List AV) (H : AH) : Option (AV × AH) :=
  outR (hd vs fun x0 vs => nl vs <|
  bA (bxV 57 x0) H fun x1 H => 
  bV (ldN 4 x1 H) fun x7 => 
  bR (f254 D n [x7] H) fun x8 H => 
  bV (bInt .sub x8 (.int .i64 (.ofNat 2))) fun x9 => 
  bV (bInt .quo x9 (.int .i64 (.ofNat 2))) fun x10 => 
  bV (fAd 1 x1) fun x11 => 
  bV (ld1 x11 H) fun x12 => 
  bV (lnSl x12) fun x13 => 
  bV (bInt .sub x13 (.int .i64 (.ofNat 1))) fun x14 => 
  bV (fAd 0 x1) fun x15 => 
  bV (ld1 x15 H) fun x16 => 
  bV (aun .not x16) fun x17 => 
  jn (cnd x17 (bV (bInt .sub x14 (.int .i64 (.ofNat 1))) fun x19 => 
  some (.norm [x1, x10, x19, (.int .i64 (.ofNat 16))], H))
  (some (.norm [x1, x10, x14, (.int .i64 (.ofNat 0))], H))) (f294j3 D n))
def h294 : Hint := (.s .o (.s .o (.s .o (.s .o (.s (.s .o (.c [1, 3, 4, 5] (.s .o .o) .o)) (.s (.s .o (.b [4] (.l [1, 3, 4, 5, 20, 21] (.s .o (.s (.cr .o .o) (.s (.b0 (.s .o (.s .o (.s (.s .o (.c [1, 3, 4, 5, 6, 20, 21] .o .o)) (.s .o (.cl (.s .o .o) .o)))))) .o)))))) (.s .o .o)))))))
theorem f294_eq (D : Dyn) (n : Nat) : f294 D n = funK (s294 D n) D n 294 Tryz.f294 h294 := by kernel_rfl
theorem f294_ok {D : Dyn} (hD : DG D) (n : Nat) : FI 294 (f294 D n) := fun_ok X_ok hD (SOk.cons (f254_ok hD n).fs (SOk.nil)) Tryz.func294 (by kernel_rfl) (f294_eq D n)

def s285 (D : Dyn) (n : Nat) : Tb := ⟨X, [(190, f190 D n), (294, f294 D n), (103, f103 D n), (104, f104 D n)]⟩
def f285j0 (D : Dyn) (n : Nat) (vs : List AV) (H : AH) : Rs :=
  hd vs fun x1_2 vs => hd vs fun x2_2 vs => hd vs fun x4_2 vs => hd vs fun x6 vs => 
  bV (ldN 4 x2_2 H) fun x88 => 
  bV (fAd 1 x1_2) fun x89 => 
  bV (ld1 x89 H) fun x90 => 
  bV (ixSl 1 x90 x6) fun x92 => 
  bV (ld1 x92 H) fun x93 => 
  bV (ldN 4 x4_2 H) fun x94 => 
  bR (stN 4 x2_2 x88 H) fun x9999_12 H => chk (ld1 x89 H) x90 <| chk (ld1 x92 H) x93 <| chk (ldN 4 x4_2 H) x94 <| 
  bR (stN 4 x4_2 x94 H) fun x9999_13 H => 
  bV (ldN 4 x2_2 H) fun x9002_2 => bV (some x93) fun x3_2 => bV (ldN 4 x4_2 H) fun x9004_2 => bV (some (.int .i64 (.ofNat 0))) fun x5_2 => some (.ret (.tuple [x9002_2, x3_2, x9004_2, x5_2]), H)
/-- jetty/node.Cut -/
def f285 (D : Dyn) (n : Nat) (vs : List AV) (H : AH) : Option (AV × AH) :=
  outR (hd vs fun x0 vs => nl vs <|
  bA (bxV 57 x0) H fun x1 H => 
  bA (bxV 57 (.agg [(.bool false), .nilSlice, .nilSlice, .nilSlice])) H fun x2 H => 
  bA (bxV 57 (.agg [(.bool false), .nilSlice, .nilSlice, .nilSlice])) H fun x4 H => 
  bV (ldN 4 x1 H) fun x7 => 
  bR (f190 D n [x7] H) fun x8 H => 
  bV (aun .not x8) fun x9 => 
  jn (wnt x9 false (bV (fAd 1 x1) fun x11 => 
  bV (ld1 x11 H) fun x12 => 
  bV (lnSl x12) fun x13 => 
  bV (bInt .lss x13 (.int .i64 (.ofNat 2))) fun x14 => 
  some (.norm [x14], H)) (some (.norm [undefA], H))) fun vs H => hd vs fun x14_2 vs => 
  bV (pk3 (some x9) (some (.bool true)) (some x14_2)) fun x15 => 
  jn (wnt x15 false (bV (fAd 0 x1) fun x17 => 
  bV (ld1 x17 H) fun x18 => 
  bV (aun .not x18) fun x19 => 
  some (.norm [x19], H)) (some (.norm [undefA], H))) fun vs H => hd vs fun x20 vs => 
  jn (wnt x20 true (bV (fAd 1 x1) fun x21 => 
  bV (ld1 x21 H) fun x22 => 
  bV (lnSl x22) fun x23 => 
  bV (bInt .lss x23 (.int .i64 (.ofNat 3))) fun x24 => 
  some (.norm [x24], H)) (some (.norm [undefA], H))) fun vs H => hd vs fun x24_2 vs => 
  jn (wnt x15 false (bV (pk3 (some x20) (some x24_2) (some (.bool false))) fun x25 => 
  some (.norm [x25], H)) (some (.norm [undefA], H))) fun vs H => hd vs fun x25_2 vs => 
  bV (pk3 (some x15) (some (.bool true)) (some x25_2)) fun x26 => 
  cnd x26 (bV (bldS [(0, 1), (1, 1), (2, 1), (3, 1)] [(.bool false), .nilSlice, .nilSlice, .nilSlice] []) fun x27 => 
  bV (bldS [(0, 1), (1, 1), (2, 1), (3, 1)] [(.bool false), .nilSlice, .nilSlice, .nilSlice] []) fun x28 => 
  bR (stN 4 x2 x27 H) fun x9999 H => 
  bR (stN 4 x4 x28 H) fun x9999_2 H => 
  bV (ldN 4 x2 H) fun x9002 => bV (some (.str 0 0)) fun x3 => bV (ldN 4 x4 H) fun x9004 => bV (some (.int .i64 (.ofNat 1))) fun x5 => some (.ret (.tuple [x9002, x3, x9004, x5]), H))
  (bV (ldN 4 x1 H) fun x29 => 
  bR (f294 D n [x29] H) fun x30 H => 
  bV (fAd 0 x1) fun x31 => 
  bV (ld1 x31 H) fun x32 => 
  bV (fAd 0 x1) fun x33 => 
  bV (ld1 x33 H) fun x34 => 
  bV (fAd 0 x2) fun x35 => 
  bR (stN 1 x35 x32 H) fun x9999_3 H => chk (ld1 x33 H) x34 <| 
  bV (fAd 0 x4) fun x36 => 
  bR (stN 1 x36 x34 H) fun x9999_4 H => 
  bV (fAd 1 x1) fun x37 => 
  bV (ld1 x37 H) fun x38 => 
  bV (slSl 1 x38 none (some x30) (some x30) H) fun x41 => 
  bR (f103 D n [x41] H) fun x42 H => 
  bV (fAd 1 x2) fun x43 => 
  bR (stN 1 x43 x42 H) fun x9999_5 H => 
  bV (fAd 0 x1) fun x44 => 
  bV (ld1 x44 H) fun x45 => 
  jn (cnd x45 (bV (fAd 1 x1) fun x46 => 
  bV (ld1 x46 H) fun x47 => 
  bV (slSl 1 x47 (some x30) none none H) fun x49 => 
  bR (f103 D n [x49] H) fun x50 H => 
  bV (fAd 1 x4) fun x51 => 
  bR (stN 1 x51 x50 H) fun x9999_6 H => 
  bV (fAd 2 x1) fun x52 => 
  bV (ld1 x52 H) fun x53 => 
  bV (slSl 1 x53 none (some x30) (some x30) H) fun x56 => 
  bV (fAd 2 x1) fun x58 => 
  bV (ld1 x58 H) fun x59 => 
  bV (slSl 1 x59 (some x30) none none H) fun x61 => 
  bR (f103 D n [x56] H) fun x57 H => chk (ld1 x58 H) x59 <| chk (slSl 1 x59 (some x30) none none H) x61 <| 
  bV (fAd 2 x2) fun x63 => 
  bR (f103 D n [x61] H) fun x62 H => 
  bR (stN 1 x63 x57 H) fun x9999_7 H => 
  bV (fAd 2 x4) fun x64 => 
  bR (stN 1 x64 x62 H) fun x9999_8 H => 
  some (.norm [x1, x2, x4, x30], H))
  (bV (fAd 1 x1) fun x65 => 
  bV (ld1 x65 H) fun x66 => 
  bV (bInt .add x30 (.int .i64 (.ofNat 1))) fun x68 => 
  bV (slSl 1 x66 (some x68) none none H) fun x69 => 
  bR (f103 D n [x69] H) fun x70 H => 
  bV (fAd 1 x4) fun x71 => 
  bR (stN 1 x71 x70 H) fun x9999_9 H => 
  bV (fAd 3 x1) fun x72 => 
  bV (ld1 x72 H) fun x73 => 
  bV (bInt .add x30 (.int .i64 (.ofNat 1))) fun x75 => 
  bV (bInt .add x30 (.int .i64 (.ofNat 1))) fun x77 => 
  bV (slSl 3 x73 none (some x75) (some x77) H) fun x78 => 
  bV (fAd 3 x1) fun x80 => 
  bV (ld1 x80 H) fun x81 => 
  bV (bInt .add x30 (.int .i64 (.ofNat 1))) fun x83 => 
  bV (slSl 3 x81 (some x83) none none H) fun x84 => 
  bR (f104 D n [x78] H) fun x79 H => chk (ld1 x80 H) x81 <| chk (slSl 3 x81 (some x83) none none H) x84 <| 
  bV (fAd 3 x2) fun x86 => 
  bR (f104 D n [x84] H) fun x85 H => 
  bR (stN 1 x86 x79 H) fun x9999_10 H => 
  bV (fAd 3 x4) fun x87 => 
  bR (stN 1 x87 x85 H) fun x9999_11 H => 
  some (.norm [x1, x2, x4, x30], H))) (f285j0 D n)))
def h285 : Hint := (.s .o (.s (.s .o (.cl (.s .o .o) .o)) (.s .o (.s .o (.s .o (.s (.s .o (.c [1, 2, 4, 6] (.s .o .o) (.s .o .o))) (.s .o .o)))))))
theorem f285_eq (D : Dyn) (n : Nat) : f285 D n = funK (s285 D n) D n 285 Tryz.f285 h285 := by kernel_rfl
theorem f285_ok {D : Dyn} (hD : DG D) (n : Nat) : FI 285 (f285 D n) := fun_ok X_ok hD (SOk.cons (f190_ok hD n).fs (SOk.cons (f294_ok hD n).fs (SOk.cons (f103_ok hD n).fs (SOk.cons (f104_ok hD n).fs (SOk.nil))))) Tryz.func285 (by kernel_rfl) (f285_eq D n)

def s256 (D : Dyn) (n : Nat) : Tb := ⟨X, [(254, f254 D n), (285, f285 D n)]⟩
def f256l0 (D : Dyn) (n : Nat) (vs : List AV) (H : AH) : Rs :=
  hd vs fun x1_2 vs => hd vs fun x5 vs => hd vs fun x6 vs => 
  bV (ldN 4 x1_2 H) fun x11 => 
  bR (f254 D n [x11] H) fun x12 H => 
  bV (bInt .gtr x12 (.int .i64 (.ofNat 500))) fun x13 => 
  cnd x13 (bV (ldN 4 x1_2 H) fun x15 => 
  bR (f285 D n [x15] H) fun x16 H => 
  bV (pExtract x16 0) fun x17 => 
  bV (pExtract x16 1) fun x18 => 
  bV (pExtract x16 2) fun x19 => 
  bV (pExtract x16 3) fun x20 => 
  bA (bxV 57 (.agg [(.bool false), .nilSlice, .nilSlice, .nilSlice])) H fun x7 H => 
  bA (bxV 57 (.agg [(.bool false), .nilSlice, .nilSlice, .nilSlice])) H fun x9 H => 
  bR (stN 4 x7 x17 H) fun x9999 H => 
  bR (stN 4 x9 x19 H) fun x9999_2 H => 
  bV (bInt .neq x20 (.int .i64 (.ofNat 0))) fun x22 => 
  cnd x22 (bV (some .nilSlice) fun x2 => bV (some .nilSlice) fun x3 => bV (some (.int .i64 (.ofNat 4))) fun x4 => some (.ret (.tuple [x2, x3, x4]), H))
  (bV (ldN 4 x7 H) fun x24 => 
  bA (bldL 57 4 1 [(.bool false), .nilSlice, .nilSlice, .nilSlice] [(0, x24)]) H fun x25 H => 
  bR (apP 57 4 80 x5 x25 H) fun x26 H => 
  bA (bldL 9 1 1 [(.str 0 0)] [(0, x18)]) H fun x29 H => 
  bR (apP 9 1 16 x6 x29 H) fun x30 H => 
  bV (ldN 4 x9 H) fun x31 => 
  bR (stN 4 x1_2 x31 H) fun x9999_3 H => 
  some (.norm [x1_2, x26, x30], H)))
  (some (.exit 0 [x1_2, x5, x6], H))
def f256b1 (D : Dyn) (n : Nat) (vs : List AV) (H : AH) : Rs :=
  hd vs fun x1_3 vs => hd vs fun x5_2 vs => hd vs fun x6_2 vs => 
  bV (ldN 4 x1_3 H) fun x33 => 
  bA (bldL 57 4 1 [(.bool false), .nilSlice, .nilSlice, .nilSlice] [(0, x33)]) H fun x34 H => 
  bR (apP 57 4 80 x5_2 x34 H) fun x35 H => 
  bV (some x35) fun x2_2 => bV (some x6_2) fun x3_2 => bV (some (.int .i64 (.ofNat 0))) fun x4_2 => some (.ret (.tuple [x2_2, x3_2, x4_2]), H)
/-- jetty/tree.cut -/
def f256 (D : Dyn) (n : Nat) (vs : List AV) (H : AH) : Option (AV × AH) :=
  outR (hd vs fun x0 vs => nl vs <|
  bA (bxV 57 x0) H fun x1 H => 
  jb 0 (loopK n (f256l0 D n) [x1, .nilSlice, .nilSlice] H) (f256b1 D n))
def h256 : Hint := (.s .o (.s .o (.s .o (.s (.b [1, 5, 6] (.l [1, 5, 6] (.s (.s .o (.cr .o .o)) (.b0 (.s .o (.s (.s .o (.cl (.s .o .o) .o)) (.s .o (.s .o .o)))))))) (.s .o .o)))))
theorem f256_eq (D : Dyn) (n : Nat) : f256 D n = funK (s256 D n) D n 256 Tryz.f256 h256 := by kernel_rfl
theorem f256_ok {D : Dyn} (hD : DG D) (n : Nat) : FI 256 (f256 D n) := fun_ok X_ok hD (SOk.cons (f254_ok hD n).fs (SOk.cons (f285_ok hD n).fs (SOk.nil))) Tryz.func256 (by kernel_rfl) (f256_eq D n)

def s258 (D : Dyn) (n : Nat) : Tb := ⟨X, [(185, f185 D n)]⟩
def f258l0 (D : Dyn) (n : Nat) (vs : List AV) (H : AH) : Rs :=
  hd vs fun x0_2 vs => hd vs fun x5 vs => hd vs fun x8 vs => hd vs fun x9_2 vs => hd vs fun x10 vs => 
  bV (bInt .lss x10 x9_2) fun x11 => 
  cnd x11 (bV (ixSl 4 x8 x10) fun x12 => 
  bV (ldN 4 x12 H) fun x13 => 
  bA (bxV 57 (.agg [(.bool false), .nilSlice, .nilSlice, .nilSlice])) H fun x7 H => 
  bR (stN 4 x7 x13 H) fun x9999 H => 
  bV (ldN 4 x7 H) fun x16 => 
  bR (f185 D n [x0_2, x16] H) fun x17 H => 
  bA (bldL 52 3 1 [(.int .i64 (.ofNat 0)), (.int .i64 (.ofNat 0)), (.int .u64 (.ofNat 0))] [(0, x17)]) H fun x18 H => 
  bR (apP 52 3 24 x5 x18 H) fun x19 H => 
  bV (bInt .add x10 (.int .i64 (.ofNat 1))) fun x20 => 
  some (.norm [x0_2, x19, x8, x9_2, x20], H))
  (some (.exit 0 [x5], H))
def f258b1 (D : Dyn) (n : Nat) (vs : List AV) (H : AH) : Rs :=
  hd vs fun x5_2 vs => 
  bV (some x5_2) fun x4 => some (.ret x4, H)
/-- (*jetty/tree.change).addAll -/
def f258 (D : Dyn) (n : Nat) (vs : List AV) (H : AH) : Option (AV × AH) :=
  outR (hd vs fun x0 vs => hd vs fun x1 vs => nl vs <|
  bV (lnSl x1) fun x9 => 
  jb 0 (loopK n (f258l0 D n) [x0, .nilSlice, x1, x9, (.int .i64 (.ofNat 0))] H) (f258b1 D n))
def h258 : Hint := (.s .o (.s .o (.s (.s .o (.b [5] (.l [0, 5, 8, 9, 10] (.s .o (.s (.cr .o .o) (.s (.b0 (.s .o .o)) .o)))))) (.s .o .o))))
theorem f258_eq (D : Dyn) (n : Nat) : f258 D n = funK (s258 D n) D n 258 Tryz.f258 h258 := by kernel_rfl
theorem f258_ok {D : Dyn} (hD : DG D) (n : Nat) : FI 258 (f258 D n) := fun_ok X_ok hD (SOk.cons (f185_ok hD n).fs (SOk.nil)) Tryz.func258 (by kernel_rfl) (f258_eq D n)

def s189 (D : Dyn) (n : Nat) : Tb := ⟨X, [(184, f184 D n), (256, f256 D n), (258, f258 D n), (185, f185 D n)]⟩
def f189j0 (D : Dyn) (n : Nat) (vs : List AV) (H : AH) : Rs :=
  
  bV (some (.int .i64 (.ofNat 0))) fun x4 => some (.ret x4, H)
def f189j1 (D : Dyn) (n : Nat) (vs : List AV) (H : AH) : Rs :=
  
  bV (some (.int .i64 (.ofNat 0))) fun x4_3 => some (.ret x4_3, H)
/-- (*jetty/tree.change).crown -/
def f189 (D : Dyn) (n : Nat) (vs : List AV) (H : AH) : Option (AV × AH) :=
  outR (hd vs fun x0 vs => hd vs fun x1 vs => nl vs <|
  bA (bxV 57 x1) H fun x3 H => 
  bV (fAd 1 x3) fun x9 => 
  bV (ld1 x9 H) fun x10 => 
  bV (lnSl x10) fun x11 => 
  bV (bInt .eql x11 (.int .i64 (.ofNat 0))) fun x12 => 
  cnd x12 (bV (fAd 0 x3) fun x13 => 
  bV (ld1 x13 H) fun x14 => 
  jn (cnd x14 (bV (bldS [(0, 1), (1, 1), (2, 1)] [(.int .i64 (.ofNat 0)), (.int .i64 (.ofNat 0)), (.int .u64 (.ofNat 0))] []) fun x16 => 
  bR (f184 D n [x0, x16] H) fun x17 H => 
  some (.norm [], H))
  (bV (fAd 3 x3) fun x19 => 
  bV (ld1 x19 H) fun x20 => 
  bV (ixSl 3 x20 (.int .i64 (.ofNat 0))) fun x21 => 
  bV (ldN 3 x21 H) fun x22 => 
  bR (f184 D n [x0, x22] H) fun x23 H => 
  some (.norm [], H))) (f189j0 D n))
  (bV (ldN 4 x3 H) fun x25 => 
  bR (f256 D n [x25] H) fun x26 H => 
  bV (pExtract x26 0) fun x27 => 
  bV (pExtract x26 1) fun x28 => 
  bV (pExtract x26 2) fun x29 => 
  bV (bInt .neq x29 (.int .i64 (.ofNat 0))) fun x31 => 
  cnd x31 (bV (some x29) fun x4_2 => some (.ret x4_2, H))
  (bR (f258 D n [x0, x27] H) fun x35 H => 
  bV (lnSl x35) fun x37 => 
  bV (bInt .eql x37 (.int .i64 (.ofNat 1))) fun x38 => 
  jn (cnd x38 (bV (ixSl 3 x35 (.int .i64 (.ofNat 0))) fun x41 => 
  bV (ldN 3 x41 H) fun x42 => 
  bR (f184 D n [x0, x42] H) fun x43 H => 
  some (.norm [], H))
  (bV (bldS [(0, 1), (1, 1), (2, 1), (3, 1)] [(.bool false), .nilSlice, .nilSlice, .nilSlice] [(1, x28), (3, x35)]) fun x48 => 
  bR (f185 D n [x0, x48] H) fun x49 H => 
  bR (f184 D n [x0, x49] H) fun x50 H => 
  some (.norm [], H))) (f189j1 D n))))
def h189 : Hint := (.s .o (.s (.s .o (.cl (.s (.s .o (.c [] .o .o)) (.s .o .o)) .o)) (.s .o (.s (.s .o (.cl (.s .o .o) .o)) (.s .o (.s (.s .o (.c [] .o .o)) (.s .o .o)))))))
theorem f189_eq (D : Dyn) (n : Nat) : f189 D n = funK (s189 D n) D n 189 Tryz.f189 h189 := by kernel_rfl
theorem f189_ok {D : Dyn} (hD : DG D) (n : Nat) : FI 189 (f189 D n) := fun_ok X_ok hD (SOk.cons (f184_ok hD n).fs (SOk.cons (f256_ok hD n).fs (SOk.cons (f258_ok hD n).fs (SOk.cons (f185_ok hD n).fs (SOk.nil))))) Tryz.func189 (by kernel_rfl) (f189_eq D n)

def s89 (D : Dyn) (n : Nat) : Tb := ⟨X, []⟩
/-- (*jetty/tree.Tree).most -/
def f89 (D : Dyn) (n : Nat) (vs : List AV) (H : AH) : Option (AV × AH) :=
  outR (hd vs fun x0 vs => nl vs <|
  bV (pNil x0) fun x4 => 
  bV (fAd 5 x4) fun x5 => 
  bV (ld1 x5 H) fun x6 => 
  bV (lnMap x6 H) fun x7 => 
  bV (bInt .add (.int .i64 (.ofNat 8192)) x7) fun x8 => 
  bV (some x8) fun x2 => some (.ret x2, H))
def h89 : Hint := (.s .o (.s .o .o))
theorem f89_eq (D : Dyn) (n : Nat) : f89 D n = funK (s89 D n) D n 89 Tryz.f89 h89 := by kernel_rfl
theorem f89_ok {D : Dyn} (hD : DG D) (n : Nat) : FI 89 (f89 D n) := fun_ok X_ok hD (SOk.nil) Tryz.func89 (by kernel_rfl) (f89_eq D n)

def s188 (D : Dyn) (n : Nat) : Tb := ⟨X, []⟩
/-- (*jetty/tree.change).goes -/
def f188 (D : Dyn) (n : Nat) (vs : List AV) (H : AH) : Option (AV × AH) :=
  outR (hd vs fun x0 vs => hd vs fun x1 vs => nl vs <|
  bA (bxV 52 x1) H fun x3 H => 
  bV (pNil x0) fun x6 => 
  bV (fAd 3 x6) fun x7 => 
  bV (ld1 x7 H) fun x8 => 
  bV (ldN 3 x3 H) fun x9 => 
  bA (bldL 52 3 1 [(.int .i64 (.ofNat 0)), (.int .i64 (.ofNat 0)), (.int .u64 (.ofNat 0))] [(0, x9)]) H fun x10 H => 
  bR (apP 52 3 24 x8 x10 H) fun x11 H => 
  bV (pNil x0) fun x12 => 
  bV (fAd 3 x12) fun x13 => 
  bR (stN 1 x13 x11 H) fun x9999 H => 
  some (.ret (.tuple []), H))
def h188 : Hint := (.s .o .o)
theorem f188_eq (D : Dyn) (n : Nat) : f188 D n = funK (s188 D n) D n 188 Tryz.f188 h188 := by kernel_rfl
theorem f188_ok {D : Dyn} (hD : DG D) (n : Nat) : FI 188 (f188 D n) := fun_ok X_ok hD (SOk.nil) Tryz.func188 (by kernel_rfl) (f188_eq D n)

def s284 (D : Dyn) (n : Nat) : Tb := ⟨X, [(191, f191 D n)]⟩
/-- jetty/node.parted -/
def f284 (D : Dyn) (n : Nat) (vs : List AV) (H : AH) : Option (AV × AH) :=
  outR (hd vs fun x0 vs => hd vs fun x1 vs => hd vs fun x2 vs => nl vs <|
  bA (bxV 57 x0) H fun x3 H => 
  bA (bxV 57 x2) H fun x5 H => 
  bR (f191 D n [x1] H) fun x9 H => 
  bV (aun .not x9) fun x10 => 
  jn (wnt x10 false (bV (fAd 0 x3) fun x12 => 
  bV (ld1 x12 H) fun x13 => 
  bV (fAd 0 x5) fun x14 => 
  bV (ld1 x14 H) fun x15 => 
  bV (bBool .neq x13 x15) fun x16 => 
  some (.norm [x16], H)) (some (.norm [undefA], H))) fun vs H => hd vs fun x16_2 vs => 
  bV (pk3 (some x10) (some (.bool true)) (some x16_2)) fun x17 => 
  cnd x17 (bV (some (.bool false)) fun x6 => some (.ret x6, H))
  (bV (fAd 1 x3) fun x18 => 
  bV (ld1 x18 H) fun x19 => 
  bV (lnSl x19) fun x20 => 
  bV (bInt .gtr x20 (.int .i64 (.ofNat 0))) fun x22 => 
  jn (wnt x22 true (bV (fAd 1 x3) fun x24 => 
  bV (ld1 x24 H) fun x25 => 
  bV (bInt .sub x20 (.int .i64 (.ofNat 1))) fun x27 => 
  bV (ixSl 1 x25 x27) fun x28 => 
  bV (ld1 x28 H) fun x29 => 
  bV (bStr .geq x29 x1) fun x31 => 
  some (.norm [x31], H)) (some (.norm [undefA], H))) fun vs H => hd vs fun x31_2 vs => 
  bV (pk3 (some x22) (some x31_2) (some (.bool false))) fun x32 => 
  cnd x32 (bV (some (.bool false)) fun x6_2 => some (.ret x6_2, H))
  (bV (fAd 1 x5) fun x33 => 
  bV (ld1 x33 H) fun x34 => 
  bV (lnSl x34) fun x35 => 
  bV (bInt .eql x35 (.int .i64 (.ofNat 0))) fun x36 => 
  cnd x36 (bV (some (.bool true)) fun x6_3 => some (.ret x6_3, H))
  (bV (fAd 1 x5) fun x38 => 
  bV (ld1 x38 H) fun x39 => 
  bV (ixSl 1 x39 (.int .i64 (.ofNat 0))) fun x40 => 
  bV (ld1 x40 H) fun x41 => 
  bV (bStr .lss x1 x41) fun x42 => 
  jn (wnt x42 false (bV (fAd 0 x3) fun x44 => 
  bV (ld1 x44 H) fun x45 => 
  some (.norm [x45], H)) (some (.norm [undefA], H))) fun vs H => hd vs fun x46 vs => 
  jn (wnt x46 true (bV (fAd 1 x5) fun x48 => 
  bV (ld1 x48 H) fun x49 => 
  bV (ixSl 1 x49 (.int .i64 (.ofNat 0))) fun x50 => 
  bV (ld1 x50 H) fun x51 => 
  bV (bStr .eql x1 x51) fun x52 => 
  some (.norm [x52], H)) (some (.norm [undefA], H))) fun vs H => hd vs fun x52_2 vs => 
  jn (wnt x42 false (bV (pk3 (some x46) (some x52_2) (some (.bool false))) fun x53 => 
  some (.norm [x53], H)) (some (.norm [undefA], H))) fun vs H => hd vs fun x53_2 vs => 
  bV (pk3 (some x42) (some (.bool true)) (some x53_2)) fun x54 => 
  bV (some x54) fun x6_4 => some (.ret x6_4, H)))))
def h284 : Hint := (.s .o (.s (.s .o (.cl (.s .o .o) .o)) (.s (.s .o (.s .o (.cl (.s .o .o) .o))) (.s (.s .o (.cl (.s .o .o) .o)) (.s .o .o)))))
theorem f284_eq (D : Dyn) (n : Nat) : f284 D n = funK (s284 D n) D n 284 Tryz.f284 h284 := by kernel_rfl
theorem f284_ok {D : Dyn} (hD : DG D) (n : Nat) : FI 284 (f284 D n) := fun_ok X_ok hD (SOk.cons (f191_ok hD n).fs (SOk.nil)) Tryz.func284 (by kernel_rfl) (f284_eq D n)

def s268 (D : Dyn) (n : Nat) : Tb := ⟨X, []⟩
def f268j0 (D : Dyn) (n : Nat) (vs : List AV) (H : AH) : Rs :=
  hd vs fun x0_3 vs => 
  bV (some x0_3) fun x4 => some (.ret x4, H)
def f268j1 (D : Dyn) (n : Nat) (vs : List AV) (H : AH) : Rs :=
  hd vs fun x0_2 vs => hd vs fun x1_2 vs => 
  bV (acap X 54 x0_2) fun x10 => 
  bV (lnSl x0_2) fun x12 => 
  bV (bInt .sub x10 x12) fun x13 => 
  bV (bInt .sub x1_2 x13) fun x14 => 
  bV (bInt .gtr x14 (.int .i64 (.ofNat 0))) fun x16 => 
  jn (cnd x16 (bV (acap X 54 x0_2) fun x19 => 
  bV (slSl 1 x0_2 none (some x19) none H) fun x20 => 
  bR (apZ 9 1 16 [(.str 0 0)] x20 x14 H) fun x22 H => 
  bV (lnSl x0_2) fun x24 => 
  bV (slSl 1 x22 none (some x24) none H) fun x25 => 
  some (.norm [x25], H))
  (some (.norm [x0_2], H))) (f268j0 D n)
/-- slices.Grow[[]string,string] -/
def f268 (D : Dyn) (n : Nat) (vs : List AV) (H : AH) : Option (AV × AH) :=
  outR (hd vs fun x0 vs => hd vs fun x1 vs => nl vs <|
  bV (bInt .lss x1 (.int .i64 (.ofNat 0))) fun x6 => 
  jn (cnd x6 (none)
  (some (.norm [x0, x1], H))) (f268j1 D n))
def h268 : Hint := (.s .o (.s (.s .o (.c [0, 1] .o .o)) (.s (.s .o (.s .o (.c [0] .o .o))) (.s .o .o))))
theorem f268_eq (D : Dyn) (n : Nat) : f268 D n = funK (s268 D n) D n 268 Tryz.f268 h268 := by kernel_rfl
theorem f268_ok {D : Dyn} (hD : DG D) (n : Nat) : FI 268 (f268 D n) := fun_ok X_ok hD (SOk.nil) Tryz.func268 (by kernel_rfl) (f268_eq D n)

def s201 (D : Dyn) (n : Nat) : Tb := ⟨X, [(268, f268 D n)]⟩
def f201j0 (D : Dyn) (n : Nat) (vs : List AV) (H : AH) : Rs :=
  hd vs fun x0_3 vs => hd vs fun x3_2 vs => hd vs fun x9_2 vs => hd vs fun x10_3 vs => hd vs fun x11_2 vs => 
  bV (bInt .add x11_2 (.int .i64 (.ofNat 1))) fun x22 => 
  some (.norm [x0_3, x3_2, x9_2, x10_3, x22], H)
def f201l1 (D : Dyn) (n : Nat) (vs : List AV) (H : AH) : Rs :=
  hd vs fun x0_2 vs => hd vs fun x3 vs => hd vs fun x9 vs => hd vs fun x10_2 vs => hd vs fun x11 vs => 
  bV (bInt .lss x11 x10_2) fun x12 => 
  cnd x12 (bV (ixSl 1 x9 x11) fun x13 => 
  bV (ld1 x13 H) fun x14 => 
  bV (lnSl x14) fun x17 => 
  bV (bInt .add x3 x17) fun x18 => 
  bV (bInt .lss x18 (.int .i64 (.ofNat 0))) fun x20 => 
  jn (cnd x20 (none)
  (some (.norm [x0_2, x18, x9, x10_2, x11], H))) (f201j0 D n))
  (some (.exit 0 [x0_2, x3], H))
def f201l2 (D : Dyn) (n : Nat) (vs : List AV) (H : AH) : Rs :=
  hd vs fun x6 vs => hd vs fun x25 vs => hd vs fun x26_2 vs => hd vs fun x27 vs => 
  bV (bInt .lss x27 x26_2) fun x28 => 
  cnd x28 (bV (ixSl 1 x25 x27) fun x29 => 
  bV (ld1 x29 H) fun x30 => 
  bR (apP 9 1 16 x6 x30 H) fun x33 H => 
  bV (bInt .add x27 (.int .i64 (.ofNat 1))) fun x34 => 
  some (.norm [x33, x25, x26_2, x34], H))
  (some (.exit 2 [x6], H))
def f201b3 (D : Dyn) (n : Nat) (vs : List AV) (H : AH) : Rs :=
  hd vs fun x6_2 vs => 
  bV (some x6_2) fun x2 => some (.ret x2, H)
def f201b4 (D : Dyn) (n : Nat) (vs : List AV) (H : AH) : Rs :=
  hd vs fun x0_4 vs => hd vs fun x3_3 vs => 
  bR (f268 D n [.nilSlice, x3_3] H) fun x24 H => 
  bV (lnSl x0_4) fun x26 => 
  jb 2 (loopK n (f201l2 D n) [x24, x0_4, x26, (.int .i64 (.ofNat 0))] H) (f201b3 D n)
/-- slices.Concat[[]string,string] -/
def f201 (D : Dyn) (n : Nat) (vs : List AV) (H : AH) : Option (AV × AH) :=
  outR (hd vs fun x0 vs => nl vs <|
  bV (lnSl x0) fun x10 => 
  jb 0 (loopK n (f201l1 D n) [x0, (.int .i64 (.ofNat 0)), x0, x10, (.int .i64 (.ofNat 0))] H) (f201b4 D n))
def h201 : Hint := (.s .o (.s .o (.s (.s .o (.b [0, 3] (.l [0, 3, 9, 10, 11] (.s .o (.s (.cr .o .o) (.s (.b0 (.s .o (.s .o (.s .o (.c [0, 3, 9, 10, 11] .o .o))))) .o)))))) (.s .o (.s (.s .o (.b [6] (.l [6, 25, 26, 27] (.s .o (.s (.cr .o .o) (.s (.b0 (.s .o .o)) .o)))))) (.s .o .o))))))
theorem f201_eq (D : Dyn) (n : Nat) : f201 D n = funK (s201 D n) D n 201 Tryz.f201 h201 := by kernel_rfl
theorem f201_ok {D : Dyn} (hD : DG D) (n : Nat) : FI 201 (f201 D n) := fun_ok X_ok hD (SOk.cons (f268_ok hD n).fs (SOk.nil)) Tryz.func201 (by kernel_rfl) (f201_eq D n)

def s286 (D : Dyn) (n : Nat) : Tb := ⟨X, []⟩
def f286j0 (D : Dyn) (n : Nat) (vs : List AV) (H : AH) : Rs :=
  hd vs fun x0_3 vs => 
  bV (some x0_3) fun x4 => some (.ret x4, H)
def f286j1 (D : Dyn) (n : Nat) (vs : List AV) (H : AH) : Rs :=
  hd vs fun x0_2 vs => hd vs fun x1_2 vs => 
  bV (acap X 55 x0_2) fun x10 => 
  bV (lnSl x0_2) fun x12 => 
  bV (bInt .sub x10 x12) fun x13 => 
  bV (bInt .sub x1_2 x13) fun x14 => 
  bV (bInt .gtr x14 (.int .i64 (.ofNat 0))) fun x16 => 
  jn (cnd x16 (bV (acap X 55 x0_2) fun x19 => 
  bV (slSl 3 x0_2 none (some x19) none H) fun x20 => 
  bR (apZ 52 3 24 [(.int .i64 (.ofNat 0)), (.int .i64 (.ofNat 0)), (.int .u64 (.ofNat 0))] x20 x14 H) fun x22 H => 
  bV (lnSl x0_2) fun x24 => 
  bV (slSl 3 x22 none (some x24) none H) fun x25 => 
  some (.norm [x25], H))
  (some (.norm [x0_2], H))) (f286j0 D n)
/-- slices.Grow[[]jetty/api.Ptr,jetty/api.Ptr] -/
def f286 (D : Dyn) (n : Nat) (vs : List AV) (H : AH) : Option (AV × AH) :=
  outR (hd vs fun x0 vs => hd vs fun x1 vs => nl vs <|
  bV (bInt .lss x1 (.int .i64 (.ofNat 0))) fun x6 => 
  jn (cnd x6 (none)
  (some (.norm [x0, x1], H))) (f286j1 D n))
def h286 : Hint := (.s .o (.s (.s .o (.c [0, 1] .o .o)) (.s (.s .o (.s .o (.c [0] .o .o))) (.s .o .o))))
theorem f286_eq (D : Dyn) (n : Nat) : f286 D n = funK (s286 D n) D n 286 Tryz.f286 h286 := by kernel_rfl
theorem f286_ok {D : Dyn} (hD : DG D) (n : Nat) : FI 286 (f286 D n) := fun_ok X_ok hD (SOk.nil) Tryz.func286 (by kernel_rfl) (f286_eq D n)

def s257 (D : Dyn) (n : Nat) : Tb := ⟨X, [(286, f286 D n)]⟩
def f257j0 (D : Dyn) (n : Nat) (vs : List AV) (H : AH) : Rs :=
  hd vs fun x0_3 vs => hd vs fun x3_2 vs => hd vs fun x9_2 vs => hd vs fun x10_3 vs => hd vs fun x11_2 vs => 
  bV (bInt .add x11_2 (.int .i64 (.ofNat 1))) fun x22 => 
  some (.norm [x0_3, x3_2, x9_2, x10_3, x22], H)
def f257l1 (D : Dyn) (n : Nat) (vs : List AV) (H : AH) : Rs :=
  hd vs fun x0_2 vs => hd vs fun x3 vs => hd vs fun x9 vs => hd vs fun x10_2 vs => hd vs fun x11 vs => 
  bV (bInt .lss x11 x10_2) fun x12 => 
  cnd x12 (bV (ixSl 1 x9 x11) fun x13 => 
  bV (ld1 x13 H) fun x14 => 
  bV (lnSl x14) fun x17 => 
  bV (bInt .add x3 x17) fun x18 => 
  bV (bInt .lss x18 (.int .i64 (.ofNat 0))) fun x20 => 
  jn (cnd x20 (none)
  (some (.norm [x0_2, x18, x9, x10_2, x11], H))) (f257j0 D n))
  (some (.exit 0 [x0_2, x3], H))
def f257l2 (D : Dyn) (n : Nat) (vs : List AV) (H : AH) : Rs :=
  hd vs fun x6 vs => hd vs fun x25 vs => hd vs fun x26_2 vs => hd vs fun x27 vs => 
  bV (bInt .lss x27 x26_2) fun x28 => 
  cnd x28 (bV (ixSl 1 x25 x27) fun x29 => 
  bV (ld1 x29 H) fun x30 => 
  bR (apP 52 3 24 x6 x30 H) fun x33 H => 
  bV (bInt .add x27 (.int .i64 (.ofNat 1))) fun x34 => 
  some (.norm [x33, x25, x26_2, x34], H))
  (some (.exit 2 [x6], H))
def f257b3 (D : Dyn) (n : Nat) (vs : List AV) (H : AH) : Rs :=
  hd vs fun x6_2 vs => 
  bV (some x6_2) fun x2 => some (.ret x2, H)
def f257b4 (D : Dyn) (n : Nat) (vs : List AV) (H : AH) : Rs :=
  hd vs fun x0_4 vs => hd vs fun x3_3 vs => 
  bR (f286 D n [.nilSlice, x3_3] H) fun x24 H => 
  bV (lnSl x0_4) fun x26 => 
  jb 2 (loopK n (f257l2 D n) [x24, x0_4, x26, (.int .i64 (.ofNat 0))] H) (f257b3 D n)
/-- slices.Concat[[]jetty/api.Ptr,jetty/api.Ptr] -/
def f257 (D : Dyn) (n : Nat) (vs : List AV) (H : AH) : Option (AV × AH) :=
  outR (hd vs fun x0 vs => nl vs <|
  bV (lnSl x0) fun x10 => 
  jb 0 (loopK n (f257l1 D n) [x0, (.int .i64 (.ofNat 0)), x0, x10, (.int .i64 (.ofNat 0))] H) (f257b4 D n))
def h257 : Hint := (.s .o (.s .o (.s (.s .o (.b [0, 3] (.l [0, 3, 9, 10, 11] (.s .o (.s (.cr .o .o) (.s (.b0 (.s .o (.s .o (.s .o (.c [0, 3, 9, 10, 11] .o .o))))) .o)))))) (.s .o (.s (.s .o (.b [6] (.l [6, 25, 26, 27] (.s .o (.s (.cr .o .o) (.s (.b0 (.s .o .o)) .o)))))) (.s .o .o))))))
theorem f257_eq (D : Dyn) (n : Nat) : f257 D n = funK (s257 D n) D n 257 Tryz.f257 h257 := by kernel_rfl
theorem f257_ok {D : Dyn} (hD : DG D) (n : Nat) : FI 257 (f257 D n) := fun_ok X_ok hD (SOk.cons (f286_ok hD n).fs (SOk.nil)) Tryz.func257 (by kernel_rfl) (f257_eq D n)

def s255 (D : Dyn) (n : Nat) : Tb := ⟨X, [(190, f190 D n), (284, f284 D n), (201, f201 D n), (257, f257 D n)]⟩
/-- jetty/node.Join -/
def f255 (D : Dyn) (n : Nat) (vs : List AV) (H : AH) : Option (AV × AH) :=
  outR (hd vs fun x0 vs => hd vs fun x1 vs => hd vs fun x2 vs => nl vs <|
  bA (bxV 57 x0) H fun x3 H => 
  bA (bxV 57 x2) H fun x5 H => 
  bA (bxV 57 (.agg [(.bool false), .nilSlice, .nilSlice, .nilSlice])) H fun x6 H => 
  bV (ldN 4 x3 H) fun x8 => 
  bR (f190 D n [x8] H) fun x9 H => 
  bV (aun .not x9) fun x10 => 
  jn (wnt x10 false (bV (ldN 4 x5 H) fun x12 => 
  bR (f190 D n [x12] H) fun x13 H => 
  bV (aun .not x13) fun x14 => 
  some (.norm [x14], H)) (some (.norm [undefA], H))) fun vs H => hd vs fun x14_2 vs => 
  bV (pk3 (some x10) (some (.bool true)) (some x14_2)) fun x15 => 
  jn (wnt x15 false (bV (ldN 4 x3 H) fun x17 => 
  bV (ldN 4 x5 H) fun x19 => 
  bR (f284 D n [x17, x1, x19] H) fun x20 H => 
  bV (aun .not x20) fun x21 => 
  some (.norm [x21], H)) (some (.norm [undefA], H))) fun vs H => hd vs fun x21_2 vs => 
  bV (pk3 (some x15) (some (.bool true)) (some x21_2)) fun x22 => 
  cnd x22 (bV (bldS [(0, 1), (1, 1), (2, 1), (3, 1)] [(.bool false), .nilSlice, .nilSlice, .nilSlice] []) fun x23 => 
  bR (stN 4 x6 x23 H) fun x9999 H => 
  bV (ldN 4 x6 H) fun x9006 => bV (some (.int .i64 (.ofNat 1))) fun x7 => some (.ret (.tuple [x9006, x7]), H))
  (bV (fAd 0 x3) fun x24 => 
  bV (ld1 x24 H) fun x25 => 
  cnd x25 (bV (fAd 1 x3) fun x26 => 
  bV (ld1 x26 H) fun x27 => 
  bV (fAd 1 x5) fun x28 => 
  bV (ld1 x28 H) fun x29 => 
  bA (bldL 54 1 2 [.nilSlice] [(0, x27), (1, x29)]) H fun x30 H => 
  bV (fAd 2 x3) fun x32 => 
  bV (ld1 x32 H) fun x33 => 
  bV (fAd 2 x5) fun x34 => 
  bV (ld1 x34 H) fun x35 => 
  bA (bldL 54 1 2 [.nilSlice] [(0, x33), (1, x35)]) H fun x36 H => 
  bR (f201 D n [x30] H) fun x31 H => chk (ld1 x32 H) x33 <| chk (ld1 x34 H) x35 <| 
  bR (f201 D n [x36] H) fun x37 H => 
  bV (bldS [(0, 1), (1, 1), (2, 1), (3, 1)] [(.bool false), .nilSlice, .nilSlice, .nilSlice] [(0, (.bool true)), (1, x31), (2, x37)]) fun x38 => 
  bR (stN 4 x6 x38 H) fun x9999_2 H => 
  bV (ldN 4 x6 H) fun x9006_2 => bV (some (.int .i64 (.ofNat 0))) fun x7_2 => some (.ret (.tuple [x9006_2, x7_2]), H))
  (bV (fAd 1 x3) fun x39 => 
  bV (ld1 x39 H) fun x40 => 
  bA (bldL 9 1 1 [(.str 0 0)] [(0, x1)]) H fun x42 H => 
  bV (fAd 1 x5) fun x43 => 
  bV (ld1 x43 H) fun x44 => 
  bA (bldL 54 1 3 [.nilSlice] [(0, x40), (1, x42), (2, x44)]) H fun x45 H => 
  bV (fAd 3 x3) fun x47 => 
  bV (ld1 x47 H) fun x48 => 
  bV (fAd 3 x5) fun x49 => 
  bV (ld1 x49 H) fun x50 => 
  bA (bldL 55 1 2 [.nilSlice] [(0, x48), (1, x50)]) H fun x51 H => 
  bR (f201 D n [x45] H) fun x46 H => chk (ld1 x47 H) x48 <| chk (ld1 x49 H) x50 <| 
  bR (f257 D n [x51] H) fun x52 H => 
  bV (bldS [(0, 1), (1, 1), (2, 1), (3, 1)] [(.bool false), .nilSlice, .nilSlice, .nilSlice] [(1, x46), (3, x52)]) fun x53 => 
  bR (stN 4 x6 x53 H) fun x9999_3 H => 
  bV (ldN 4 x6 H) fun x9006_3 => bV (some (.int .i64 (.ofNat 0))) fun x7_3 => some (.ret (.tuple [x9006_3, x7_3]), H))))
def h255 : Hint := (.s .o (.s (.s .o (.cl (.s .o .o) .o)) (.s (.s .o (.cl (.s .o .o) .o)) (.s .o .o))))
theorem f255_eq (D : Dyn) (n : Nat) : f255 D n = funK (s255 D n) D n 255 Tryz.f255 h255 := by kernel_rfl
theorem f255_ok {D : Dyn} (hD : DG D) (n : Nat) : FI 255 (f255 D n) := fun_ok X_ok hD (SOk.cons (f190_ok hD n).fs (SOk.cons (f284_ok hD n).fs (SOk.cons (f201_ok hD n).fs (SOk.cons (f257_ok hD n).fs (SOk.nil))))) Tryz.func255 (by kernel_rfl) (f255_eq D n)

def s187 (D : Dyn) (n : Nat) : Tb := ⟨X, [(254, f254 D n), (90, f90 D n), (188, f188 D n), (255, f255 D n), (256, f256 D n), (201, f201 D n), (258, f258 D n), (257, f257 D n)]⟩
def f187j0 (D : Dyn) (n : Nat) (vs : List AV) (H : AH) : Rs :=
  hd vs fun x0_3 vs => hd vs fun x5_3 vs => hd vs fun x7_3 vs => hd vs fun x8_3 vs => hd vs fun x10 vs => hd vs fun x11 vs => hd vs fun x14 vs => 
  bV (bInt .neq x14 (.int .i64 (.ofNat 0))) fun x85 => 
  cnd x85 (bV (bldS [(0, 1), (1, 1), (2, 1), (3, 1)] [(.bool false), .nilSlice, .nilSlice, .nilSlice] []) fun x86 => 
  bR (stN 4 x8_3 x86 H) fun x9999_5 H => 
  bV (ldN 4 x8_3 H) fun x9008_2 => bV (some (.int .i64 (.ofNat 4))) fun x9_2 => some (.ret (.tuple [x9008_2, x9_2]), H))
  (some (.norm [x0_3, x5_3, x7_3, x8_3, x10, x11], H))
def f187j1 (D : Dyn) (n : Nat) (vs : List AV) (H : AH) : Rs :=
  hd vs fun x0_2 vs => hd vs fun x2_2 vs => hd vs fun x5_2 vs => hd vs fun x7_2 vs => hd vs fun x8_2 vs => hd vs fun x12 vs => 
  bV (pNil x0_2) fun x30 => 
  bV (fAd 0 x30) fun x31 => 
  bV (ld1 x31 H) fun x32 => 
  bV (fAd 3 x5_2) fun x33 => 
  bV (ld1 x33 H) fun x34 => 
  bV (ixSl 3 x34 x12) fun x36 => 
  bV (ldN 3 x36 H) fun x37 => 
  bA (bxV 57 (.agg [(.bool false), .nilSlice, .nilSlice, .nilSlice])) H fun x13 H => 
  bR (f90 D n [x32, x37] H) fun x38 H => 
  bV (pExtract x38 0) fun x39 => 
  bV (pExtract x38 1) fun x40 => 
  bR (stN 4 x13 x39 H) fun x9999 H => 
  bV (bInt .neq x40 (.int .i64 (.ofNat 0))) fun x42 => 
  cnd x42 (bV (bldS [(0, 1), (1, 1), (2, 1), (3, 1)] [(.bool false), .nilSlice, .nilSlice, .nilSlice] []) fun x43 => 
  bR (stN 4 x8_2 x43 H) fun x9999_2 H => 
  bV (ldN 4 x8_2 H) fun x9008 => bV (some x40) fun x9 => some (.ret (.tuple [x9008, x9]), H))
  (bV (fAd 3 x5_2) fun x46 => 
  bV (ld1 x46 H) fun x47 => 
  bV (ixSl 3 x47 x12) fun x49 => 
  bV (ldN 3 x49 H) fun x50 => 
  bR (f188 D n [x0_2, x50] H) fun x51 H => 
  bV (mn2 x2_2 x12) fun x54 => 
  bV (mx2 x2_2 x12) fun x57 => 
  bV (bInt .add x57 (.int .i64 (.ofNat 1))) fun x58 => 
  bV (bInt .lss x12 x2_2) fun x61 => 
  jn (cnd x61 (bV (ldN 4 x13 H) fun x63 => 
  bV (fAd 1 x5_2) fun x64 => 
  bV (ld1 x64 H) fun x65 => 
  bV (ixSl 1 x65 x54) fun x67 => 
  bV (ld1 x67 H) fun x68 => 
  bV (ldN 4 x7_2 H) fun x69 => 
  bR (f255 D n [x63, x68, x69] H) fun x70 H => 
  bV (pExtract x70 0) fun x71 => 
  bV (pExtract x70 1) fun x72 => 
  bR (stN 4 x7_2 x71 H) fun x9999_3 H => 
  some (.norm [x0_2, x5_2, x7_2, x8_2, x54, x58, x72], H))
  (bV (ldN 4 x7_2 H) fun x74 => 
  bV (fAd 1 x5_2) fun x75 => 
  bV (ld1 x75 H) fun x76 => 
  bV (ixSl 1 x76 x54) fun x78 => 
  bV (ld1 x78 H) fun x79 => 
  bV (ldN 4 x13 H) fun x80 => 
  bR (f255 D n [x74, x79, x80] H) fun x81 H => 
  bV (pExtract x81 0) fun x82 => 
  bV (pExtract x81 1) fun x83 => 
  bR (stN 4 x7_2 x82 H) fun x9999_4 H => 
  some (.norm [x0_2, x5_2, x7_2, x8_2, x54, x58, x83], H))) (f187j0 D n))
def f187j2 (D : Dyn) (n : Nat) (vs : List AV) (H : AH) : Rs :=
  hd vs fun x0_4 vs => hd vs fun x5_4 vs => hd vs fun x7_4 vs => hd vs fun x8_4 vs => hd vs fun x10_2 vs => hd vs fun x11_2 vs => 
  bV (ldN 4 x7_4 H) fun x88 => 
  bR (f256 D n [x88] H) fun x89 H => 
  bV (pExtract x89 0) fun x90 => 
  bV (pExtract x89 1) fun x91 => 
  bV (pExtract x89 2) fun x92 => 
  bV (bInt .neq x92 (.int .i64 (.ofNat 0))) fun x94 => 
  cnd x94 (bV (bldS [(0, 1), (1, 1), (2, 1), (3, 1)] [(.bool false), .nilSlice, .nilSlice, .nilSlice] []) fun x95 => 
  bR (stN 4 x8_4 x95 H) fun x9999_6 H => 
  bV (ldN 4 x8_4 H) fun x9008_3 => bV (some x92) fun x9_3 => some (.ret (.tuple [x9008_3, x9_3]), H))
  (bV (fAd 1 x5_4) fun x97 => 
  bV (ld1 x97 H) fun x98 => 
  bV (slSl 1 x98 none (some x10_2) (some x10_2) H) fun x101 => 
  bV (fAd 1 x5_4) fun x103 => 
  bV (ld1 x103 H) fun x104 => 
  bV (bInt .sub x11_2 (.int .i64 (.ofNat 1))) fun x106 => 
  bV (slSl 1 x104 (some x106) none none H) fun x107 => 
  bA (bldL 54 1 3 [.nilSlice] [(0, x101), (1, x91), (2, x107)]) H fun x108 H => 
  bV (fAd 3 x5_4) fun x110 => 
  bV (ld1 x110 H) fun x111 => 
  bV (slSl 3 x111 none (some x10_2) (some x10_2) H) fun x114 => 
  bV (fAd 3 x5_4) fun x118 => 
  bV (ld1 x118 H) fun x119 => 
  bV (slSl 3 x119 (some x11_2) none none H) fun x121 => 
  bR (f201 D n [x108] H) fun x109 H => chk (ld1 x110 H) x111 <| chk (slSl 3 x111 none (some x10_2) (some x10_2) H) x114 <| chk (ld1 x118 H) x119 <| chk (slSl 3 x119 (some x11_2) none none H) x121 <| 
  bR (f258 D n [x0_4, x90] H) fun x117 H => chk (ld1 x110 H) x111 <| chk (slSl 3 x111 none (some x10_2) (some x10_2) H) x114 <| chk (ld1 x118 H) x119 <| chk (slSl 3 x119 (some x11_2) none none H) x121 <| 
  bA (bldL 55 1 3 [.nilSlice] [(0, x114), (1, x117), (2, x121)]) H fun x122 H => 
  bR (f257 D n [x122] H) fun x123 H => 
  bV (bldS [(0, 1), (1, 1), (2, 1), (3, 1)] [(.bool false), .nilSlice, .nilSlice, .nilSlice] [(1, x109), (3, x123)]) fun x124 => 
  bR (stN 4 x8_4 x124 H) fun x9999_7 H => 
  bV (ldN 4 x8_4 H) fun x9008_4 => bV (some (.int .i64 (.ofNat 0))) fun x9_4 => some (.ret (.tuple [x9008_4, x9_4]), H))
/-- (*jetty/tree.change).place -/
def f187 (D : Dyn) (n : Nat) (vs : List AV) (H : AH) : Option (AV × AH) :=
  outR (hd vs fun x0 vs => hd vs fun x1 vs => hd vs fun x2 vs => hd vs fun x3 vs => nl vs <|
  bA (bxV 57 x1) H fun x5 H => 
  bA (bxV 57 x3) H fun x7 H => 
  bA (bxV 57 (.agg [(.bool false), .nilSlice, .nilSlice, .nilSlice])) H fun x8 H => 
  bV (bInt .add x2 (.int .i64 (.ofNat 1))) fun x20 => 
  bV (ldN 4 x7 H) fun x21 => 
  bR (f254 D n [x21] H) fun x22 H => 
  bV (bInt .lss x22 (.int .i64 (.ofNat 160))) fun x23 => 
  jn (cnd x23 (bV (bInt .sub x2 (.int .i64 (.ofNat 1))) fun x25 => 
  bV (bInt .eql x2 (.int .i64 (.ofNat 0))) fun x27 => 
  jn (cnd x27 (some (.norm [x0, x2, x5, x7, x8, (.int .i64 (.ofNat 1))], H))
  (some (.norm [x0, x2, x5, x7, x8, x25], H))) (f187j1 D n))
  (some (.norm [x0, x5, x7, x8, x2, x20], H))) (f187j2 D n))
def h187 : Hint := (.s .o (.s .o (.s (.s .o (.c [0, 5, 7, 8, 10, 11] (.s .o (.s (.s .o (.c [0, 2, 5, 7, 8, 12] .o .o)) (.s .o (.s (.s .o (.cl (.s .o .o) .o)) (.s .o (.s .o (.s (.s .o (.c [0, 5, 7, 8, 10, 11, 14] .o .o)) (.s .o (.cl (.s .o .o) .o))))))))) .o)) (.s .o (.s (.s .o (.cl (.s .o .o) .o)) (.s .o .o))))))
theorem f187_eq (D : Dyn) (n : Nat) : f187 D n = funK (s187 D n) D n 187 Tryz.f187 h187 := by kernel_rfl
theorem f187_ok {D : Dyn} (hD : DG D) (n : Nat) : FI 187 (f187 D n) := fun_ok X_ok hD (SOk.cons (f254_ok hD n).fs (SOk.cons (f90_ok hD n).fs (SOk.cons (f188_ok hD n).fs (SOk.cons (f255_ok hD n).fs (SOk.cons (f256_ok hD n).fs (SOk.cons (f201_ok hD n).fs (SOk.cons (f258_ok hD n).fs (SOk.cons (f257_ok hD n).fs (SOk.nil))))))))) Tryz.func187 (by kernel_rfl) (f187_eq D n)

def s186 (D : Dyn) (n : Nat) : Tb := ⟨X, [(89, f89 D n), (90, f90 D n), (91, f91 D n), (187, f187 D n), (188, f188 D n)]⟩
def f186j0 (D : Dyn) (n : Nat) (vs : List AV) (H : AH) : Rs :=
  hd vs fun x6_2 vs => hd vs fun x7_2 vs => hd vs fun x8_2 vs => hd vs fun x10_2 vs => hd vs fun x11 vs => 
  some (.norm [x6_2, x7_2, x8_2, x10_2, x11], H)
def f186j1 (D : Dyn) (n : Nat) (vs : List AV) (H : AH) : Rs :=
  hd vs fun x6_3 vs => hd vs fun x7_3 vs => hd vs fun x8_3 vs => hd vs fun x10_3 vs => hd vs fun x11_2 vs => 
  bV (bInt .neq x11_2 (.int .i64 (.ofNat 0))) fun x63 => 
  cnd x63 (bV (bldS [(0, 1), (1, 1), (2, 1), (3, 1)] [(.bool false), .nilSlice, .nilSlice, .nilSlice] []) fun x64 => 
  bR (stN 4 x8_3 x64 H) fun x9999_8 H => 
  bV (ldN 4 x8_3 H) fun x9008_3 => bV (some x11_2) fun x9_3 => some (.ret (.tuple [x9008_3, x9_3]), H))
  (bV (ld1 x6_3 H) fun x66 => 
  bV (ldN 3 x7_3 H) fun x67 => 
  bR (f188 D n [x66, x67] H) fun x68 H => 
  bV (ldN 4 x10_3 H) fun x69 => 
  bR (stN 4 x8_3 x69 H) fun x9999_9 H => 
  bV (ldN 4 x8_3 H) fun x9008_4 => bV (some (.int .i64 (.ofNat 0))) fun x9_4 => some (.ret (.tuple [x9008_4, x9_4]), H))
/-- (*jetty/tree.Tree).change$1 -/
def f186 (D : Dyn) (n : Nat) (vs : List AV) (H : AH) : Option (AV × AH) :=
  outR (hd vs fun x0 vs => hd vs fun x1 vs => hd vs fun x2 vs => hd vs fun x3 vs => hd vs fun x4 vs => hd vs fun x5 vs => hd vs fun x6 vs => nl vs <|
  bA (bxV 52 x0) H fun x7 H => 
  bA (bxV 57 (.agg [(.bool false), .nilSlice, .nilSlice, .nilSlice])) H fun x8 H => 
  bV (ld1 x1 H) fun x14 => 
  bV (bInt .add x14 (.int .i64 (.ofNat 1))) fun x15 => 
  bR (stN 1 x1 x15 H) fun x9999 H => 
  bV (ld1 x1 H) fun x16 => 
  bV (ld1 x2 H) fun x17 => 
  bR (f89 D n [x17] H) fun x18 H => chk (ld1 x1 H) x16 <| 
  bV (bInt .gtr x16 x18) fun x19 => 
  cnd x19 (bV (bldS [(0, 1), (1, 1), (2, 1), (3, 1)] [(.bool false), .nilSlice, .nilSlice, .nilSlice] []) fun x20 => 
  bR (stN 4 x8 x20 H) fun x9999_2 H => 
  bV (ldN 4 x8 H) fun x9008 => bV (some (.int .i64 (.ofNat 4))) fun x9 => some (.ret (.tuple [x9008, x9]), H))
  (bV (ld1 x2 H) fun x22 => 
  bV (ldN 3 x7 H) fun x23 => 
  bR (f90 D n [x22, x23] H) fun x24 H => 
  bV (pExtract x24 0) fun x25 => 
  bV (pExtract x24 1) fun x26 => 
  bA (bxV 57 (.agg [(.bool false), .nilSlice, .nilSlice, .nilSlice])) H fun x10 H => 
  bR (stN 4 x10 x25 H) fun x9999_3 H => 
  bV (bInt .neq x26 (.int .i64 (.ofNat 0))) fun x28 => 
  cnd x28 (bV (bldS [(0, 1), (1, 1), (2, 1), (3, 1)] [(.bool false), .nilSlice, .nilSlice, .nilSlice] []) fun x29 => 
  bR (stN 4 x8 x29 H) fun x9999_4 H => 
  bV (ldN 4 x8 H) fun x9008_2 => bV (some x26) fun x9_2 => some (.ret (.tuple [x9008_2, x9_2]), H))
  (bV (fAd 0 x10) fun x31 => 
  bV (ld1 x31 H) fun x32 => 
  jn (cnd x32 (bV (ld1 x3 H) fun x34 => 
  bV (ldN 4 x10 H) fun x35 => 
  bR (callV (s186 D n).S D x34 [x35] H) fun x36 H => 
  bV (pExtract x36 0) fun x37 => 
  bV (pExtract x36 1) fun x38 => 
  bR (stN 4 x10 x37 H) fun x9999_5 H => 
  some (.norm [x6, x7, x8, x10, x38], H))
  (bV (ldN 4 x10 H) fun x39 => 
  bV (ld1 x4 H) fun x40 => 
  bR (f91 D n [x39, x40] H) fun x41 H => 
  bA (bxV 57 (.agg [(.bool false), .nilSlice, .nilSlice, .nilSlice])) H fun x13 H => 
  bV (ld1 x5 H) fun x43 => 
  bV (fAd 3 x10) fun x44 => 
  bV (ld1 x44 H) fun x45 => 
  bV (ixSl 3 x45 x41) fun x47 => 
  bV (ldN 3 x47 H) fun x48 => 
  bR (callV (s186 D n).S D x43 [x48] H) fun x49 H => 
  bV (pExtract x49 0) fun x50 => 
  bV (pExtract x49 1) fun x51 => 
  bR (stN 4 x13 x50 H) fun x9999_6 H => 
  bV (bInt .eql x51 (.int .i64 (.ofNat 0))) fun x53 => 
  jn (cnd x53 (bV (ld1 x6 H) fun x55 => 
  bV (ldN 4 x10 H) fun x56 => 
  bV (ldN 4 x13 H) fun x58 => 
  bR (f187 D n [x55, x56, x41, x58] H) fun x59 H => 
  bV (pExtract x59 0) fun x60 => 
  bV (pExtract x59 1) fun x61 => 
  bR (stN 4 x10 x60 H) fun x9999_7 H => 
  some (.norm [x6, x7, x8, x10, x61], H))
  (some (.norm [x6, x7, x8, x10, x51], H))) (f186j0 D n))) (f186j1 D n))))
def h186 : Hint := (.s .o (.s (.s .o (.s .o (.cl (.s .o .o) .o))) (.s .o (.s (.s .o (.cl (.s .o .o) .o)) (.s (.s .o (.c [6, 7, 8, 10, 11] .o (.s .o (.s .o (.s .o (.s .o (.c [6, 7, 8, 10, 11] .o .o))))))) (.s (.s .o (.cl (.s .o .o) .o)) (.s .o (.s .o .o))))))))
theorem f186_eq (D : Dyn) (n : Nat) : f186 D n = funK (s186 D n) D n 186 Tryz.f186 h186 := by kernel_rfl
theorem f186_ok {D : Dyn} (hD : DG D) (n : Nat) : FI 186 (f186 D n) := fun_ok X_ok hD (SOk.cons (f89_ok hD n).fs (SOk.cons (f90_ok hD n).fs (SOk.cons (f91_ok hD n).fs (SOk.cons (f187_ok hD n).fs (SOk.cons (f188_ok hD n).fs (SOk.nil)))))) Tryz.func186 (by kernel_rfl) (f186_eq D n)

def s93 (D : Dyn) (n : Nat) : Tb := ⟨X, [(185, f185 D n), (184, f184 D n), (189, f189 D n)]⟩
/-- (*jetty/tree.Tree).change -/
def f93 (D : Dyn) (n : Nat) (vs : List AV) (H : AH) : Option (AV × AH) :=
  outR (hd vs fun x0 vs => hd vs fun x1 vs => hd vs fun x2 vs => nl vs <|
  bA (bxV 23 x0) H fun x3 H => 
  bA (bxV 9 x1) H fun x4 H => 
  bA (bxV 142 x2) H fun x5 H => 
  bV (ld1 x3 H) fun x14 => 
  bV (ld1 x3 H) fun x15 => 
  bV (pNil x15) fun x16 => 
  bV (fAd 6 x16) fun x17 => 
  bV (ld1 x17 H) fun x18 => 
  bA (mkM [10]) H fun x19 H => 
  bV (bldS [(0, 1), (1, 1), (2, 1), (3, 1)] [.nilPtr, (.int .u64 (.ofNat 0)), .nilMap, .nilSlice] [(0, x14), (1, x18), (2, x19)]) fun x20 => 
  bA (bxV 257 x20) H fun x21 H => 
  bA (bxV 255 .nilPtr) H fun x7 H => 
  bR (stN 1 x7 x21 H) fun x9999 H => 
  bV (ld1 x3 H) fun x22 => 
  bV (pNil x22) fun x23 => 
  bV (fAd 2 x23) fun x24 => 
  bV (fAd 0 x24) fun x25 => 
  bV (ld1 x25 H) fun x26 => 
  bV (bInt .eql x26 (.int .i64 (.ofNat 0))) fun x27 => 
  cnd x27 (bV (ld1 x5 H) fun x29 => 
  bV (bldS [(0, 1), (1, 1), (2, 1), (3, 1)] [(.bool false), .nilSlice, .nilSlice, .nilSlice] [(0, (.bool true))]) fun x30 => 
  bR (callV (s93 D n).S D x29 [x30] H) fun x31 H => 
  bV (pExtract x31 0) fun x32 => 
  bV (pExtract x31 1) fun x33 => 
  bA (bxV 57 (.agg [(.bool false), .nilSlice, .nilSlice, .nilSlice])) H fun x8 H => 
  bR (stN 4 x8 x32 H) fun x9999_2 H => 
  bV (bInt .neq x33 (.int .i64 (.ofNat 0))) fun x35 => 
  cnd x35 (bV (some x33) fun x6 => some (.ret x6, H))
  (bV (ld1 x7 H) fun x37 => 
  bV (ld1 x7 H) fun x38 => 
  bV (ldN 4 x8 H) fun x39 => 
  bR (f185 D n [x38, x39] H) fun x40 H => chk (ld1 x7 H) x37 <| 
  bR (f184 D n [x37, x40] H) fun x41 H => 
  bV (some (.int .i64 (.ofNat 0))) fun x6_2 => some (.ret x6_2, H)))
  (bA (bxV 3 (.int .i64 (.ofNat 0))) H fun x10 H => 
  bR (stN 1 x10 (.int .i64 (.ofNat 0)) H) fun x9999_3 H => 
  bA (bxV 59 .nilFunc) H fun x11 H => 
  bR (stN 1 x11 (.func 186 [] [x10, x3, x5, x4, x11, x7]) H) fun x9999_4 H => 
  bV (ld1 x11 H) fun x44 => 
  bV (ld1 x3 H) fun x45 => 
  bV (pNil x45) fun x46 => 
  bV (fAd 2 x46) fun x47 => 
  bV (ldN 3 x47 H) fun x48 => 
  bA (bxV 57 (.agg [(.bool false), .nilSlice, .nilSlice, .nilSlice])) H fun x12 H => 
  bR (callV (s93 D n).S D x44 [x48] H) fun x49 H => 
  bV (pExtract x49 0) fun x50 => 
  bV (pExtract x49 1) fun x51 => 
  bR (stN 4 x12 x50 H) fun x9999_5 H => 
  bV (bInt .neq x51 (.int .i64 (.ofNat 0))) fun x53 => 
  cnd x53 (bV (some x51) fun x6_3 => some (.ret x6_3, H))
  (bV (ld1 x7 H) fun x55 => 
  bV (ldN 4 x12 H) fun x56 => 
  bR (f189 D n [x55, x56] H) fun x57 H => 
  bV (some x57) fun x6_4 => some (.ret x6_4, H))))
def h93 : Hint := (.s .o (.s .o (.s (.s .o (.cl (.s .o (.s (.s .o (.cl (.s .o .o) .o)) (.s .o (.s .o .o)))) .o)) (.s .o (.s .o (.s .o (.s .o (.s (.s .o (.cl (.s .o .o) .o)) (.s .o .o)))))))))
theorem f93_eq (D : Dyn) (n : Nat) : f93 D n = funK (s93 D n) D n 93 Tryz.f93 h93 := by kernel_rfl
theorem f93_ok {D : Dyn} (hD : DG D) (n : Nat) : FI 93 (f93 D n) := fun_ok X_ok hD (SOk.cons (f185_ok hD n).fs (SOk.cons (f184_ok hD n).fs (SOk.cons (f189_ok hD n).fs (SOk.nil)))) Tryz.func93 (by kernel_rfl) (f93_eq D n)
end Go.Eng.Sh
