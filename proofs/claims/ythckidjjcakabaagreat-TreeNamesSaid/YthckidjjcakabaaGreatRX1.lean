/- Shallow functions, by program (gent4.py). -/
import Derived.Test.YthckidjjcakabaaGreatRX0
import Derived.Test.YthckidjjcakabaaGreatProg
import Derived.KernelRfl
noncomputable section
namespace Go.Eng.Sh
open Go.Proofs
set_option maxRecDepth 100000
set_option maxHeartbeats 4000000
set_option linter.all false
attribute [local irreducible] bV bR hd cnd jn jb loopK wnt chk newB bA bInt bStr bBool cmpO eqP eqS eqM eqF eqPL cvI cvSS slStr slArr ixArr ixSl ixStr fAd lnStr lnSl lnMap pk3 s2a bxV lkM upM dlM mkM callV nl outR tld endQ beginK endR endLp jmpK rfC mn2 mx2 aun pExtract pNil undefA isW aveq ldNp ld1p stNp cvBSp cvSBp slSlp ixAg1p ixAgNp fd1p fdNp apPp apZp cpyp bldSp bldAp bldLp mkSlp eqAp clSp bC pnK ifNil asrK noPan mkR clM acap mtp66_0 mtp80_0
def s23 (D : Dyn) (n : Nat) : Tb := ⟨X, []⟩
def h23 : Hint := (.s .o (.s .o .o))
def q23 (D : Dyn) (n : Nat) := (⟨_, by conv => rhs; reduce⟩ : {g // g = fun vs H => funS (s23 D n) D n 23 Tryz.f23 h23 [] vs H}).1
def F23 (D : Dyn) (n : Nat) : {g // g = q23 D n} := ⟨_, by conv => rhs; delta q23; dsimp only; try simp only [FPs]⟩
def f23 (D : Dyn) (n : Nat) := (F23 D n).1
theorem f23_eq (D : Dyn) (n : Nat) : f23 D n = funKp (s23 D n) D n 23 Tryz.f23 (ms h23) := (F23 D n).2.trans (by kernel_rfl)
theorem f23_ok {D : Dyn} (hD : DP D) (n : Nat) : FP 23 (f23 D n) := fun_okP X_ok hD (SP.nil) Tryz.func23 (by kernel_rfl) (by kernel_rfl) (f23_eq D n)
attribute [local irreducible] f23

def s5 (D : Dyn) (n : Nat) : Tb := ⟨X, [(23, f23 D n)]⟩
def h5 : Hint := (.s .o (.s (.s .o (.cl (.s .o .o) .o)) (.s .o .o)))
def q5 (D : Dyn) (n : Nat) := (⟨_, by conv => rhs; reduce⟩ : {g // g = fun vs H => funS (s5 D n) D n 5 Tryz.f5 h5 [] vs H}).1
def F5 (D : Dyn) (n : Nat) : {g // g = q5 D n} := ⟨_, by conv => rhs; delta q5; dsimp only; try simp only [FPs]⟩
def f5 (D : Dyn) (n : Nat) := (F5 D n).1
theorem f5_eq (D : Dyn) (n : Nat) : f5 D n = funKp (s5 D n) D n 5 Tryz.f5 (ms h5) := (F5 D n).2.trans (by kernel_rfl)
theorem f5_ok {D : Dyn} (hD : DP D) (n : Nat) : FP 5 (f5 D n) := fun_okP X_ok hD (SP.cons (f23_ok hD n) (SP.nil)) Tryz.func5 (by kernel_rfl) (by kernel_rfl) (f5_eq D n)
attribute [local irreducible] f5

def s24 (D : Dyn) (n : Nat) : Tb := ⟨X, []⟩
def h24 : Hint := (.s (.b [15,32767] .o) (.s (.b [10,1023] .o) .o))
def q24 (D : Dyn) (n : Nat) := (⟨_, by conv => rhs; reduce⟩ : {g // g = fun vs H => funS (s24 D n) D n 24 Tryz.f24 h24 [] vs H}).1
def F24 (D : Dyn) (n : Nat) : {g // g = q24 D n} := ⟨_, by conv => rhs; delta q24; dsimp only; try simp only [FPs]⟩
def f24 (D : Dyn) (n : Nat) := (F24 D n).1
theorem f24_eq (D : Dyn) (n : Nat) : f24 D n = funKp (s24 D n) D n 24 Tryz.f24 (ms h24) := (F24 D n).2.trans (by kernel_rfl)
theorem f24_ok {D : Dyn} (hD : DP D) (n : Nat) : FP 24 (f24 D n) := fun_okP X_ok hD (SP.nil) Tryz.func24 (by kernel_rfl) (by kernel_rfl) (f24_eq D n)
attribute [local irreducible] f24

def s6 (D : Dyn) (n : Nat) : Tb := ⟨X, [(24, f24 D n)]⟩
def h6 : Hint := (.s .o (.s (.s .o (.cl (.s .o .o) .o)) (.s .o (.s .o (.s (.s .o (.b [1,4] (.l [0,4,20] (.s .o (.s (.cr .o .o) (.s (.b0 (.s .o .o)) .o)))))) (.s .o .o))))))
def q6l0 (D : Dyn) (n : Nat) := (⟨_, by conv => rhs; reduce⟩ : {g // some g = prtF (s6 D n) D n 6 Tryz.f6 h6 [] 0}).1
attribute [local irreducible] q6l0
def q6b1 (D : Dyn) (n : Nat) := (⟨_, by conv => rhs; reduce⟩ : {g // some g = prtF (s6 D n) D n 6 Tryz.f6 h6 [q6l0 D n] 1}).1
attribute [local irreducible] q6b1
def q6 (D : Dyn) (n : Nat) := (⟨_, by conv => rhs; reduce⟩ : {g // g = fun vs H => funS (s6 D n) D n 6 Tryz.f6 h6 [q6l0 D n, q6b1 D n] vs H}).1
def F6l0 (D : Dyn) (n : Nat) : {g // g = q6l0 D n} := ⟨_, by conv => rhs; delta q6l0; dsimp only; try simp only [FPs]⟩
def F6b1 (D : Dyn) (n : Nat) : {g // g = q6b1 D n} := ⟨_, by conv => rhs; delta q6b1; dsimp only; try simp only [FPs, ← (F6l0 D n).2]⟩
def F6 (D : Dyn) (n : Nat) : {g // g = q6 D n} := ⟨_, by conv => rhs; delta q6; dsimp only; try simp only [FPs, ← (F6l0 D n).2, ← (F6b1 D n).2]⟩
def f6 (D : Dyn) (n : Nat) := (F6 D n).1
theorem f6_eq (D : Dyn) (n : Nat) : f6 D n = funKp (s6 D n) D n 6 Tryz.f6 (ms h6) := (F6 D n).2.trans (by kernel_rfl)
theorem f6_ok {D : Dyn} (hD : DP D) (n : Nat) : FP 6 (f6 D n) := fun_okP X_ok hD (SP.cons (f24_ok hD n) (SP.nil)) Tryz.func6 (by kernel_rfl) (by kernel_rfl) (f6_eq D n)
attribute [local irreducible] f6

def s55 (D : Dyn) (n : Nat) : Tb := ⟨X, []⟩
def h55 : Hint := (.s .o (.s (.s .o (.cl (.s .o .o) .o)) (.s .o .o)))
def q55 (D : Dyn) (n : Nat) := (⟨_, by conv => rhs; reduce⟩ : {g // g = fun vs H => funS (s55 D n) D n 55 Tryz.f55 h55 [] vs H}).1
def F55 (D : Dyn) (n : Nat) : {g // g = q55 D n} := ⟨_, by conv => rhs; delta q55; dsimp only; try simp only [FPs]⟩
def f55 (D : Dyn) (n : Nat) := (F55 D n).1
theorem f55_eq (D : Dyn) (n : Nat) : f55 D n = funKp (s55 D n) D n 55 Tryz.f55 (ms h55) := (F55 D n).2.trans (by kernel_rfl)
theorem f55_ok {D : Dyn} (hD : DP D) (n : Nat) : FP 55 (f55 D n) := fun_okP X_ok hD (SP.nil) Tryz.func55 (by kernel_rfl) (by kernel_rfl) (f55_eq D n)
attribute [local irreducible] f55

def s56 (D : Dyn) (n : Nat) : Tb := ⟨X, []⟩
def h56 : Hint := (.s .o (.b [1] (.l [0,0,1,6,7] (.s .o (.s (.cr .o .o) (.s (.b0 (.s .o .o)) .o))))))
def q56l0 (D : Dyn) (n : Nat) := (⟨_, by conv => rhs; reduce⟩ : {g // some g = prtF (s56 D n) D n 56 Tryz.f56 h56 [] 0}).1
attribute [local irreducible] q56l0
def q56b1 (D : Dyn) (n : Nat) := (⟨_, by conv => rhs; reduce⟩ : {g // some g = prtF (s56 D n) D n 56 Tryz.f56 h56 [q56l0 D n] 1}).1
attribute [local irreducible] q56b1
def q56 (D : Dyn) (n : Nat) := (⟨_, by conv => rhs; reduce⟩ : {g // g = fun vs H => funS (s56 D n) D n 56 Tryz.f56 h56 [q56l0 D n, q56b1 D n] vs H}).1
def F56l0 (D : Dyn) (n : Nat) : {g // g = q56l0 D n} := ⟨_, by conv => rhs; delta q56l0; dsimp only; try simp only [FPs]⟩
def F56b1 (D : Dyn) (n : Nat) : {g // g = q56b1 D n} := ⟨_, by conv => rhs; delta q56b1; dsimp only; try simp only [FPs, ← (F56l0 D n).2]⟩
def F56 (D : Dyn) (n : Nat) : {g // g = q56 D n} := ⟨_, by conv => rhs; delta q56; dsimp only; try simp only [FPs, ← (F56l0 D n).2, ← (F56b1 D n).2]⟩
def f56 (D : Dyn) (n : Nat) := (F56 D n).1
theorem f56_eq (D : Dyn) (n : Nat) : f56 D n = funKp (s56 D n) D n 56 Tryz.f56 (ms h56) := (F56 D n).2.trans (by kernel_rfl)
theorem f56_ok {D : Dyn} (hD : DP D) (n : Nat) : FP 56 (f56 D n) := fun_okP X_ok hD (SP.nil) Tryz.func56 (by kernel_rfl) (by kernel_rfl) (f56_eq D n)
attribute [local irreducible] f56

def s25 (D : Dyn) (n : Nat) : Tb := ⟨X, [(55, f55 D n), (56, f56 D n)]⟩
def h25 : Hint := (.s .o (.s (.s .o (.cl (.s .o .o) .o)) (.s .o (.s (.b [4,15] .o) (.s (.b [4,15] .o) (.s (.b [3,7] .o) (.s .o .o)))))))
def q25 (D : Dyn) (n : Nat) := (⟨_, by conv => rhs; reduce⟩ : {g // g = fun vs H => funS (s25 D n) D n 25 Tryz.f25 h25 [] vs H}).1
def F25 (D : Dyn) (n : Nat) : {g // g = q25 D n} := ⟨_, by conv => rhs; delta q25; dsimp only; try simp only [FPs]⟩
def f25 (D : Dyn) (n : Nat) := (F25 D n).1
theorem f25_eq (D : Dyn) (n : Nat) : f25 D n = funKp (s25 D n) D n 25 Tryz.f25 (ms h25) := (F25 D n).2.trans (by kernel_rfl)
theorem f25_ok {D : Dyn} (hD : DP D) (n : Nat) : FP 25 (f25 D n) := fun_okP X_ok hD (SP.cons (f55_ok hD n) (SP.cons (f56_ok hD n) (SP.nil))) Tryz.func25 (by kernel_rfl) (by kernel_rfl) (f25_eq D n)
attribute [local irreducible] f25

def s7 (D : Dyn) (n : Nat) : Tb := ⟨X, [(25, f25 D n)]⟩
def h7 : Hint := (.s .o (.s (.s .o (.cl (.s .o .o) .o)) (.s (.s .o (.s .o (.cl (.s .o .o) .o))) (.s .o .o))))
def q7 (D : Dyn) (n : Nat) := (⟨_, by conv => rhs; reduce⟩ : {g // g = fun vs H => funS (s7 D n) D n 7 Tryz.f7 h7 [] vs H}).1
def F7 (D : Dyn) (n : Nat) : {g // g = q7 D n} := ⟨_, by conv => rhs; delta q7; dsimp only; try simp only [FPs]⟩
def f7 (D : Dyn) (n : Nat) := (F7 D n).1
theorem f7_eq (D : Dyn) (n : Nat) : f7 D n = funKp (s7 D n) D n 7 Tryz.f7 (ms h7) := (F7 D n).2.trans (by kernel_rfl)
theorem f7_ok {D : Dyn} (hD : DP D) (n : Nat) : FP 7 (f7 D n) := fun_okP X_ok hD (SP.cons (f25_ok hD n) (SP.nil)) Tryz.func7 (by kernel_rfl) (by kernel_rfl) (f7_eq D n)
attribute [local irreducible] f7

def s26 (D : Dyn) (n : Nat) : Tb := ⟨X, []⟩
def h26 : Hint := (.s .o (.s .o .o))
def q26 (D : Dyn) (n : Nat) := (⟨_, by conv => rhs; reduce⟩ : {g // g = fun vs H => funS (s26 D n) D n 26 Tryz.f26 h26 [] vs H}).1
def F26 (D : Dyn) (n : Nat) : {g // g = q26 D n} := ⟨_, by conv => rhs; delta q26; dsimp only; try simp only [FPs]⟩
def f26 (D : Dyn) (n : Nat) := (F26 D n).1
theorem f26_eq (D : Dyn) (n : Nat) : f26 D n = funKp (s26 D n) D n 26 Tryz.f26 (ms h26) := (F26 D n).2.trans (by kernel_rfl)
theorem f26_ok {D : Dyn} (hD : DP D) (n : Nat) : FP 26 (f26 D n) := fun_okP X_ok hD (SP.nil) Tryz.func26 (by kernel_rfl) (by kernel_rfl) (f26_eq D n)
attribute [local irreducible] f26

def s67 (D : Dyn) (n : Nat) : Tb := ⟨X, []⟩
def h67 : Hint := (.s .o (.s .o (.s (.b [9,511] .o) (.s .o .o))))
def q67 (D : Dyn) (n : Nat) := (⟨_, by conv => rhs; reduce⟩ : {g // g = fun vs H => funS (s67 D n) D n 67 Tryz.f67 h67 [] vs H}).1
def F67 (D : Dyn) (n : Nat) : {g // g = q67 D n} := ⟨_, by conv => rhs; delta q67; dsimp only; try simp only [FPs]⟩
def f67 (D : Dyn) (n : Nat) := (F67 D n).1
theorem f67_eq (D : Dyn) (n : Nat) : f67 D n = funKp (s67 D n) D n 67 Tryz.f67 (ms h67) := (F67 D n).2.trans (by kernel_rfl)
theorem f67_ok {D : Dyn} (hD : DP D) (n : Nat) : FP 67 (f67 D n) := fun_okP X_ok hD (SP.nil) Tryz.func67 (by kernel_rfl) (by kernel_rfl) (f67_eq D n)
attribute [local irreducible] f67

def s66 (D : Dyn) (n : Nat) : Tb := ⟨X, []⟩
def f66j0 (D : Dyn) (n : Nat) (vs : List AV) (H : AH) : Rs :=
  hd vs fun x0_3 vs => hd vs fun x3_3 vs => hd vs fun x4_2 vs => hd vs fun x16_3 vs => hd vs fun x17_3 vs => hd vs fun x18_2 vs => 
  bV (bInt .add x18_2 (.int .i64 (.ofNat 1))) fun x41 => 
  some (.norm [x0_3, x3_3, x4_2, x16_3, x17_3, x41], H)
def f66l1 (D : Dyn) (n : Nat) (vs : List AV) (H : AH) : Rs :=
  hd vs fun x0_2 vs => hd vs fun x3_2 vs => hd vs fun x4 vs => hd vs fun x16_2 vs => hd vs fun x17_2 vs => hd vs fun x18 vs => 
  bV (bInt .lss x18 x17_2) fun x19 => 
  cnd x19 (bV (ixSl 3 x16_2 x18) fun x20 => 
  bV (ldNp 3 x20 H) fun x21 => 
  bA (bxV 35 (.agg [(.int .i64 (.ofNat 0)), (.int .i64 (.ofNat 0)), (.int .u64 (.ofNat 0))])) H fun x6 H => 
  bR (stNp 3 x6 x21 H) fun x9999 H => 
  bV (fAd 0 x6) fun x22 => 
  bV (ld1p x22 H) fun x23 => 
  bV (bInt .eql x23 (.int .i64 (.ofNat 1))) fun x24 => 
  jn (cnd x24 (bV (pNil x4) fun x26 => 
  bV (fAd 5 x26) fun x27 => 
  bV (ld1p x27 H) fun x28 => 
  bV (fAd 2 x6) fun x29 => 
  bV (ld1p x29 H) fun x30 => 
  bR (dlM [10] x28 x30 H) fun x9999_2 H => 
  some (.norm [x0_2, x3_2, x4, x16_2, x17_2, x18], H))
  (bV (pNil x4) fun x33 => 
  bV (fAd 7 x33) fun x34 => 
  bV (ld1p x34 H) fun x35 => 
  bV (ldNp 3 x6 H) fun x36 => 
  bA (bldLp 35 3 1 [(.int .i64 (.ofNat 0)), (.int .i64 (.ofNat 0)), (.int .u64 (.ofNat 0))] [(0, x36)]) H fun x37 H => 
  bR (apPp 35 3 24 x35 x37 H) fun x38 H => 
  bV (pNil x4) fun x39 => 
  bV (fAd 7 x39) fun x40 => 
  bR (stNp 1 x40 x38 H) fun x9999_3 H => 
  some (.norm [x0_2, x3_2, x4, x16_2, x17_2, x18], H))) (f66j0 D n))
  (some (.exit 0 [x0_2, x3_2, x4], H))
def f66b2 (D : Dyn) (n : Nat) (vs : List AV) (H : AH) : Rs :=
  hd vs fun x0_4 vs => hd vs fun x3_4 vs => hd vs fun x4_3 vs => 
  tld (mtp66_0 [x0_4, x3_4, x4_3] H) H.next fun H => 
  bV (pNil x0_4) fun x60 => 
  bV (fAd 1 x60) fun x61 => 
  bV (ld1p x61 H) fun x62 => 
  bV (pNil x4_3) fun x63 => 
  bV (fAd 6 x63) fun x64 => 
  bR (stNp 1 x64 x62 H) fun x9999_4 H => 
  bV (ldNp 3 x3_4 H) fun x66 => 
  bV (pNil x4_3) fun x67 => 
  bV (fAd 2 x67) fun x68 => 
  bR (stNp 3 x68 x66 H) fun x9999_5 H => 
  some (.ret (.tuple []), H)
def f66 (D : Dyn) (n : Nat) (vs : List AV) (H : AH) : Option (AV × AH) :=
  outR (hd vs fun x0 vs => hd vs fun x1 vs => nl vs <|
  bA (bxV 35 x1) H fun x3 H => 
  bV (pNil x0) fun x10 => 
  bV (fAd 0 x10) fun x11 => 
  bV (ld1p x11 H) fun x12 => 
  bV (pNil x0) fun x14 => 
  bV (fAd 3 x14) fun x15 => 
  bV (ld1p x15 H) fun x16 => 
  bV (lnSl x16) fun x17 => 
  jb 0 (loopK n (f66l1 D n) [x0, x3, x12, x16, x17, (.int .i64 (.ofNat 0))] H) (f66b2 D n))
def h66 : Hint := (.s .o (.s .o (.s (.s .o (.b [0, 3, 4] (.l [0, 3, 4, 16, 17, 18] (.s .o (.s (.cr .o .o) (.s (.b0 (.s .o (.s .o (.c [0, 3, 4, 16, 17, 18] .o .o)))) .o)))))) (.s (.t [0, 3, 4] mtp66_0) (.s .o .o)))))
def ho66 : Hint := (.s .o (.s .o (.s (.s .o (.b [0, 3, 4] (.l [0, 3, 4, 16, 17, 18] (.s .o (.s (.cr .o .o) (.s (.b0 (.s .o (.s .o (.c [0, 3, 4, 16, 17, 18] .o .o)))) .o)))))) (.s (.t [0, 3, 4] mt66_0) (.s .o .o)))))
theorem f66_eq (D : Dyn) (n : Nat) : f66 D n = funKp (s66 D n) D n 66 Tryz.f66 h66 := by kernel_rfl
theorem f66_tolds : toldsF Tryz.f66 ho66 = [(q66_0.code, [0, 3, 4], mt66_0)] := by kernel_rfl
theorem f66_told : ∀ x ∈ toldsF Tryz.f66 ho66, ToldOk PP Tryz.f66.ntmps 66 x.1 x.2.1 x.2.2 := by
  rw [f66_tolds]; intro x hx
  simp only [List.mem_cons, List.not_mem_nil, or_false] at hx
  subst hx; exact told66_0
theorem f66_hs : HS h66 ho66 := by
  unfold h66 ho66
  repeat (first | exact HS.t mtp66_0_sim | constructor)
theorem f66_ok {D : Dyn} (hD : DP D) (n : Nat) : FP 66 (f66 D n) := fun_okPT X_ok hD (SP.nil) Tryz.func66 (sitesT_ok (by kernel_rfl) f66_told) f66_hs (f66_eq D n)
attribute [local irreducible] f66j0 f66l1 f66b2 f66

def s95 (D : Dyn) (n : Nat) : Tb := ⟨X, []⟩
def h95 : Hint := (.s .o (.s .o (.s (.s .o (.b [3,1,3] (.l [0,1,3,14,15,16] (.s .o (.s (.cr .o .o) (.s (.b0 (.s .o .o)) .o)))))) (.s (.s .o (.b [2,3] (.l [1,3,27,28,29] (.s .o (.s (.cr .o .o) (.s (.b0 (.s .o .o)) .o)))))) (.s .o .o)))))
def q95l0 (D : Dyn) (n : Nat) := (⟨_, by conv => rhs; reduce⟩ : {g // some g = prtF (s95 D n) D n 95 Tryz.f95 h95 [] 0}).1
attribute [local irreducible] q95l0
def q95l1 (D : Dyn) (n : Nat) := (⟨_, by conv => rhs; reduce⟩ : {g // some g = prtF (s95 D n) D n 95 Tryz.f95 h95 [q95l0 D n] 1}).1
attribute [local irreducible] q95l1
def q95b2 (D : Dyn) (n : Nat) := (⟨_, by conv => rhs; reduce⟩ : {g // some g = prtF (s95 D n) D n 95 Tryz.f95 h95 [q95l0 D n, q95l1 D n] 2}).1
attribute [local irreducible] q95b2
def q95b3 (D : Dyn) (n : Nat) := (⟨_, by conv => rhs; reduce⟩ : {g // some g = prtF (s95 D n) D n 95 Tryz.f95 h95 [q95l0 D n, q95l1 D n, q95b2 D n] 3}).1
attribute [local irreducible] q95b3
def q95 (D : Dyn) (n : Nat) := (⟨_, by conv => rhs; reduce⟩ : {g // g = fun vs H => funS (s95 D n) D n 95 Tryz.f95 h95 [q95l0 D n, q95l1 D n, q95b2 D n, q95b3 D n] vs H}).1
def F95l0 (D : Dyn) (n : Nat) : {g // g = q95l0 D n} := ⟨_, by conv => rhs; delta q95l0; dsimp only; try simp only [FPs]⟩
def F95l1 (D : Dyn) (n : Nat) : {g // g = q95l1 D n} := ⟨_, by conv => rhs; delta q95l1; dsimp only; try simp only [FPs, ← (F95l0 D n).2]⟩
def F95b2 (D : Dyn) (n : Nat) : {g // g = q95b2 D n} := ⟨_, by conv => rhs; delta q95b2; dsimp only; try simp only [FPs, ← (F95l0 D n).2, ← (F95l1 D n).2]⟩
def F95b3 (D : Dyn) (n : Nat) : {g // g = q95b3 D n} := ⟨_, by conv => rhs; delta q95b3; dsimp only; try simp only [FPs, ← (F95l0 D n).2, ← (F95l1 D n).2, ← (F95b2 D n).2]⟩
def F95 (D : Dyn) (n : Nat) : {g // g = q95 D n} := ⟨_, by conv => rhs; delta q95; dsimp only; try simp only [FPs, ← (F95l0 D n).2, ← (F95l1 D n).2, ← (F95b2 D n).2, ← (F95b3 D n).2]⟩
def f95 (D : Dyn) (n : Nat) := (F95 D n).1
theorem f95_eq (D : Dyn) (n : Nat) : f95 D n = funKp (s95 D n) D n 95 Tryz.f95 (ms h95) := (F95 D n).2.trans (by kernel_rfl)
theorem f95_ok {D : Dyn} (hD : DP D) (n : Nat) : FP 95 (f95 D n) := fun_okP X_ok hD (SP.nil) Tryz.func95 (by kernel_rfl) (by kernel_rfl) (f95_eq D n)
attribute [local irreducible] f95

def s73 (D : Dyn) (n : Nat) : Tb := ⟨X, []⟩
def h73 : Hint := (.s .o (.s .o .o))
def q73 (D : Dyn) (n : Nat) := (⟨_, by conv => rhs; reduce⟩ : {g // g = fun vs H => funS (s73 D n) D n 73 Tryz.f73 h73 [] vs H}).1
def F73 (D : Dyn) (n : Nat) : {g // g = q73 D n} := ⟨_, by conv => rhs; delta q73; dsimp only; try simp only [FPs]⟩
def f73 (D : Dyn) (n : Nat) := (F73 D n).1
theorem f73_eq (D : Dyn) (n : Nat) : f73 D n = funKp (s73 D n) D n 73 Tryz.f73 (ms h73) := (F73 D n).2.trans (by kernel_rfl)
theorem f73_ok {D : Dyn} (hD : DP D) (n : Nat) : FP 73 (f73 D n) := fun_okP X_ok hD (SP.nil) Tryz.func73 (by kernel_rfl) (by kernel_rfl) (f73_eq D n)
attribute [local irreducible] f73

def s72 (D : Dyn) (n : Nat) : Tb := ⟨X, [(73, f73 D n)]⟩
def h72 : Hint := (.s .o (.s (.s .o (.b [5,1] (.l [0,1,10,11,12] (.s .o (.s (.cr .o .o) (.s (.b0 (.s .o (.s .o (.cl (.s .o .o) .o)))) .o)))))) (.s (.s .o (.cl (.s (.s .o (.cl (.s .o .o) .o)) (.s (.s .o (.b [2] (.l [1,51,52,53] (.s .o (.s (.cr .o .o) (.s (.b0 (.s .o (.s .o (.cl (.s .o .o) .o)))) .o)))))) (.s .o .o))) .o)) (.s (.s .o (.cl (.s .o .o) .o)) (.s (.s .o (.b [4] (.l [3,82,83,84] (.s .o (.s (.cr .o .o) (.s (.b0 (.s .o (.s .o (.cl (.s .o .o) .o)))) .o)))))) (.s .o .o))))))
def q72l0 (D : Dyn) (n : Nat) := (⟨_, by conv => rhs; reduce⟩ : {g // some g = prtF (s72 D n) D n 72 Tryz.f72 h72 [] 0}).1
attribute [local irreducible] q72l0
def q72l1 (D : Dyn) (n : Nat) := (⟨_, by conv => rhs; reduce⟩ : {g // some g = prtF (s72 D n) D n 72 Tryz.f72 h72 [q72l0 D n] 1}).1
attribute [local irreducible] q72l1
def q72b2 (D : Dyn) (n : Nat) := (⟨_, by conv => rhs; reduce⟩ : {g // some g = prtF (s72 D n) D n 72 Tryz.f72 h72 [q72l0 D n, q72l1 D n] 2}).1
attribute [local irreducible] q72b2
def q72l3 (D : Dyn) (n : Nat) := (⟨_, by conv => rhs; reduce⟩ : {g // some g = prtF (s72 D n) D n 72 Tryz.f72 h72 [q72l0 D n, q72l1 D n, q72b2 D n] 3}).1
attribute [local irreducible] q72l3
def q72b4 (D : Dyn) (n : Nat) := (⟨_, by conv => rhs; reduce⟩ : {g // some g = prtF (s72 D n) D n 72 Tryz.f72 h72 [q72l0 D n, q72l1 D n, q72b2 D n, q72l3 D n] 4}).1
attribute [local irreducible] q72b4
def q72b5 (D : Dyn) (n : Nat) := (⟨_, by conv => rhs; reduce⟩ : {g // some g = prtF (s72 D n) D n 72 Tryz.f72 h72 [q72l0 D n, q72l1 D n, q72b2 D n, q72l3 D n, q72b4 D n] 5}).1
attribute [local irreducible] q72b5
def q72 (D : Dyn) (n : Nat) := (⟨_, by conv => rhs; reduce⟩ : {g // g = fun vs H => funS (s72 D n) D n 72 Tryz.f72 h72 [q72l0 D n, q72l1 D n, q72b2 D n, q72l3 D n, q72b4 D n, q72b5 D n] vs H}).1
def F72l0 (D : Dyn) (n : Nat) : {g // g = q72l0 D n} := ⟨_, by conv => rhs; delta q72l0; dsimp only; try simp only [FPs]⟩
def F72l1 (D : Dyn) (n : Nat) : {g // g = q72l1 D n} := ⟨_, by conv => rhs; delta q72l1; dsimp only; try simp only [FPs, ← (F72l0 D n).2]⟩
def F72b2 (D : Dyn) (n : Nat) : {g // g = q72b2 D n} := ⟨_, by conv => rhs; delta q72b2; dsimp only; try simp only [FPs, ← (F72l0 D n).2, ← (F72l1 D n).2]⟩
def F72l3 (D : Dyn) (n : Nat) : {g // g = q72l3 D n} := ⟨_, by conv => rhs; delta q72l3; dsimp only; try simp only [FPs, ← (F72l0 D n).2, ← (F72l1 D n).2, ← (F72b2 D n).2]⟩
def F72b4 (D : Dyn) (n : Nat) : {g // g = q72b4 D n} := ⟨_, by conv => rhs; delta q72b4; dsimp only; try simp only [FPs, ← (F72l0 D n).2, ← (F72l1 D n).2, ← (F72b2 D n).2, ← (F72l3 D n).2]⟩
def F72b5 (D : Dyn) (n : Nat) : {g // g = q72b5 D n} := ⟨_, by conv => rhs; delta q72b5; dsimp only; try simp only [FPs, ← (F72l0 D n).2, ← (F72l1 D n).2, ← (F72b2 D n).2, ← (F72l3 D n).2, ← (F72b4 D n).2]⟩
def F72 (D : Dyn) (n : Nat) : {g // g = q72 D n} := ⟨_, by conv => rhs; delta q72; dsimp only; try simp only [FPs, ← (F72l0 D n).2, ← (F72l1 D n).2, ← (F72b2 D n).2, ← (F72l3 D n).2, ← (F72b4 D n).2, ← (F72b5 D n).2]⟩
def f72 (D : Dyn) (n : Nat) := (F72 D n).1
theorem f72_eq (D : Dyn) (n : Nat) : f72 D n = funKp (s72 D n) D n 72 Tryz.f72 (ms h72) := (F72 D n).2.trans (by kernel_rfl)
theorem f72_ok {D : Dyn} (hD : DP D) (n : Nat) : FP 72 (f72 D n) := fun_okP X_ok hD (SP.cons (f73_ok hD n) (SP.nil)) Tryz.func72 (by kernel_rfl) (by kernel_rfl) (f72_eq D n)
attribute [local irreducible] f72

def s124 (D : Dyn) (n : Nat) : Tb := ⟨X, [(95, f95 D n)]⟩
def h124 : Hint := (.s .o (.s .o (.s .o (.s .o (.s (.s .o (.c [3,1,3,4,5] (.s .o .o) .o)) (.s (.s .o (.b [2,4] (.l [1,1,3,4,5,20,21] (.s .o (.s (.cr .o .o) (.s (.b0 (.s .o (.s .o (.s (.s .o (.c [0,1,3,4,5,6,20,21] .o .o)) (.s .o (.cl (.s .o .o) .o)))))) .o)))))) (.s .o .o)))))))
def q124j0 (D : Dyn) (n : Nat) := (⟨_, by conv => rhs; reduce⟩ : {g // some g = prtF (s124 D n) D n 124 Tryz.f124 h124 [] 0}).1
attribute [local irreducible] q124j0
def q124l1 (D : Dyn) (n : Nat) := (⟨_, by conv => rhs; reduce⟩ : {g // some g = prtF (s124 D n) D n 124 Tryz.f124 h124 [q124j0 D n] 1}).1
attribute [local irreducible] q124l1
def q124b2 (D : Dyn) (n : Nat) := (⟨_, by conv => rhs; reduce⟩ : {g // some g = prtF (s124 D n) D n 124 Tryz.f124 h124 [q124j0 D n, q124l1 D n] 2}).1
attribute [local irreducible] q124b2
def q124j3 (D : Dyn) (n : Nat) := (⟨_, by conv => rhs; reduce⟩ : {g // some g = prtF (s124 D n) D n 124 Tryz.f124 h124 [q124j0 D n, q124l1 D n, q124b2 D n] 3}).1
attribute [local irreducible] q124j3
def q124 (D : Dyn) (n : Nat) := (⟨_, by conv => rhs; reduce⟩ : {g // g = fun vs H => funS (s124 D n) D n 124 Tryz.f124 h124 [q124j0 D n, q124l1 D n, q124b2 D n, q124j3 D n] vs H}).1
def F124j0 (D : Dyn) (n : Nat) : {g // g = q124j0 D n} := ⟨_, by conv => rhs; delta q124j0; dsimp only; try simp only [FPs]⟩
def F124l1 (D : Dyn) (n : Nat) : {g // g = q124l1 D n} := ⟨_, by conv => rhs; delta q124l1; dsimp only; try simp only [FPs, ← (F124j0 D n).2]⟩
def F124b2 (D : Dyn) (n : Nat) : {g // g = q124b2 D n} := ⟨_, by conv => rhs; delta q124b2; dsimp only; try simp only [FPs, ← (F124j0 D n).2, ← (F124l1 D n).2]⟩
def F124j3 (D : Dyn) (n : Nat) : {g // g = q124j3 D n} := ⟨_, by conv => rhs; delta q124j3; dsimp only; try simp only [FPs, ← (F124j0 D n).2, ← (F124l1 D n).2, ← (F124b2 D n).2]⟩
def F124 (D : Dyn) (n : Nat) : {g // g = q124 D n} := ⟨_, by conv => rhs; delta q124; dsimp only; try simp only [FPs, ← (F124j0 D n).2, ← (F124l1 D n).2, ← (F124b2 D n).2, ← (F124j3 D n).2]⟩
def f124 (D : Dyn) (n : Nat) := (F124 D n).1
theorem f124_eq (D : Dyn) (n : Nat) : f124 D n = funKp (s124 D n) D n 124 Tryz.f124 (ms h124) := (F124 D n).2.trans (by kernel_rfl)
theorem f124_ok {D : Dyn} (hD : DP D) (n : Nat) : FP 124 (f124 D n) := fun_okP X_ok hD (SP.cons (f95_ok hD n) (SP.nil)) Tryz.func124 (by kernel_rfl) (by kernel_rfl) (f124_eq D n)
attribute [local irreducible] f124

def s32 (D : Dyn) (n : Nat) : Tb := ⟨X, []⟩
def h32 : Hint := (.s .o (.s (.s .o (.cl (.s .o .o) .o)) (.s .o .o)))
def q32 (D : Dyn) (n : Nat) := (⟨_, by conv => rhs; reduce⟩ : {g // g = fun vs H => funS (s32 D n) D n 32 Tryz.f32 h32 [] vs H}).1
def F32 (D : Dyn) (n : Nat) : {g // g = q32 D n} := ⟨_, by conv => rhs; delta q32; dsimp only; try simp only [FPs]⟩
def f32 (D : Dyn) (n : Nat) := (F32 D n).1
theorem f32_eq (D : Dyn) (n : Nat) : f32 D n = funKp (s32 D n) D n 32 Tryz.f32 (ms h32) := (F32 D n).2.trans (by kernel_rfl)
theorem f32_ok {D : Dyn} (hD : DP D) (n : Nat) : FP 32 (f32 D n) := fun_okP X_ok hD (SP.nil) Tryz.func32 (by kernel_rfl) (by kernel_rfl) (f32_eq D n)
attribute [local irreducible] f32

def s33 (D : Dyn) (n : Nat) : Tb := ⟨X, []⟩
def h33 : Hint := (.s .o (.s (.s .o (.cl (.s .o .o) .o)) (.s .o .o)))
def q33 (D : Dyn) (n : Nat) := (⟨_, by conv => rhs; reduce⟩ : {g // g = fun vs H => funS (s33 D n) D n 33 Tryz.f33 h33 [] vs H}).1
def F33 (D : Dyn) (n : Nat) : {g // g = q33 D n} := ⟨_, by conv => rhs; delta q33; dsimp only; try simp only [FPs]⟩
def f33 (D : Dyn) (n : Nat) := (F33 D n).1
theorem f33_eq (D : Dyn) (n : Nat) : f33 D n = funKp (s33 D n) D n 33 Tryz.f33 (ms h33) := (F33 D n).2.trans (by kernel_rfl)
theorem f33_ok {D : Dyn} (hD : DP D) (n : Nat) : FP 33 (f33 D n) := fun_okP X_ok hD (SP.nil) Tryz.func33 (by kernel_rfl) (by kernel_rfl) (f33_eq D n)
attribute [local irreducible] f33

def s120 (D : Dyn) (n : Nat) : Tb := ⟨X, [(72, f72 D n), (124, f124 D n), (32, f32 D n), (33, f33 D n)]⟩
def h120 : Hint := (.s .o (.s (.s .o (.cl (.s .o .o) .o)) (.s .o (.s (.b [5,19,7,127] .o) (.s .o (.s (.s .o (.c [0,1,2,4,6] (.s .o (.c [5,31,10,1023,12,4095,14,16383] (.l [0,1,2,3,4,6,7,8,9,5,11,10,12,13,14] .o) .o)) (.s .o (.c [7,127,13,8191,15,32767,17,131071] (.l [0,1,2,3,4,5,6,8,9,10,11,12,7,14,13,15,16,17] .o) .o)))) (.s (.b [7,1,9,511] .o) .o)))))))
def q120j0 (D : Dyn) (n : Nat) := (⟨_, by conv => rhs; reduce⟩ : {g // some g = prtF (s120 D n) D n 120 Tryz.f120 h120 [] 0}).1
attribute [local irreducible] q120j0
def q120 (D : Dyn) (n : Nat) := (⟨_, by conv => rhs; reduce⟩ : {g // g = fun vs H => funS (s120 D n) D n 120 Tryz.f120 h120 [q120j0 D n] vs H}).1
def F120j0 (D : Dyn) (n : Nat) : {g // g = q120j0 D n} := ⟨_, by conv => rhs; delta q120j0; dsimp only; try simp only [FPs]⟩
def F120 (D : Dyn) (n : Nat) : {g // g = q120 D n} := ⟨_, by conv => rhs; delta q120; dsimp only; try simp only [FPs, ← (F120j0 D n).2]⟩
def f120 (D : Dyn) (n : Nat) := (F120 D n).1
theorem f120_eq (D : Dyn) (n : Nat) : f120 D n = funKp (s120 D n) D n 120 Tryz.f120 (ms h120) := (F120 D n).2.trans (by kernel_rfl)
theorem f120_ok {D : Dyn} (hD : DP D) (n : Nat) : FP 120 (f120 D n) := fun_okP X_ok hD (SP.cons (f72_ok hD n) (SP.cons (f124_ok hD n) (SP.cons (f32_ok hD n) (SP.cons (f33_ok hD n) (SP.nil))))) Tryz.func120 (by kernel_rfl) (by kernel_rfl) (f120_eq D n)
attribute [local irreducible] f120

def s104 (D : Dyn) (n : Nat) : Tb := ⟨X, [(95, f95 D n), (120, f120 D n)]⟩
def h104 : Hint := (.s .o (.s .o (.s .o (.s (.b [1,1,5,6] (.l [0,1,5,6] (.s (.s .o (.cr .o .o)) (.b0 (.s .o (.s (.s .o (.cl (.s .o .o) .o)) (.s .o (.s .o .o)))))))) (.s .o .o)))))
def q104l0 (D : Dyn) (n : Nat) := (⟨_, by conv => rhs; reduce⟩ : {g // some g = prtF (s104 D n) D n 104 Tryz.f104 h104 [] 0}).1
attribute [local irreducible] q104l0
def q104b1 (D : Dyn) (n : Nat) := (⟨_, by conv => rhs; reduce⟩ : {g // some g = prtF (s104 D n) D n 104 Tryz.f104 h104 [q104l0 D n] 1}).1
attribute [local irreducible] q104b1
def q104 (D : Dyn) (n : Nat) := (⟨_, by conv => rhs; reduce⟩ : {g // g = fun vs H => funS (s104 D n) D n 104 Tryz.f104 h104 [q104l0 D n, q104b1 D n] vs H}).1
def F104l0 (D : Dyn) (n : Nat) : {g // g = q104l0 D n} := ⟨_, by conv => rhs; delta q104l0; dsimp only; try simp only [FPs]⟩
def F104b1 (D : Dyn) (n : Nat) : {g // g = q104b1 D n} := ⟨_, by conv => rhs; delta q104b1; dsimp only; try simp only [FPs, ← (F104l0 D n).2]⟩
def F104 (D : Dyn) (n : Nat) : {g // g = q104 D n} := ⟨_, by conv => rhs; delta q104; dsimp only; try simp only [FPs, ← (F104l0 D n).2, ← (F104b1 D n).2]⟩
def f104 (D : Dyn) (n : Nat) := (F104 D n).1
theorem f104_eq (D : Dyn) (n : Nat) : f104 D n = funKp (s104 D n) D n 104 Tryz.f104 (ms h104) := (F104 D n).2.trans (by kernel_rfl)
theorem f104_ok {D : Dyn} (hD : DP D) (n : Nat) : FP 104 (f104 D n) := fun_okP X_ok hD (SP.cons (f95_ok hD n) (SP.cons (f120_ok hD n) (SP.nil))) Tryz.func104 (by kernel_rfl) (by kernel_rfl) (f104_eq D n)
attribute [local irreducible] f104

def s106 (D : Dyn) (n : Nat) : Tb := ⟨X, [(67, f67 D n)]⟩
def h106 : Hint := (.s .o (.s .o (.s (.s .o (.b [1,5] (.l [0,0,5,8,9,10] (.s .o (.s (.cr .o .o) (.s (.b0 (.s .o .o)) .o)))))) (.s .o .o))))
def q106l0 (D : Dyn) (n : Nat) := (⟨_, by conv => rhs; reduce⟩ : {g // some g = prtF (s106 D n) D n 106 Tryz.f106 h106 [] 0}).1
attribute [local irreducible] q106l0
def q106b1 (D : Dyn) (n : Nat) := (⟨_, by conv => rhs; reduce⟩ : {g // some g = prtF (s106 D n) D n 106 Tryz.f106 h106 [q106l0 D n] 1}).1
attribute [local irreducible] q106b1
def q106 (D : Dyn) (n : Nat) := (⟨_, by conv => rhs; reduce⟩ : {g // g = fun vs H => funS (s106 D n) D n 106 Tryz.f106 h106 [q106l0 D n, q106b1 D n] vs H}).1
def F106l0 (D : Dyn) (n : Nat) : {g // g = q106l0 D n} := ⟨_, by conv => rhs; delta q106l0; dsimp only; try simp only [FPs]⟩
def F106b1 (D : Dyn) (n : Nat) : {g // g = q106b1 D n} := ⟨_, by conv => rhs; delta q106b1; dsimp only; try simp only [FPs, ← (F106l0 D n).2]⟩
def F106 (D : Dyn) (n : Nat) : {g // g = q106 D n} := ⟨_, by conv => rhs; delta q106; dsimp only; try simp only [FPs, ← (F106l0 D n).2, ← (F106b1 D n).2]⟩
def f106 (D : Dyn) (n : Nat) := (F106 D n).1
theorem f106_eq (D : Dyn) (n : Nat) : f106 D n = funKp (s106 D n) D n 106 Tryz.f106 (ms h106) := (F106 D n).2.trans (by kernel_rfl)
theorem f106_ok {D : Dyn} (hD : DP D) (n : Nat) : FP 106 (f106 D n) := fun_okP X_ok hD (SP.cons (f67_ok hD n) (SP.nil)) Tryz.func106 (by kernel_rfl) (by kernel_rfl) (f106_eq D n)
attribute [local irreducible] f106

def s71 (D : Dyn) (n : Nat) : Tb := ⟨X, [(66, f66 D n), (104, f104 D n), (106, f106 D n), (67, f67 D n)]⟩
def h71 : Hint := (.s .o (.s (.s .o (.cl (.s (.s .o (.c [0] .o .o)) (.s .o .o)) .o)) (.s .o (.s (.s .o (.cl (.s .o .o) .o)) (.s .o (.s (.s .o (.c [1] .o .o)) (.s .o .o)))))))
def q71j0 (D : Dyn) (n : Nat) := (⟨_, by conv => rhs; reduce⟩ : {g // some g = prtF (s71 D n) D n 71 Tryz.f71 h71 [] 0}).1
attribute [local irreducible] q71j0
def q71j1 (D : Dyn) (n : Nat) := (⟨_, by conv => rhs; reduce⟩ : {g // some g = prtF (s71 D n) D n 71 Tryz.f71 h71 [q71j0 D n] 1}).1
attribute [local irreducible] q71j1
def q71 (D : Dyn) (n : Nat) := (⟨_, by conv => rhs; reduce⟩ : {g // g = fun vs H => funS (s71 D n) D n 71 Tryz.f71 h71 [q71j0 D n, q71j1 D n] vs H}).1
def F71j0 (D : Dyn) (n : Nat) : {g // g = q71j0 D n} := ⟨_, by conv => rhs; delta q71j0; dsimp only; try simp only [FPs]⟩
def F71j1 (D : Dyn) (n : Nat) : {g // g = q71j1 D n} := ⟨_, by conv => rhs; delta q71j1; dsimp only; try simp only [FPs, ← (F71j0 D n).2]⟩
def F71 (D : Dyn) (n : Nat) : {g // g = q71 D n} := ⟨_, by conv => rhs; delta q71; dsimp only; try simp only [FPs, ← (F71j0 D n).2, ← (F71j1 D n).2]⟩
def f71 (D : Dyn) (n : Nat) := (F71 D n).1
theorem f71_eq (D : Dyn) (n : Nat) : f71 D n = funKp (s71 D n) D n 71 Tryz.f71 (ms h71) := (F71 D n).2.trans (by kernel_rfl)
theorem f71_ok {D : Dyn} (hD : DP D) (n : Nat) : FP 71 (f71 D n) := fun_okP X_ok hD (SP.cons (f66_ok hD n) (SP.cons (f104_ok hD n) (SP.cons (f106_ok hD n) (SP.cons (f67_ok hD n) (SP.nil))))) Tryz.func71 (by kernel_rfl) (by kernel_rfl) (f71_eq D n)
attribute [local irreducible] f71

def s27 (D : Dyn) (n : Nat) : Tb := ⟨X, []⟩
def h27 : Hint := (.s .o (.s .o .o))
def q27 (D : Dyn) (n : Nat) := (⟨_, by conv => rhs; reduce⟩ : {g // g = fun vs H => funS (s27 D n) D n 27 Tryz.f27 h27 [] vs H}).1
def F27 (D : Dyn) (n : Nat) : {g // g = q27 D n} := ⟨_, by conv => rhs; delta q27; dsimp only; try simp only [FPs]⟩
def f27 (D : Dyn) (n : Nat) := (F27 D n).1
theorem f27_eq (D : Dyn) (n : Nat) : f27 D n = funKp (s27 D n) D n 27 Tryz.f27 (ms h27) := (F27 D n).2.trans (by kernel_rfl)
theorem f27_ok {D : Dyn} (hD : DP D) (n : Nat) : FP 27 (f27 D n) := fun_okP X_ok hD (SP.nil) Tryz.func27 (by kernel_rfl) (by kernel_rfl) (f27_eq D n)
attribute [local irreducible] f27

def s64 (D : Dyn) (n : Nat) : Tb := ⟨X, []⟩
def h64 : Hint := (.s .o (.s .o .o))
def q64 (D : Dyn) (n : Nat) := (⟨_, by conv => rhs; reduce⟩ : {g // g = fun vs H => funS (s64 D n) D n 64 Tryz.f64 h64 [] vs H}).1
def F64 (D : Dyn) (n : Nat) : {g // g = q64 D n} := ⟨_, by conv => rhs; delta q64; dsimp only; try simp only [FPs]⟩
def f64 (D : Dyn) (n : Nat) := (F64 D n).1
theorem f64_eq (D : Dyn) (n : Nat) : f64 D n = funKp (s64 D n) D n 64 Tryz.f64 (ms h64) := (F64 D n).2.trans (by kernel_rfl)
theorem f64_ok {D : Dyn} (hD : DP D) (n : Nat) : FP 64 (f64 D n) := fun_okP X_ok hD (SP.nil) Tryz.func64 (by kernel_rfl) (by kernel_rfl) (f64_eq D n)
attribute [local irreducible] f64

def s99 (D : Dyn) (n : Nat) : Tb := ⟨X, []⟩
def h99 : Hint := (.s .o (.s .o .o))
def q99 (D : Dyn) (n : Nat) := (⟨_, by conv => rhs; reduce⟩ : {g // g = fun vs H => funS (s99 D n) D n 99 Tryz.f99 h99 [] vs H}).1
def F99 (D : Dyn) (n : Nat) : {g // g = q99 D n} := ⟨_, by conv => rhs; delta q99; dsimp only; try simp only [FPs]⟩
def f99 (D : Dyn) (n : Nat) := (F99 D n).1
theorem f99_eq (D : Dyn) (n : Nat) : f99 D n = funKp (s99 D n) D n 99 Tryz.f99 (ms h99) := (F99 D n).2.trans (by kernel_rfl)
theorem f99_ok {D : Dyn} (hD : DP D) (n : Nat) : FP 99 (f99 D n) := fun_okP X_ok hD (SP.nil) Tryz.func99 (by kernel_rfl) (by kernel_rfl) (f99_eq D n)
attribute [local irreducible] f99

def s101 (D : Dyn) (n : Nat) : Tb := ⟨X, []⟩
def h101 : Hint := (.s (.b [] .o) (.s (.s .o (.c [1,1,4] .o (.b [10,1023] .o))) (.s (.s .o (.c [0,1,4] .o (.b [10,1023] .o))) (.s .o .o))))
def q101j0 (D : Dyn) (n : Nat) := (⟨_, by conv => rhs; reduce⟩ : {g // some g = prtF (s101 D n) D n 101 Tryz.f101 h101 [] 0}).1
attribute [local irreducible] q101j0
def q101j1 (D : Dyn) (n : Nat) := (⟨_, by conv => rhs; reduce⟩ : {g // some g = prtF (s101 D n) D n 101 Tryz.f101 h101 [q101j0 D n] 1}).1
attribute [local irreducible] q101j1
def q101 (D : Dyn) (n : Nat) := (⟨_, by conv => rhs; reduce⟩ : {g // g = fun vs H => funS (s101 D n) D n 101 Tryz.f101 h101 [q101j0 D n, q101j1 D n] vs H}).1
def F101j0 (D : Dyn) (n : Nat) : {g // g = q101j0 D n} := ⟨_, by conv => rhs; delta q101j0; dsimp only; try simp only [FPs]⟩
def F101j1 (D : Dyn) (n : Nat) : {g // g = q101j1 D n} := ⟨_, by conv => rhs; delta q101j1; dsimp only; try simp only [FPs, ← (F101j0 D n).2]⟩
def F101 (D : Dyn) (n : Nat) : {g // g = q101 D n} := ⟨_, by conv => rhs; delta q101; dsimp only; try simp only [FPs, ← (F101j0 D n).2, ← (F101j1 D n).2]⟩
def f101 (D : Dyn) (n : Nat) := (F101 D n).1
theorem f101_eq (D : Dyn) (n : Nat) : f101 D n = funKp (s101 D n) D n 101 Tryz.f101 (ms h101) := (F101 D n).2.trans (by kernel_rfl)
theorem f101_ok {D : Dyn} (hD : DP D) (n : Nat) : FP 101 (f101 D n) := fun_okP X_ok hD (SP.nil) Tryz.func101 (by kernel_rfl) (by kernel_rfl) (f101_eq D n)
attribute [local irreducible] f101

def s117 (D : Dyn) (n : Nat) : Tb := ⟨X, [(101, f101 D n)]⟩
def h117 : Hint := (.s .o (.s (.s .o (.cl .o .o)) (.s .o (.b [8,255] .o))))
def q117 (D : Dyn) (n : Nat) := (⟨_, by conv => rhs; reduce⟩ : {g // g = fun vs H => funS (s117 D n) D n 117 Tryz.f117 h117 [] vs H}).1
def F117 (D : Dyn) (n : Nat) : {g // g = q117 D n} := ⟨_, by conv => rhs; delta q117; dsimp only; try simp only [FPs]⟩
def f117 (D : Dyn) (n : Nat) := (F117 D n).1
theorem f117_eq (D : Dyn) (n : Nat) : f117 D n = funKp (s117 D n) D n 117 Tryz.f117 (ms h117) := (F117 D n).2.trans (by kernel_rfl)
theorem f117_ok {D : Dyn} (hD : DP D) (n : Nat) : FP 117 (f117 D n) := fun_okP X_ok hD (SP.cons (f101_ok hD n) (SP.nil)) Tryz.func117 (by kernel_rfl) (by kernel_rfl) (f117_eq D n)
attribute [local irreducible] f117

def s102 (D : Dyn) (n : Nat) : Tb := ⟨X, []⟩
def h102 : Hint := (.s .o (.s .o (.s .o (.s (.s .o (.c [0,2,6] .o .o)) (.s .o .o)))))
def q102j0 (D : Dyn) (n : Nat) := (⟨_, by conv => rhs; reduce⟩ : {g // some g = prtF (s102 D n) D n 102 Tryz.f102 h102 [] 0}).1
attribute [local irreducible] q102j0
def q102 (D : Dyn) (n : Nat) := (⟨_, by conv => rhs; reduce⟩ : {g // g = fun vs H => funS (s102 D n) D n 102 Tryz.f102 h102 [q102j0 D n] vs H}).1
def F102j0 (D : Dyn) (n : Nat) : {g // g = q102j0 D n} := ⟨_, by conv => rhs; delta q102j0; dsimp only; try simp only [FPs]⟩
def F102 (D : Dyn) (n : Nat) : {g // g = q102 D n} := ⟨_, by conv => rhs; delta q102; dsimp only; try simp only [FPs, ← (F102j0 D n).2]⟩
def f102 (D : Dyn) (n : Nat) := (F102 D n).1
theorem f102_eq (D : Dyn) (n : Nat) : f102 D n = funKp (s102 D n) D n 102 Tryz.f102 (ms h102) := (F102 D n).2.trans (by kernel_rfl)
theorem f102_ok {D : Dyn} (hD : DP D) (n : Nat) : FP 102 (f102 D n) := fun_okP X_ok hD (SP.nil) Tryz.func102 (by kernel_rfl) (by kernel_rfl) (f102_eq D n)
attribute [local irreducible] f102

def s118 (D : Dyn) (n : Nat) : Tb := ⟨X, [(101, f101 D n), (102, f102 D n)]⟩
def h118 : Hint := (.s .o (.s (.s .o (.cl .o .o)) (.s .o (.s .o .o))))
def q118 (D : Dyn) (n : Nat) := (⟨_, by conv => rhs; reduce⟩ : {g // g = fun vs H => funS (s118 D n) D n 118 Tryz.f118 h118 [] vs H}).1
def F118 (D : Dyn) (n : Nat) : {g // g = q118 D n} := ⟨_, by conv => rhs; delta q118; dsimp only; try simp only [FPs]⟩
def f118 (D : Dyn) (n : Nat) := (F118 D n).1
theorem f118_eq (D : Dyn) (n : Nat) : f118 D n = funKp (s118 D n) D n 118 Tryz.f118 (ms h118) := (F118 D n).2.trans (by kernel_rfl)
theorem f118_ok {D : Dyn} (hD : DP D) (n : Nat) : FP 118 (f118 D n) := fun_okP X_ok hD (SP.cons (f101_ok hD n) (SP.cons (f102_ok hD n) (SP.nil))) Tryz.func118 (by kernel_rfl) (by kernel_rfl) (f118_eq D n)
attribute [local irreducible] f118

def s100 (D : Dyn) (n : Nat) : Tb := ⟨X, [(99, f99 D n), (118, f118 D n)]⟩
def h100 : Hint := (.s (.c [] (.l [0,1,2,4,5,6,3,7,8,9] .o) .o) (.s (.s .o (.cl .o .o)) (.s (.s .o (.cl (.s .o .o) .o)) .o)))
def q100 (D : Dyn) (n : Nat) := (⟨_, by conv => rhs; reduce⟩ : {g // g = fun vs H => funS (s100 D n) D n 100 Tryz.f100 h100 [] vs H}).1
def F100 (D : Dyn) (n : Nat) : {g // g = q100 D n} := ⟨_, by conv => rhs; delta q100; dsimp only; try simp only [FPs]⟩
def f100 (D : Dyn) (n : Nat) := (F100 D n).1
theorem f100_eq (D : Dyn) (n : Nat) : f100 D n = funKp (s100 D n) D n 100 Tryz.f100 (ms h100) := (F100 D n).2.trans (by kernel_rfl)
theorem f100_ok {D : Dyn} (hD : DP D) (n : Nat) : FP 100 (f100 D n) := fun_okP X_ok hD (SP.cons (f99_ok hD n) (SP.cons (f118_ok hD n) (SP.nil))) Tryz.func100 (by kernel_rfl) (by kernel_rfl) (f100_eq D n)
attribute [local irreducible] f100

def s98 (D : Dyn) (n : Nat) : Tb := ⟨X, [(99, f99 D n), (117, f117 D n), (100, f100 D n), (102, f102 D n)]⟩
def h98 : Hint := (.s (.c [] (.l [0,1,2,4,5,6,3,7,8,9] .o) .o) (.s (.c [] (.l [0,1,2,4,5,6,3,7,8,9] .o) .o) (.s (.s .o (.b0 (.s .o (.c [3,0,1,2] (.s .o (.c [0,0,1,2] (.s .o .o) .o)) (.s .o (.c [2,0,1,2] (.s (.s .o (.c [1,0,1,2] .o .o)) .o) .o)))))) (.s .o (.s .o .o)))))
def q98j0 (D : Dyn) (n : Nat) := (⟨_, by conv => rhs; reduce⟩ : {g // some g = prtF (s98 D n) D n 98 Tryz.f98 h98 [] 0}).1
attribute [local irreducible] q98j0
def q98j1 (D : Dyn) (n : Nat) := (⟨_, by conv => rhs; reduce⟩ : {g // some g = prtF (s98 D n) D n 98 Tryz.f98 h98 [q98j0 D n] 1}).1
attribute [local irreducible] q98j1
def q98j2 (D : Dyn) (n : Nat) := (⟨_, by conv => rhs; reduce⟩ : {g // some g = prtF (s98 D n) D n 98 Tryz.f98 h98 [q98j0 D n, q98j1 D n] 2}).1
attribute [local irreducible] q98j2
def q98j3 (D : Dyn) (n : Nat) := (⟨_, by conv => rhs; reduce⟩ : {g // some g = prtF (s98 D n) D n 98 Tryz.f98 h98 [q98j0 D n, q98j1 D n, q98j2 D n] 3}).1
attribute [local irreducible] q98j3
def q98 (D : Dyn) (n : Nat) := (⟨_, by conv => rhs; reduce⟩ : {g // g = fun vs H => funS (s98 D n) D n 98 Tryz.f98 h98 [q98j0 D n, q98j1 D n, q98j2 D n, q98j3 D n] vs H}).1
def F98j0 (D : Dyn) (n : Nat) : {g // g = q98j0 D n} := ⟨_, by conv => rhs; delta q98j0; dsimp only; try simp only [FPs]⟩
def F98j1 (D : Dyn) (n : Nat) : {g // g = q98j1 D n} := ⟨_, by conv => rhs; delta q98j1; dsimp only; try simp only [FPs, ← (F98j0 D n).2]⟩
def F98j2 (D : Dyn) (n : Nat) : {g // g = q98j2 D n} := ⟨_, by conv => rhs; delta q98j2; dsimp only; try simp only [FPs, ← (F98j0 D n).2, ← (F98j1 D n).2]⟩
def F98j3 (D : Dyn) (n : Nat) : {g // g = q98j3 D n} := ⟨_, by conv => rhs; delta q98j3; dsimp only; try simp only [FPs, ← (F98j0 D n).2, ← (F98j1 D n).2, ← (F98j2 D n).2]⟩
def F98 (D : Dyn) (n : Nat) : {g // g = q98 D n} := ⟨_, by conv => rhs; delta q98; dsimp only; try simp only [FPs, ← (F98j0 D n).2, ← (F98j1 D n).2, ← (F98j2 D n).2, ← (F98j3 D n).2]⟩
def f98 (D : Dyn) (n : Nat) := (F98 D n).1
theorem f98_eq (D : Dyn) (n : Nat) : f98 D n = funKp (s98 D n) D n 98 Tryz.f98 (ms h98) := (F98 D n).2.trans (by kernel_rfl)
theorem f98_ok {D : Dyn} (hD : DP D) (n : Nat) : FP 98 (f98 D n) := fun_okP X_ok hD (SP.cons (f99_ok hD n) (SP.cons (f117_ok hD n) (SP.cons (f100_ok hD n) (SP.cons (f102_ok hD n) (SP.nil))))) Tryz.func98 (by kernel_rfl) (by kernel_rfl) (f98_eq D n)
attribute [local irreducible] f98

def s65 (D : Dyn) (n : Nat) : Tb := ⟨X, [(98, f98 D n), (99, f99 D n), (100, f100 D n), (101, f101 D n), (102, f102 D n)]⟩
def h65 : Hint := (.s .o (.s (.s .o (.cl (.s .o .o) .o)) (.s (.s .o (.b0 (.s .o (.c [1,0,2,6] (.s (.c [] (.l [0,1,2,4,5,6,3,7,8,9,10] .o) .o) (.s (.b [14,16383] .o) .o)) (.s .o (.c [0,0,2,6] (.s (.c [] (.l [0,1,2,4,5,6,3,7,8,9,10] .o) .o) (.s .o .o)) .o)))))) (.s .o (.s .o .o)))))
def q65j0 (D : Dyn) (n : Nat) := (⟨_, by conv => rhs; reduce⟩ : {g // some g = prtF (s65 D n) D n 65 Tryz.f65 h65 [] 0}).1
attribute [local irreducible] q65j0
def q65j1 (D : Dyn) (n : Nat) := (⟨_, by conv => rhs; reduce⟩ : {g // some g = prtF (s65 D n) D n 65 Tryz.f65 h65 [q65j0 D n] 1}).1
attribute [local irreducible] q65j1
def q65 (D : Dyn) (n : Nat) := (⟨_, by conv => rhs; reduce⟩ : {g // g = fun vs H => funS (s65 D n) D n 65 Tryz.f65 h65 [q65j0 D n, q65j1 D n] vs H}).1
def F65j0 (D : Dyn) (n : Nat) : {g // g = q65j0 D n} := ⟨_, by conv => rhs; delta q65j0; dsimp only; try simp only [FPs]⟩
def F65j1 (D : Dyn) (n : Nat) : {g // g = q65j1 D n} := ⟨_, by conv => rhs; delta q65j1; dsimp only; try simp only [FPs, ← (F65j0 D n).2]⟩
def F65 (D : Dyn) (n : Nat) : {g // g = q65 D n} := ⟨_, by conv => rhs; delta q65; dsimp only; try simp only [FPs, ← (F65j0 D n).2, ← (F65j1 D n).2]⟩
def f65 (D : Dyn) (n : Nat) := (F65 D n).1
theorem f65_eq (D : Dyn) (n : Nat) : f65 D n = funKp (s65 D n) D n 65 Tryz.f65 (ms h65) := (F65 D n).2.trans (by kernel_rfl)
theorem f65_ok {D : Dyn} (hD : DP D) (n : Nat) : FP 65 (f65 D n) := fun_okP X_ok hD (SP.cons (f98_ok hD n) (SP.cons (f99_ok hD n) (SP.cons (f100_ok hD n) (SP.cons (f101_ok hD n) (SP.cons (f102_ok hD n) (SP.nil)))))) Tryz.func65 (by kernel_rfl) (by kernel_rfl) (f65_eq D n)
attribute [local irreducible] f65

def s88 (D : Dyn) (n : Nat) : Tb := ⟨X, [(64, f64 D n), (65, f65 D n)]⟩
def h88 : Hint := (.s .o (.s (.s .o (.cl (.s .o .o) .o)) (.s .o (.s (.s .o (.cl (.s .o .o) .o)) (.s .o (.s .o .o))))))
def q88 (D : Dyn) (n : Nat) := (⟨_, by conv => rhs; reduce⟩ : {g // g = fun vs H => funS (s88 D n) D n 88 Tryz.f88 h88 [] vs H}).1
def F88 (D : Dyn) (n : Nat) : {g // g = q88 D n} := ⟨_, by conv => rhs; delta q88; dsimp only; try simp only [FPs]⟩
def f88 (D : Dyn) (n : Nat) := (F88 D n).1
theorem f88_eq (D : Dyn) (n : Nat) : f88 D n = funKp (s88 D n) D n 88 Tryz.f88 (ms h88) := (F88 D n).2.trans (by kernel_rfl)
theorem f88_ok {D : Dyn} (hD : DP D) (n : Nat) : FP 88 (f88 D n) := fun_okP X_ok hD (SP.cons (f64_ok hD n) (SP.cons (f65_ok hD n) (SP.nil))) Tryz.func88 (by kernel_rfl) (by kernel_rfl) (f88_eq D n)
attribute [local irreducible] f88

def s123 (D : Dyn) (n : Nat) : Tb := ⟨X, []⟩
def h123 : Hint := (.s .o (.s (.s .o (.b [1,0] (.l [0,0,1,7,8] (.s .o (.s (.cr .o .o) (.s (.b0 (.s .o .o)) .o)))))) (.s .o .o)))
def f123l0 (D : Dyn) (n : Nat) := (⟨_, by conv => rhs; reduce⟩ : {g // some g = prtF (s123 D n) D n 123 Tryz.f123 h123 [] 0}).1
attribute [local irreducible] f123l0
def f123b1 (D : Dyn) (n : Nat) := (⟨_, by conv => rhs; reduce⟩ : {g // some g = prtF (s123 D n) D n 123 Tryz.f123 h123 [f123l0 D n] 1}).1
attribute [local irreducible] f123b1
def f123 (D : Dyn) (n : Nat) := (⟨_, by conv => rhs; reduce⟩ : {g // g = fun vs H => funS (s123 D n) D n 123 Tryz.f123 h123 [f123l0 D n, f123b1 D n] vs H}).1
theorem f123_eq (D : Dyn) (n : Nat) : f123 D n = funKp (s123 D n) D n 123 Tryz.f123 (ms h123) := by kernel_rfl
theorem f123_ok {D : Dyn} (hD : DP D) (n : Nat) : FP 123 (f123 D n) := fun_okP X_ok hD (SP.nil) Tryz.func123 (by kernel_rfl) (by kernel_rfl) (f123_eq D n)
def m123 (D : Dyn) (n : Nat) (vs : List AV) (H : AH) : Option (AV × AH) := sumK (f123 D n) vs H
theorem m123_ok {D : Dyn} (hD : DP D) (n : Nat) : FP 123 (m123 D n) := sumK_okP (F := f123 D) (by kernel_rfl) (fun n => f123_ok hD n) n
attribute [local irreducible] f123 m123

def s114 (D : Dyn) (n : Nat) : Tb := ⟨X, [(123, m123 D n)]⟩
def h114 : Hint := (.s .o (.s .o .o))
def q114 (D : Dyn) (n : Nat) := (⟨_, by conv => rhs; reduce⟩ : {g // g = fun vs H => funS (s114 D n) D n 114 Tryz.f114 h114 [] vs H}).1
def F114 (D : Dyn) (n : Nat) : {g // g = q114 D n} := ⟨_, by conv => rhs; delta q114; dsimp only; try simp only [FPs]⟩
def f114 (D : Dyn) (n : Nat) := (F114 D n).1
theorem f114_eq (D : Dyn) (n : Nat) : f114 D n = funKp (s114 D n) D n 114 Tryz.f114 (ms h114) := (F114 D n).2.trans (by kernel_rfl)
theorem f114_ok {D : Dyn} (hD : DP D) (n : Nat) : FP 114 (f114 D n) := fun_okP X_ok hD (SP.cons (m123_ok hD n) (SP.nil)) Tryz.func114 (by kernel_rfl) (by kernel_rfl) (f114_eq D n)
attribute [local irreducible] f114

def s87 (D : Dyn) (n : Nat) : Tb := ⟨X, [(114, f114 D n)]⟩
def h87 : Hint := (.s .o (.s .o .o))
def q87 (D : Dyn) (n : Nat) := (⟨_, by conv => rhs; reduce⟩ : {g // g = fun vs H => funS (s87 D n) D n 87 Tryz.f87 h87 [] vs H}).1
def F87 (D : Dyn) (n : Nat) : {g // g = q87 D n} := ⟨_, by conv => rhs; delta q87; dsimp only; try simp only [FPs]⟩
def f87 (D : Dyn) (n : Nat) := (F87 D n).1
theorem f87_eq (D : Dyn) (n : Nat) : f87 D n = funKp (s87 D n) D n 87 Tryz.f87 (ms h87) := (F87 D n).2.trans (by kernel_rfl)
theorem f87_ok {D : Dyn} (hD : DP D) (n : Nat) : FP 87 (f87 D n) := fun_okP X_ok hD (SP.cons (f114_ok hD n) (SP.nil)) Tryz.func87 (by kernel_rfl) (by kernel_rfl) (f87_eq D n)
attribute [local irreducible] f87

def s113 (D : Dyn) (n : Nat) : Tb := ⟨X, []⟩
def h113 : Hint := (.s .o (.s .o (.s (.s .o (.b [1,3] (.l [0,3,6,7,8] (.s .o (.s (.cr .o .o) (.s (.b0 (.s .o .o)) .o)))))) (.s .o .o))))
def q113l0 (D : Dyn) (n : Nat) := (⟨_, by conv => rhs; reduce⟩ : {g // some g = prtF (s113 D n) D n 113 Tryz.f113 h113 [] 0}).1
attribute [local irreducible] q113l0
def q113b1 (D : Dyn) (n : Nat) := (⟨_, by conv => rhs; reduce⟩ : {g // some g = prtF (s113 D n) D n 113 Tryz.f113 h113 [q113l0 D n] 1}).1
attribute [local irreducible] q113b1
def q113 (D : Dyn) (n : Nat) := (⟨_, by conv => rhs; reduce⟩ : {g // g = fun vs H => funS (s113 D n) D n 113 Tryz.f113 h113 [q113l0 D n, q113b1 D n] vs H}).1
def F113l0 (D : Dyn) (n : Nat) : {g // g = q113l0 D n} := ⟨_, by conv => rhs; delta q113l0; dsimp only; try simp only [FPs]⟩
def F113b1 (D : Dyn) (n : Nat) : {g // g = q113b1 D n} := ⟨_, by conv => rhs; delta q113b1; dsimp only; try simp only [FPs, ← (F113l0 D n).2]⟩
def F113 (D : Dyn) (n : Nat) : {g // g = q113 D n} := ⟨_, by conv => rhs; delta q113; dsimp only; try simp only [FPs, ← (F113l0 D n).2, ← (F113b1 D n).2]⟩
def f113 (D : Dyn) (n : Nat) := (F113 D n).1
theorem f113_eq (D : Dyn) (n : Nat) : f113 D n = funKp (s113 D n) D n 113 Tryz.f113 (ms h113) := (F113 D n).2.trans (by kernel_rfl)
theorem f113_ok {D : Dyn} (hD : DP D) (n : Nat) : FP 113 (f113 D n) := fun_okP X_ok hD (SP.nil) Tryz.func113 (by kernel_rfl) (by kernel_rfl) (f113_eq D n)
attribute [local irreducible] f113

def s53 (D : Dyn) (n : Nat) : Tb := ⟨X, [(56, f56 D n)]⟩
def h53 : Hint := (.s .o (.s (.s .o (.cl (.s .o .o) .o)) (.s (.s .o (.cl (.s .o .o) .o)) (.s .o (.s .o (.s .o (.s .o (.s .o (.s .o (.s .o .o))))))))))
def q53 (D : Dyn) (n : Nat) := (⟨_, by conv => rhs; reduce⟩ : {g // g = fun vs H => funS (s53 D n) D n 53 Tryz.f53 h53 [] vs H}).1
def F53 (D : Dyn) (n : Nat) : {g // g = q53 D n} := ⟨_, by conv => rhs; delta q53; dsimp only; try simp only [FPs]⟩
def f53 (D : Dyn) (n : Nat) := (F53 D n).1
theorem f53_eq (D : Dyn) (n : Nat) : f53 D n = funKp (s53 D n) D n 53 Tryz.f53 (ms h53) := (F53 D n).2.trans (by kernel_rfl)
theorem f53_ok {D : Dyn} (hD : DP D) (n : Nat) : FP 53 (f53 D n) := fun_okP X_ok hD (SP.cons (f56_ok hD n) (SP.nil)) Tryz.func53 (by kernel_rfl) (by kernel_rfl) (f53_eq D n)
attribute [local irreducible] f53

def s86 (D : Dyn) (n : Nat) : Tb := ⟨X, [(113, f113 D n), (53, f53 D n)]⟩
def h86 : Hint := (.s .o (.s .o (.s (.s .o (.cl (.s .o .o) .o)) (.s .o (.s .o (.s .o (.s .o (.s (.s .o (.cl (.s .o .o) .o)) (.s .o .o)))))))))
def q86 (D : Dyn) (n : Nat) := (⟨_, by conv => rhs; reduce⟩ : {g // g = fun vs H => funS (s86 D n) D n 86 Tryz.f86 h86 [] vs H}).1
def F86 (D : Dyn) (n : Nat) : {g // g = q86 D n} := ⟨_, by conv => rhs; delta q86; dsimp only; try simp only [FPs]⟩
def f86 (D : Dyn) (n : Nat) := (F86 D n).1
theorem f86_eq (D : Dyn) (n : Nat) : f86 D n = funKp (s86 D n) D n 86 Tryz.f86 (ms h86) := (F86 D n).2.trans (by kernel_rfl)
theorem f86_ok {D : Dyn} (hD : DP D) (n : Nat) : FP 86 (f86 D n) := fun_okP X_ok hD (SP.cons (f113_ok hD n) (SP.cons (f53_ok hD n) (SP.nil))) Tryz.func86 (by kernel_rfl) (by kernel_rfl) (f86_eq D n)
attribute [local irreducible] f86

def s89 (D : Dyn) (n : Nat) : Tb := ⟨X, [(87, f87 D n), (86, f86 D n)]⟩
def h89 : Hint := (.s .o (.s (.s (.c [5,31] (.l [0,1,2,3,4,6,7,5,8,9] .o) .o) (.cl (.s .o .o) .o)) (.s .o (.s (.s .o (.cl (.s .o .o) .o)) (.s (.s .o (.cl (.s .o .o) .o)) (.s .o .o))))))
def q89 (D : Dyn) (n : Nat) := (⟨_, by conv => rhs; reduce⟩ : {g // g = fun vs H => funS (s89 D n) D n 89 Tryz.f89 h89 [] vs H}).1
def F89 (D : Dyn) (n : Nat) : {g // g = q89 D n} := ⟨_, by conv => rhs; delta q89; dsimp only; try simp only [FPs]⟩
def f89 (D : Dyn) (n : Nat) := (F89 D n).1
theorem f89_eq (D : Dyn) (n : Nat) : f89 D n = funKp (s89 D n) D n 89 Tryz.f89 (ms h89) := (F89 D n).2.trans (by kernel_rfl)
theorem f89_ok {D : Dyn} (hD : DP D) (n : Nat) : FP 89 (f89 D n) := fun_okP X_ok hD (SP.cons (f87_ok hD n) (SP.cons (f86_ok hD n) (SP.nil))) Tryz.func89 (by kernel_rfl) (by kernel_rfl) (f89_eq D n)
attribute [local irreducible] f89

def s84 (D : Dyn) (n : Nat) : Tb := ⟨X, []⟩
def h84 : Hint := (.s .o (.s (.s .o (.cl (.s .o .o) .o)) (.s (.s .o (.cl (.s .o .o) .o)) (.s .o .o))))
def q84 (D : Dyn) (n : Nat) := (⟨_, by conv => rhs; reduce⟩ : {g // g = fun vs H => funS (s84 D n) D n 84 Tryz.f84 h84 [] vs H}).1
def F84 (D : Dyn) (n : Nat) : {g // g = q84 D n} := ⟨_, by conv => rhs; delta q84; dsimp only; try simp only [FPs]⟩
def f84 (D : Dyn) (n : Nat) := (F84 D n).1
theorem f84_eq (D : Dyn) (n : Nat) : f84 D n = funKp (s84 D n) D n 84 Tryz.f84 (ms h84) := (F84 D n).2.trans (by kernel_rfl)
theorem f84_ok {D : Dyn} (hD : DP D) (n : Nat) : FP 84 (f84 D n) := fun_okP X_ok hD (SP.nil) Tryz.func84 (by kernel_rfl) (by kernel_rfl) (f84_eq D n)
attribute [local irreducible] f84

def s82 (D : Dyn) (n : Nat) : Tb := ⟨X, [(84, f84 D n)]⟩
def h82 : Hint := (.s .o (.s (.s .o (.s .o (.cl (.s .o .o) .o))) (.s (.s .o (.cl (.s .o .o) .o)) (.s .o .o))))
def q82 (D : Dyn) (n : Nat) := (⟨_, by conv => rhs; reduce⟩ : {g // g = fun vs H => funS (s82 D n) D n 82 Tryz.f82 h82 [] vs H}).1
def F82 (D : Dyn) (n : Nat) : {g // g = q82 D n} := ⟨_, by conv => rhs; delta q82; dsimp only; try simp only [FPs]⟩
def f82 (D : Dyn) (n : Nat) := (F82 D n).1
theorem f82_eq (D : Dyn) (n : Nat) : f82 D n = funKp (s82 D n) D n 82 Tryz.f82 (ms h82) := (F82 D n).2.trans (by kernel_rfl)
theorem f82_ok {D : Dyn} (hD : DP D) (n : Nat) : FP 82 (f82 D n) := fun_okP X_ok hD (SP.cons (f84_ok hD n) (SP.nil)) Tryz.func82 (by kernel_rfl) (by kernel_rfl) (f82_eq D n)
attribute [local irreducible] f82

def s49 (D : Dyn) (n : Nat) : Tb := ⟨X, [(82, f82 D n)]⟩
def h49 : Hint := (.s .o (.s (.s .o (.s .o (.cl (.s .o .o) .o))) (.s (.s .o (.s .o (.cl (.s .o .o) .o))) (.s .o .o))))
def q49 (D : Dyn) (n : Nat) := (⟨_, by conv => rhs; reduce⟩ : {g // g = fun vs H => funS (s49 D n) D n 49 Tryz.f49 h49 [] vs H}).1
def F49 (D : Dyn) (n : Nat) : {g // g = q49 D n} := ⟨_, by conv => rhs; delta q49; dsimp only; try simp only [FPs]⟩
def f49 (D : Dyn) (n : Nat) := (F49 D n).1
theorem f49_eq (D : Dyn) (n : Nat) : f49 D n = funKp (s49 D n) D n 49 Tryz.f49 (ms h49) := (F49 D n).2.trans (by kernel_rfl)
theorem f49_ok {D : Dyn} (hD : DP D) (n : Nat) : FP 49 (f49 D n) := fun_okP X_ok hD (SP.cons (f82_ok hD n) (SP.nil)) Tryz.func49 (by kernel_rfl) (by kernel_rfl) (f49_eq D n)
attribute [local irreducible] f49

def s37 (D : Dyn) (n : Nat) : Tb := ⟨X, [(64, f64 D n), (65, f65 D n)]⟩
def h37 : Hint := (.s .o (.s (.s .o (.cl (.s .o .o) .o)) (.s .o (.s .o .o))))
def q37 (D : Dyn) (n : Nat) := (⟨_, by conv => rhs; reduce⟩ : {g // g = fun vs H => funS (s37 D n) D n 37 Tryz.f37 h37 [] vs H}).1
def F37 (D : Dyn) (n : Nat) : {g // g = q37 D n} := ⟨_, by conv => rhs; delta q37; dsimp only; try simp only [FPs]⟩
def f37 (D : Dyn) (n : Nat) := (F37 D n).1
theorem f37_eq (D : Dyn) (n : Nat) : f37 D n = funKp (s37 D n) D n 37 Tryz.f37 (ms h37) := (F37 D n).2.trans (by kernel_rfl)
theorem f37_ok {D : Dyn} (hD : DP D) (n : Nat) : FP 37 (f37 D n) := fun_okP X_ok hD (SP.cons (f64_ok hD n) (SP.cons (f65_ok hD n) (SP.nil))) Tryz.func37 (by kernel_rfl) (by kernel_rfl) (f37_eq D n)
attribute [local irreducible] f37

def s57 (D : Dyn) (n : Nat) : Tb := ⟨X, [(88, f88 D n), (89, f89 D n), (49, f49 D n), (37, f37 D n)]⟩
def h57 : Hint := (.s .o (.s (.s .o (.c [2,0,3] (.s (.c [6,63,11,1535] (.l [0,1,2,3,4,5,10,6,7,8,9,11,12] .o) .o) (.s .o (.c [0,0,3] (.s .o (.s .o (.cl (.s .o .o) .o))) .o))) .o)) (.s (.c [6,63,11,1535] (.l [0,1,2,3,4,5,10,6,7,8,9,11,12] .o) .o) (.s (.s .o (.cl (.s .o .o) .o)) (.s .o (.s (.s .o (.cl (.s .o .o) .o)) (.s (.s .o (.c [1,14,15] (.b [7,127] .o) .o)) (.s .o .o))))))))
def q57j0 (D : Dyn) (n : Nat) := (⟨_, by conv => rhs; reduce⟩ : {g // some g = prtF (s57 D n) D n 57 Tryz.f57 h57 [] 0}).1
attribute [local irreducible] q57j0
def q57j1 (D : Dyn) (n : Nat) := (⟨_, by conv => rhs; reduce⟩ : {g // some g = prtF (s57 D n) D n 57 Tryz.f57 h57 [q57j0 D n] 1}).1
attribute [local irreducible] q57j1
def q57j2 (D : Dyn) (n : Nat) := (⟨_, by conv => rhs; reduce⟩ : {g // some g = prtF (s57 D n) D n 57 Tryz.f57 h57 [q57j0 D n, q57j1 D n] 2}).1
attribute [local irreducible] q57j2
def q57 (D : Dyn) (n : Nat) := (⟨_, by conv => rhs; reduce⟩ : {g // g = fun vs H => funS (s57 D n) D n 57 Tryz.f57 h57 [q57j0 D n, q57j1 D n, q57j2 D n] vs H}).1
def F57j0 (D : Dyn) (n : Nat) : {g // g = q57j0 D n} := ⟨_, by conv => rhs; delta q57j0; dsimp only; try simp only [FPs]⟩
def F57j1 (D : Dyn) (n : Nat) : {g // g = q57j1 D n} := ⟨_, by conv => rhs; delta q57j1; dsimp only; try simp only [FPs, ← (F57j0 D n).2]⟩
def F57j2 (D : Dyn) (n : Nat) : {g // g = q57j2 D n} := ⟨_, by conv => rhs; delta q57j2; dsimp only; try simp only [FPs, ← (F57j0 D n).2, ← (F57j1 D n).2]⟩
def F57 (D : Dyn) (n : Nat) : {g // g = q57 D n} := ⟨_, by conv => rhs; delta q57; dsimp only; try simp only [FPs, ← (F57j0 D n).2, ← (F57j1 D n).2, ← (F57j2 D n).2]⟩
def f57 (D : Dyn) (n : Nat) := (F57 D n).1
theorem f57_eq (D : Dyn) (n : Nat) : f57 D n = funKp (s57 D n) D n 57 Tryz.f57 (ms h57) := (F57 D n).2.trans (by kernel_rfl)
theorem f57_ok {D : Dyn} (hD : DP D) (n : Nat) : FP 57 (f57 D n) := fun_okP X_ok hD (SP.cons (f88_ok hD n) (SP.cons (f89_ok hD n) (SP.cons (f49_ok hD n) (SP.cons (f37_ok hD n) (SP.nil))))) Tryz.func57 (by kernel_rfl) (by kernel_rfl) (f57_eq D n)
attribute [local irreducible] f57

def s90 (D : Dyn) (n : Nat) : Tb := ⟨X, []⟩
def h90 : Hint := (.s .o (.s (.s .o (.cl (.s .o (.s .o .o)) .o)) (.s .o (.s .o (.s .o .o)))))
def q90 (D : Dyn) (n : Nat) := (⟨_, by conv => rhs; reduce⟩ : {g // g = fun vs H => funS (s90 D n) D n 90 Tryz.f90 h90 [] vs H}).1
def F90 (D : Dyn) (n : Nat) : {g // g = q90 D n} := ⟨_, by conv => rhs; delta q90; dsimp only; try simp only [FPs]⟩
def f90 (D : Dyn) (n : Nat) := (F90 D n).1
theorem f90_eq (D : Dyn) (n : Nat) : f90 D n = funKp (s90 D n) D n 90 Tryz.f90 (ms h90) := (F90 D n).2.trans (by kernel_rfl)
theorem f90_ok {D : Dyn} (hD : DP D) (n : Nat) : FP 90 (f90 D n) := fun_okP X_ok hD (SP.nil) Tryz.func90 (by kernel_rfl) (by kernel_rfl) (f90_eq D n)
attribute [local irreducible] f90

def s116 (D : Dyn) (n : Nat) : Tb := ⟨X, [(113, f113 D n), (55, f55 D n)]⟩
def h116 : Hint := (.s .o (.s (.s .o (.cl (.s .o .o) .o)) (.s .o (.s (.c [] (.l [0,3,6,9,1,2,4,5,7,8,10] .o) .o) (.s (.s .o (.cl (.s .o .o) .o)) (.s .o .o))))))
def q116 (D : Dyn) (n : Nat) := (⟨_, by conv => rhs; reduce⟩ : {g // g = fun vs H => funS (s116 D n) D n 116 Tryz.f116 h116 [] vs H}).1
def F116 (D : Dyn) (n : Nat) : {g // g = q116 D n} := ⟨_, by conv => rhs; delta q116; dsimp only; try simp only [FPs]⟩
def f116 (D : Dyn) (n : Nat) := (F116 D n).1
theorem f116_eq (D : Dyn) (n : Nat) : f116 D n = funKp (s116 D n) D n 116 Tryz.f116 (ms h116) := (F116 D n).2.trans (by kernel_rfl)
theorem f116_ok {D : Dyn} (hD : DP D) (n : Nat) : FP 116 (f116 D n) := fun_okP X_ok hD (SP.cons (f113_ok hD n) (SP.cons (f55_ok hD n) (SP.nil))) Tryz.func116 (by kernel_rfl) (by kernel_rfl) (f116_eq D n)
attribute [local irreducible] f116

def s92 (D : Dyn) (n : Nat) : Tb := ⟨X, [(90, f90 D n), (116, f116 D n)]⟩
def h92 : Hint := (.s .o (.s (.s .o (.cl .o .o)) (.s .o (.s (.s .o (.cl (.s .o .o) .o)) (.b [8,254,12,4095] .o)))))
def q92 (D : Dyn) (n : Nat) := (⟨_, by conv => rhs; reduce⟩ : {g // g = fun vs H => funS (s92 D n) D n 92 Tryz.f92 h92 [] vs H}).1
def F92 (D : Dyn) (n : Nat) : {g // g = q92 D n} := ⟨_, by conv => rhs; delta q92; dsimp only; try simp only [FPs]⟩
def f92 (D : Dyn) (n : Nat) := (F92 D n).1
theorem f92_eq (D : Dyn) (n : Nat) : f92 D n = funKp (s92 D n) D n 92 Tryz.f92 (ms h92) := (F92 D n).2.trans (by kernel_rfl)
theorem f92_ok {D : Dyn} (hD : DP D) (n : Nat) : FP 92 (f92 D n) := fun_okP X_ok hD (SP.cons (f90_ok hD n) (SP.cons (f116_ok hD n) (SP.nil))) Tryz.func92 (by kernel_rfl) (by kernel_rfl) (f92_eq D n)
attribute [local irreducible] f92

def s94 (D : Dyn) (n : Nat) : Tb := ⟨X, [(72, f72 D n), (95, f95 D n)]⟩
def h94 : Hint := (.s .o (.s .o .o))
def q94 (D : Dyn) (n : Nat) := (⟨_, by conv => rhs; reduce⟩ : {g // g = fun vs H => funS (s94 D n) D n 94 Tryz.f94 h94 [] vs H}).1
def F94 (D : Dyn) (n : Nat) : {g // g = q94 D n} := ⟨_, by conv => rhs; delta q94; dsimp only; try simp only [FPs]⟩
def f94 (D : Dyn) (n : Nat) := (F94 D n).1
theorem f94_eq (D : Dyn) (n : Nat) : f94 D n = funKp (s94 D n) D n 94 Tryz.f94 (ms h94) := (F94 D n).2.trans (by kernel_rfl)
theorem f94_ok {D : Dyn} (hD : DP D) (n : Nat) : FP 94 (f94 D n) := fun_okP X_ok hD (SP.cons (f72_ok hD n) (SP.cons (f95_ok hD n) (SP.nil))) Tryz.func94 (by kernel_rfl) (by kernel_rfl) (f94_eq D n)
attribute [local irreducible] f94

def s115 (D : Dyn) (n : Nat) : Tb := ⟨X, [(90, f90 D n)]⟩
def h115 : Hint := (.s .o (.s .o (.s (.s .o (.cl (.s .o .o) .o)) (.s .o .o))))
def q115 (D : Dyn) (n : Nat) := (⟨_, by conv => rhs; reduce⟩ : {g // g = fun vs H => funS (s115 D n) D n 115 Tryz.f115 h115 [] vs H}).1
def F115 (D : Dyn) (n : Nat) : {g // g = q115 D n} := ⟨_, by conv => rhs; delta q115; dsimp only; try simp only [FPs]⟩
def f115 (D : Dyn) (n : Nat) := (F115 D n).1
theorem f115_eq (D : Dyn) (n : Nat) : f115 D n = funKp (s115 D n) D n 115 Tryz.f115 (ms h115) := (F115 D n).2.trans (by kernel_rfl)
theorem f115_ok {D : Dyn} (hD : DP D) (n : Nat) : FP 115 (f115 D n) := fun_okP X_ok hD (SP.cons (f90_ok hD n) (SP.nil)) Tryz.func115 (by kernel_rfl) (by kernel_rfl) (f115_eq D n)
attribute [local irreducible] f115

def s91 (D : Dyn) (n : Nat) : Tb := ⟨X, [(115, f115 D n)]⟩
def h91 : Hint := (.b [7,64,9,510,13,8191] .o)
def q91 (D : Dyn) (n : Nat) := (⟨_, by conv => rhs; reduce⟩ : {g // g = fun vs H => funS (s91 D n) D n 91 Tryz.f91 h91 [] vs H}).1
def F91 (D : Dyn) (n : Nat) : {g // g = q91 D n} := ⟨_, by conv => rhs; delta q91; dsimp only; try simp only [FPs]⟩
def f91 (D : Dyn) (n : Nat) := (F91 D n).1
theorem f91_eq (D : Dyn) (n : Nat) : f91 D n = funKp (s91 D n) D n 91 Tryz.f91 (ms h91) := (F91 D n).2.trans (by kernel_rfl)
theorem f91_ok {D : Dyn} (hD : DP D) (n : Nat) : FP 91 (f91 D n) := fun_okP X_ok hD (SP.cons (f115_ok hD n) (SP.nil)) Tryz.func91 (by kernel_rfl) (by kernel_rfl) (f91_eq D n)
attribute [local irreducible] f91

def s93 (D : Dyn) (n : Nat) : Tb := ⟨X, [(115, f115 D n)]⟩
def h93 : Hint := (.b [7,64,9,510,13,8191] .o)
def q93 (D : Dyn) (n : Nat) := (⟨_, by conv => rhs; reduce⟩ : {g // g = fun vs H => funS (s93 D n) D n 93 Tryz.f93 h93 [] vs H}).1
def F93 (D : Dyn) (n : Nat) : {g // g = q93 D n} := ⟨_, by conv => rhs; delta q93; dsimp only; try simp only [FPs]⟩
def f93 (D : Dyn) (n : Nat) := (F93 D n).1
theorem f93_eq (D : Dyn) (n : Nat) : f93 D n = funKp (s93 D n) D n 93 Tryz.f93 (ms h93) := (F93 D n).2.trans (by kernel_rfl)
theorem f93_ok {D : Dyn} (hD : DP D) (n : Nat) : FP 93 (f93 D n) := fun_okP X_ok hD (SP.cons (f115_ok hD n) (SP.nil)) Tryz.func93 (by kernel_rfl) (by kernel_rfl) (f93_eq D n)
attribute [local irreducible] f93
end Go.Eng.Sh
