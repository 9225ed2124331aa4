/- Shallow functions, by program (gent4.py). -/
import Derived.Test.YtnjljebicihpaaaGreatDoorWX1
import Derived.Test.YtnjljebicihpaaaGreatDoorProg
import Derived.KernelRfl
noncomputable section
namespace Go.Eng.Sh
open Go.Proofs
set_option maxRecDepth 100000
set_option maxHeartbeats 4000000
set_option linter.all false
attribute [local irreducible] bV bR hd cnd jn jb loopK wnt chk newB bA bInt bStr bBool cmpO eqP eqS eqM eqF eqPL cvI cvSS slStr slArr ixArr ixSl ixStr fAd lnStr lnSl lnMap pk3 s2a bxV lkM upM dlM mkM callV nl outR tld endQ beginK endR endLp jmpK rfC mn2 mx2 aun pExtract pNil undefA isW aveq ldNp ld1p stNp cvBSp cvSBp slSlp ixAg1p ixAgNp fd1p fdNp apPp apZp cpyp bldSp bldAp bldLp mkSlp eqAp clSp bC pnK ifNil asrK noPan mkR clM acap mtp358_0 mtp295_0 mtp297_0 f33 f11 f98 f102 f58 f161l0 f161b1 f161 f167l0 f167b1 f167 f162 f103 f163 f104 f210 f141l0 f141b1 f141 f164 f105 f165l0 f165b1 f165 m165 f106 f59 f60 f34j0 f34l1 f34b2 f34 f166 f107 f266 f267 f237 f168 f109 f169 f108 f61 f110 f62l0 f62b1 f62 f35 f111 f112 f114 f170 f113l0 f113b1 f113 f115 f240 f369 f422 f425j0 f425 f421j0 f421j1 f421j2 f421j3 f421 f424j0 f424j1 f424 f370j0 f370j1 f370 f350 f407 f351 f318 f300j0 f300j1 f300j2 f300 f352 f365 f364l0 f364l1 f364b2 f364l3 f364b4 f364b5 f364 f409l0 f409l1 f409b2 f409b3 f409 f356 f408 f353 f355 f301l0 f301b1 f301l2 f301b3 f301j4 f301 f241 f242 f185 f183 f238l0 f238b1 f238 r238_0 f171 f116 r116_0 f63j0 f63 f119 f65 f66 f64l0 f64b1 f64l2 f64b3 f64 f67 f120
def s175 (D : Dyn) (n : Nat) : Tb := ⟨X, []⟩
def f175 (D : Dyn) (n : Nat) (vs : List AV) (H : AH) : Option (AV × AH) :=
  outR (hd vs fun x0 vs => hd vs fun x1 vs => nl vs <|
  bV (cmpO .neq (eqP x0 .nilPtr)) fun x6 => 
  jn (wnt x6 true (bV (bInt .geq x1 (.int .i64 (.ofNat 0))) fun x9 => 
  some (.norm [x9], H)) (some (.norm [undefA], H))) fun vs H => hd vs fun x9_2 vs => 
  bV (pk3 (some x6) (some x9_2) (some (.bool false))) fun x10 => 
  jn (wnt x10 true (bV (pNil x0) fun x14 => 
  bV (fAd 0 x14) fun x15 => 
  bV (ld1p x15 H) fun x16 => 
  bV (bInt .lss x1 x16) fun x17 => 
  some (.norm [x17], H)) (some (.norm [undefA], H))) fun vs H => hd vs fun x17_2 vs => 
  bV (pk3 (some x10) (some x17_2) (some (.bool false))) fun x18 => 
  jn (wnt x18 true (bV (pNil x0) fun x22 => 
  bV (fAd 2 x22) fun x23 => 
  bV (ixArr 8192 1 x23 x1) fun x24 => 
  bV (ld1p x24 H) fun x25 => 
  bV (bInt .eql x25 (.int .u8 (.ofNat 1))) fun x26 => 
  some (.norm [x26], H)) (some (.norm [undefA], H))) fun vs H => hd vs fun x27 vs => 
  jn (wnt x27 false (bV (pNil x0) fun x30 => 
  bV (fAd 2 x30) fun x31 => 
  bV (ixArr 8192 1 x31 x1) fun x32 => 
  bV (ld1p x32 H) fun x33 => 
  bV (bInt .eql x33 (.int .u8 (.ofNat 2))) fun x34 => 
  some (.norm [x34], H)) (some (.norm [undefA], H))) fun vs H => hd vs fun x34_2 vs => 
  jn (wnt x18 true (bV (pk3 (some x27) (some (.bool true)) (some x34_2)) fun x35 => 
  some (.norm [x35], H)) (some (.norm [undefA], H))) fun vs H => hd vs fun x35_2 vs => 
  bV (pk3 (some x18) (some x35_2) (some (.bool false))) fun x36 => 
  bV (some x36) fun x4 => some (.ret x4, H))
def h175 : Hint := (.s .o (.s .o .o))
theorem f175_eq (D : Dyn) (n : Nat) : f175 D n = funKp (s175 D n) D n 175 Tryz.f175 h175 := by kernel_rfl
theorem f175_ok {D : Dyn} (hD : DP D) (n : Nat) : FP 175 (f175 D n) := fun_okP X_ok hD (SP.nil) Tryz.func175 (by kernel_rfl) (by kernel_rfl) (f175_eq D n)
attribute [local irreducible] f175
end Go.Eng.Sh
