/- The law, over what is told, by program (genp.py). -/
import Derived.Test.YtdbpihiihgkkdaaGreatR6T
import Derived.Test.YtdbpihiihgkkdaaGreatR6C40
import Derived.Test.YtdbpihiihgkkdaaGreatR6C63
import Derived.Test.YtdbpihiihgkkdaaGreatR6C64
import Derived.Test.YtdbpihiihgkkdaaGreatR6C65
import Derived.Test.YtdbpihiihgkkdaaGreatProg
import Derived.KernelRfl
noncomputable section
namespace Go.Eng.Sh
open Go.Proofs
set_option maxRecDepth 1000000
set_option linter.all false
def z40 (D : Dyn) (n : Nat) (vs : List AV) (H : AH) : Option (AV × AH) := cloK (f40 D n) vs H
theorem z40_ok {D : Dyn} (hD : DP D) (n : Nat) : FP 40 (z40 D n) := cloK_ok ⟨_, Tryz.func40, rfl⟩ c40 (f40_ok hD n)
def z63 (D : Dyn) (n : Nat) (vs : List AV) (H : AH) : Option (AV × AH) := cloK (f63 D n) vs H
theorem z63_ok {D : Dyn} (hD : DP D) (n : Nat) : FP 63 (z63 D n) := cloK_ok ⟨_, Tryz.func63, rfl⟩ c63 (f63_ok hD n)
def z64 (D : Dyn) (n : Nat) (vs : List AV) (H : AH) : Option (AV × AH) := cloK (f64 D n) vs H
theorem z64_ok {D : Dyn} (hD : DP D) (n : Nat) : FP 64 (z64 D n) := cloK_ok ⟨_, Tryz.func64, rfl⟩ c64 (f64_ok hD n)
def z65 (D : Dyn) (n : Nat) (vs : List AV) (H : AH) : Option (AV × AH) := cloK (f65 D n) vs H
theorem z65_ok {D : Dyn} (hD : DP D) (n : Nat) : FP 65 (z65 D n) := cloK_ok ⟨_, Tryz.func65, rfl⟩ c65 (f65_ok hD n)
def s6z (D : Dyn) (n : Nat) : Tb := ⟨X, [(40, z40 D n), (41, f41 D n), (42, f42 D n), (43, f43 D n), (44, f44 D n), (46, f46 D n), (45, f45 D n), (47, f47 D n), (48, f48 D n), (17, f17 D n), (49, f49 D n), (50, f50 D n), (52, f52 D n), (51, f51 D n), (53, f53 D n), (54, f54 D n), (55, f55 D n), (56, f56 D n), (57, f57 D n), (58, f58 D n), (59, f59 D n), (60, f60 D n), (61, f61 D n), (62, f62 D n), (63, z63 D n), (64, z64 D n), (65, z65 D n)]⟩
/-- jetty/jettylaw15.TxgNames -/
def f6z (D : Dyn) (n : Nat) (vs : List AV) (H : AH) : Option (AV × AH) :=
  outR (nl vs <|
  bR (z40 D n [] H) fun x34 H => 
  bV (aun .not x34) fun x35 => 
  bV (pk3 (some x35) (some (.bool true)) (some (.bool false))) fun x37 => 
  bV (pk3 (some x37) (some (.bool true)) (some (.bool false))) fun x39 => 
  bV (pk3 (some x39) (some (.bool true)) (some (.bool false))) fun x41 => 
  bV (pk3 (some x41) (some (.bool true)) (some (.bool false))) fun x43 => 
  bV (pk3 (some x43) (some (.bool true)) (some (.bool false))) fun x45 => 
  bV (pk3 (some x45) (some (.bool true)) (some (.bool false))) fun x47 => 
  bV (pk3 (some x47) (some (.bool true)) (some (.bool false))) fun x49 => 
  bV (pk3 (some x49) (some (.bool true)) (some (.bool false))) fun x51 => 
  bV (pk3 (some x51) (some (.bool true)) (some (.bool false))) fun x53 => 
  bV (pk3 (some x53) (some (.bool true)) (some (.bool false))) fun x55 => 
  bV (pk3 (some x55) (some (.bool true)) (some (.bool false))) fun x57 => 
  bV (pk3 (some x57) (some (.bool true)) (some (.bool false))) fun x59 => 
  cnd x59 (bV (some (.bool false)) fun x0 => some (.ret x0, H))
  (bR (f41 D n [(.int .i64 (.ofNat 64))] H) fun x60 H => 
  bR (f42 D n [x60, (.int .i64 (.ofNat 0))] H) fun x62 H => 
  bR (f41 D n [(.int .i64 (.ofNat 64))] H) fun x63 H => 
  bR (f42 D n [x63, (.int .i64 (.ofNat 0))] H) fun x64 H => 
  bR (f43 D n [.nilPtr, (.int .i64 (.ofNat 0))] H) fun x66 H => 
  bV (pExtract x66 0) fun x67 => 
  bV (pExtract x66 1) fun x68 => 
  bR (f43 D n [x60, (.int .i64 (.negSucc 0))] H) fun x71 H => 
  bV (pExtract x71 0) fun x72 => 
  bV (pExtract x71 1) fun x73 => 
  bR (f43 D n [x60, (.int .i64 (.ofNat 1025))] H) fun x76 H => 
  bV (pExtract x76 0) fun x77 => 
  bV (pExtract x76 1) fun x78 => 
  bV (cmpO .eql (eqP x62 .nilPtr)) fun x80 => 
  jn (wnt x80 false (bV (cmpO .eql (eqP x64 .nilPtr)) fun x83 => 
  some (.norm [x83], H)) (some (.norm [undefA], H))) fun vs H => hd vs fun x83_2 vs => 
  bV (pk3 (some x80) (some (.bool true)) (some x83_2)) fun x84 => 
  jn (wnt x84 false (bR (f44 D n [.nilPtr] H) fun x86 H => 
  bV (bInt .neq x86 (.int .i64 (.ofNat 2))) fun x87 => 
  some (.norm [x87], H)) (some (.norm [undefA], H))) fun vs H => hd vs fun x87_2 vs => 
  bV (pk3 (some x84) (some (.bool true)) (some x87_2)) fun x88 => 
  jn (wnt x88 false (bV (bInt .neq x68 (.int .i64 (.ofNat 2))) fun x91 => 
  some (.norm [x91], H)) (some (.norm [undefA], H))) fun vs H => hd vs fun x91_2 vs => 
  bV (pk3 (some x88) (some (.bool true)) (some x91_2)) fun x92 => 
  jn (wnt x92 false (bV (bInt .neq x73 (.int .i64 (.ofNat 1))) fun x95 => 
  some (.norm [x95], H)) (some (.norm [undefA], H))) fun vs H => hd vs fun x95_2 vs => 
  bV (pk3 (some x92) (some (.bool true)) (some x95_2)) fun x96 => 
  jn (wnt x96 false (bV (bInt .neq x78 (.int .i64 (.ofNat 1))) fun x99 => 
  some (.norm [x99], H)) (some (.norm [undefA], H))) fun vs H => hd vs fun x99_2 vs => 
  bV (pk3 (some x96) (some (.bool true)) (some x99_2)) fun x100 => 
  jn (wnt x100 false (bR (f46 D n [(.int .i64 (.ofNat 477))] H) fun x103 H => 
  bR (f45 D n [x62, x103] H) fun x104 H => 
  bV (bInt .neq x104 (.int .i64 (.ofNat 40))) fun x105 => 
  some (.norm [x105], H)) (some (.norm [undefA], H))) fun vs H => hd vs fun x105_2 vs => 
  bV (pk3 (some x100) (some (.bool true)) (some x105_2)) fun x106 => 
  jn (wnt x106 false (bR (f46 D n [(.int .i64 (.ofNat 476))] H) fun x109 H => 
  bR (f45 D n [x62, x109] H) fun x110 H => 
  bV (bInt .neq x110 (.int .i64 (.ofNat 0))) fun x111 => 
  some (.norm [x111], H)) (some (.norm [undefA], H))) fun vs H => hd vs fun x111_2 vs => 
  bV (pk3 (some x106) (some (.bool true)) (some x111_2)) fun x112 => 
  jn (wnt x112 false (bR (f47 D n [x62] H) fun x115 H => 
  bR (f46 D n [(.int .i64 (.ofNat 476))] H) fun x116 H => 
  bV (bStr .neq x115 x116) fun x117 => 
  some (.norm [x117], H)) (some (.norm [undefA], H))) fun vs H => hd vs fun x117_2 vs => 
  bV (pk3 (some x112) (some (.bool true)) (some x117_2)) fun x118 => 
  jn (wnt x118 false (bR (f48 D n [x62] H) fun x121 H => 
  bR (f17 D n [x121, (.str 1 97), (.str 1 49)] H) fun x122 H => 
  bV (bInt .neq x122 (.int .i64 (.ofNat 0))) fun x123 => 
  some (.norm [x123], H)) (some (.norm [undefA], H))) fun vs H => hd vs fun x123_2 vs => 
  bV (pk3 (some x118) (some (.bool true)) (some x123_2)) fun x124 => 
  cnd x124 (bV (some (.bool false)) fun x0_2 => some (.ret x0_2, H))
  (bR (f49 D n [x62] H) fun x126 H => 
  bR (f48 D n [x62] H) fun x128 H => 
  bR (f17 D n [x128, (.str 1 97), (.str 1 50)] H) fun x129 H => 
  bV (bInt .neq x129 (.int .i64 (.ofNat 0))) fun x130 => 
  jn (wnt x130 false (bR (f45 D n [x62, (.str 1 121)] H) fun x133 H => 
  bV (bInt .neq x133 (.int .i64 (.ofNat 0))) fun x134 => 
  some (.norm [x134], H)) (some (.norm [undefA], H))) fun vs H => hd vs fun x134_2 vs => 
  bV (pk3 (some x130) (some (.bool true)) (some x134_2)) fun x135 => 
  jn (wnt x135 false (bR (f50 D n [x62, .nilPtr] H) fun x138 H => 
  bV (bInt .neq x138 (.int .i64 (.ofNat 2))) fun x139 => 
  some (.norm [x139], H)) (some (.norm [undefA], H))) fun vs H => hd vs fun x139_2 vs => 
  bV (pk3 (some x135) (some (.bool true)) (some x139_2)) fun x140 => 
  jn (wnt x140 false (bR (f50 D n [x64, x126] H) fun x144 H => 
  bV (bInt .neq x144 (.int .i64 (.ofNat 50))) fun x145 => 
  some (.norm [x145], H)) (some (.norm [undefA], H))) fun vs H => hd vs fun x145_2 vs => 
  bV (pk3 (some x140) (some (.bool true)) (some x145_2)) fun x146 => 
  jn (wnt x146 false (bR (f50 D n [x62, x126] H) fun x150 H => 
  bV (bInt .neq x150 (.int .i64 (.ofNat 0))) fun x151 => 
  some (.norm [x151], H)) (some (.norm [undefA], H))) fun vs H => hd vs fun x151_2 vs => 
  bV (pk3 (some x146) (some (.bool true)) (some x151_2)) fun x152 => 
  jn (wnt x152 false (bR (f47 D n [x62] H) fun x155 H => 
  bR (f46 D n [(.int .i64 (.ofNat 476))] H) fun x156 H => 
  bV (bStr .neq x155 x156) fun x157 => 
  some (.norm [x157], H)) (some (.norm [undefA], H))) fun vs H => hd vs fun x157_2 vs => 
  bV (pk3 (some x152) (some (.bool true)) (some x157_2)) fun x158 => 
  jn (wnt x158 false (bR (f48 D n [x62] H) fun x161 H => 
  bA (bldLp 9 1 2 [(.str 0 0)] [(0, (.str 1 97)), (1, (.str 1 49))]) H fun x162 H => 
  bR (f52 D n [x162] H) fun x163 H => 
  bR (f51 D n [x161, x163] H) fun x164 H => 
  bV (aun .not x164) fun x165 => 
  some (.norm [x165], H)) (some (.norm [undefA], H))) fun vs H => hd vs fun x165_2 vs => 
  bV (pk3 (some x158) (some (.bool true)) (some x165_2)) fun x166 => 
  jn (wnt x166 false (bR (f48 D n [x62] H) fun x169 H => 
  bR (f17 D n [x169, (.str 1 98), (.str 1 51)] H) fun x170 H => 
  bV (bInt .neq x170 (.int .i64 (.ofNat 0))) fun x171 => 
  some (.norm [x171], H)) (some (.norm [undefA], H))) fun vs H => hd vs fun x171_2 vs => 
  bV (pk3 (some x166) (some (.bool true)) (some x171_2)) fun x172 => 
  jn (wnt x172 false (bR (f50 D n [x62, x126] H) fun x176 H => 
  bV (bInt .neq x176 (.int .i64 (.ofNat 0))) fun x177 => 
  some (.norm [x177], H)) (some (.norm [undefA], H))) fun vs H => hd vs fun x177_2 vs => 
  bV (pk3 (some x172) (some (.bool true)) (some x177_2)) fun x178 => 
  jn (wnt x178 false (bR (f48 D n [x62] H) fun x181 H => 
  bA (bldLp 9 1 2 [(.str 0 0)] [(0, (.str 1 97)), (1, (.str 1 49))]) H fun x182 H => 
  bR (f52 D n [x182] H) fun x183 H => 
  bR (f51 D n [x181, x183] H) fun x184 H => 
  bV (aun .not x184) fun x185 => 
  some (.norm [x185], H)) (some (.norm [undefA], H))) fun vs H => hd vs fun x185_2 vs => 
  bV (pk3 (some x178) (some (.bool true)) (some x185_2)) fun x186 => 
  cnd x186 (bV (some (.bool false)) fun x0_3 => some (.ret x0_3, H))
  (bR (f53 D n [x62] H) fun x189 H => 
  bV (pExtract x189 0) fun x190 => 
  bV (pExtract x189 1) fun x191 => 
  bR (f54 D n [x62] H) fun x193 H => 
  bA (bxV 52 (.agg [(.int .i64 (.ofNat 0)), (.int .i64 (.ofNat 0)), (.int .u64 (.ofNat 0))])) H fun x13 H => 
  bR (stNp 3 x13 x193 H) fun x9999 H => 
  bV (bInt .neq x191 (.int .i64 (.ofNat 0))) fun x195 => 
  jn (wnt x195 false (bR (f50 D n [x62, x126] H) fun x199 H => 
  bV (bInt .neq x199 (.int .i64 (.ofNat 50))) fun x200 => 
  some (.norm [x200], H)) (some (.norm [undefA], H))) fun vs H => hd vs fun x200_2 vs => 
  bV (pk3 (some x195) (some (.bool true)) (some x200_2)) fun x201 => 
  jn (wnt x201 false (bV (fAd 0 x13) fun x204 => 
  bV (ld1p x204 H) fun x205 => 
  bA (bldLp 3 1 1 [(.int .i64 (.ofNat 0))] [(0, x205)]) H fun x206 H => 
  bR (f55 D n [x62, x206] H) fun x207 H => 
  bV (bInt .neq x207 (.int .i64 (.ofNat 50))) fun x208 => 
  some (.norm [x208], H)) (some (.norm [undefA], H))) fun vs H => hd vs fun x208_2 vs => 
  bV (pk3 (some x201) (some (.bool true)) (some x208_2)) fun x209 => 
  jn (wnt x209 false (bA (bldLp 3 1 1 [(.int .i64 (.ofNat 0))] [(0, (.int .i64 (.ofNat 1)))]) H fun x212 H => 
  bR (f55 D n [x62, x212] H) fun x213 H => 
  bV (bInt .neq x213 (.int .i64 (.ofNat 1))) fun x214 => 
  some (.norm [x214], H)) (some (.norm [undefA], H))) fun vs H => hd vs fun x214_2 vs => 
  bV (pk3 (some x209) (some (.bool true)) (some x214_2)) fun x215 => 
  jn (wnt x215 false (bA (bldLp 3 1 1 [(.int .i64 (.ofNat 0))] [(0, (.int .i64 (.ofNat 64)))]) H fun x218 H => 
  bR (f55 D n [x62, x218] H) fun x219 H => 
  bV (bInt .neq x219 (.int .i64 (.ofNat 1))) fun x220 => 
  some (.norm [x220], H)) (some (.norm [undefA], H))) fun vs H => hd vs fun x220_2 vs => 
  bV (pk3 (some x215) (some (.bool true)) (some x220_2)) fun x221 => 
  jn (wnt x221 false (bA (bldLp 3 1 1 [(.int .i64 (.ofNat 0))] [(0, (.int .i64 (.ofNat 9)))]) H fun x224 H => 
  bR (f55 D n [x62, x224] H) fun x225 H => 
  bV (bInt .neq x225 (.int .i64 (.ofNat 5))) fun x226 => 
  some (.norm [x226], H)) (some (.norm [undefA], H))) fun vs H => hd vs fun x226_2 vs => 
  bV (pk3 (some x221) (some (.bool true)) (some x226_2)) fun x227 => 
  jn (wnt x227 false (bV (fAd 0 x13) fun x230 => 
  bV (ld1p x230 H) fun x231 => 
  bR (f56 D n [x62, x231] H) fun x232 H => 
  bV (bInt .neq x232 (.int .i64 (.ofNat 6))) fun x233 => 
  some (.norm [x233], H)) (some (.norm [undefA], H))) fun vs H => hd vs fun x233_2 vs => 
  bV (pk3 (some x227) (some (.bool true)) (some x233_2)) fun x234 => 
  jn (wnt x234 false (bR (f56 D n [x62, (.int .i64 (.ofNat 9))] H) fun x237 H => 
  bV (bInt .neq x237 (.int .i64 (.ofNat 0))) fun x238 => 
  some (.norm [x238], H)) (some (.norm [undefA], H))) fun vs H => hd vs fun x238_2 vs => 
  bV (pk3 (some x234) (some (.bool true)) (some x238_2)) fun x239 => 
  jn (wnt x239 false (bR (f56 D n [x62, (.int .i64 (.ofNat 0))] H) fun x242 H => 
  bV (bInt .neq x242 (.int .i64 (.ofNat 1))) fun x243 => 
  some (.norm [x243], H)) (some (.norm [undefA], H))) fun vs H => hd vs fun x243_2 vs => 
  bV (pk3 (some x239) (some (.bool true)) (some x243_2)) fun x244 => 
  jn (wnt x244 false (bV (fAd 0 x13) fun x247 => 
  bV (ld1p x247 H) fun x248 => 
  bA (bldLp 3 1 2 [(.int .i64 (.ofNat 0))] [(0, (.int .i64 (.ofNat 9))), (1, x248)]) H fun x249 H => 
  bR (f55 D n [x62, x249] H) fun x250 H => 
  bV (bInt .neq x250 (.int .i64 (.ofNat 50))) fun x251 => 
  some (.norm [x251], H)) (some (.norm [undefA], H))) fun vs H => hd vs fun x251_2 vs => 
  bV (pk3 (some x244) (some (.bool true)) (some x251_2)) fun x252 => 
  jn (wnt x252 false (bR (f57 D n [x62, (.int .i64 (.ofNat 9))] H) fun x255 H => 
  bV (aun .not x255) fun x256 => 
  some (.norm [x256], H)) (some (.norm [undefA], H))) fun vs H => hd vs fun x256_2 vs => 
  bV (pk3 (some x252) (some (.bool true)) (some x256_2)) fun x257 => 
  jn (wnt x257 false (bA (bldLp 3 1 2 [(.int .i64 (.ofNat 0))] [(0, (.int .i64 (.ofNat 9))), (1, (.int .i64 (.ofNat 9)))]) H fun x260 H => 
  bR (f55 D n [x62, x260] H) fun x261 H => 
  bV (bInt .neq x261 (.int .i64 (.ofNat 5))) fun x262 => 
  some (.norm [x262], H)) (some (.norm [undefA], H))) fun vs H => hd vs fun x262_2 vs => 
  bV (pk3 (some x257) (some (.bool true)) (some x262_2)) fun x263 => 
  jn (wnt x263 false (bR (f57 D n [x62, (.int .i64 (.ofNat 9))] H) fun x266 H => 
  bV (aun .not x266) fun x267 => 
  some (.norm [x267], H)) (some (.norm [undefA], H))) fun vs H => hd vs fun x267_2 vs => 
  bV (pk3 (some x263) (some (.bool true)) (some x267_2)) fun x268 => 
  jn (wnt x268 false (bA (bldLp 3 1 1 [(.int .i64 (.ofNat 0))] [(0, (.int .i64 (.ofNat 9)))]) H fun x271 H => 
  bR (f55 D n [x62, x271] H) fun x272 H => 
  bV (bInt .neq x272 (.int .i64 (.ofNat 0))) fun x273 => 
  some (.norm [x273], H)) (some (.norm [undefA], H))) fun vs H => hd vs fun x273_2 vs => 
  bV (pk3 (some x268) (some (.bool true)) (some x273_2)) fun x274 => 
  jn (wnt x274 false (bR (f57 D n [x62, (.int .i64 (.ofNat 9))] H) fun x277 H => 
  some (.norm [x277], H)) (some (.norm [undefA], H))) fun vs H => hd vs fun x277_2 vs => 
  bV (pk3 (some x274) (some (.bool true)) (some x277_2)) fun x278 => 
  jn (wnt x278 false (bR (f58 D n [x62] H) fun x281 H => 
  bV (bInt .neq x281 (.int .i64 (.ofNat 61))) fun x282 => 
  some (.norm [x282], H)) (some (.norm [undefA], H))) fun vs H => hd vs fun x282_2 vs => 
  bV (pk3 (some x278) (some (.bool true)) (some x282_2)) fun x283 => 
  jn (wnt x283 false (bR (f55 D n [x62, .nilSlice] H) fun x286 H => 
  bV (bInt .neq x286 (.int .i64 (.ofNat 0))) fun x287 => 
  some (.norm [x287], H)) (some (.norm [undefA], H))) fun vs H => hd vs fun x287_2 vs => 
  bV (pk3 (some x283) (some (.bool true)) (some x287_2)) fun x288 => 
  cnd x288 (bV (some (.bool false)) fun x0_4 => some (.ret x0_4, H))
  (bR (f48 D n [x62] H) fun x290 H => 
  bR (f17 D n [x290, (.str 1 97), (.str 1 57)] H) fun x291 H => 
  bV (bInt .neq x291 (.int .i64 (.ofNat 0))) fun x292 => 
  cnd x292 (bV (some (.bool false)) fun x0_5 => some (.ret x0_5, H))
  (bR (f53 D n [x62] H) fun x295 H => 
  bV (pExtract x295 0) fun x296 => 
  bV (pExtract x295 1) fun x297 => 
  bV (ldNp 3 x13 H) fun x300 => 
  bR (f59 D n [x62, x300] H) fun x301 H => 
  bV (pExtract x301 0) fun x302 => 
  bV (pExtract x301 1) fun x303 => 
  bV (bldSp [(0, 1), (1, 1), (2, 1)] [(.int .i64 (.ofNat 0)), (.int .i64 (.ofNat 0)), (.int .u64 (.ofNat 0))] [(0, (.int .i64 (.ofNat 1)))]) fun x306 => 
  bR (f59 D n [x62, x306] H) fun x307 H => 
  bV (pExtract x307 0) fun x308 => 
  bV (pExtract x307 1) fun x309 => 
  bV (bInt .neq x297 (.int .i64 (.ofNat 0))) fun x311 => 
  jn (wnt x311 false (bV (lnSl x296) fun x314 => 
  bV (bInt .neq x314 (.int .i64 (.ofNat 1))) fun x315 => 
  some (.norm [x315], H)) (some (.norm [undefA], H))) fun vs H => hd vs fun x315_2 vs => 
  bV (pk3 (some x311) (some (.bool true)) (some x315_2)) fun x316 => 
  jn (wnt x316 false (bV (ixSl 3 x296 (.int .i64 (.ofNat 0))) fun x319 => 
  bV (ldNp 3 x319 H) fun x320 => 
  bV (ldNp 3 x13 H) fun x321 => 
  bV (cmpO .neq (eqAp [(6, 2), (10, 1)] x320 x321)) fun x322 => 
  some (.norm [x322], H)) (some (.norm [undefA], H))) fun vs H => hd vs fun x322_2 vs => 
  bV (pk3 (some x316) (some (.bool true)) (some x322_2)) fun x323 => 
  jn (wnt x323 false (bV (bInt .neq x303 (.int .i64 (.ofNat 0))) fun x326 => 
  some (.norm [x326], H)) (some (.norm [undefA], H))) fun vs H => hd vs fun x326_2 vs => 
  bV (pk3 (some x323) (some (.bool true)) (some x326_2)) fun x327 => 
  jn (wnt x327 false (bV (bInt .neq x309 (.int .i64 (.ofNat 1))) fun x330 => 
  some (.norm [x330], H)) (some (.norm [undefA], H))) fun vs H => hd vs fun x330_2 vs => 
  bV (pk3 (some x327) (some (.bool true)) (some x330_2)) fun x331 => 
  jn (wnt x331 false (bA (bldLp 9 1 2 [(.str 0 0)] [(0, (.str 1 97)), (1, (.str 1 49))]) H fun x334 H => 
  bR (f52 D n [x334] H) fun x335 H => 
  bR (f51 D n [x302, x335] H) fun x336 H => 
  bV (aun .not x336) fun x337 => 
  some (.norm [x337], H)) (some (.norm [undefA], H))) fun vs H => hd vs fun x337_2 vs => 
  bV (pk3 (some x331) (some (.bool true)) (some x337_2)) fun x338 => 
  jn (wnt x338 false (bV (ldNp 3 x13 H) fun x342 => 
  bR (f54 D n [x62] H) fun x341 H => chk (ldNp 3 x13 H) x342 <| 
  bV (cmpO .eql (eqAp [(6, 2), (10, 1)] x341 x342)) fun x343 => 
  some (.norm [x343], H)) (some (.norm [undefA], H))) fun vs H => hd vs fun x343_2 vs => 
  bV (pk3 (some x338) (some (.bool true)) (some x343_2)) fun x344 => 
  cnd x344 (bV (some (.bool false)) fun x0_6 => some (.ret x0_6, H))
  (bV (bldSp [(0, 1), (1, 1)] [(.int .i64 (.ofNat 0)), (.str 0 0)] [(0, (.int .i64 (.ofNat 9))), (1, (.str 5 500136110195))]) fun x346 => 
  bR (f60 D n [x60, x346] H) fun x347 H => 
  bV (bInt .neq x347 (.int .i64 (.ofNat 0))) fun x348 => 
  cnd x348 (bV (some (.bool false)) fun x0_7 => some (.ret x0_7, H))
  (bR (f43 D n [x60, (.int .i64 (.ofNat 0))] H) fun x351 H => 
  bV (pExtract x351 0) fun x352 => 
  bV (pExtract x351 1) fun x353 => 
  bV (bldSp [(0, 1), (1, 1), (2, 1)] [(.int .i64 (.ofNat 0)), (.int .i64 (.ofNat 0)), (.int .u64 (.ofNat 0))] [(0, (.int .i64 (.ofNat 1)))]) fun x355 => 
  bR (f61 D n [x355] H) fun x356 H => 
  bV (pExtract x356 0) fun x357 => 
  bV (pExtract x356 1) fun x358 => 
  bV (bInt .neq x358 (.int .i64 (.ofNat 0))) fun x360 => 
  jn (wnt x360 false (bV (bldSp [(0, 1), (1, 1)] [(.int .i64 (.ofNat 0)), (.str 0 0)] [(0, (.int .i64 (.ofNat 10))), (1, x357)]) fun x364 => 
  bR (f60 D n [x60, x364] H) fun x365 H => 
  bV (bInt .neq x365 (.int .i64 (.ofNat 0))) fun x366 => 
  some (.norm [x366], H)) (some (.norm [undefA], H))) fun vs H => hd vs fun x366_2 vs => 
  bV (pk3 (some x360) (some (.bool true)) (some x366_2)) fun x367 => 
  cnd x367 (bV (some (.bool false)) fun x0_8 => some (.ret x0_8, H))
  (bR (f43 D n [x60, (.int .i64 (.ofNat 0))] H) fun x370 H => 
  bV (pExtract x370 0) fun x371 => 
  bV (pExtract x370 1) fun x372 => 
  bV (bldSp [(0, 1), (1, 1), (2, 1)] [(.int .i64 (.ofNat 0)), (.int .i64 (.ofNat 0)), (.int .u64 (.ofNat 0))] [(0, (.int .i64 (.ofNat 50))), (1, (.int .i64 (.ofNat 3)))]) fun x374 => 
  bR (f61 D n [x374] H) fun x375 H => 
  bV (pExtract x375 0) fun x376 => 
  bV (pExtract x375 1) fun x377 => 
  bV (bInt .neq x377 (.int .i64 (.ofNat 0))) fun x379 => 
  jn (wnt x379 false (bV (bldSp [(0, 1), (1, 1)] [(.int .i64 (.ofNat 0)), (.str 0 0)] [(0, (.int .i64 (.ofNat 11))), (1, x376)]) fun x383 => 
  bR (f60 D n [x60, x383] H) fun x384 H => 
  bV (bInt .neq x384 (.int .i64 (.ofNat 0))) fun x385 => 
  some (.norm [x385], H)) (some (.norm [undefA], H))) fun vs H => hd vs fun x385_2 vs => 
  bV (pk3 (some x379) (some (.bool true)) (some x385_2)) fun x386 => 
  cnd x386 (bV (some (.bool false)) fun x0_9 => some (.ret x0_9, H))
  (bR (f43 D n [x60, (.int .i64 (.ofNat 0))] H) fun x389 H => 
  bV (pExtract x389 0) fun x390 => 
  bV (pExtract x389 1) fun x391 => 
  bV (bInt .neq x353 (.int .i64 (.ofNat 4))) fun x393 => 
  jn (wnt x393 false (bV (bInt .neq x372 (.int .i64 (.ofNat 4))) fun x396 => 
  some (.norm [x396], H)) (some (.norm [undefA], H))) fun vs H => hd vs fun x396_2 vs => 
  bV (pk3 (some x393) (some (.bool true)) (some x396_2)) fun x397 => 
  jn (wnt x397 false (bV (bInt .neq x391 (.int .i64 (.ofNat 52))) fun x400 => 
  some (.norm [x400], H)) (some (.norm [undefA], H))) fun vs H => hd vs fun x400_2 vs => 
  bV (pk3 (some x397) (some (.bool true)) (some x400_2)) fun x401 => 
  jn (wnt x401 false (bR (f62 D n [x60, .nilSlice] H) fun x404 H => 
  bV (bInt .neq x404 (.int .i64 (.ofNat 0))) fun x405 => 
  some (.norm [x405], H)) (some (.norm [undefA], H))) fun vs H => hd vs fun x405_2 vs => 
  bV (pk3 (some x401) (some (.bool true)) (some x405_2)) fun x406 => 
  cnd x406 (bV (some (.bool false)) fun x0_10 => some (.ret x0_10, H))
  (bR (f43 D n [x60, (.int .i64 (.ofNat 0))] H) fun x409 H => 
  bV (pExtract x409 0) fun x410 => 
  bV (pExtract x409 1) fun x411 => 
  bR (f53 D n [x62] H) fun x414 H => 
  bV (pExtract x414 0) fun x415 => 
  bV (pExtract x414 1) fun x416 => 
  bV (bInt .eql x411 (.int .i64 (.ofNat 51))) fun x418 => 
  jn (wnt x418 true (bV (bInt .eql x416 (.int .i64 (.ofNat 51))) fun x421 => 
  some (.norm [x421], H)) (some (.norm [undefA], H))) fun vs H => hd vs fun x421_2 vs => 
  bV (pk3 (some x418) (some x421_2) (some (.bool false))) fun x422 => 
  jn (wnt x422 true (bR (f44 D n [x60] H) fun x425 H => 
  bV (bInt .eql x425 (.int .i64 (.ofNat 51))) fun x426 => 
  some (.norm [x426], H)) (some (.norm [undefA], H))) fun vs H => hd vs fun x426_2 vs => 
  bV (pk3 (some x422) (some x426_2) (some (.bool false))) fun x427 => 
  jn (wnt x427 true (bR (z63 D n [] H) fun x429 H => 
  some (.norm [x429], H)) (some (.norm [undefA], H))) fun vs H => hd vs fun x429_2 vs => 
  bV (pk3 (some x427) (some x429_2) (some (.bool false))) fun x430 => 
  jn (wnt x430 true (bR (z64 D n [] H) fun x432 H => 
  some (.norm [x432], H)) (some (.norm [undefA], H))) fun vs H => hd vs fun x432_2 vs => 
  bV (pk3 (some x430) (some x432_2) (some (.bool false))) fun x433 => 
  jn (wnt x433 true (bR (z65 D n [] H) fun x435 H => 
  some (.norm [x435], H)) (some (.norm [undefA], H))) fun vs H => hd vs fun x435_2 vs => 
  bV (pk3 (some x433) (some x435_2) (some (.bool false))) fun x436 => 
  bV (some x436) fun x0_11 => some (.ret x0_11, H))))))))))))
def h6z : Hint := (.s .o (.s (.s .o (.cl (.s .o .o) .o)) (.s .o (.s .o (.s .o (.s .o (.s .o (.s .o (.s (.s .o (.cl (.s .o .o) .o)) (.s .o (.s (.s .o (.cl (.s .o .o) .o)) (.s .o (.s .o (.s (.s .o (.cl (.s .o .o) .o)) (.s (.s .o (.cl (.s .o .o) .o)) (.s .o (.s .o (.s .o (.s (.s .o (.cl (.s .o .o) .o)) (.s (.s .o (.cl (.s .o .o) .o)) (.s .o (.s .o (.s (.s .o (.cl (.s .o .o) .o)) (.s .o (.s .o (.s (.s .o (.cl (.s .o .o) .o)) (.s .o (.s (.s .o (.cl (.s .o .o) .o)) (.s .o (.s .o (.s .o .o)))))))))))))))))))))))))))))))
theorem f6z_eq (D : Dyn) (n : Nat) : f6z D n = funKp (s6z D n) D n 6 Tryz.f6 h6z := by kernel_rfl
theorem f6z_ok {D : Dyn} (hD : DP D) (n : Nat) : FP 6 (f6z D n) := fun_okP X_ok hD (SP.cons (z40_ok hD n) (SP.cons (f41_ok hD n) (SP.cons (f42_ok hD n) (SP.cons (f43_ok hD n) (SP.cons (f44_ok hD n) (SP.cons (f46_ok hD n) (SP.cons (f45_ok hD n) (SP.cons (f47_ok hD n) (SP.cons (f48_ok hD n) (SP.cons (f17_ok hD n) (SP.cons (f49_ok hD n) (SP.cons (f50_ok hD n) (SP.cons (f52_ok hD n) (SP.cons (f51_ok hD n) (SP.cons (f53_ok hD n) (SP.cons (f54_ok hD n) (SP.cons (f55_ok hD n) (SP.cons (f56_ok hD n) (SP.cons (f57_ok hD n) (SP.cons (f58_ok hD n) (SP.cons (f59_ok hD n) (SP.cons (f60_ok hD n) (SP.cons (f61_ok hD n) (SP.cons (f62_ok hD n) (SP.cons (z63_ok hD n) (SP.cons (z64_ok hD n) (SP.cons (z65_ok hD n) (SP.nil)))))))))))))))))))))))))))) Tryz.func6 (by kernel_rfl) (by kernel_rfl) (f6z_eq D n)
end Go.Eng.Sh
