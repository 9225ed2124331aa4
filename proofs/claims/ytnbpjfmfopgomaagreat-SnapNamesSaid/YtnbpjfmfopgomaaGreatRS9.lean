/- Shallow functions, by program (gen.py). -/
import Derived.Test.YtnbpjfmfopgomaaGreatRS8
import Derived.Test.YtnbpjfmfopgomaaGreatProg
import Derived.KernelRfl
noncomputable section
namespace Go.Eng.Sh
open Go.Proofs
set_option maxRecDepth 100000
set_option linter.all false
def s4 (D : Dyn) (n : Nat) : Tb := ⟨X, [(21, f21 D n), (22, f22 D n), (23, f23 D n), (24, f24 D n), (26, f26 D n), (25, f25 D n), (27, f27 D n), (28, f28 D n), (29, f29 D n), (30, f30 D n), (31, f31 D n), (32, f32 D n), (33, f33 D n), (34, f34 D n), (35, f35 D n)]⟩
def f4l0 (D : Dyn) (n : Nat) (vs : List AV) (H : AH) : Rs :=
  hd vs fun x1 vs => hd vs fun x2 vs => hd vs fun x13 vs => 
  bV (bInt .lss x13 (.int .i64 (.ofNat 7))) fun x102 => 
  cnd x102 (bR (noPan (f26 D n [x13] H)) fun x108 H => 
  bR (noPan (f25 D n [x2, x108] H)) fun x109 H => 
  bV (pExtract x109 0) fun x110 => 
  bV (pExtract x109 1) fun x111 => 
  bA (bxV 59 (.agg [(.int .i64 (.ofNat 0)), (.str 0 0), (.int .i64 (.ofNat 0)), (.int .i64 (.ofNat 0)), (.int .i64 (.ofNat 0)), (.int .u64 (.ofNat 0))])) H fun x14 H => 
  bR (stNp 6 x14 x110 H) fun x9999_4 H => 
  bV (bInt .neq x111 (.int .i64 (.ofNat 0))) fun x113 => 
  jn (wnt x113 false (bV (fAd 0 x14) fun x115 => 
  bV (ld1p x115 H) fun x116 => 
  bV (bInt .neq x116 x13) fun x118 => 
  some (.norm [x118], H)) (some (.norm [undefA], H))) fun vs H => hd vs fun x118_2 vs => 
  bV (pk3 (some x113) (some (.bool true)) (some x118_2)) fun x119 => 
  cnd x119 (bV (some (.bool false)) fun x0_3 => some (.ret x0_3, H))
  (bV (bInt .add x13 (.int .i64 (.ofNat 1))) fun x104 => 
  some (.norm [x1, x2, x104], H)))
  (some (.exit 0 [x1, x2], H))
def f4b1 (D : Dyn) (n : Nat) (vs : List AV) (H : AH) : Rs :=
  hd vs fun x1_2 vs => hd vs fun x2_2 vs => 
  bR (noPan (f25 D n [x2_2, (.str 4 1701998445)] H)) fun x122 H => 
  bV (pExtract x122 0) fun x123 => 
  bV (pExtract x122 1) fun x124 => 
  bA (bxV 59 (.agg [(.int .i64 (.ofNat 0)), (.str 0 0), (.int .i64 (.ofNat 0)), (.int .i64 (.ofNat 0)), (.int .i64 (.ofNat 0)), (.int .u64 (.ofNat 0))])) H fun x16 H => 
  bR (stNp 6 x16 x123 H) fun x9999_5 H => 
  bR (noPan (f27 D n [x2_2, (.int .i64 (.ofNat 7))] H)) fun x127 H => 
  bV (pExtract x127 0) fun x128 => 
  bV (pExtract x127 1) fun x129 => 
  bR (noPan (f27 D n [x2_2, (.int .i64 (.negSucc 0))] H)) fun x132 H => 
  bV (pExtract x132 0) fun x133 => 
  bV (pExtract x132 1) fun x134 => 
  bR (noPan (f28 D n [x2_2, (.str 4 1701998445)] H)) fun x137 H => 
  bV (pExtract x137 0) fun x138 => 
  bV (pExtract x137 1) fun x139 => 
  bA (bxV 59 (.agg [(.int .i64 (.ofNat 0)), (.str 0 0), (.int .i64 (.ofNat 0)), (.int .i64 (.ofNat 0)), (.int .i64 (.ofNat 0)), (.int .u64 (.ofNat 0))])) H fun x22 H => 
  bR (stNp 6 x22 x138 H) fun x9999_6 H => 
  bR (noPan (f26 D n [(.int .i64 (.ofNat 3))] H)) fun x142 H => 
  bR (noPan (f28 D n [x2_2, x142] H)) fun x143 H => 
  bV (pExtract x143 0) fun x144 => 
  bV (pExtract x143 1) fun x145 => 
  bA (bxV 59 (.agg [(.int .i64 (.ofNat 0)), (.str 0 0), (.int .i64 (.ofNat 0)), (.int .i64 (.ofNat 0)), (.int .i64 (.ofNat 0)), (.int .u64 (.ofNat 0))])) H fun x24 H => 
  bR (stNp 6 x24 x144 H) fun x9999_7 H => 
  bV (bInt .neq x124 (.int .i64 (.ofNat 3))) fun x147 => 
  jn (wnt x147 false (bV (bInt .neq x129 (.int .i64 (.ofNat 5))) fun x150 => 
  some (.norm [x150], H)) (some (.norm [undefA], H))) fun vs H => hd vs fun x150_2 vs => 
  bV (pk3 (some x147) (some (.bool true)) (some x150_2)) fun x151 => 
  jn (wnt x151 false (bV (bInt .neq x134 (.int .i64 (.ofNat 5))) fun x154 => 
  some (.norm [x154], H)) (some (.norm [undefA], H))) fun vs H => hd vs fun x154_2 vs => 
  bV (pk3 (some x151) (some (.bool true)) (some x154_2)) fun x155 => 
  jn (wnt x155 false (bV (bInt .neq x139 (.int .i64 (.ofNat 5))) fun x158 => 
  some (.norm [x158], H)) (some (.norm [undefA], H))) fun vs H => hd vs fun x158_2 vs => 
  bV (pk3 (some x155) (some (.bool true)) (some x158_2)) fun x159 => 
  jn (wnt x159 false (bV (bInt .neq x145 (.int .i64 (.ofNat 0))) fun x162 => 
  some (.norm [x162], H)) (some (.norm [undefA], H))) fun vs H => hd vs fun x162_2 vs => 
  bV (pk3 (some x159) (some (.bool true)) (some x162_2)) fun x163 => 
  jn (wnt x163 false (bV (fAd 0 x24) fun x165 => 
  bV (ld1p x165 H) fun x166 => 
  bV (bInt .neq x166 (.int .i64 (.ofNat 3))) fun x167 => 
  some (.norm [x167], H)) (some (.norm [undefA], H))) fun vs H => hd vs fun x167_2 vs => 
  bV (pk3 (some x163) (some (.bool true)) (some x167_2)) fun x168 => 
  jn (wnt x168 false (bR (noPan (f29 D n [x2_2] H)) fun x171 H => 
  bV (lnSl x171) fun x172 => 
  bV (bInt .neq x172 (.int .i64 (.ofNat 6))) fun x173 => 
  some (.norm [x173], H)) (some (.norm [undefA], H))) fun vs H => hd vs fun x173_2 vs => 
  bV (pk3 (some x168) (some (.bool true)) (some x173_2)) fun x174 => 
  jn (wnt x174 false (bR (noPan (f30 D n [x2_2, (.str 4 1701998445)] H)) fun x177 H => 
  bV (bInt .neq x177 (.int .i64 (.ofNat 5))) fun x178 => 
  some (.norm [x178], H)) (some (.norm [undefA], H))) fun vs H => hd vs fun x178_2 vs => 
  bV (pk3 (some x174) (some (.bool true)) (some x178_2)) fun x179 => 
  jn (wnt x179 false (bR (noPan (f26 D n [(.int .i64 (.ofNat 3))] H)) fun x182 H => 
  bR (noPan (f30 D n [x2_2, x182] H)) fun x183 H => 
  bV (bInt .neq x183 (.int .i64 (.ofNat 0))) fun x184 => 
  some (.norm [x184], H)) (some (.norm [undefA], H))) fun vs H => hd vs fun x184_2 vs => 
  bV (pk3 (some x179) (some (.bool true)) (some x184_2)) fun x185 => 
  jn (wnt x185 false (bR (noPan (f26 D n [(.int .i64 (.ofNat 3))] H)) fun x188 H => 
  bR (noPan (f30 D n [x2_2, x188] H)) fun x189 H => 
  bV (bInt .neq x189 (.int .i64 (.ofNat 5))) fun x190 => 
  some (.norm [x190], H)) (some (.norm [undefA], H))) fun vs H => hd vs fun x190_2 vs => 
  bV (pk3 (some x185) (some (.bool true)) (some x190_2)) fun x191 => 
  cnd x191 (bV (some (.bool false)) fun x0_4 => some (.ret x0_4, H))
  (bR (noPan (f25 D n [x2_2, (.str 5 474148660595)] H)) fun x194 H => 
  bV (pExtract x194 0) fun x195 => 
  bV (pExtract x194 1) fun x196 => 
  bA (bxV 59 (.agg [(.int .i64 (.ofNat 0)), (.str 0 0), (.int .i64 (.ofNat 0)), (.int .i64 (.ofNat 0)), (.int .i64 (.ofNat 0)), (.int .u64 (.ofNat 0))])) H fun x26 H => 
  bR (stNp 6 x26 x195 H) fun x9999_8 H => 
  bV (bInt .neq x196 (.int .i64 (.ofNat 0))) fun x198 => 
  jn (wnt x198 false (bV (fAd 0 x26) fun x200 => 
  bV (ld1p x200 H) fun x201 => 
  bV (bInt .neq x201 (.int .i64 (.ofNat 7))) fun x202 => 
  some (.norm [x202], H)) (some (.norm [undefA], H))) fun vs H => hd vs fun x202_2 vs => 
  bV (pk3 (some x198) (some (.bool true)) (some x202_2)) fun x203 => 
  jn (wnt x203 false (bR (noPan (f29 D n [x2_2] H)) fun x206 H => 
  bV (lnSl x206) fun x207 => 
  bV (bInt .neq x207 (.int .i64 (.ofNat 6))) fun x208 => 
  some (.norm [x208], H)) (some (.norm [undefA], H))) fun vs H => hd vs fun x208_2 vs => 
  bV (pk3 (some x203) (some (.bool true)) (some x208_2)) fun x209 => 
  jn (wnt x209 false (bR (noPan (f29 D n [x2_2] H)) fun x212 H => 
  bV (ixSl 6 x212 (.int .i64 (.ofNat 5))) fun x213 => 
  bV (fAd 0 x213) fun x214 => 
  bV (ld1p x214 H) fun x215 => 
  bV (bInt .neq x215 (.int .i64 (.ofNat 7))) fun x216 => 
  some (.norm [x216], H)) (some (.norm [undefA], H))) fun vs H => hd vs fun x216_2 vs => 
  bV (pk3 (some x209) (some (.bool true)) (some x216_2)) fun x217 => 
  jn (wnt x217 false (bR (noPan (f31 D n [x2_2] H)) fun x220 H => 
  bV (bInt .neq x220 (.int .i64 (.ofNat 0))) fun x221 => 
  some (.norm [x221], H)) (some (.norm [undefA], H))) fun vs H => hd vs fun x221_2 vs => 
  bV (pk3 (some x217) (some (.bool true)) (some x221_2)) fun x222 => 
  cnd x222 (bV (some (.bool false)) fun x0_5 => some (.ret x0_5, H))
  (bR (noPan (f23 D n [x1_2] H)) fun x224 H => 
  bV (cmpO .eql (eqP x224 .nilPtr)) fun x226 => 
  jn (wnt x226 false (bR (noPan (f29 D n [x224] H)) fun x229 H => 
  bV (lnSl x229) fun x230 => 
  bV (bInt .neq x230 (.int .i64 (.ofNat 6))) fun x231 => 
  some (.norm [x231], H)) (some (.norm [undefA], H))) fun vs H => hd vs fun x231_2 vs => 
  bV (pk3 (some x226) (some (.bool true)) (some x231_2)) fun x232 => 
  jn (wnt x232 false (bV (ldNp 6 x26 H) fun x238 => 
  bR (noPan (f29 D n [x224] H)) fun x235 H => chk (ldNp 6 x26 H) x238 <| 
  bV (ixSl 6 x235 (.int .i64 (.ofNat 5))) fun x236 => 
  bV (ldNp 6 x236 H) fun x237 => 
  bV (cmpO .neq (eqAp [(6, 1), (2, 1), (6, 3), (10, 1)] x237 x238)) fun x239 => 
  some (.norm [x239], H)) (some (.norm [undefA], H))) fun vs H => hd vs fun x239_2 vs => 
  bV (pk3 (some x232) (some (.bool true)) (some x239_2)) fun x240 => 
  jn (wnt x240 false (bR (noPan (f29 D n [x224] H)) fun x243 H => 
  bV (ixSl 6 x243 (.int .i64 (.ofNat 2))) fun x244 => 
  bV (fAd 0 x244) fun x245 => 
  bV (ld1p x245 H) fun x246 => 
  bV (bInt .neq x246 (.int .i64 (.ofNat 4))) fun x247 => 
  some (.norm [x247], H)) (some (.norm [undefA], H))) fun vs H => hd vs fun x247_2 vs => 
  bV (pk3 (some x240) (some (.bool true)) (some x247_2)) fun x248 => 
  cnd x248 (bV (some (.bool false)) fun x0_6 => some (.ret x0_6, H))
  (bR (noPan (f25 D n [x224, (.str 1 122)] H)) fun x251 H => 
  bV (pExtract x251 0) fun x252 => 
  bV (pExtract x251 1) fun x253 => 
  bA (bxV 59 (.agg [(.int .i64 (.ofNat 0)), (.str 0 0), (.int .i64 (.ofNat 0)), (.int .i64 (.ofNat 0)), (.int .i64 (.ofNat 0)), (.int .u64 (.ofNat 0))])) H fun x29 H => 
  bR (stNp 6 x29 x252 H) fun x9999_9 H => 
  bV (bInt .eql x253 (.int .i64 (.ofNat 3))) fun x255 => 
  jn (wnt x255 true (bV (ldNp 6 x29 H) fun x257 => 
  bV (bldSp [(0, 1), (1, 1), (2, 1), (3, 3)] [(.int .i64 (.ofNat 0)), (.str 0 0), (.int .i64 (.ofNat 0)), (.int .i64 (.ofNat 0)), (.int .i64 (.ofNat 0)), (.int .u64 (.ofNat 0))] []) fun x258 => 
  bV (cmpO .eql (eqAp [(6, 1), (2, 1), (6, 3), (10, 1)] x257 x258)) fun x259 => 
  some (.norm [x259], H)) (some (.norm [undefA], H))) fun vs H => hd vs fun x259_2 vs => 
  bV (pk3 (some x255) (some x259_2) (some (.bool false))) fun x260 => 
  jn (wnt x260 true (bR (noPan (f32 D n [] H)) fun x262 H => 
  some (.norm [x262], H)) (some (.norm [undefA], H))) fun vs H => hd vs fun x262_2 vs => 
  bV (pk3 (some x260) (some x262_2) (some (.bool false))) fun x263 => 
  jn (wnt x263 true (bR (noPan (f33 D n [] H)) fun x265 H => 
  some (.norm [x265], H)) (some (.norm [undefA], H))) fun vs H => hd vs fun x265_2 vs => 
  bV (pk3 (some x263) (some x265_2) (some (.bool false))) fun x266 => 
  jn (wnt x266 true (bR (noPan (f34 D n [] H)) fun x268 H => 
  some (.norm [x268], H)) (some (.norm [undefA], H))) fun vs H => hd vs fun x268_2 vs => 
  bV (pk3 (some x266) (some x268_2) (some (.bool false))) fun x269 => 
  jn (wnt x269 true (bR (noPan (f35 D n [] H)) fun x271 H => 
  some (.norm [x271], H)) (some (.norm [undefA], H))) fun vs H => hd vs fun x271_2 vs => 
  bV (pk3 (some x269) (some x271_2) (some (.bool false))) fun x272 => 
  bV (some x272) fun x0_7 => some (.ret x0_7, H))))
/-- jetty/jettylaw17.SnapNames -/
def f4 (D : Dyn) (n : Nat) (vs : List AV) (H : AH) : Option (AV × AH) :=
  outR (nl vs <|
  bR (noPan (f21 D n [] H)) fun x31 H => 
  bV (aun .not x31) fun x32 => 
  bV (pk3 (some x32) (some (.bool true)) (some (.bool false))) fun x34 => 
  bV (pk3 (some x34) (some (.bool true)) (some (.bool false))) fun x36 => 
  bV (pk3 (some x36) (some (.bool true)) (some (.bool false))) fun x38 => 
  bV (pk3 (some x38) (some (.bool true)) (some (.bool false))) fun x40 => 
  bV (pk3 (some x40) (some (.bool true)) (some (.bool false))) fun x42 => 
  bV (pk3 (some x42) (some (.bool true)) (some (.bool false))) fun x44 => 
  bV (pk3 (some x44) (some (.bool true)) (some (.bool false))) fun x46 => 
  bV (pk3 (some x46) (some (.bool true)) (some (.bool false))) fun x48 => 
  cnd x48 (bV (some (.bool false)) fun x0 => some (.ret x0, H))
  (bR (noPan (f22 D n [(.int .i64 (.ofNat 64))] H)) fun x49 H => 
  bR (noPan (f23 D n [x49] H)) fun x51 H => 
  bR (noPan (f24 D n [.nilPtr, (.int .i64 (.ofNat 0))] H)) fun x53 H => 
  bV (pExtract x53 0) fun x54 => 
  bV (pExtract x53 1) fun x55 => 
  bR (noPan (f24 D n [x49, (.int .i64 (.negSucc 0))] H)) fun x58 H => 
  bV (pExtract x58 0) fun x59 => 
  bV (pExtract x58 1) fun x60 => 
  bR (noPan (f26 D n [(.int .i64 (.ofNat 33))] H)) fun x63 H => 
  bR (noPan (f25 D n [x51, x63] H)) fun x64 H => 
  bV (pExtract x64 0) fun x65 => 
  bV (pExtract x64 1) fun x66 => 
  bA (bxV 59 (.agg [(.int .i64 (.ofNat 0)), (.str 0 0), (.int .i64 (.ofNat 0)), (.int .i64 (.ofNat 0)), (.int .i64 (.ofNat 0)), (.int .u64 (.ofNat 0))])) H fun x7 H => 
  bR (stNp 6 x7 x65 H) fun x9999 H => 
  bR (noPan (f26 D n [(.int .i64 (.ofNat 32))] H)) fun x69 H => 
  bR (noPan (f25 D n [x51, x69] H)) fun x70 H => 
  bV (pExtract x70 0) fun x71 => 
  bV (pExtract x70 1) fun x72 => 
  bA (bxV 59 (.agg [(.int .i64 (.ofNat 0)), (.str 0 0), (.int .i64 (.ofNat 0)), (.int .i64 (.ofNat 0)), (.int .i64 (.ofNat 0)), (.int .u64 (.ofNat 0))])) H fun x9 H => 
  bR (stNp 6 x9 x71 H) fun x9999_2 H => 
  bR (noPan (f26 D n [(.int .i64 (.ofNat 32))] H)) fun x75 H => 
  bR (noPan (f25 D n [x51, x75] H)) fun x76 H => 
  bV (pExtract x76 0) fun x77 => 
  bV (pExtract x76 1) fun x78 => 
  bA (bxV 59 (.agg [(.int .i64 (.ofNat 0)), (.str 0 0), (.int .i64 (.ofNat 0)), (.int .i64 (.ofNat 0)), (.int .i64 (.ofNat 0)), (.int .u64 (.ofNat 0))])) H fun x11 H => 
  bR (stNp 6 x11 x77 H) fun x9999_3 H => 
  bV (cmpO .eql (eqP x51 .nilPtr)) fun x80 => 
  jn (wnt x80 false (bV (bInt .neq x55 (.int .i64 (.ofNat 2))) fun x83 => 
  some (.norm [x83], H)) (some (.norm [undefA], H))) fun vs H => hd vs fun x83_2 vs => 
  bV (pk3 (some x80) (some (.bool true)) (some x83_2)) fun x84 => 
  jn (wnt x84 false (bV (bInt .neq x60 (.int .i64 (.ofNat 1))) fun x87 => 
  some (.norm [x87], H)) (some (.norm [undefA], H))) fun vs H => hd vs fun x87_2 vs => 
  bV (pk3 (some x84) (some (.bool true)) (some x87_2)) fun x88 => 
  jn (wnt x88 false (bV (bInt .neq x66 (.int .i64 (.ofNat 1))) fun x91 => 
  some (.norm [x91], H)) (some (.norm [undefA], H))) fun vs H => hd vs fun x91_2 vs => 
  bV (pk3 (some x88) (some (.bool true)) (some x91_2)) fun x92 => 
  jn (wnt x92 false (bV (bInt .neq x72 (.int .i64 (.ofNat 0))) fun x95 => 
  some (.norm [x95], H)) (some (.norm [undefA], H))) fun vs H => hd vs fun x95_2 vs => 
  bV (pk3 (some x92) (some (.bool true)) (some x95_2)) fun x96 => 
  jn (wnt x96 false (bV (bInt .neq x78 (.int .i64 (.ofNat 6))) fun x99 => 
  some (.norm [x99], H)) (some (.norm [undefA], H))) fun vs H => hd vs fun x99_2 vs => 
  bV (pk3 (some x96) (some (.bool true)) (some x99_2)) fun x100 => 
  cnd x100 (bV (some (.bool false)) fun x0_2 => some (.ret x0_2, H))
  (jb 0 (loopK n (f4l0 D n) [x49, x51, (.int .i64 (.ofNat 2))] H) (f4b1 D n))))
def h4 : Hint := (.s .o (.s (.s .o (.cl (.s .o .o) .o)) (.s .o (.s .o (.s .o (.s .o (.s .o (.s .o (.s .o (.s (.s .o (.cl (.s .o .o) .o)) (.s (.s .o (.b [1, 2] (.l [1, 2, 13] (.s (.s .o (.cr .o .o)) (.s (.b0 (.s .o (.s .o (.cl (.s .o .o) .o)))) .o))))) (.s .o (.s .o (.s .o (.s .o (.s .o (.s (.s .o (.cl (.s .o .o) .o)) (.s .o (.s (.s .o (.cl (.s .o .o) .o)) (.s .o (.s (.s .o (.cl (.s .o .o) .o)) (.s .o (.s .o .o)))))))))))))))))))))))
theorem f4_eq (D : Dyn) (n : Nat) : f4 D n = funKp (s4 D n) D n 4 Tryz.f4 h4 := by kernel_rfl
theorem f4_ok {D : Dyn} (hD : DP D) (n : Nat) : FP 4 (f4 D n) := fun_okP X_ok hD (SP.cons (f21_ok hD n) (SP.cons (f22_ok hD n) (SP.cons (f23_ok hD n) (SP.cons (f24_ok hD n) (SP.cons (f26_ok hD n) (SP.cons (f25_ok hD n) (SP.cons (f27_ok hD n) (SP.cons (f28_ok hD n) (SP.cons (f29_ok hD n) (SP.cons (f30_ok hD n) (SP.cons (f31_ok hD n) (SP.cons (f32_ok hD n) (SP.cons (f33_ok hD n) (SP.cons (f34_ok hD n) (SP.cons (f35_ok hD n) (SP.nil)))))))))))))))) Tryz.func4 (by kernel_rfl) (by kernel_rfl) (f4_eq D n)
end Go.Eng.Sh
