/- Shallow functions, by program (gen.py). -/
import Derived.Test.YtdbpihiihgkkdaaGreatQ34
import Derived.Test.YtdbpihiihgkkdaaGreatProg
import Derived.KernelRfl
noncomputable section
namespace Go.Eng.Sh
open Go.Proofs
set_option maxRecDepth 100000
set_option linter.all false
def s3 (D : Dyn) (n : Nat) : Tb := ⟨X, [(8, f8 D n), (9, f9 D n), (10, f10 D n), (11, f11 D n), (12, f12 D n), (13, f13 D n), (14, f14 D n), (15, f15 D n), (16, f16 D n), (17, f17 D n), (18, f18 D n)]⟩
def f3l0 (D : Dyn) (n : Nat) (vs : List AV) (H : AH) : Rs :=
  hd vs fun x1 vs => hd vs fun x189_2 vs => hd vs fun x190_2 vs => hd vs fun x191 vs => 
  bV (bInt .lss x191 x190_2) fun x192 => 
  cnd x192 (bV (ixSl 2 x189_2 x191) fun x193 => 
  bV (ldN 2 x193 H) fun x194 => 
  bA (bxV 36 (.agg [(.str 0 0), (.str 0 0)])) H fun x19 H => 
  bR (stN 2 x19 x194 H) fun x9999_3 H => 
  bR (f9 D n [] H) fun x195 H => 
  bV (cmpO .eql (eqP x195 .nilPtr)) fun x197 => 
  jn (wnt x197 false (bV (fAd 0 x19) fun x200 => 
  bV (ld1 x200 H) fun x201 => 
  bV (fAd 1 x19) fun x202 => 
  bV (ld1 x202 H) fun x203 => 
  bR (f17 D n [x195, x201, x203] H) fun x204 H => 
  bV (bInt .neq x204 (.int .i64 (.ofNat 0))) fun x205 => 
  some (.norm [x205], H)) (some (.norm [undefA], H))) fun vs H => hd vs fun x205_2 vs => 
  bV (pk3 (some x197) (some (.bool true)) (some x205_2)) fun x206 => 
  cnd x206 (bV (some (.bool false)) fun x0_6 => some (.ret x0_6, H))
  (bR (f10 D n [x195, (.int .i64 (.ofNat 2))] H) fun x209 H => 
  bV (pExtract x209 0) fun x210 => 
  bV (pExtract x209 1) fun x211 => 
  bR (f11 D n [x195, (.int .i64 (.ofNat 2)), (.int .i64 (.negSucc 0)), (.int .u64 (.ofNat 0))] H) fun x214 H => 
  bV (pExtract x214 0) fun x215 => 
  bV (pExtract x214 1) fun x216 => 
  bV (bInt .neq x211 (.int .i64 (.ofNat 4))) fun x218 => 
  jn (wnt x218 false (bV (bInt .neq x216 (.int .i64 (.ofNat 4))) fun x221 => 
  some (.norm [x221], H)) (some (.norm [undefA], H))) fun vs H => hd vs fun x221_2 vs => 
  bV (pk3 (some x218) (some (.bool true)) (some x221_2)) fun x222 => 
  jn (wnt x222 false (bR (f12 D n [x195, (.int .i64 (.ofNat 2)), (.int .i64 (.negSucc 0)), (.int .u64 (.ofNat 0)), (.str 0 0)] H) fun x225 H => 
  bV (bInt .neq x225 (.int .i64 (.ofNat 4))) fun x226 => 
  some (.norm [x226], H)) (some (.norm [undefA], H))) fun vs H => hd vs fun x226_2 vs => 
  bV (pk3 (some x222) (some (.bool true)) (some x226_2)) fun x227 => 
  jn (wnt x227 false (bR (f16 D n [x195, (.int .i64 (.ofNat 1)), .nilSlice] H) fun x230 H => 
  bV (aun .not x230) fun x231 => 
  some (.norm [x231], H)) (some (.norm [undefA], H))) fun vs H => hd vs fun x231_2 vs => 
  bV (pk3 (some x227) (some (.bool true)) (some x231_2)) fun x232 => 
  jn (wnt x232 false (bR (f16 D n [x195, (.int .i64 (.ofNat 3)), .nilSlice] H) fun x235 H => 
  bV (aun .not x235) fun x236 => 
  some (.norm [x236], H)) (some (.norm [undefA], H))) fun vs H => hd vs fun x236_2 vs => 
  bV (pk3 (some x232) (some (.bool true)) (some x236_2)) fun x237 => 
  cnd x237 (bV (some (.bool false)) fun x0_7 => some (.ret x0_7, H))
  (bV (bInt .add x191 (.int .i64 (.ofNat 1))) fun x238 => 
  some (.norm [x1, x189_2, x190_2, x238], H))))
  (some (.exit 0 [x1], H))
def f3b1 (D : Dyn) (n : Nat) (vs : List AV) (H : AH) : Rs :=
  hd vs fun x1_2 vs => 
  bR (f13 D n [(.int .i64 (.ofNat 12))] H) fun x240 H => 
  bR (f17 D n [x1_2, (.str 6 280375456630130), x240] H) fun x241 H => 
  bV (bInt .neq x241 (.int .i64 (.ofNat 0))) fun x242 => 
  jn (wnt x242 false (bR (f12 D n [x1_2, (.int .i64 (.ofNat 5)), (.int .i64 (.ofNat 9)), (.int .u64 (.ofNat 9)), (.str 0 0)] H) fun x245 H => 
  bV (bInt .neq x245 (.int .i64 (.ofNat 0))) fun x246 => 
  some (.norm [x246], H)) (some (.norm [undefA], H))) fun vs H => hd vs fun x246_2 vs => 
  bV (pk3 (some x242) (some (.bool true)) (some x246_2)) fun x247 => 
  jn (wnt x247 false (bR (f12 D n [x1_2, (.int .i64 (.ofNat 5)), (.int .i64 (.ofNat 9)), (.int .u64 (.ofNat 9)), (.str 0 0)] H) fun x250 H => 
  bV (bInt .neq x250 (.int .i64 (.ofNat 3))) fun x251 => 
  some (.norm [x251], H)) (some (.norm [undefA], H))) fun vs H => hd vs fun x251_2 vs => 
  bV (pk3 (some x247) (some (.bool true)) (some x251_2)) fun x252 => 
  jn (wnt x252 false (bA (bldL 3 1 2 [(.int .i64 (.ofNat 0))] [(0, (.int .i64 (.ofNat 0))), (1, (.int .i64 (.ofNat 9)))]) H fun x255 H => 
  bR (f16 D n [x1_2, (.int .i64 (.ofNat 5)), x255] H) fun x256 H => 
  bV (aun .not x256) fun x257 => 
  some (.norm [x257], H)) (some (.norm [undefA], H))) fun vs H => hd vs fun x257_2 vs => 
  bV (pk3 (some x252) (some (.bool true)) (some x257_2)) fun x258 => 
  cnd x258 (bV (some (.bool false)) fun x0_8 => some (.ret x0_8, H))
  (bR (f18 D n [(.int .i64 (.ofNat 1)), (.str 1 97)] H) fun x259 H => 
  bR (f18 D n [(.int .i64 (.ofNat 2)), (.str 1 97)] H) fun x260 H => 
  bV (bInt .neq x259 x260) fun x261 => 
  jn (wnt x261 true (bR (f18 D n [(.int .i64 (.ofNat 1)), (.str 1 97)] H) fun x263 H => 
  bR (f18 D n [(.int .i64 (.ofNat 1)), (.str 1 98)] H) fun x264 H => 
  bV (bInt .neq x263 x264) fun x265 => 
  some (.norm [x265], H)) (some (.norm [undefA], H))) fun vs H => hd vs fun x265_2 vs => 
  bV (pk3 (some x261) (some x265_2) (some (.bool false))) fun x266 => 
  jn (wnt x266 true (bR (f18 D n [(.int .i64 (.ofNat 1)), (.str 0 0)] H) fun x268 H => 
  bR (f18 D n [(.int .i64 (.ofNat 4294967297)), (.str 0 0)] H) fun x269 H => 
  bV (bInt .eql x268 x269) fun x270 => 
  some (.norm [x270], H)) (some (.norm [undefA], H))) fun vs H => hd vs fun x270_2 vs => 
  bV (pk3 (some x266) (some x270_2) (some (.bool false))) fun x271 => 
  bV (some x271) fun x0_9 => some (.ret x0_9, H))
/-- jetty/jettylaw27.DrcNames -/
def f3 (D : Dyn) (n : Nat) (vs : List AV) (H : AH) : Option (AV × AH) :=
  outR (nl vs <|
  bR (f8 D n [] H) fun x25 H => 
  bV (aun .not x25) fun x26 => 
  bV (pk3 (some x26) (some (.bool true)) (some (.bool false))) fun x28 => 
  bV (pk3 (some x28) (some (.bool true)) (some (.bool false))) fun x30 => 
  bV (pk3 (some x30) (some (.bool true)) (some (.bool false))) fun x32 => 
  bV (pk3 (some x32) (some (.bool true)) (some (.bool false))) fun x34 => 
  bV (pk3 (some x34) (some (.bool true)) (some (.bool false))) fun x36 => 
  bV (pk3 (some x36) (some (.bool true)) (some (.bool false))) fun x38 => 
  bV (pk3 (some x38) (some (.bool true)) (some (.bool false))) fun x40 => 
  bV (pk3 (some x40) (some (.bool true)) (some (.bool false))) fun x42 => 
  bV (pk3 (some x42) (some (.bool true)) (some (.bool false))) fun x44 => 
  cnd x44 (bV (some (.bool false)) fun x0 => some (.ret x0, H))
  (bR (f9 D n [] H) fun x45 H => 
  bR (f10 D n [.nilPtr, (.int .i64 (.ofNat 0))] H) fun x47 H => 
  bV (pExtract x47 0) fun x48 => 
  bV (pExtract x47 1) fun x49 => 
  bR (f10 D n [x45, (.int .i64 (.ofNat 0))] H) fun x52 H => 
  bV (pExtract x52 0) fun x53 => 
  bV (pExtract x52 1) fun x54 => 
  bR (f10 D n [x45, (.int .i64 (.ofNat 17))] H) fun x57 H => 
  bV (pExtract x57 0) fun x58 => 
  bV (pExtract x57 1) fun x59 => 
  bR (f11 D n [x45, (.int .i64 (.ofNat 1)), (.int .i64 (.negSucc 0)), (.int .u64 (.ofNat 0))] H) fun x62 H => 
  bV (pExtract x62 0) fun x63 => 
  bV (pExtract x62 1) fun x64 => 
  bR (f11 D n [x45, (.int .i64 (.ofNat 1)), (.int .i64 (.ofNat 4294967296)), (.int .u64 (.ofNat 0))] H) fun x67 H => 
  bV (pExtract x67 0) fun x68 => 
  bV (pExtract x67 1) fun x69 => 
  bR (f11 D n [x45, (.int .i64 (.ofNat 17)), (.int .i64 (.negSucc 0)), (.int .u64 (.ofNat 0))] H) fun x72 H => 
  bV (pExtract x72 0) fun x73 => 
  bV (pExtract x72 1) fun x74 => 
  bV (cmpO .eql (eqP x45 .nilPtr)) fun x76 => 
  jn (wnt x76 false (bV (bInt .neq x49 (.int .i64 (.ofNat 2))) fun x79 => 
  some (.norm [x79], H)) (some (.norm [undefA], H))) fun vs H => hd vs fun x79_2 vs => 
  bV (pk3 (some x76) (some (.bool true)) (some x79_2)) fun x80 => 
  jn (wnt x80 false (bV (bInt .neq x54 (.int .i64 (.ofNat 1))) fun x83 => 
  some (.norm [x83], H)) (some (.norm [undefA], H))) fun vs H => hd vs fun x83_2 vs => 
  bV (pk3 (some x80) (some (.bool true)) (some x83_2)) fun x84 => 
  jn (wnt x84 false (bV (bInt .neq x59 (.int .i64 (.ofNat 1))) fun x87 => 
  some (.norm [x87], H)) (some (.norm [undefA], H))) fun vs H => hd vs fun x87_2 vs => 
  bV (pk3 (some x84) (some (.bool true)) (some x87_2)) fun x88 => 
  jn (wnt x88 false (bV (bInt .neq x64 (.int .i64 (.ofNat 1))) fun x91 => 
  some (.norm [x91], H)) (some (.norm [undefA], H))) fun vs H => hd vs fun x91_2 vs => 
  bV (pk3 (some x88) (some (.bool true)) (some x91_2)) fun x92 => 
  jn (wnt x92 false (bV (bInt .neq x69 (.int .i64 (.ofNat 1))) fun x95 => 
  some (.norm [x95], H)) (some (.norm [undefA], H))) fun vs H => hd vs fun x95_2 vs => 
  bV (pk3 (some x92) (some (.bool true)) (some x95_2)) fun x96 => 
  jn (wnt x96 false (bV (bInt .neq x74 (.int .i64 (.ofNat 1))) fun x99 => 
  some (.norm [x99], H)) (some (.norm [undefA], H))) fun vs H => hd vs fun x99_2 vs => 
  bV (pk3 (some x96) (some (.bool true)) (some x99_2)) fun x100 => 
  jn (wnt x100 false (bR (f12 D n [.nilPtr, (.int .i64 (.ofNat 1)), (.int .i64 (.ofNat 1)), (.int .u64 (.ofNat 1)), (.str 0 0)] H) fun x102 H => 
  bV (bInt .neq x102 (.int .i64 (.ofNat 2))) fun x103 => 
  some (.norm [x103], H)) (some (.norm [undefA], H))) fun vs H => hd vs fun x103_2 vs => 
  bV (pk3 (some x100) (some (.bool true)) (some x103_2)) fun x104 => 
  jn (wnt x104 false (bR (f12 D n [x45, (.int .i64 (.ofNat 0)), (.int .i64 (.ofNat 1)), (.int .u64 (.ofNat 1)), (.str 0 0)] H) fun x107 H => 
  bV (bInt .neq x107 (.int .i64 (.ofNat 1))) fun x108 => 
  some (.norm [x108], H)) (some (.norm [undefA], H))) fun vs H => hd vs fun x108_2 vs => 
  bV (pk3 (some x104) (some (.bool true)) (some x108_2)) fun x109 => 
  jn (wnt x109 false (bR (f13 D n [(.int .i64 (.ofNat 189))] H) fun x112 H => 
  bR (f12 D n [x45, (.int .i64 (.ofNat 16)), (.int .i64 (.ofNat 4294967296)), (.int .u64 (.ofNat 1)), x112] H) fun x113 H => 
  bV (bInt .neq x113 (.int .i64 (.ofNat 1))) fun x114 => 
  some (.norm [x114], H)) (some (.norm [undefA], H))) fun vs H => hd vs fun x114_2 vs => 
  bV (pk3 (some x109) (some (.bool true)) (some x114_2)) fun x115 => 
  jn (wnt x115 false (bR (f13 D n [(.int .i64 (.ofNat 189))] H) fun x118 H => 
  bR (f12 D n [x45, (.int .i64 (.ofNat 16)), (.int .i64 (.ofNat 4294967295)), (.int .u64 (.ofNat 18446744073709551615)), x118] H) fun x119 H => 
  bV (bInt .neq x119 (.int .i64 (.ofNat 40))) fun x120 => 
  some (.norm [x120], H)) (some (.norm [undefA], H))) fun vs H => hd vs fun x120_2 vs => 
  bV (pk3 (some x115) (some (.bool true)) (some x120_2)) fun x121 => 
  jn (wnt x121 false (bR (f13 D n [(.int .i64 (.ofNat 188))] H) fun x124 H => 
  bR (f12 D n [x45, (.int .i64 (.ofNat 16)), (.int .i64 (.ofNat 4294967295)), (.int .u64 (.ofNat 18446744073709551615)), x124] H) fun x125 H => 
  bV (bInt .neq x125 (.int .i64 (.ofNat 0))) fun x126 => 
  some (.norm [x126], H)) (some (.norm [undefA], H))) fun vs H => hd vs fun x126_2 vs => 
  bV (pk3 (some x121) (some (.bool true)) (some x126_2)) fun x127 => 
  jn (wnt x127 false (bR (f13 D n [(.int .i64 (.ofNat 188))] H) fun x130 H => 
  bR (f14 D n [x45, (.int .i64 (.ofNat 16)), (.int .i64 (.ofNat 4294967295)), (.int .u64 (.ofNat 18446744073709551615)), x130] H) fun x131 H => 
  bV (aun .not x131) fun x132 => 
  some (.norm [x132], H)) (some (.norm [undefA], H))) fun vs H => hd vs fun x132_2 vs => 
  bV (pk3 (some x127) (some (.bool true)) (some x132_2)) fun x133 => 
  cnd x133 (bV (some (.bool false)) fun x0_2 => some (.ret x0_2, H))
  (bR (f15 D n [x45, (.str 0 0)] H) fun x136 H => 
  bV (pExtract x136 0) fun x137 => 
  bV (pExtract x136 1) fun x138 => 
  bA (bxV 36 (.agg [(.str 0 0), (.str 0 0)])) H fun x14 H => 
  bR (stN 2 x14 x137 H) fun x9999 H => 
  bV (bInt .neq x138 (.int .i64 (.ofNat 0))) fun x140 => 
  jn (wnt x140 false (bV (fAd 0 x14) fun x142 => 
  bV (ld1 x142 H) fun x143 => 
  bV (bStr .neq x143 (.str 6 1099511631986)) fun x144 => 
  some (.norm [x144], H)) (some (.norm [undefA], H))) fun vs H => hd vs fun x144_2 vs => 
  bV (pk3 (some x140) (some (.bool true)) (some x144_2)) fun x145 => 
  jn (wnt x145 false (bV (fAd 1 x14) fun x147 => 
  bV (ld1 x147 H) fun x148 => 
  bR (f13 D n [(.int .i64 (.ofNat 188))] H) fun x149 H => chk (ld1 x147 H) x148 <| 
  bV (bStr .add (.str 12 79228162514264337593543950335) x149) fun x150 => 
  bV (bStr .neq x148 x150) fun x151 => 
  some (.norm [x151], H)) (some (.norm [undefA], H))) fun vs H => hd vs fun x151_2 vs => 
  bV (pk3 (some x145) (some (.bool true)) (some x151_2)) fun x152 => 
  cnd x152 (bV (some (.bool false)) fun x0_3 => some (.ret x0_3, H))
  (bR (f12 D n [x45, (.int .i64 (.ofNat 16)), (.int .i64 (.ofNat 4294967295)), (.int .u64 (.ofNat 1)), (.str 1 97)] H) fun x154 H => 
  bV (bInt .neq x154 (.int .i64 (.ofNat 0))) fun x155 => 
  jn (wnt x155 false (bR (f12 D n [x45, (.int .i64 (.ofNat 16)), (.int .i64 (.ofNat 0)), (.int .u64 (.ofNat 1)), (.str 1 98)] H) fun x158 H => 
  bV (bInt .neq x158 (.int .i64 (.ofNat 0))) fun x159 => 
  some (.norm [x159], H)) (some (.norm [undefA], H))) fun vs H => hd vs fun x159_2 vs => 
  bV (pk3 (some x155) (some (.bool true)) (some x159_2)) fun x160 => 
  jn (wnt x160 false (bA (bldL 3 1 2 [(.int .i64 (.ofNat 0))] [(0, (.int .i64 (.ofNat 4294967295))), (1, (.int .i64 (.ofNat 0)))]) H fun x163 H => 
  bR (f16 D n [x45, (.int .i64 (.ofNat 16)), x163] H) fun x164 H => 
  bV (aun .not x164) fun x165 => 
  some (.norm [x165], H)) (some (.norm [undefA], H))) fun vs H => hd vs fun x165_2 vs => 
  bV (pk3 (some x160) (some (.bool true)) (some x165_2)) fun x166 => 
  cnd x166 (bV (some (.bool false)) fun x0_4 => some (.ret x0_4, H))
  (bR (f15 D n [x45, (.str 0 0)] H) fun x169 H => 
  bV (pExtract x169 0) fun x170 => 
  bV (pExtract x169 1) fun x171 => 
  bA (bxV 36 (.agg [(.str 0 0), (.str 0 0)])) H fun x16 H => 
  bR (stN 2 x16 x170 H) fun x9999_2 H => 
  bV (bInt .neq x171 (.int .i64 (.ofNat 0))) fun x173 => 
  jn (wnt x173 false (bV (fAd 0 x16) fun x175 => 
  bV (ld1 x175 H) fun x176 => 
  bV (bStr .neq x176 (.str 6 2199023259762)) fun x177 => 
  some (.norm [x177], H)) (some (.norm [undefA], H))) fun vs H => hd vs fun x177_2 vs => 
  bV (pk3 (some x173) (some (.bool true)) (some x177_2)) fun x178 => 
  cnd x178 (bV (some (.bool false)) fun x0_5 => some (.ret x0_5, H))
  (bR (f13 D n [(.int .i64 (.ofNat 12))] H) fun x179 H => 
  bV (bldS [(0, 1), (1, 1)] [(.str 0 0), (.str 0 0)] [(0, (.str 2 626)), (1, x179)]) fun x180 => 
  bR (f13 D n [(.int .i64 (.ofNat 12))] H) fun x181 H => 
  bV (bldS [(0, 1), (1, 1)] [(.str 0 0), (.str 0 0)] [(0, (.str 7 33778096716907122)), (1, x181)]) fun x182 => 
  bR (f13 D n [(.int .i64 (.ofNat 11))] H) fun x183 H => 
  bV (bldS [(0, 1), (1, 1)] [(.str 0 0), (.str 0 0)] [(0, (.str 6 1099511628402)), (1, x183)]) fun x184 => 
  bR (f13 D n [(.int .i64 (.ofNat 12))] H) fun x185 H => 
  bV (bldS [(0, 1), (1, 1)] [(.str 0 0), (.str 0 0)] [(0, (.str 6 626)), (1, x185)]) fun x186 => 
  bR (f13 D n [(.int .i64 (.ofNat 12))] H) fun x187 H => 
  bV (bldS [(0, 1), (1, 1)] [(.str 0 0), (.str 0 0)] [(0, (.str 6 8389234)), (1, x187)]) fun x188 => 
  bA (bldL 36 2 5 [(.str 0 0), (.str 0 0)] [(0, x180), (1, x182), (2, x184), (3, x186), (4, x188)]) H fun x189 H => 
  bV (lnSl x189) fun x190 => 
  jb 0 (loopK n (f3l0 D n) [x45, x189, x190, (.int .i64 (.ofNat 0))] H) (f3b1 D n)))))))
def h3 : Hint := (.s .o (.s (.s .o (.cl (.s .o .o) .o)) (.s .o (.s .o (.s .o (.s .o (.s .o (.s .o (.s .o (.s (.s .o (.cl (.s .o .o) .o)) (.s .o (.s (.s .o (.cl (.s .o .o) .o)) (.s (.s .o (.cl (.s .o .o) .o)) (.s .o (.s (.s .o (.cl (.s .o .o) .o)) (.s (.s .o (.b [1] (.l [1, 189, 190, 191] (.s .o (.s (.cr .o .o) (.s (.b0 (.s .o (.s .o (.s (.s .o (.cl (.s .o .o) .o)) (.s .o (.s .o (.s .o (.cl (.s .o .o) .o)))))))) .o)))))) (.s (.s .o (.cl (.s .o .o) .o)) (.s .o .o))))))))))))))))))
theorem f3_eq (D : Dyn) (n : Nat) : f3 D n = funK (s3 D n) D n 3 Tryz.f3 h3 := by kernel_rfl
theorem f3_ok {D : Dyn} (hD : DG D) (n : Nat) : FI 3 (f3 D n) := fun_ok X_ok hD (SOk.cons (f8_ok hD n).fs (SOk.cons (f9_ok hD n).fs (SOk.cons (f10_ok hD n).fs (SOk.cons (f11_ok hD n).fs (SOk.cons (f12_ok hD n).fs (SOk.cons (f13_ok hD n).fs (SOk.cons (f14_ok hD n).fs (SOk.cons (f15_ok hD n).fs (SOk.cons (f16_ok hD n).fs (SOk.cons (f17_ok hD n).fs (SOk.cons (f18_ok hD n).fs (SOk.nil)))))))))))) Tryz.func3 (by kernel_rfl) (f3_eq D n)
end Go.Eng.Sh
