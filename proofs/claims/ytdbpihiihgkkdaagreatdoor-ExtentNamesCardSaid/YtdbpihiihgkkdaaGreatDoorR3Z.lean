/- The law, over what is told, by program (genp.py). -/
import Derived.Test.YtdbpihiihgkkdaaGreatDoorR3T
import Derived.Test.YtdbpihiihgkkdaaGreatDoorR3C9
import Derived.Test.YtdbpihiihgkkdaaGreatDoorProg
import Derived.KernelRfl
noncomputable section
namespace Go.Eng.Sh
open Go.Proofs
set_option maxRecDepth 1000000
set_option linter.all false
def z9 (D : Dyn) (n : Nat) (vs : List AV) (H : AH) : Option (AV × AH) := cloK (f9 D n) vs H
theorem z9_ok {D : Dyn} (hD : DP D) (n : Nat) : FP 9 (z9 D n) := cloK_ok ⟨_, Tryz.func9, rfl⟩ c9 (f9_ok hD n)
def s3z (D : Dyn) (n : Nat) : Tb := ⟨X, [(4, f4 D n), (5, f5 D n), (6, f6 D n), (7, f7 D n), (8, f8 D n), (9, z9 D n)]⟩
/-- jetty/jettylaw21.ExtentNames -/
def f3z (D : Dyn) (n : Nat) (vs : List AV) (H : AH) : Option (AV × AH) :=
  outR (nl vs <|
  bR (f4 D n [.nilPtr, (.int .i64 (.ofNat 1)), (.int .i64 (.ofNat 0)), (.int .i64 (.ofNat 0)), (.int .i64 (.ofNat 0))] H) fun x28 H => 
  bV (pExtract x28 0) fun x29 => 
  bV (pExtract x28 1) fun x30 => 
  bR (f5 D n [.nilPtr, (.int .i64 (.ofNat 1))] H) fun x32 H => 
  bV (pExtract x32 0) fun x33 => 
  bV (pExtract x32 1) fun x34 => 
  bR (f6 D n [] H) fun x35 H => 
  bV (cmpO .eql (eqP x35 .nilPtr)) fun x37 => 
  cnd x37 (bV (some (.bool false)) fun x0 => some (.ret x0, H))
  (bR (f4 D n [x35, (.int .i64 (.ofNat 0)), (.int .i64 (.ofNat 0)), (.int .i64 (.ofNat 0)), (.int .i64 (.ofNat 0))] H) fun x40 H => 
  bV (pExtract x40 0) fun x41 => 
  bV (pExtract x40 1) fun x42 => 
  bR (f4 D n [x35, (.int .i64 (.ofNat 1)), (.int .i64 (.ofNat 32769)), (.int .i64 (.ofNat 0)), (.int .i64 (.ofNat 0))] H) fun x45 H => 
  bV (pExtract x45 0) fun x46 => 
  bV (pExtract x45 1) fun x47 => 
  bR (f4 D n [x35, (.int .i64 (.ofNat 1)), (.int .i64 (.ofNat 5)), (.int .i64 (.negSucc 0)), (.int .i64 (.ofNat 0))] H) fun x50 H => 
  bV (pExtract x50 0) fun x51 => 
  bV (pExtract x50 1) fun x52 => 
  bR (f7 D n [x35, (.int .i64 (.ofNat 1)), (.int .i64 (.ofNat 32768)), (.str 1 97)] H) fun x54 H => 
  bR (f7 D n [x35, (.int .i64 (.ofNat 1)), (.int .i64 (.ofNat 32767)), (.str 1 97)] H) fun x56 H => 
  bR (f7 D n [x35, (.int .i64 (.ofNat 1)), (.int .i64 (.negSucc 0)), (.str 1 97)] H) fun x58 H => 
  bR (f7 D n [x35, (.int .i64 (.ofNat 0)), (.int .i64 (.ofNat 0)), (.str 1 97)] H) fun x60 H => 
  bR (f7 D n [x35, (.int .i64 (.ofNat 1)), (.int .i64 (.ofNat 9223372036854775807)), (.str 1 97)] H) fun x62 H => 
  bR (f8 D n [x35, (.int .i64 (.ofNat 1)), (.int .i64 (.negSucc 0))] H) fun x64 H => 
  bR (f8 D n [x35, (.int .i64 (.ofNat 1)), (.int .i64 (.ofNat 9223372036854775807))] H) fun x66 H => 
  bR (f5 D n [x35, (.int .i64 (.ofNat 1))] H) fun x69 H => 
  bV (pExtract x69 0) fun x70 => 
  bV (pExtract x69 1) fun x71 => 
  bR (f4 D n [x35, (.int .i64 (.ofNat 1)), (.int .i64 (.ofNat 32768)), (.int .i64 (.ofNat 32766)), (.int .i64 (.ofNat 9))] H) fun x74 H => 
  bV (pExtract x74 0) fun x75 => 
  bV (pExtract x74 1) fun x76 => 
  bR (f8 D n [x35, (.int .i64 (.ofNat 1)), (.int .i64 (.ofNat 0))] H) fun x78 H => 
  bR (f5 D n [x35, (.int .i64 (.ofNat 1))] H) fun x81 H => 
  bV (pExtract x81 0) fun x82 => 
  bV (pExtract x81 1) fun x83 => 
  bR (f7 D n [x35, (.int .i64 (.ofNat 1)), (.int .i64 (.ofNat 32768)), (.str 0 0)] H) fun x85 H => 
  bR (f7 D n [.nilPtr, (.int .i64 (.ofNat 1)), (.int .i64 (.ofNat 0)), (.str 0 0)] H) fun x86 H => 
  bV (bInt .eql x86 (.int .i64 (.ofNat 2))) fun x87 => 
  jn (wnt x87 true (bR (f8 D n [.nilPtr, (.int .i64 (.ofNat 1)), (.int .i64 (.ofNat 0))] H) fun x89 H => 
  bV (bInt .eql x89 (.int .i64 (.ofNat 2))) fun x90 => 
  some (.norm [x90], H)) (some (.norm [undefA], H))) fun vs H => hd vs fun x90_2 vs => 
  bV (pk3 (some x87) (some x90_2) (some (.bool false))) fun x91 => 
  jn (wnt x91 true (bV (bInt .eql x30 (.int .i64 (.ofNat 2))) fun x94 => 
  some (.norm [x94], H)) (some (.norm [undefA], H))) fun vs H => hd vs fun x94_2 vs => 
  bV (pk3 (some x91) (some x94_2) (some (.bool false))) fun x95 => 
  jn (wnt x95 true (bV (bInt .eql x34 (.int .i64 (.ofNat 2))) fun x98 => 
  some (.norm [x98], H)) (some (.norm [undefA], H))) fun vs H => hd vs fun x98_2 vs => 
  bV (pk3 (some x95) (some x98_2) (some (.bool false))) fun x99 => 
  jn (wnt x99 true (bV (bInt .eql x42 (.int .i64 (.ofNat 1))) fun x102 => 
  some (.norm [x102], H)) (some (.norm [undefA], H))) fun vs H => hd vs fun x102_2 vs => 
  bV (pk3 (some x99) (some x102_2) (some (.bool false))) fun x103 => 
  jn (wnt x103 true (bV (bInt .eql x47 (.int .i64 (.ofNat 1))) fun x106 => 
  some (.norm [x106], H)) (some (.norm [undefA], H))) fun vs H => hd vs fun x106_2 vs => 
  bV (pk3 (some x103) (some x106_2) (some (.bool false))) fun x107 => 
  jn (wnt x107 true (bV (bInt .eql x52 (.int .i64 (.ofNat 1))) fun x110 => 
  some (.norm [x110], H)) (some (.norm [undefA], H))) fun vs H => hd vs fun x110_2 vs => 
  bV (pk3 (some x107) (some x110_2) (some (.bool false))) fun x111 => 
  jn (wnt x111 true (bV (bInt .eql x54 (.int .i64 (.ofNat 40))) fun x114 => 
  some (.norm [x114], H)) (some (.norm [undefA], H))) fun vs H => hd vs fun x114_2 vs => 
  bV (pk3 (some x111) (some x114_2) (some (.bool false))) fun x115 => 
  jn (wnt x115 true (bV (bInt .eql x56 (.int .i64 (.ofNat 0))) fun x118 => 
  some (.norm [x118], H)) (some (.norm [undefA], H))) fun vs H => hd vs fun x118_2 vs => 
  bV (pk3 (some x115) (some x118_2) (some (.bool false))) fun x119 => 
  jn (wnt x119 true (bV (bInt .eql x58 (.int .i64 (.ofNat 1))) fun x122 => 
  some (.norm [x122], H)) (some (.norm [undefA], H))) fun vs H => hd vs fun x122_2 vs => 
  bV (pk3 (some x119) (some x122_2) (some (.bool false))) fun x123 => 
  jn (wnt x123 true (bV (bInt .eql x60 (.int .i64 (.ofNat 1))) fun x126 => 
  some (.norm [x126], H)) (some (.norm [undefA], H))) fun vs H => hd vs fun x126_2 vs => 
  bV (pk3 (some x123) (some x126_2) (some (.bool false))) fun x127 => 
  jn (wnt x127 true (bV (bInt .eql x62 (.int .i64 (.ofNat 40))) fun x130 => 
  some (.norm [x130], H)) (some (.norm [undefA], H))) fun vs H => hd vs fun x130_2 vs => 
  bV (pk3 (some x127) (some x130_2) (some (.bool false))) fun x131 => 
  jn (wnt x131 true (bV (bInt .eql x64 (.int .i64 (.ofNat 1))) fun x134 => 
  some (.norm [x134], H)) (some (.norm [undefA], H))) fun vs H => hd vs fun x134_2 vs => 
  bV (pk3 (some x131) (some x134_2) (some (.bool false))) fun x135 => 
  jn (wnt x135 true (bV (bInt .eql x66 (.int .i64 (.ofNat 0))) fun x138 => 
  some (.norm [x138], H)) (some (.norm [undefA], H))) fun vs H => hd vs fun x138_2 vs => 
  bV (pk3 (some x135) (some x138_2) (some (.bool false))) fun x139 => 
  jn (wnt x139 true (bV (bInt .eql x70 (.int .i64 (.ofNat 1))) fun x142 => 
  some (.norm [x142], H)) (some (.norm [undefA], H))) fun vs H => hd vs fun x142_2 vs => 
  bV (pk3 (some x139) (some x142_2) (some (.bool false))) fun x143 => 
  jn (wnt x143 true (bV (bInt .eql x71 (.int .i64 (.ofNat 0))) fun x146 => 
  some (.norm [x146], H)) (some (.norm [undefA], H))) fun vs H => hd vs fun x146_2 vs => 
  bV (pk3 (some x143) (some x146_2) (some (.bool false))) fun x147 => 
  jn (wnt x147 true (bV (bStr .eql x75 (.str 2 24832)) fun x150 => 
  some (.norm [x150], H)) (some (.norm [undefA], H))) fun vs H => hd vs fun x150_2 vs => 
  bV (pk3 (some x147) (some x150_2) (some (.bool false))) fun x151 => 
  jn (wnt x151 true (bV (bInt .eql x76 (.int .i64 (.ofNat 0))) fun x154 => 
  some (.norm [x154], H)) (some (.norm [undefA], H))) fun vs H => hd vs fun x154_2 vs => 
  bV (pk3 (some x151) (some x154_2) (some (.bool false))) fun x155 => 
  jn (wnt x155 true (bV (bInt .eql x78 (.int .i64 (.ofNat 0))) fun x158 => 
  some (.norm [x158], H)) (some (.norm [undefA], H))) fun vs H => hd vs fun x158_2 vs => 
  bV (pk3 (some x155) (some x158_2) (some (.bool false))) fun x159 => 
  jn (wnt x159 true (bV (bInt .eql x82 (.int .i64 (.ofNat 0))) fun x162 => 
  some (.norm [x162], H)) (some (.norm [undefA], H))) fun vs H => hd vs fun x162_2 vs => 
  bV (pk3 (some x159) (some x162_2) (some (.bool false))) fun x163 => 
  jn (wnt x163 true (bV (bInt .eql x83 (.int .i64 (.ofNat 0))) fun x166 => 
  some (.norm [x166], H)) (some (.norm [undefA], H))) fun vs H => hd vs fun x166_2 vs => 
  bV (pk3 (some x163) (some x166_2) (some (.bool false))) fun x167 => 
  jn (wnt x167 true (bV (bInt .eql x85 (.int .i64 (.ofNat 0))) fun x170 => 
  some (.norm [x170], H)) (some (.norm [undefA], H))) fun vs H => hd vs fun x170_2 vs => 
  bV (pk3 (some x167) (some x170_2) (some (.bool false))) fun x171 => 
  bV (pk3 (some x171) (some (.bool true)) (some (.bool false))) fun x173 => 
  jn (wnt x173 true (bR (z9 D n [] H) fun x175 H => 
  some (.norm [x175], H)) (some (.norm [undefA], H))) fun vs H => hd vs fun x175_2 vs => 
  bV (pk3 (some x173) (some x175_2) (some (.bool false))) fun x176 => 
  bV (some x176) fun x0_2 => some (.ret x0_2, H)))
def h3z : Hint := (.s .o (.s .o (.s .o (.s .o (.s (.s .o (.cl (.s .o .o) .o)) (.s .o (.s .o (.s .o (.s .o (.s .o (.s .o (.s .o (.s .o (.s .o (.s .o (.s .o (.s .o .o)))))))))))))))))
theorem f3z_eq (D : Dyn) (n : Nat) : f3z D n = funKp (s3z D n) D n 3 Tryz.f3 h3z := by kernel_rfl
theorem f3z_ok {D : Dyn} (hD : DP D) (n : Nat) : FP 3 (f3z D n) := fun_okP X_ok hD (SP.cons (f4_ok hD n) (SP.cons (f5_ok hD n) (SP.cons (f6_ok hD n) (SP.cons (f7_ok hD n) (SP.cons (f8_ok hD n) (SP.cons (z9_ok hD n) (SP.nil))))))) Tryz.func3 (by kernel_rfl) (by kernel_rfl) (f3z_eq D n)
end Go.Eng.Sh
