/- A checked evaluator for the program, and what it tells, part 4: no condition. -/
import Derived.Test.YtngkjhifpekkcaaGreatO3
import Derived.Test.YtngkjhifpekkcaaGreatProg
import Derived.KernelRfl
set_option linter.all false
set_option linter.unusedVariables false
set_option linter.unusedSimpArgs false
set_option maxHeartbeats 8000000
section
noncomputable section
namespace Go.Eng.Sh
open Go.Proofs
set_option maxRecDepth 100000
def s94 (D:Dyn)(n:Nat):Tb:=⟨X,[]⟩
def f94 (D:Dyn)(n:Nat)(vs:List AV)(H:AH):Option (AV×AH):=
 outR (hd vs fun x0 vs=>hd vs fun x1 vs=>nl vs <|
 bA (mkM [6]) H fun x7 H=>
 bV (bldS [(0,1),(1,1),(2,1),(3,1),(4,1),(5,1),(6,1)] [(.int .i64 (.ofNat 0)), .nilMap, .nilSlice, .nilMap,(.int .i64 (.ofNat 0)), .nilSlice,(.bool false)] [(0,x0),(1,x1),(3,x7)]) fun x8=>
 bA (bxV 163 x8) H fun x9 H=>
 bV (some x9) fun x4=>some (.ret x4,H))
def h94:Hint:=(.s .o (.s .o .o))
theorem f94_eq (D:Dyn)(n:Nat):f94 D n=funK (s94 D n) D n 94 Tryz.f94 h94:=by kernel_rfl
theorem f94_ok {D:Dyn}(hD:DG D)(n:Nat):FI 94 (f94 D n):=fun_ok X_ok hD (SOk.nil) Tryz.func94 (by kernel_rfl) (f94_eq D n)
def s49 (D:Dyn)(n:Nat):Tb:=⟨X,[(94,f94 D n)]⟩
def f49 (D:Dyn)(n:Nat)(vs:List AV)(H:AH):Option (AV×AH):=
 outR (hd vs fun x0 vs=>nl vs <|
 bV (bInt .lss x0 (.int .i64 (.ofNat 64))) fun x5=>
 jn (wnt x5 false (bV (bInt .gtr x0 (.int .i64 (.ofNat 8192))) fun x8=>
 some (.norm [x8],H)) (some (.norm [undefA],H))) fun vs H=>hd vs fun x8_2 vs=>
 bV (pk3 (some x5) (some (.bool true)) (some x8_2)) fun x9=>
 cnd x9 (bV (some .nilPtr) fun x2=>bV (some (.int .i64 (.ofNat 1))) fun x3=>some (.ret (.tuple [x2,x3]),H))
 (bA (mkM [6]) H fun x11 H=>
 bR (f94 D n [x0,x11] H) fun x12 H=>
 bV (some x12) fun x2_2=>bV (some (.int .i64 (.ofNat 0))) fun x3_2=>some (.ret (.tuple [x2_2,x3_2]),H)))
def h49:Hint:=(.s .o (.s (.s .o (.cl (.s .o .o) .o)) (.s .o .o)))
theorem f49_eq (D:Dyn)(n:Nat):f49 D n=funK (s49 D n) D n 49 Tryz.f49 h49:=by kernel_rfl
theorem f49_ok {D:Dyn}(hD:DG D)(n:Nat):FI 49 (f49 D n):=fun_ok X_ok hD (SOk.cons (f94_ok hD n).fs (SOk.nil)) Tryz.func49 (by kernel_rfl) (f49_eq D n)
def s98 (D:Dyn)(n:Nat):Tb:=⟨X,[]⟩
def f98 (D:Dyn)(n:Nat)(vs:List AV)(H:AH):Option (AV×AH):=
 outR (hd vs fun x0 vs=>hd vs fun x1 vs=>hd vs fun x2 vs=>nl vs <|
 bV (pNil x0) fun x9=>
 bV (fAd 2 x9) fun x10=>
 bV (ixArr 8192 1 x10 x1) fun x11=>
 bV (ld1 x11 H) fun x12=>
 bV (pNil x0) fun x13=>
 bV (fAd 8194 x13) fun x14=>
 bV (ixArr 4 1 x14 x12) fun x15=>
 bV (ld1 x15 H) fun x16=>
 bV (bInt .sub x16 (.int .i64 (.ofNat 1))) fun x17=>
 bV (pNil x0) fun x18=>
 bV (fAd 8194 x18) fun x19=>
 bV (ixArr 4 1 x19 x12) fun x20=>
 bR (stN 1 x20 x17 H) fun x9999 H=>
 bV (pNil x0) fun x23=>
 bV (fAd 8194 x23) fun x24=>
 bV (ixArr 4 1 x24 x2) fun x25=>
 bV (ld1 x25 H) fun x26=>
 bV (bInt .add x26 (.int .i64 (.ofNat 1))) fun x27=>
 bV (pNil x0) fun x28=>
 bV (fAd 8194 x28) fun x29=>
 bV (ixArr 4 1 x29 x2) fun x30=>
 bR (stN 1 x30 x27 H) fun x9999_2 H=>
 bV (pNil x0) fun x34=>
 bV (fAd 2 x34) fun x35=>
 bV (ixArr 8192 1 x35 x1) fun x36=>
 bR (stN 1 x36 x2 H) fun x9999_3 H=>
 some (.ret (.tuple []),H))
def h98:Hint:=(.s .o (.s .o .o))
theorem f98_eq (D:Dyn)(n:Nat):f98 D n=funK (s98 D n) D n 98 Tryz.f98 h98:=by kernel_rfl
theorem f98_ok {D:Dyn}(hD:DG D)(n:Nat):FI 98 (f98 D n):=fun_ok X_ok hD (SOk.nil) Tryz.func98 (by kernel_rfl) (f98_eq D n)
def s59 (D:Dyn)(n:Nat):Tb:=⟨X,[(98,f98 D n)]⟩
def f59l0 (D:Dyn)(n:Nat)(vs:List AV)(H:AH):Rs:=
 hd vs fun x4 vs=>hd vs fun x20 vs=>
 bV (bInt .lss x20 (.int .i64 (.ofNat 2))) fun x21=>
 cnd x21 (bR (f98 D n [x4,x20,(.int .u8 (.ofNat 1))] H) fun x25 H=>
 bV (bInt .add x20 (.int .i64 (.ofNat 1))) fun x26=>
 some (.norm [x4,x26],H))
 (some (.exit 0 [x4],H))
def f59b1 (D:Dyn)(n:Nat)(vs:List AV)(H:AH):Rs:=
 hd vs fun x4_2 vs=>
 bV (some x4_2) fun x2_2=>bV (some (.int .i64 (.ofNat 0))) fun x3_2=>some (.ret (.tuple [x2_2,x3_2]),H)
def f59 (D:Dyn)(n:Nat)(vs:List AV)(H:AH):Option (AV×AH):=
 outR (hd vs fun x0 vs=>nl vs <|
 bV (bInt .lss x0 (.int .i64 (.ofNat 64))) fun x7=>
 jn (wnt x7 false (bV (bInt .gtr x0 (.int .i64 (.ofNat 8192))) fun x10=>
 some (.norm [x10],H)) (some (.norm [undefA],H))) fun vs H=>hd vs fun x10_2 vs=>
 bV (pk3 (some x7) (some (.bool true)) (some x10_2)) fun x11=>
 cnd x11 (bV (some .nilPtr) fun x2=>bV (some (.int .i64 (.ofNat 1))) fun x3=>some (.ret (.tuple [x2,x3]),H))
 (bV (bldS [(0,1),(1,1),(2,8192),(8194,4)] ([(.int .i64 (.ofNat 0)),(.int .i64 (.ofNat 0))]++rep 8192 [(.int .u8 (.ofNat 0))]++[(.int .i64 (.ofNat 0)),(.int .i64 (.ofNat 0)),(.int .i64 (.ofNat 0)),(.int .i64 (.ofNat 0))]) [(0,x0)]) fun x13=>
 bA (bxV 155 x13) H fun x14 H=>
 bV (pNil x14) fun x17=>
 bV (fAd 8194 x17) fun x18=>
 bV (ixArr 4 1 x18 (.int .u8 (.ofNat 0))) fun x19=>
 bR (stN 1 x19 x0 H) fun x9999 H=>
 jb 0 (loopK n (f59l0 D n) [x14,(.int .i64 (.ofNat 0))] H) (f59b1 D n)))
def h59:Hint:=(.s .o (.s (.s .o (.cl (.s .o .o) .o)) (.s .o (.s .o (.s (.s .o (.b [4] (.l [4,20] (.s .o (.s (.cr .o .o) (.s (.b0 (.s .o .o)) .o)))))) (.s .o .o))))))
theorem f59_eq (D:Dyn)(n:Nat):f59 D n=funK (s59 D n) D n 59 Tryz.f59 h59:=by kernel_rfl
theorem f59_ok {D:Dyn}(hD:DG D)(n:Nat):FI 59 (f59 D n):=fun_ok X_ok hD (SOk.cons (f98_ok hD n).fs (SOk.nil)) Tryz.func59 (by kernel_rfl) (f59_eq D n)
def s118 (D:Dyn)(n:Nat):Tb:=⟨X,[]⟩
def f118 (D:Dyn)(n:Nat)(vs:List AV)(H:AH):Option (AV×AH):=
 outR (hd vs fun x0 vs=>nl vs <|
 bA (bxV 72 x0) H fun x1 H=>
 bV (fAd 0 x1) fun x3=>
 bV (ld1 x3 H) fun x4=>
 bV (bInt .eql x4 (.int .i64 (.ofNat 0))) fun x5=>
 cnd x5 (bV (ldN 3 x1 H) fun x6=>
 bV (bldS [(0,1),(1,1),(2,1)] [(.int .i64 (.ofNat 0)),(.int .i64 (.ofNat 0)),(.int .u64 (.ofNat 0))] []) fun x7=>
 bV (cmpO .eql (eqA [6,6,10] x6 x7)) fun x8=>
 bV (some x8) fun x2=>some (.ret x2,H))
 (bV (fAd 0 x1) fun x9=>
 bV (ld1 x9 H) fun x10=>
 bV (bInt .gtr x10 (.int .i64 (.ofNat 0))) fun x11=>
 jn (wnt x11 true (bV (fAd 0 x1) fun x13=>
 bV (ld1 x13 H) fun x14=>
 bV (bInt .lss x14 (.int .i64 (.ofNat 8192))) fun x15=>
 some (.norm [x15],H)) (some (.norm [undefA],H))) fun vs H=>hd vs fun x15_2 vs=>
 bV (pk3 (some x11) (some x15_2) (some (.bool false))) fun x16=>
 jn (wnt x16 true (bV (fAd 1 x1) fun x18=>
 bV (ld1 x18 H) fun x19=>
 bV (bInt .geq x19 (.int .i64 (.ofNat 0))) fun x20=>
 some (.norm [x20],H)) (some (.norm [undefA],H))) fun vs H=>hd vs fun x20_2 vs=>
 bV (pk3 (some x16) (some x20_2) (some (.bool false))) fun x21=>
 jn (wnt x21 true (bV (fAd 1 x1) fun x23=>
 bV (ld1 x23 H) fun x24=>
 bV (bInt .leq x24 (.int .i64 (.ofNat 2147483647))) fun x25=>
 some (.norm [x25],H)) (some (.norm [undefA],H))) fun vs H=>hd vs fun x25_2 vs=>
 bV (pk3 (some x21) (some x25_2) (some (.bool false))) fun x26=>
 bV (some x26) fun x2_2=>some (.ret x2_2,H)))
def h118:Hint:=(.s .o (.s (.s .o (.cl (.s .o .o) .o)) (.s .o .o)))
theorem f118_eq (D:Dyn)(n:Nat):f118 D n=funK (s118 D n) D n 118 Tryz.f118 h118:=by kernel_rfl
theorem f118_ok {D:Dyn}(hD:DG D)(n:Nat):FI 118 (f118 D n):=fun_ok X_ok hD (SOk.nil) Tryz.func118 (by kernel_rfl) (f118_eq D n)
def s119 (D:Dyn)(n:Nat):Tb:=⟨X,[]⟩
def f119l0 (D:Dyn)(n:Nat)(vs:List AV)(H:AH):Rs:=
 hd vs fun x0_2 vs=>hd vs fun x1_2 vs=>hd vs fun x6_2 vs=>hd vs fun x7 vs=>
 bV (bInt .lss x7 x6_2) fun x8=>
 cnd x8 (bV (lnSl x0_2) fun x12=>
 bV (bInt .sub x12 (.int .i64 (.ofNat 1))) fun x13=>
 bV (bInt .sub x13 x7) fun x15=>
 bV (bInt .mul (.int .i64 (.ofNat 8)) x7) fun x18=>
 bV (bInt .shr x1_2 x18) fun x19=>
 bV (cvI .u8 x19) fun x20=>
 bV (ixSl 1 x0_2 x15) fun x21=>
 bR (stN 1 x21 x20 H) fun x9999 H=>
 bV (bInt .add x7 (.int .i64 (.ofNat 1))) fun x22=>
 some (.norm [x0_2,x1_2,x6_2,x22],H))
 (some (.exit 0 [],H))
def f119b1 (D:Dyn)(n:Nat)(vs:List AV)(H:AH):Rs:=
 some (.ret (.tuple []),H)
def f119 (D:Dyn)(n:Nat)(vs:List AV)(H:AH):Option (AV×AH):=
 outR (hd vs fun x0 vs=>hd vs fun x1 vs=>nl vs <|
 bV (lnSl x0) fun x6=>
 jb 0 (loopK n (f119l0 D n) [x0,x1,x6,(.int .i64 (.ofNat 0))] H) (f119b1 D n))
def h119:Hint:=(.s .o (.b [] (.l [0,1,6,7] (.s .o (.s (.cr .o .o) (.s (.b0 (.s .o .o)) .o))))))
theorem f119_eq (D:Dyn)(n:Nat):f119 D n=funK (s119 D n) D n 119 Tryz.f119 h119:=by kernel_rfl
theorem f119_ok {D:Dyn}(hD:DG D)(n:Nat):FI 119 (f119 D n):=fun_ok X_ok hD (SOk.nil) Tryz.func119 (by kernel_rfl) (f119_eq D n)
def s75 (D:Dyn)(n:Nat):Tb:=⟨X,[(118,f118 D n),(119,f119 D n)]⟩
def f75 (D:Dyn)(n:Nat)(vs:List AV)(H:AH):Option (AV×AH):=
 outR (hd vs fun x0 vs=>nl vs <|
 bA (bxV 72 x0) H fun x1 H=>
 bV (ldN 3 x1 H) fun x5=>
 bR (f118 D n [x5] H) fun x6 H=>
 bV (aun .not x6) fun x7=>
 cnd x7 (bV (some (.str 0 0)) fun x2=>bV (some (.int .i64 (.ofNat 4))) fun x3=>some (.ret (.tuple [x2,x3]),H))
 (bA (bxV 225 (.agg (rep 16 [(.int .u8 (.ofNat 0))]))) H fun x4 H=>
 bV (slArr 16 1 x4 none (some (.int .i64 (.ofNat 4))) none) fun x8=>
 bV (fAd 0 x1) fun x9=>
 bV (ld1 x9 H) fun x10=>
 bV (cvI .u64 x10) fun x11=>
 bR (f119 D n [x8,x11] H) fun x12 H=>
 bV (slArr 16 1 x4 (some (.int .i64 (.ofNat 4))) (some (.int .i64 (.ofNat 8))) none) fun x13=>
 bV (fAd 1 x1) fun x14=>
 bV (ld1 x14 H) fun x15=>
 bV (cvI .u64 x15) fun x16=>
 bR (f119 D n [x13,x16] H) fun x17 H=>
 bV (slArr 16 1 x4 (some (.int .i64 (.ofNat 8))) none none) fun x18=>
 bV (fAd 2 x1) fun x19=>
 bV (ld1 x19 H) fun x20=>
 bR (f119 D n [x18,x20] H) fun x21 H=>
 bV (slArr 16 1 x4 none none none) fun x22=>
 bV (cvBS x22 H) fun x23=>
 bV (some x23) fun x2_2=>bV (some (.int .i64 (.ofNat 0))) fun x3_2=>some (.ret (.tuple [x2_2,x3_2]),H)))
def h75:Hint:=(.s .o (.s (.s .o (.cl (.s .o .o) .o)) (.s .o (.s .o (.s .o (.s .o (.s .o .o)))))))
theorem f75_eq (D:Dyn)(n:Nat):f75 D n=funK (s75 D n) D n 75 Tryz.f75 h75:=by kernel_rfl
theorem f75_ok {D:Dyn}(hD:DG D)(n:Nat):FI 75 (f75 D n):=fun_ok X_ok hD (SOk.cons (f118_ok hD n).fs (SOk.cons (f119_ok hD n).fs (SOk.nil))) Tryz.func75 (by kernel_rfl) (f75_eq D n)
def s31 (D:Dyn)(n:Nat):Tb:=⟨X,[(75,f75 D n)]⟩
def f31 (D:Dyn)(n:Nat)(vs:List AV)(H:AH):Option (AV×AH):=
 outR (hd vs fun x0 vs=>hd vs fun x1 vs=>hd vs fun x2 vs=>nl vs <|
 bA (bxV 72 x2) H fun x5 H=>
 bV (cmpO .eql (eqP x0 .nilPtr)) fun x11=>
 cnd x11 (bV (some .nilPtr) fun x6=>bV (some (.int .i64 (.ofNat 2))) fun x7=>some (.ret (.tuple [x6,x7]),H))
 (bV (ldN 3 x5 H) fun x13=>
 bR (f75 D n [x13] H) fun x14 H=>
 bV (pExtract x14 0) fun x15=>
 bV (pExtract x14 1) fun x16=>
 bV (bInt .neq x16 (.int .i64 (.ofNat 0))) fun x18=>
 jn (wnt x18 false (bV (fAd 0 x5) fun x20=>
 bV (ld1 x20 H) fun x21=>
 bV (bInt .eql x21 (.int .i64 (.ofNat 1))) fun x22=>
 some (.norm [x22],H)) (some (.norm [undefA],H))) fun vs H=>hd vs fun x22_2 vs=>
 bV (pk3 (some x18) (some (.bool true)) (some x22_2)) fun x23=>
 cnd x23 (bV (some .nilPtr) fun x6_2=>bV (some (.int .i64 (.ofNat 1))) fun x7_2=>some (.ret (.tuple [x6_2,x7_2]),H))
 (bV (ldN 3 x5 H) fun x26=>
 bA (mkM [10]) H fun x27 H=>
 bV (bldS [(0,1),(1,1),(2,3),(5,1),(6,1),(7,1)] [.nilPtr, .nilPtr,(.int .i64 (.ofNat 0)),(.int .i64 (.ofNat 0)),(.int .u64 (.ofNat 0)), .nilMap,(.int .u64 (.ofNat 0)), .nilSlice] [(0,x0),(1,x1),(2,x26),(3,x27)]) fun x28=>
 bA (bxV 141 x28) H fun x29 H=>
 bV (some x29) fun x6_3=>bV (some (.int .i64 (.ofNat 0))) fun x7_3=>some (.ret (.tuple [x6_3,x7_3]),H))))
def h31:Hint:=(.s .o (.s (.s .o (.cl (.s .o .o) .o)) (.s (.s .o (.s .o (.cl (.s .o .o) .o))) (.s .o .o))))
theorem f31_eq (D:Dyn)(n:Nat):f31 D n=funK (s31 D n) D n 31 Tryz.f31 h31:=by kernel_rfl
theorem f31_ok {D:Dyn}(hD:DG D)(n:Nat):FI 31 (f31 D n):=fun_ok X_ok hD (SOk.cons (f75_ok hD n).fs (SOk.nil)) Tryz.func31 (by kernel_rfl) (f31_eq D n)
def s62 (D:Dyn)(n:Nat):Tb:=⟨X,[]⟩
def f62 (D:Dyn)(n:Nat)(vs:List AV)(H:AH):Option (AV×AH):=
 outR (hd vs fun x0 vs=>nl vs <|
 bV (cmpO .eql (eqP x0 .nilPtr)) fun x4=>
 jn (wnt x4 false (bV (pNil x0) fun x7=>
 bV (fAd 0 x7) fun x8=>
 bV (ld1 x8 H) fun x9=>
 bV (cmpO .eql (eqP x9 .nilPtr)) fun x10=>
 some (.norm [x10],H)) (some (.norm [undefA],H))) fun vs H=>hd vs fun x10_2 vs=>
 bV (pk3 (some x4) (some (.bool true)) (some x10_2)) fun x11=>
 jn (wnt x11 false (bV (pNil x0) fun x14=>
 bV (fAd 5 x14) fun x15=>
 bV (ld1 x15 H) fun x16=>
 bV (cmpO .eql (eqM x16 .nilMap)) fun x17=>
 some (.norm [x17],H)) (some (.norm [undefA],H))) fun vs H=>hd vs fun x17_2 vs=>
 bV (pk3 (some x11) (some (.bool true)) (some x17_2)) fun x18=>
 bV (some x18) fun x2=>some (.ret x2,H))
def h62:Hint:=(.s .o (.s .o .o))
theorem f62_eq (D:Dyn)(n:Nat):f62 D n=funK (s62 D n) D n 62 Tryz.f62 h62:=by kernel_rfl
theorem f62_ok {D:Dyn}(hD:DG D)(n:Nat):FI 62 (f62 D n):=fun_ok X_ok hD (SOk.nil) Tryz.func62 (by kernel_rfl) (f62_eq D n)
def s102 (D:Dyn)(n:Nat):Tb:=⟨X,[]⟩
def f102 (D:Dyn)(n:Nat)(vs:List AV)(H:AH):Option (AV×AH):=
 outR (hd vs fun x0 vs=>hd vs fun x1 vs=>nl vs <|
 bA (bxV 133 x1) H fun x3 H=>
 bA (bxV 72 (.agg [(.int .i64 (.ofNat 0)),(.int .i64 (.ofNat 0)),(.int .u64 (.ofNat 0))])) H fun x4 H=>
 bV (pNil x0) fun x6=>
 bV (fAd 1 x6) fun x7=>
 bV (ld1 x7 H) fun x8=>
 bV (bInt .add x8 (.int .u64 (.ofNat 1))) fun x9=>
 bV (pNil x0) fun x10=>
 bV (fAd 1 x10) fun x11=>
 bR (stN 1 x11 x9 H) fun x9999 H=>
 bV (pNil x0) fun x13=>
 bV (fAd 2 x13) fun x14=>
 bV (ld1 x14 H) fun x15=>
 bV (pNil x0) fun x17=>
 bV (fAd 1 x17) fun x18=>
 bV (ld1 x18 H) fun x19=>
 bV (ldN 4 x3 H) fun x20=>
 bR (upM [10] x15 x19 x20 H) fun x9999_2 H=>
 bV (pNil x0) fun x22=>
 bV (fAd 1 x22) fun x23=>
 bV (ld1 x23 H) fun x24=>
 bV (bldS [(0,1),(1,1),(2,1)] [(.int .i64 (.ofNat 0)),(.int .i64 (.ofNat 0)),(.int .u64 (.ofNat 0))] [(0,(.int .i64 (.ofNat 1))),(2,x24)]) fun x25=>
 bR (stN 3 x4 x25 H) fun x9999_3 H=>
 bV (ldN 3 x4 H) fun x9004=>some (.ret x9004,H))
def h102:Hint:=(.s .o (.s .o (.s .o (.s .o .o))))
theorem f102_eq (D:Dyn)(n:Nat):f102 D n=funK (s102 D n) D n 102 Tryz.f102 h102:=by kernel_rfl
theorem f102_ok {D:Dyn}(hD:DG D)(n:Nat):FI 102 (f102 D n):=fun_ok X_ok hD (SOk.nil) Tryz.func102 (by kernel_rfl) (f102_eq D n)
def s101 (D:Dyn)(n:Nat):Tb:=⟨X,[]⟩
def f101j0 (D:Dyn)(n:Nat)(vs:List AV)(H:AH):Rs:=
 hd vs fun x0_3 vs=>hd vs fun x3_3 vs=>hd vs fun x4_2 vs=>hd vs fun x16_3 vs=>hd vs fun x17_3 vs=>hd vs fun x18_2 vs=>
 bV (bInt .add x18_2 (.int .i64 (.ofNat 1))) fun x41=>
 some (.norm [x0_3,x3_3,x4_2,x16_3,x17_3,x41],H)
def f101l1 (D:Dyn)(n:Nat)(vs:List AV)(H:AH):Rs:=
 hd vs fun x0_2 vs=>hd vs fun x3_2 vs=>hd vs fun x4 vs=>hd vs fun x16_2 vs=>hd vs fun x17_2 vs=>hd vs fun x18 vs=>
 bV (bInt .lss x18 x17_2) fun x19=>
 cnd x19 (bV (ixSl 3 x16_2 x18) fun x20=>
 bV (ldN 3 x20 H) fun x21=>
 bA (bxV 72 (.agg [(.int .i64 (.ofNat 0)),(.int .i64 (.ofNat 0)),(.int .u64 (.ofNat 0))])) H fun x6 H=>
 bR (stN 3 x6 x21 H) fun x9999 H=>
 bV (fAd 0 x6) fun x22=>
 bV (ld1 x22 H) fun x23=>
 bV (bInt .eql x23 (.int .i64 (.ofNat 1))) fun x24=>
 jn (cnd x24 (bV (pNil x4) fun x26=>
 bV (fAd 5 x26) fun x27=>
 bV (ld1 x27 H) fun x28=>
 bV (fAd 2 x6) fun x29=>
 bV (ld1 x29 H) fun x30=>
 bR (dlM [10] x28 x30 H) fun x9999_2 H=>
 some (.norm [x0_2,x3_2,x4,x16_2,x17_2,x18],H))
 (bV (pNil x4) fun x33=>
 bV (fAd 7 x33) fun x34=>
 bV (ld1 x34 H) fun x35=>
 bV (ldN 3 x6 H) fun x36=>
 bA (bldL 72 3 1 [(.int .i64 (.ofNat 0)),(.int .i64 (.ofNat 0)),(.int .u64 (.ofNat 0))] [(0,x36)]) H fun x37 H=>
 bR (apP 72 3 24 x35 x37 H) fun x38 H=>
 bV (pNil x4) fun x39=>
 bV (fAd 7 x39) fun x40=>
 bR (stN 1 x40 x38 H) fun x9999_3 H=>
 some (.norm [x0_2,x3_2,x4,x16_2,x17_2,x18],H))) (f101j0 D n))
 (some (.exit 0 [x0_2,x3_2,x4],H))
def f101b2 (D:Dyn)(n:Nat)(vs:List AV)(H:AH):Rs:=
 hd vs fun x0_4 vs=>hd vs fun x3_4 vs=>hd vs fun x4_3 vs=>
 tld (mt101_0 [x0_4,x3_4,x4_3] H) H.next fun H=>
 bV (pNil x0_4) fun x60=>
 bV (fAd 1 x60) fun x61=>
 bV (ld1 x61 H) fun x62=>
 bV (pNil x4_3) fun x63=>
 bV (fAd 6 x63) fun x64=>
 bR (stN 1 x64 x62 H) fun x9999_4 H=>
 bV (ldN 3 x3_4 H) fun x66=>
 bV (pNil x4_3) fun x67=>
 bV (fAd 2 x67) fun x68=>
 bR (stN 3 x68 x66 H) fun x9999_5 H=>
 some (.ret (.tuple []),H)
def f101 (D:Dyn)(n:Nat)(vs:List AV)(H:AH):Option (AV×AH):=
 outR (hd vs fun x0 vs=>hd vs fun x1 vs=>nl vs <|
 bA (bxV 72 x1) H fun x3 H=>
 bV (pNil x0) fun x10=>
 bV (fAd 0 x10) fun x11=>
 bV (ld1 x11 H) fun x12=>
 bV (pNil x0) fun x14=>
 bV (fAd 3 x14) fun x15=>
 bV (ld1 x15 H) fun x16=>
 bV (lnSl x16) fun x17=>
 jb 0 (loopK n (f101l1 D n) [x0,x3,x12,x16,x17,(.int .i64 (.ofNat 0))] H) (f101b2 D n))
def h101:Hint:=(.s .o (.s .o (.s (.s .o (.b [0,3,4] (.l [0,3,4,16,17,18] (.s .o (.s (.cr .o .o) (.s (.b0 (.s .o (.s .o (.c [0,3,4,16,17,18] .o .o)))) .o)))))) (.s (.t [0,3,4] mt101_0) (.s .o .o)))))
theorem f101_eq (D:Dyn)(n:Nat):f101 D n=funK (s101 D n) D n 101 Tryz.f101 h101:=by kernel_rfl
theorem f101_tolds:toldsF Tryz.f101 h101=[(q101_0.code,[0,3,4],mt101_0)]:=by kernel_rfl
theorem f101_told: ∀x∈toldsF Tryz.f101 h101,ToldOk PP Tryz.f101.ntmps 101 x.1 x.2.1 x.2.2:=by
 rw[f101_tolds];intro x hx
 simp only[List.mem_cons,List.not_mem_nil,or_false]at hx
 subst hx;exact told101_0
theorem f101_ok {D:Dyn}(hD:DG D)(n:Nat):FI 101 (f101 D n):=fun_okT X_ok hD (SOk.nil) Tryz.func101 (sitesT_ok (by kernel_rfl) f101_told) (f101_eq D n)
def s123 (D:Dyn)(n:Nat):Tb:=⟨X,[]⟩
def f123l0 (D:Dyn)(n:Nat)(vs:List AV)(H:AH):Rs:=
 hd vs fun x1_2 vs=>hd vs fun x3 vs=>hd vs fun x14_2 vs=>hd vs fun x15_2 vs=>hd vs fun x16 vs=>
 bV (bInt .lss x16 x15_2) fun x17=>
 cnd x17 (bV (ixSl 1 x14_2 x16) fun x18=>
 bV (ld1 x18 H) fun x19=>
 bV (lnStr x19) fun x22=>
 bV (bInt .add (.int .i64 (.ofNat 1)) x22) fun x23=>
 bV (bInt .add x3 x23) fun x24=>
 bV (bInt .add x16 (.int .i64 (.ofNat 1))) fun x25=>
 some (.norm [x1_2,x24,x14_2,x15_2,x25],H))
 (some (.exit 0 [x1_2,x3],H))
def f123l1 (D:Dyn)(n:Nat)(vs:List AV)(H:AH):Rs:=
 hd vs fun x3_3 vs=>hd vs fun x27_2 vs=>hd vs fun x28_2 vs=>hd vs fun x29 vs=>
 bV (bInt .lss x29 x28_2) fun x30=>
 cnd x30 (bV (ixSl 1 x27_2 x29) fun x31=>
 bV (ld1 x31 H) fun x32=>
 bV (lnStr x32) fun x35=>
 bV (bInt .add (.int .i64 (.ofNat 1)) x35) fun x36=>
 bV (bInt .add x3_3 x36) fun x37=>
 bV (bInt .add x29 (.int .i64 (.ofNat 1))) fun x38=>
 some (.norm [x37,x27_2,x28_2,x38],H))
 (some (.exit 2 [x3_3],H))
def f123b2 (D:Dyn)(n:Nat)(vs:List AV)(H:AH):Rs:=
 hd vs fun x3_4 vs=>
 bV (some x3_4) fun x2=>some (.ret x2,H)
def f123b3 (D:Dyn)(n:Nat)(vs:List AV)(H:AH):Rs:=
 hd vs fun x1_3 vs=>hd vs fun x3_2 vs=>
 bV (fAd 2 x1_3) fun x26=>
 bV (ld1 x26 H) fun x27=>
 bV (lnSl x27) fun x28=>
 jb 2 (loopK n (f123l1 D n) [x3_2,x27,x28,(.int .i64 (.ofNat 0))] H) (f123b2 D n)
def f123 (D:Dyn)(n:Nat)(vs:List AV)(H:AH):Option (AV×AH):=
 outR (hd vs fun x0 vs=>nl vs <|
 bA (bxV 133 x0) H fun x1 H=>
 bV (fAd 3 x1) fun x8=>
 bV (ld1 x8 H) fun x9=>
 bV (lnSl x9) fun x10=>
 bV (bInt .mul (.int .i64 (.ofNat 16)) x10) fun x11=>
 bV (bInt .add (.int .i64 (.ofNat 2)) x11) fun x12=>
 bV (fAd 1 x1) fun x13=>
 bV (ld1 x13 H) fun x14=>
 bV (lnSl x14) fun x15=>
 jb 0 (loopK n (f123l0 D n) [x1,x12,x14,x15,(.int .i64 (.ofNat 0))] H) (f123b3 D n))
def h123:Hint:=(.s .o (.s .o (.s (.s .o (.b [1,3] (.l [1,3,14,15,16] (.s .o (.s (.cr .o .o) (.s (.b0 (.s .o .o)) .o)))))) (.s (.s .o (.b [3] (.l [3,27,28,29] (.s .o (.s (.cr .o .o) (.s (.b0 (.s .o .o)) .o)))))) (.s .o .o)))))
theorem f123_eq (D:Dyn)(n:Nat):f123 D n=funK (s123 D n) D n 123 Tryz.f123 h123:=by kernel_rfl
theorem f123_ok {D:Dyn}(hD:DG D)(n:Nat):FI 123 (f123 D n):=fun_ok X_ok hD (SOk.nil) Tryz.func123 (by kernel_rfl) (f123_eq D n)
def s108 (D:Dyn)(n:Nat):Tb:=⟨X,[]⟩
def f108 (D:Dyn)(n:Nat)(vs:List AV)(H:AH):Option (AV×AH):=
 outR (hd vs fun x0 vs=>nl vs <|
 bV (lnStr x0) fun x4=>
 bV (bInt .geq x4 (.int .i64 (.ofNat 1))) fun x5=>
 jn (wnt x5 true (bV (lnStr x0) fun x8=>
 bV (bInt .leq x8 (.int .i64 (.ofNat 40))) fun x9=>
 some (.norm [x9],H)) (some (.norm [undefA],H))) fun vs H=>hd vs fun x9_2 vs=>
 bV (pk3 (some x5) (some x9_2) (some (.bool false))) fun x10=>
 bV (some x10) fun x2=>some (.ret x2,H))
def h108:Hint:=(.s .o (.s .o .o))
theorem f108_eq (D:Dyn)(n:Nat):f108 D n=funK (s108 D n) D n 108 Tryz.f108 h108:=by kernel_rfl
theorem f108_ok {D:Dyn}(hD:DG D)(n:Nat):FI 108 (f108 D n):=fun_ok X_ok hD (SOk.nil) Tryz.func108 (by kernel_rfl) (f108_eq D n)
def s107 (D:Dyn)(n:Nat):Tb:=⟨X,[(108,f108 D n)]⟩
def f107l0 (D:Dyn)(n:Nat)(vs:List AV)(H:AH):Rs:=
 hd vs fun x1_2 vs=>hd vs fun x10_2 vs=>hd vs fun x11_2 vs=>hd vs fun x12 vs=>
 bV (bInt .lss x12 x11_2) fun x13=>
 cnd x13 (bV (ixSl 1 x10_2 x12) fun x15=>
 bV (ld1 x15 H) fun x16=>
 bR (f108 D n [x16] H) fun x18 H=>
 bV (aun .not x18) fun x19=>
 jn (wnt x19 false (bV (bInt .gtr x12 (.int .i64 (.ofNat 0))) fun x22=>
 some (.norm [x22],H)) (some (.norm [undefA],H))) fun vs H=>hd vs fun x23 vs=>
 jn (wnt x23 true (bV (fAd 1 x1_2) fun x24=>
 bV (ld1 x24 H) fun x25=>
 bV (bInt .sub x12 (.int .i64 (.ofNat 1))) fun x27=>
 bV (ixSl 1 x25 x27) fun x28=>
 bV (ld1 x28 H) fun x29=>
 bV (bStr .geq x29 x16) fun x31=>
 some (.norm [x31],H)) (some (.norm [undefA],H))) fun vs H=>hd vs fun x31_2 vs=>
 jn (wnt x19 false (bV (pk3 (some x23) (some x31_2) (some (.bool false))) fun x32=>
 some (.norm [x32],H)) (some (.norm [undefA],H))) fun vs H=>hd vs fun x32_2 vs=>
 bV (pk3 (some x19) (some (.bool true)) (some x32_2)) fun x33=>
 cnd x33 (bV (some (.bool false)) fun x2=>some (.ret x2,H))
 (bV (bInt .add x12 (.int .i64 (.ofNat 1))) fun x34=>
 some (.norm [x1_2,x10_2,x11_2,x34],H)))
 (some (.exit 0 [x1_2],H))
def f107l1 (D:Dyn)(n:Nat)(vs:List AV)(H:AH):Rs:=
 hd vs fun x51_2 vs=>hd vs fun x52_2 vs=>hd vs fun x53 vs=>
 bV (bInt .lss x53 x52_2) fun x54=>
 cnd x54 (bV (ixSl 1 x51_2 x53) fun x55=>
 bV (ld1 x55 H) fun x56=>
 bV (lnStr x56) fun x58=>
 bV (bInt .gtr x58 (.int .i64 (.ofNat 200))) fun x59=>
 cnd x59 (bV (some (.bool false)) fun x2_3=>some (.ret x2_3,H))
 (bV (bInt .add x53 (.int .i64 (.ofNat 1))) fun x60=>
 some (.norm [x51_2,x52_2,x60],H)))
 (some (.exit 2 [],H))
def f107b2 (D:Dyn)(n:Nat)(vs:List AV)(H:AH):Rs:=
 bV (some (.bool true)) fun x2_4=>some (.ret x2_4,H)
def f107l3 (D:Dyn)(n:Nat)(vs:List AV)(H:AH):Rs:=
 hd vs fun x82_2 vs=>hd vs fun x83_2 vs=>hd vs fun x84 vs=>
 bV (bInt .lss x84 x83_2) fun x85=>
 cnd x85 (bV (ixSl 3 x82_2 x84) fun x86=>
 bV (ldN 3 x86 H) fun x87=>
 bA (bxV 72 (.agg [(.int .i64 (.ofNat 0)),(.int .i64 (.ofNat 0)),(.int .u64 (.ofNat 0))])) H fun x8 H=>
 bR (stN 3 x8 x87 H) fun x9999 H=>
 bV (fAd 0 x8) fun x88=>
 bV (ld1 x88 H) fun x89=>
 bV (bInt .lss x89 (.int .i64 (.ofNat 1))) fun x90=>
 jn (wnt x90 false (bV (fAd 0 x8) fun x92=>
 bV (ld1 x92 H) fun x93=>
 bV (bInt .geq x93 (.int .i64 (.ofNat 8192))) fun x94=>
 some (.norm [x94],H)) (some (.norm [undefA],H))) fun vs H=>hd vs fun x94_2 vs=>
 bV (pk3 (some x90) (some (.bool true)) (some x94_2)) fun x95=>
 jn (wnt x95 false (bV (fAd 1 x8) fun x97=>
 bV (ld1 x97 H) fun x98=>
 bV (bInt .lss x98 (.int .i64 (.ofNat 0))) fun x99=>
 some (.norm [x99],H)) (some (.norm [undefA],H))) fun vs H=>hd vs fun x99_2 vs=>
 bV (pk3 (some x95) (some (.bool true)) (some x99_2)) fun x100=>
 jn (wnt x100 false (bV (fAd 1 x8) fun x102=>
 bV (ld1 x102 H) fun x103=>
 bV (bInt .gtr x103 (.int .i64 (.ofNat 2147483647))) fun x104=>
 some (.norm [x104],H)) (some (.norm [undefA],H))) fun vs H=>hd vs fun x104_2 vs=>
 bV (pk3 (some x100) (some (.bool true)) (some x104_2)) fun x105=>
 cnd x105 (bV (some (.bool false)) fun x2_6=>some (.ret x2_6,H))
 (bV (bInt .add x84 (.int .i64 (.ofNat 1))) fun x106=>
 some (.norm [x82_2,x83_2,x106],H)))
 (some (.exit 4 [],H))
def f107b4 (D:Dyn)(n:Nat)(vs:List AV)(H:AH):Rs:=
 bV (some (.bool true)) fun x2_7=>some (.ret x2_7,H)
def f107b5 (D:Dyn)(n:Nat)(vs:List AV)(H:AH):Rs:=
 hd vs fun x1_3 vs=>
 bV (fAd 0 x1_3) fun x35=>
 bV (ld1 x35 H) fun x36=>
 cnd x36 (bV (fAd 2 x1_3) fun x37=>
 bV (ld1 x37 H) fun x38=>
 bV (lnSl x38) fun x39=>
 bV (fAd 1 x1_3) fun x40=>
 bV (ld1 x40 H) fun x41=>
 bV (lnSl x41) fun x42=>
 bV (bInt .neq x39 x42) fun x43=>
 jn (wnt x43 false (bV (fAd 3 x1_3) fun x45=>
 bV (ld1 x45 H) fun x46=>
 bV (lnSl x46) fun x47=>
 bV (bInt .neq x47 (.int .i64 (.ofNat 0))) fun x48=>
 some (.norm [x48],H)) (some (.norm [undefA],H))) fun vs H=>hd vs fun x48_2 vs=>
 bV (pk3 (some x43) (some (.bool true)) (some x48_2)) fun x49=>
 cnd x49 (bV (some (.bool false)) fun x2_2=>some (.ret x2_2,H))
 (bV (fAd 2 x1_3) fun x50=>
 bV (ld1 x50 H) fun x51=>
 bV (lnSl x51) fun x52=>
 jb 2 (loopK n (f107l1 D n) [x51,x52,(.int .i64 (.ofNat 0))] H) (f107b2 D n)))
 (bV (fAd 1 x1_3) fun x61=>
 bV (ld1 x61 H) fun x62=>
 bV (lnSl x62) fun x63=>
 bV (bInt .eql x63 (.int .i64 (.ofNat 0))) fun x64=>
 jn (wnt x64 false (bV (fAd 2 x1_3) fun x66=>
 bV (ld1 x66 H) fun x67=>
 bV (lnSl x67) fun x68=>
 bV (bInt .neq x68 (.int .i64 (.ofNat 0))) fun x69=>
 some (.norm [x69],H)) (some (.norm [undefA],H))) fun vs H=>hd vs fun x69_2 vs=>
 bV (pk3 (some x64) (some (.bool true)) (some x69_2)) fun x70=>
 jn (wnt x70 false (bV (fAd 3 x1_3) fun x72=>
 bV (ld1 x72 H) fun x73=>
 bV (lnSl x73) fun x74=>
 bV (fAd 1 x1_3) fun x75=>
 bV (ld1 x75 H) fun x76=>
 bV (lnSl x76) fun x77=>
 bV (bInt .add x77 (.int .i64 (.ofNat 1))) fun x78=>
 bV (bInt .neq x74 x78) fun x79=>
 some (.norm [x79],H)) (some (.norm [undefA],H))) fun vs H=>hd vs fun x79_2 vs=>
 bV (pk3 (some x70) (some (.bool true)) (some x79_2)) fun x80=>
 cnd x80 (bV (some (.bool false)) fun x2_5=>some (.ret x2_5,H))
 (bV (fAd 3 x1_3) fun x81=>
 bV (ld1 x81 H) fun x82=>
 bV (lnSl x82) fun x83=>
 jb 4 (loopK n (f107l3 D n) [x82,x83,(.int .i64 (.ofNat 0))] H) (f107b4 D n)))
def f107 (D:Dyn)(n:Nat)(vs:List AV)(H:AH):Option (AV×AH):=
 outR (hd vs fun x0 vs=>nl vs <|
 bA (bxV 133 x0) H fun x1 H=>
 bV (fAd 1 x1) fun x9=>
 bV (ld1 x9 H) fun x10=>
 bV (lnSl x10) fun x11=>
 jb 0 (loopK n (f107l0 D n) [x1,x10,x11,(.int .i64 (.ofNat 0))] H) (f107b5 D n))
def h107:Hint:=(.s .o (.s (.s .o (.b [1] (.l [1,10,11,12] (.s .o (.s (.cr .o .o) (.s (.b0 (.s .o (.s .o (.cl (.s .o .o) .o)))) .o)))))) (.s (.s .o (.cl (.s (.s .o (.cl (.s .o .o) .o)) (.s (.s .o (.b [] (.l [51,52,53] (.s .o (.s (.cr .o .o) (.s (.b0 (.s .o (.s .o (.cl (.s .o .o) .o)))) .o)))))) (.s .o .o))) .o)) (.s (.s .o (.cl (.s .o .o) .o)) (.s (.s .o (.b [] (.l [82,83,84] (.s .o (.s (.cr .o .o) (.s (.b0 (.s .o (.s .o (.cl (.s .o .o) .o)))) .o)))))) (.s .o .o))))))
theorem f107_eq (D:Dyn)(n:Nat):f107 D n=funK (s107 D n) D n 107 Tryz.f107 h107:=by kernel_rfl
theorem f107_ok {D:Dyn}(hD:DG D)(n:Nat):FI 107 (f107 D n):=fun_ok X_ok hD (SOk.cons (f108_ok hD n).fs (SOk.nil)) Tryz.func107 (by kernel_rfl) (f107_eq D n)
def s183 (D:Dyn)(n:Nat):Tb:=⟨X,[(123,f123 D n)]⟩
def f183j0 (D:Dyn)(n:Nat)(vs:List AV)(H:AH):Rs:=
 hd vs fun x1_4 vs=>hd vs fun x3_3 vs=>hd vs fun x4_3 vs=>hd vs fun x5_3 vs=>hd vs fun x6 vs=>hd vs fun x20_2 vs=>hd vs fun x21_2 vs=>
 bV (bInt .gtr x6 (.int .i64 (.ofNat 0))) fun x47=>
 jn (wnt x47 true (bV (bInt .gtr x5_3 x3_3) fun x51=>
 some (.norm [x51],H)) (some (.norm [undefA],H))) fun vs H=>hd vs fun x51_2 vs=>
 bV (pk3 (some x47) (some x51_2) (some (.bool false))) fun x52=>
 cnd x52 (bV (some x6) fun x2=>some (.ret x2,H))
 (bV (bInt .add x21_2 (.int .i64 (.ofNat 1))) fun x54=>
 some (.norm [x1_4,x3_3,x4_3,x5_3,x20_2,x54],H))
def f183l1 (D:Dyn)(n:Nat)(vs:List AV)(H:AH):Rs:=
 hd vs fun x1_3 vs=>hd vs fun x3_2 vs=>hd vs fun x4_2 vs=>hd vs fun x5_2 vs=>hd vs fun x20 vs=>hd vs fun x21 vs=>
 bV (bInt .lss x21 x20) fun x22=>
 cnd x22 (bV (fAd 1 x1_3) fun x25=>
 bV (ld1 x25 H) fun x26=>
 bV (ixSl 1 x26 x21) fun x28=>
 bV (ld1 x28 H) fun x29=>
 bV (lnStr x29) fun x30=>
 bV (bInt .add (.int .i64 (.ofNat 1)) x30) fun x31=>
 bV (bInt .add x5_2 x31) fun x32=>
 bV (fAd 0 x1_3) fun x33=>
 bV (ld1 x33 H) fun x34=>
 jn (cnd x34 (bV (fAd 2 x1_3) fun x36=>
 bV (ld1 x36 H) fun x37=>
 bV (ixSl 1 x37 x21) fun x39=>
 bV (ld1 x39 H) fun x40=>
 bV (lnStr x40) fun x41=>
 bV (bInt .add (.int .i64 (.ofNat 1)) x41) fun x42=>
 bV (bInt .add x32 x42) fun x43=>
 some (.norm [x1_3,x3_2,x4_2,x43,x21,x20,x21],H))
 (bV (bInt .add x32 (.int .i64 (.ofNat 16))) fun x45=>
 some (.norm [x1_3,x3_2,x4_2,x45,x21,x20,x21],H))) (f183j0 D n))
 (some (.exit 0 [x4_2],H))
def f183b2 (D:Dyn)(n:Nat)(vs:List AV)(H:AH):Rs:=
 hd vs fun x4_4 vs=>
 bV (some x4_4) fun x2_2=>some (.ret x2_2,H)
def f183j3 (D:Dyn)(n:Nat)(vs:List AV)(H:AH):Rs:=
 hd vs fun x1_2 vs=>hd vs fun x3 vs=>hd vs fun x4 vs=>hd vs fun x5 vs=>
 jb 0 (loopK n (f183l1 D n) [x1_2,x3,x4,x5,x4,(.int .i64 (.ofNat 0))] H) (f183b2 D n)
def f183 (D:Dyn)(n:Nat)(vs:List AV)(H:AH):Option (AV×AH):=
 outR (hd vs fun x0 vs=>nl vs <|
 bA (bxV 133 x0) H fun x1 H=>
 bV (ldN 4 x1 H) fun x7=>
 bR (f123 D n [x7] H) fun x8 H=>
 bV (bInt .sub x8 (.int .i64 (.ofNat 2))) fun x9=>
 bV (bInt .quo x9 (.int .i64 (.ofNat 2))) fun x10=>
 bV (fAd 1 x1) fun x11=>
 bV (ld1 x11 H) fun x12=>
 bV (lnSl x12) fun x13=>
 bV (bInt .sub x13 (.int .i64 (.ofNat 1))) fun x14=>
 bV (fAd 0 x1) fun x15=>
 bV (ld1 x15 H) fun x16=>
 bV (aun .not x16) fun x17=>
 jn (cnd x17 (bV (bInt .sub x14 (.int .i64 (.ofNat 1))) fun x19=>
 some (.norm [x1,x10,x19,(.int .i64 (.ofNat 16))],H))
 (some (.norm [x1,x10,x14,(.int .i64 (.ofNat 0))],H))) (f183j3 D n))
def h183:Hint:=(.s .o (.s .o (.s .o (.s .o (.s (.s .o (.c [1,3,4,5] (.s .o .o) .o)) (.s (.s .o (.b [4] (.l [1,3,4,5,20,21] (.s .o (.s (.cr .o .o) (.s (.b0 (.s .o (.s .o (.s (.s .o (.c [1,3,4,5,6,20,21] .o .o)) (.s .o (.cl (.s .o .o) .o)))))) .o)))))) (.s .o .o)))))))
theorem f183_eq (D:Dyn)(n:Nat):f183 D n=funK (s183 D n) D n 183 Tryz.f183 h183:=by kernel_rfl
theorem f183_ok {D:Dyn}(hD:DG D)(n:Nat):FI 183 (f183 D n):=fun_ok X_ok hD (SOk.cons (f123_ok hD n).fs (SOk.nil)) Tryz.func183 (by kernel_rfl) (f183_eq D n)
def s109 (D:Dyn)(n:Nat):Tb:=⟨X,[]⟩
def f109 (D:Dyn)(n:Nat)(vs:List AV)(H:AH):Option (AV×AH):=
 outR (hd vs fun x0 vs=>nl vs <|
 bV (cmpO .eql (eqS x0 .nilSlice)) fun x4=>
 cnd x4 (bV (some .nilSlice) fun x2=>some (.ret x2,H))
 (bA (bldL 9 1 0 [(.str 0 0)] []) H fun x5 H=>
 bR (apP 9 1 16 x5 x0 H) fun x7 H=>
 bV (some x7) fun x2_2=>some (.ret x2_2,H)))
def h109:Hint:=(.s .o (.s (.s .o (.cl (.s .o .o) .o)) (.s .o .o)))
theorem f109_eq (D:Dyn)(n:Nat):f109 D n=funK (s109 D n) D n 109 Tryz.f109 h109:=by kernel_rfl
theorem f109_ok {D:Dyn}(hD:DG D)(n:Nat):FI 109 (f109 D n):=fun_ok X_ok hD (SOk.nil) Tryz.func109 (by kernel_rfl) (f109_eq D n)
def s77 (D:Dyn)(n:Nat):Tb:=⟨X,[]⟩
def f77 (D:Dyn)(n:Nat)(vs:List AV)(H:AH):Option (AV×AH):=
 outR (hd vs fun x0 vs=>nl vs <|
 bV (cmpO .eql (eqS x0 .nilSlice)) fun x4=>
 cnd x4 (bV (some .nilSlice) fun x2=>some (.ret x2,H))
 (bA (bldL 72 3 0 [(.int .i64 (.ofNat 0)),(.int .i64 (.ofNat 0)),(.int .u64 (.ofNat 0))] []) H fun x5 H=>
 bR (apP 72 3 24 x5 x0 H) fun x7 H=>
 bV (some x7) fun x2_2=>some (.ret x2_2,H)))
def h77:Hint:=(.s .o (.s (.s .o (.cl (.s .o .o) .o)) (.s .o .o)))
theorem f77_eq (D:Dyn)(n:Nat):f77 D n=funK (s77 D n) D n 77 Tryz.f77 h77:=by kernel_rfl
theorem f77_ok {D:Dyn}(hD:DG D)(n:Nat):FI 77 (f77 D n):=fun_ok X_ok hD (SOk.nil) Tryz.func77 (by kernel_rfl) (f77_eq D n)
def s167 (D:Dyn)(n:Nat):Tb:=⟨X,[(107,f107 D n),(183,f183 D n),(109,f109 D n),(77,f77 D n)]⟩
def f167j0 (D:Dyn)(n:Nat)(vs:List AV)(H:AH):Rs:=
 hd vs fun x1_2 vs=>hd vs fun x2_2 vs=>hd vs fun x4_2 vs=>hd vs fun x6 vs=>
 bV (ldN 4 x2_2 H) fun x88=>
 bV (fAd 1 x1_2) fun x89=>
 bV (ld1 x89 H) fun x90=>
 bV (ixSl 1 x90 x6) fun x92=>
 bV (ld1 x92 H) fun x93=>
 bV (ldN 4 x4_2 H) fun x94=>
 bR (stN 4 x2_2 x88 H) fun x9999_12 H=>chk (ld1 x89 H) x90 <| chk (ld1 x92 H) x93 <| chk (ldN 4 x4_2 H) x94 <|
 bR (stN 4 x4_2 x94 H) fun x9999_13 H=>
 bV (ldN 4 x2_2 H) fun x9002_2=>bV (some x93) fun x3_2=>bV (ldN 4 x4_2 H) fun x9004_2=>bV (some (.int .i64 (.ofNat 0))) fun x5_2=>some (.ret (.tuple [x9002_2,x3_2,x9004_2,x5_2]),H)
def f167 (D:Dyn)(n:Nat)(vs:List AV)(H:AH):Option (AV×AH):=
 outR (hd vs fun x0 vs=>nl vs <|
 bA (bxV 133 x0) H fun x1 H=>
 bA (bxV 133 (.agg [(.bool false), .nilSlice, .nilSlice, .nilSlice])) H fun x2 H=>
 bA (bxV 133 (.agg [(.bool false), .nilSlice, .nilSlice, .nilSlice])) H fun x4 H=>
 bV (ldN 4 x1 H) fun x7=>
 bR (f107 D n [x7] H) fun x8 H=>
 bV (aun .not x8) fun x9=>
 jn (wnt x9 false (bV (fAd 1 x1) fun x11=>
 bV (ld1 x11 H) fun x12=>
 bV (lnSl x12) fun x13=>
 bV (bInt .lss x13 (.int .i64 (.ofNat 2))) fun x14=>
 some (.norm [x14],H)) (some (.norm [undefA],H))) fun vs H=>hd vs fun x14_2 vs=>
 bV (pk3 (some x9) (some (.bool true)) (some x14_2)) fun x15=>
 jn (wnt x15 false (bV (fAd 0 x1) fun x17=>
 bV (ld1 x17 H) fun x18=>
 bV (aun .not x18) fun x19=>
 some (.norm [x19],H)) (some (.norm [undefA],H))) fun vs H=>hd vs fun x20 vs=>
 jn (wnt x20 true (bV (fAd 1 x1) fun x21=>
 bV (ld1 x21 H) fun x22=>
 bV (lnSl x22) fun x23=>
 bV (bInt .lss x23 (.int .i64 (.ofNat 3))) fun x24=>
 some (.norm [x24],H)) (some (.norm [undefA],H))) fun vs H=>hd vs fun x24_2 vs=>
 jn (wnt x15 false (bV (pk3 (some x20) (some x24_2) (some (.bool false))) fun x25=>
 some (.norm [x25],H)) (some (.norm [undefA],H))) fun vs H=>hd vs fun x25_2 vs=>
 bV (pk3 (some x15) (some (.bool true)) (some x25_2)) fun x26=>
 cnd x26 (bV (bldS [(0,1),(1,1),(2,1),(3,1)] [(.bool false), .nilSlice, .nilSlice, .nilSlice] []) fun x27=>
 bV (bldS [(0,1),(1,1),(2,1),(3,1)] [(.bool false), .nilSlice, .nilSlice, .nilSlice] []) fun x28=>
 bR (stN 4 x2 x27 H) fun x9999 H=>
 bR (stN 4 x4 x28 H) fun x9999_2 H=>
 bV (ldN 4 x2 H) fun x9002=>bV (some (.str 0 0)) fun x3=>bV (ldN 4 x4 H) fun x9004=>bV (some (.int .i64 (.ofNat 1))) fun x5=>some (.ret (.tuple [x9002,x3,x9004,x5]),H))
 (bV (ldN 4 x1 H) fun x29=>
 bR (f183 D n [x29] H) fun x30 H=>
 bV (fAd 0 x1) fun x31=>
 bV (ld1 x31 H) fun x32=>
 bV (fAd 0 x1) fun x33=>
 bV (ld1 x33 H) fun x34=>
 bV (fAd 0 x2) fun x35=>
 bR (stN 1 x35 x32 H) fun x9999_3 H=>chk (ld1 x33 H) x34 <|
 bV (fAd 0 x4) fun x36=>
 bR (stN 1 x36 x34 H) fun x9999_4 H=>
 bV (fAd 1 x1) fun x37=>
 bV (ld1 x37 H) fun x38=>
 bV (slSl 1 x38 none (some x30) (some x30) H) fun x41=>
 bR (f109 D n [x41] H) fun x42 H=>
 bV (fAd 1 x2) fun x43=>
 bR (stN 1 x43 x42 H) fun x9999_5 H=>
 bV (fAd 0 x1) fun x44=>
 bV (ld1 x44 H) fun x45=>
 jn (cnd x45 (bV (fAd 1 x1) fun x46=>
 bV (ld1 x46 H) fun x47=>
 bV (slSl 1 x47 (some x30) none none H) fun x49=>
 bR (f109 D n [x49] H) fun x50 H=>
 bV (fAd 1 x4) fun x51=>
 bR (stN 1 x51 x50 H) fun x9999_6 H=>
 bV (fAd 2 x1) fun x52=>
 bV (ld1 x52 H) fun x53=>
 bV (slSl 1 x53 none (some x30) (some x30) H) fun x56=>
 bV (fAd 2 x1) fun x58=>
 bV (ld1 x58 H) fun x59=>
 bV (slSl 1 x59 (some x30) none none H) fun x61=>
 bR (f109 D n [x56] H) fun x57 H=>chk (ld1 x58 H) x59 <| chk (slSl 1 x59 (some x30) none none H) x61 <|
 bV (fAd 2 x2) fun x63=>
 bR (f109 D n [x61] H) fun x62 H=>
 bR (stN 1 x63 x57 H) fun x9999_7 H=>
 bV (fAd 2 x4) fun x64=>
 bR (stN 1 x64 x62 H) fun x9999_8 H=>
 some (.norm [x1,x2,x4,x30],H))
 (bV (fAd 1 x1) fun x65=>
 bV (ld1 x65 H) fun x66=>
 bV (bInt .add x30 (.int .i64 (.ofNat 1))) fun x68=>
 bV (slSl 1 x66 (some x68) none none H) fun x69=>
 bR (f109 D n [x69] H) fun x70 H=>
 bV (fAd 1 x4) fun x71=>
 bR (stN 1 x71 x70 H) fun x9999_9 H=>
 bV (fAd 3 x1) fun x72=>
 bV (ld1 x72 H) fun x73=>
 bV (bInt .add x30 (.int .i64 (.ofNat 1))) fun x75=>
 bV (bInt .add x30 (.int .i64 (.ofNat 1))) fun x77=>
 bV (slSl 3 x73 none (some x75) (some x77) H) fun x78=>
 bV (fAd 3 x1) fun x80=>
 bV (ld1 x80 H) fun x81=>
 bV (bInt .add x30 (.int .i64 (.ofNat 1))) fun x83=>
 bV (slSl 3 x81 (some x83) none none H) fun x84=>
 bR (f77 D n [x78] H) fun x79 H=>chk (ld1 x80 H) x81 <| chk (slSl 3 x81 (some x83) none none H) x84 <|
 bV (fAd 3 x2) fun x86=>
 bR (f77 D n [x84] H) fun x85 H=>
 bR (stN 1 x86 x79 H) fun x9999_10 H=>
 bV (fAd 3 x4) fun x87=>
 bR (stN 1 x87 x85 H) fun x9999_11 H=>
 some (.norm [x1,x2,x4,x30],H))) (f167j0 D n)))
def h167:Hint:=(.s .o (.s (.s .o (.cl (.s .o .o) .o)) (.s .o (.s .o (.s .o (.s (.s .o (.c [1,2,4,6] (.s .o .o) (.s .o .o))) (.s .o .o)))))))
theorem f167_eq (D:Dyn)(n:Nat):f167 D n=funK (s167 D n) D n 167 Tryz.f167 h167:=by kernel_rfl
theorem f167_ok {D:Dyn}(hD:DG D)(n:Nat):FI 167 (f167 D n):=fun_ok X_ok hD (SOk.cons (f107_ok hD n).fs (SOk.cons (f183_ok hD n).fs (SOk.cons (f109_ok hD n).fs (SOk.cons (f77_ok hD n).fs (SOk.nil))))) Tryz.func167 (by kernel_rfl) (f167_eq D n)
def s139 (D:Dyn)(n:Nat):Tb:=⟨X,[(123,f123 D n),(167,f167 D n)]⟩
def f139l0 (D:Dyn)(n:Nat)(vs:List AV)(H:AH):Rs:=
 hd vs fun x1_2 vs=>hd vs fun x5 vs=>hd vs fun x6 vs=>
 bV (ldN 4 x1_2 H) fun x11=>
 bR (f123 D n [x11] H) fun x12 H=>
 bV (bInt .gtr x12 (.int .i64 (.ofNat 500))) fun x13=>
 cnd x13 (bV (ldN 4 x1_2 H) fun x15=>
 bR (f167 D n [x15] H) fun x16 H=>
 bV (pExtract x16 0) fun x17=>
 bV (pExtract x16 1) fun x18=>
 bV (pExtract x16 2) fun x19=>
 bV (pExtract x16 3) fun x20=>
 bA (bxV 133 (.agg [(.bool false), .nilSlice, .nilSlice, .nilSlice])) H fun x7 H=>
 bA (bxV 133 (.agg [(.bool false), .nilSlice, .nilSlice, .nilSlice])) H fun x9 H=>
 bR (stN 4 x7 x17 H) fun x9999 H=>
 bR (stN 4 x9 x19 H) fun x9999_2 H=>
 bV (bInt .neq x20 (.int .i64 (.ofNat 0))) fun x22=>
 cnd x22 (bV (some .nilSlice) fun x2=>bV (some .nilSlice) fun x3=>bV (some (.int .i64 (.ofNat 4))) fun x4=>some (.ret (.tuple [x2,x3,x4]),H))
 (bV (ldN 4 x7 H) fun x24=>
 bA (bldL 133 4 1 [(.bool false), .nilSlice, .nilSlice, .nilSlice] [(0,x24)]) H fun x25 H=>
 bR (apP 133 4 80 x5 x25 H) fun x26 H=>
 bA (bldL 9 1 1 [(.str 0 0)] [(0,x18)]) H fun x29 H=>
 bR (apP 9 1 16 x6 x29 H) fun x30 H=>
 bV (ldN 4 x9 H) fun x31=>
 bR (stN 4 x1_2 x31 H) fun x9999_3 H=>
 some (.norm [x1_2,x26,x30],H)))
 (some (.exit 0 [x1_2,x5,x6],H))
def f139b1 (D:Dyn)(n:Nat)(vs:List AV)(H:AH):Rs:=
 hd vs fun x1_3 vs=>hd vs fun x5_2 vs=>hd vs fun x6_2 vs=>
 bV (ldN 4 x1_3 H) fun x33=>
 bA (bldL 133 4 1 [(.bool false), .nilSlice, .nilSlice, .nilSlice] [(0,x33)]) H fun x34 H=>
 bR (apP 133 4 80 x5_2 x34 H) fun x35 H=>
 bV (some x35) fun x2_2=>bV (some x6_2) fun x3_2=>bV (some (.int .i64 (.ofNat 0))) fun x4_2=>some (.ret (.tuple [x2_2,x3_2,x4_2]),H)
def f139 (D:Dyn)(n:Nat)(vs:List AV)(H:AH):Option (AV×AH):=
 outR (hd vs fun x0 vs=>nl vs <|
 bA (bxV 133 x0) H fun x1 H=>
 jb 0 (loopK n (f139l0 D n) [x1, .nilSlice, .nilSlice] H) (f139b1 D n))
def h139:Hint:=(.s .o (.s .o (.s .o (.s (.b [1,5,6] (.l [1,5,6] (.s (.s .o (.cr .o .o)) (.b0 (.s .o (.s (.s .o (.cl (.s .o .o) .o)) (.s .o (.s .o .o)))))))) (.s .o .o)))))
theorem f139_eq (D:Dyn)(n:Nat):f139 D n=funK (s139 D n) D n 139 Tryz.f139 h139:=by kernel_rfl
theorem f139_ok {D:Dyn}(hD:DG D)(n:Nat):FI 139 (f139 D n):=fun_ok X_ok hD (SOk.cons (f123_ok hD n).fs (SOk.cons (f167_ok hD n).fs (SOk.nil))) Tryz.func139 (by kernel_rfl) (f139_eq D n)
def s141 (D:Dyn)(n:Nat):Tb:=⟨X,[(102,f102 D n)]⟩
def f141l0 (D:Dyn)(n:Nat)(vs:List AV)(H:AH):Rs:=
 hd vs fun x0_2 vs=>hd vs fun x5 vs=>hd vs fun x8 vs=>hd vs fun x9_2 vs=>hd vs fun x10 vs=>
 bV (bInt .lss x10 x9_2) fun x11=>
 cnd x11 (bV (ixSl 4 x8 x10) fun x12=>
 bV (ldN 4 x12 H) fun x13=>
 bA (bxV 133 (.agg [(.bool false), .nilSlice, .nilSlice, .nilSlice])) H fun x7 H=>
 bR (stN 4 x7 x13 H) fun x9999 H=>
 bV (ldN 4 x7 H) fun x16=>
 bR (f102 D n [x0_2,x16] H) fun x17 H=>
 bA (bldL 72 3 1 [(.int .i64 (.ofNat 0)),(.int .i64 (.ofNat 0)),(.int .u64 (.ofNat 0))] [(0,x17)]) H fun x18 H=>
 bR (apP 72 3 24 x5 x18 H) fun x19 H=>
 bV (bInt .add x10 (.int .i64 (.ofNat 1))) fun x20=>
 some (.norm [x0_2,x19,x8,x9_2,x20],H))
 (some (.exit 0 [x5],H))
def f141b1 (D:Dyn)(n:Nat)(vs:List AV)(H:AH):Rs:=
 hd vs fun x5_2 vs=>
 bV (some x5_2) fun x4=>some (.ret x4,H)
def f141 (D:Dyn)(n:Nat)(vs:List AV)(H:AH):Option (AV×AH):=
 outR (hd vs fun x0 vs=>hd vs fun x1 vs=>nl vs <|
 bV (lnSl x1) fun x9=>
 jb 0 (loopK n (f141l0 D n) [x0, .nilSlice,x1,x9,(.int .i64 (.ofNat 0))] H) (f141b1 D n))
def h141:Hint:=(.s .o (.s .o (.s (.s .o (.b [5] (.l [0,5,8,9,10] (.s .o (.s (.cr .o .o) (.s (.b0 (.s .o .o)) .o)))))) (.s .o .o))))
theorem f141_eq (D:Dyn)(n:Nat):f141 D n=funK (s141 D n) D n 141 Tryz.f141 h141:=by kernel_rfl
theorem f141_ok {D:Dyn}(hD:DG D)(n:Nat):FI 141 (f141 D n):=fun_ok X_ok hD (SOk.cons (f102_ok hD n).fs (SOk.nil)) Tryz.func141 (by kernel_rfl) (f141_eq D n)
def s106 (D:Dyn)(n:Nat):Tb:=⟨X,[(101,f101 D n),(139,f139 D n),(141,f141 D n),(102,f102 D n)]⟩
def f106j0 (D:Dyn)(n:Nat)(vs:List AV)(H:AH):Rs:=
 bV (some (.int .i64 (.ofNat 0))) fun x4=>some (.ret x4,H)
def f106j1 (D:Dyn)(n:Nat)(vs:List AV)(H:AH):Rs:=
 bV (some (.int .i64 (.ofNat 0))) fun x4_3=>some (.ret x4_3,H)
def f106 (D:Dyn)(n:Nat)(vs:List AV)(H:AH):Option (AV×AH):=
 outR (hd vs fun x0 vs=>hd vs fun x1 vs=>nl vs <|
 bA (bxV 133 x1) H fun x3 H=>
 bV (fAd 1 x3) fun x9=>
 bV (ld1 x9 H) fun x10=>
 bV (lnSl x10) fun x11=>
 bV (bInt .eql x11 (.int .i64 (.ofNat 0))) fun x12=>
 cnd x12 (bV (fAd 0 x3) fun x13=>
 bV (ld1 x13 H) fun x14=>
 jn (cnd x14 (bV (bldS [(0,1),(1,1),(2,1)] [(.int .i64 (.ofNat 0)),(.int .i64 (.ofNat 0)),(.int .u64 (.ofNat 0))] []) fun x16=>
 bR (f101 D n [x0,x16] H) fun x17 H=>
 some (.norm [],H))
 (bV (fAd 3 x3) fun x19=>
 bV (ld1 x19 H) fun x20=>
 bV (ixSl 3 x20 (.int .i64 (.ofNat 0))) fun x21=>
 bV (ldN 3 x21 H) fun x22=>
 bR (f101 D n [x0,x22] H) fun x23 H=>
 some (.norm [],H))) (f106j0 D n))
 (bV (ldN 4 x3 H) fun x25=>
 bR (f139 D n [x25] H) fun x26 H=>
 bV (pExtract x26 0) fun x27=>
 bV (pExtract x26 1) fun x28=>
 bV (pExtract x26 2) fun x29=>
 bV (bInt .neq x29 (.int .i64 (.ofNat 0))) fun x31=>
 cnd x31 (bV (some x29) fun x4_2=>some (.ret x4_2,H))
 (bR (f141 D n [x0,x27] H) fun x35 H=>
 bV (lnSl x35) fun x37=>
 bV (bInt .eql x37 (.int .i64 (.ofNat 1))) fun x38=>
 jn (cnd x38 (bV (ixSl 3 x35 (.int .i64 (.ofNat 0))) fun x41=>
 bV (ldN 3 x41 H) fun x42=>
 bR (f101 D n [x0,x42] H) fun x43 H=>
 some (.norm [],H))
 (bV (bldS [(0,1),(1,1),(2,1),(3,1)] [(.bool false), .nilSlice, .nilSlice, .nilSlice] [(1,x28),(3,x35)]) fun x48=>
 bR (f102 D n [x0,x48] H) fun x49 H=>
 bR (f101 D n [x0,x49] H) fun x50 H=>
 some (.norm [],H))) (f106j1 D n))))
def h106:Hint:=(.s .o (.s (.s .o (.cl (.s (.s .o (.c [] .o .o)) (.s .o .o)) .o)) (.s .o (.s (.s .o (.cl (.s .o .o) .o)) (.s .o (.s (.s .o (.c [] .o .o)) (.s .o .o)))))))
theorem f106_eq (D:Dyn)(n:Nat):f106 D n=funK (s106 D n) D n 106 Tryz.f106 h106:=by kernel_rfl
theorem f106_ok {D:Dyn}(hD:DG D)(n:Nat):FI 106 (f106 D n):=fun_ok X_ok hD (SOk.cons (f101_ok hD n).fs (SOk.cons (f139_ok hD n).fs (SOk.cons (f141_ok hD n).fs (SOk.cons (f102_ok hD n).fs (SOk.nil))))) Tryz.func106 (by kernel_rfl) (f106_eq D n)
def s68 (D:Dyn)(n:Nat):Tb:=⟨X,[]⟩
def f68 (D:Dyn)(n:Nat)(vs:List AV)(H:AH):Option (AV×AH):=
 outR (hd vs fun x0 vs=>nl vs <|
 bV (pNil x0) fun x4=>
 bV (fAd 5 x4) fun x5=>
 bV (ld1 x5 H) fun x6=>
 bV (lnMap x6 H) fun x7=>
 bV (bInt .add (.int .i64 (.ofNat 8192)) x7) fun x8=>
 bV (some x8) fun x2=>some (.ret x2,H))
def h68:Hint:=(.s .o (.s .o .o))
theorem f68_eq (D:Dyn)(n:Nat):f68 D n=funK (s68 D n) D n 68 Tryz.f68 h68:=by kernel_rfl
theorem f68_ok {D:Dyn}(hD:DG D)(n:Nat):FI 68 (f68 D n):=fun_ok X_ok hD (SOk.nil) Tryz.func68 (by kernel_rfl) (f68_eq D n)
def s136 (D:Dyn)(n:Nat):Tb:=⟨X,[]⟩
def f136 (D:Dyn)(n:Nat)(vs:List AV)(H:AH):Option (AV×AH):=
 outR (hd vs fun x0 vs=>nl vs <|
 bV (cmpO .eql (eqP x0 .nilPtr)) fun x4=>
 jn (wnt x4 false (bV (pNil x0) fun x7=>
 bV (fAd 13 x7) fun x8=>
 bV (ld1 x8 H) fun x9=>
 bV (bInt .lss x9 (.int .i64 (.ofNat 1))) fun x10=>
 some (.norm [x10],H)) (some (.norm [undefA],H))) fun vs H=>hd vs fun x10_2 vs=>
 bV (pk3 (some x4) (some (.bool true)) (some x10_2)) fun x11=>
 jn (wnt x11 false (bV (pNil x0) fun x14=>
 bV (fAd 0 x14) fun x15=>
 bV (fAd 12 x15) fun x16=>
 bV (ld1 x16 H) fun x17=>
 bV (cmpO .eql (eqM x17 .nilMap)) fun x18=>
 some (.norm [x18],H)) (some (.norm [undefA],H))) fun vs H=>hd vs fun x18_2 vs=>
 bV (pk3 (some x11) (some (.bool true)) (some x18_2)) fun x19=>
 bV (some x19) fun x2=>some (.ret x2,H))
def h136:Hint:=(.s .o (.s .o .o))
theorem f136_eq (D:Dyn)(n:Nat):f136 D n=funK (s136 D n) D n 136 Tryz.f136 h136:=by kernel_rfl
theorem f136_ok {D:Dyn}(hD:DG D)(n:Nat):FI 136 (f136 D n):=fun_ok X_ok hD (SOk.nil) Tryz.func136 (by kernel_rfl) (f136_eq D n)
def s162 (D:Dyn)(n:Nat):Tb:=⟨X,[]⟩
def f162 (D:Dyn)(n:Nat)(vs:List AV)(H:AH):Option (AV×AH):=
 outR (hd vs fun x0 vs=>hd vs fun x1 vs=>nl vs <|
 bV (pNil x0) fun x7=>
 bV (fAd 0 x7) fun x8=>
 bV (ixArr 4 3 x8 x1) fun x9=>
 bV (fAd 2 x9) fun x10=>
 bV (ld1 x10 H) fun x11=>
 bV (some x11) fun x4=>some (.ret x4,H))
def h162:Hint:=(.s .o (.s .o .o))
theorem f162_eq (D:Dyn)(n:Nat):f162 D n=funK (s162 D n) D n 162 Tryz.f162 h162:=by kernel_rfl
theorem f162_ok {D:Dyn}(hD:DG D)(n:Nat):FI 162 (f162 D n):=fun_ok X_ok hD (SOk.nil) Tryz.func162 (by kernel_rfl) (f162_eq D n)
def s164 (D:Dyn)(n:Nat):Tb:=⟨X,[]⟩
def f164j0 (D:Dyn)(n:Nat)(vs:List AV)(H:AH):Rs:=
 hd vs fun x1_3 vs=>hd vs fun x4_2 vs=>
 bV (pNil x1_3) fun x59=>
 bV (fAd 3 x59) fun x60=>
 bR (stN 1 x60 .nilPtr H) fun x9999_5 H=>
 bV (pNil x1_3) fun x61=>
 bV (fAd 4 x61) fun x62=>
 bR (stN 1 x62 .nilPtr H) fun x9999_6 H=>
 bV (pNil x4_2) fun x64=>
 bV (fAd 2 x64) fun x65=>
 bV (ld1 x65 H) fun x66=>
 bV (bInt .sub x66 (.int .i64 (.ofNat 1))) fun x67=>
 bV (pNil x4_2) fun x68=>
 bV (fAd 2 x68) fun x69=>
 bR (stN 1 x69 x67 H) fun x9999_7 H=>
 some (.ret (.tuple []),H)
def f164j1 (D:Dyn)(n:Nat)(vs:List AV)(H:AH):Rs:=
 hd vs fun x1_2 vs=>hd vs fun x4 vs=>
 bV (pNil x1_2) fun x36=>
 bV (fAd 4 x36) fun x37=>
 bV (ld1 x37 H) fun x38=>
 bV (cmpO .eql (eqP x38 .nilPtr)) fun x39=>
 jn (cnd x39 (bV (pNil x1_2) fun x42=>
 bV (fAd 3 x42) fun x43=>
 bV (ld1 x43 H) fun x44=>
 bV (pNil x4) fun x45=>
 bV (fAd 1 x45) fun x46=>
 bR (stN 1 x46 x44 H) fun x9999_3 H=>
 some (.norm [x1_2,x4],H))
 (bV (pNil x1_2) fun x48=>
 bV (fAd 4 x48) fun x49=>
 bV (ld1 x49 H) fun x50=>
 bV (pNil x1_2) fun x52=>
 bV (fAd 3 x52) fun x53=>
 bV (ld1 x53 H) fun x54=>
 bV (pNil x50) fun x55=>
 bV (fAd 3 x55) fun x56=>
 bR (stN 1 x56 x54 H) fun x9999_4 H=>
 some (.norm [x1_2,x4],H))) (f164j0 D n)
def f164 (D:Dyn)(n:Nat)(vs:List AV)(H:AH):Option (AV×AH):=
 outR (hd vs fun x0 vs=>hd vs fun x1 vs=>nl vs <|
 bV (pNil x1) fun x7=>
 bV (fAd 1 x7) fun x8=>
 bV (ld1 x8 H) fun x9=>
 bV (pNil x0) fun x10=>
 bV (fAd 0 x10) fun x11=>
 bV (ixArr 4 3 x11 x9) fun x12=>
 bV (pNil x1) fun x14=>
 bV (fAd 3 x14) fun x15=>
 bV (ld1 x15 H) fun x16=>
 bV (cmpO .eql (eqP x16 .nilPtr)) fun x17=>
 jn (cnd x17 (bV (pNil x1) fun x20=>
 bV (fAd 4 x20) fun x21=>
 bV (ld1 x21 H) fun x22=>
 bV (pNil x12) fun x23=>
 bV (fAd 0 x23) fun x24=>
 bR (stN 1 x24 x22 H) fun x9999 H=>
 some (.norm [x1,x12],H))
 (bV (pNil x1) fun x26=>
 bV (fAd 3 x26) fun x27=>
 bV (ld1 x27 H) fun x28=>
 bV (pNil x1) fun x30=>
 bV (fAd 4 x30) fun x31=>
 bV (ld1 x31 H) fun x32=>
 bV (pNil x28) fun x33=>
 bV (fAd 4 x33) fun x34=>
 bR (stN 1 x34 x32 H) fun x9999_2 H=>
 some (.norm [x1,x12],H))) (f164j1 D n))
def h164:Hint:=(.s .o (.s (.s .o (.c [1,4] .o .o)) (.s (.s .o (.c [1,4] .o .o)) (.s .o .o))))
theorem f164_eq (D:Dyn)(n:Nat):f164 D n=funK (s164 D n) D n 164 Tryz.f164 h164:=by kernel_rfl
theorem f164_ok {D:Dyn}(hD:DG D)(n:Nat):FI 164 (f164 D n):=fun_ok X_ok hD (SOk.nil) Tryz.func164 (by kernel_rfl) (f164_eq D n)
def s181 (D:Dyn)(n:Nat):Tb:=⟨X,[(164,f164 D n)]⟩
def f181 (D:Dyn)(n:Nat)(vs:List AV)(H:AH):Option (AV×AH):=
 outR (hd vs fun x0 vs=>hd vs fun x1 vs=>nl vs <|
 bV (pNil x0) fun x7=>
 bV (fAd 0 x7) fun x8=>
 bV (ixArr 4 3 x8 x1) fun x9=>
 bV (fAd 0 x9) fun x10=>
 bV (ld1 x10 H) fun x11=>
 bV (cmpO .eql (eqP x11 .nilPtr)) fun x13=>
 cnd x13 (some (.ret (.tuple []),H))
 (bR (f164 D n [x0,x11] H) fun x16 H=>
 bV (pNil x0) fun x18=>
 bV (fAd 12 x18) fun x19=>
 bV (ld1 x19 H) fun x20=>
 bV (pNil x11) fun x22=>
 bV (fAd 0 x22) fun x23=>
 bV (ld1 x23 H) fun x24=>
 bR (dlM [6] x20 x24 H) fun x9999 H=>
 some (.ret (.tuple []),H)))
def h181:Hint:=(.s .o (.s (.s .o (.cl .o .o)) (.s .o .o)))
theorem f181_eq (D:Dyn)(n:Nat):f181 D n=funK (s181 D n) D n 181 Tryz.f181 h181:=by kernel_rfl
theorem f181_ok {D:Dyn}(hD:DG D)(n:Nat):FI 181 (f181 D n):=fun_ok X_ok hD (SOk.cons (f164_ok hD n).fs (SOk.nil)) Tryz.func181 (by kernel_rfl) (f181_eq D n)
def s165 (D:Dyn)(n:Nat):Tb:=⟨X,[]⟩
def f165j0 (D:Dyn)(n:Nat)(vs:List AV)(H:AH):Rs:=
 hd vs fun x2_2 vs=>hd vs fun x6 vs=>
 bV (pNil x6) fun x44=>
 bV (fAd 1 x44) fun x45=>
 bR (stN 1 x45 x2_2 H) fun x9999_6 H=>
 bV (pNil x6) fun x47=>
 bV (fAd 2 x47) fun x48=>
 bV (ld1 x48 H) fun x49=>
 bV (bInt .add x49 (.int .i64 (.ofNat 1))) fun x50=>
 bV (pNil x6) fun x51=>
 bV (fAd 2 x51) fun x52=>
 bR (stN 1 x52 x50 H) fun x9999_7 H=>
 some (.ret (.tuple []),H)
def f165 (D:Dyn)(n:Nat)(vs:List AV)(H:AH):Option (AV×AH):=
 outR (hd vs fun x0 vs=>hd vs fun x1 vs=>hd vs fun x2 vs=>nl vs <|
 bV (pNil x0) fun x9=>
 bV (fAd 0 x9) fun x10=>
 bV (ixArr 4 3 x10 x1) fun x11=>
 bV (pNil x2) fun x14=>
 bV (fAd 1 x14) fun x15=>
 bR (stN 1 x15 x1 H) fun x9999 H=>
 bV (pNil x11) fun x19=>
 bV (fAd 1 x19) fun x20=>
 bV (ld1 x20 H) fun x21=>
 bV (pNil x2) fun x22=>
 bV (fAd 3 x22) fun x23=>
 bR (stN 1 x23 x21 H) fun x9999_2 H=>
 bV (pNil x2) fun x24=>
 bV (fAd 4 x24) fun x25=>
 bR (stN 1 x25 .nilPtr H) fun x9999_3 H=>
 bV (pNil x11) fun x27=>
 bV (fAd 1 x27) fun x28=>
 bV (ld1 x28 H) fun x29=>
 bV (cmpO .eql (eqP x29 .nilPtr)) fun x30=>
 jn (cnd x30 (bV (pNil x11) fun x33=>
 bV (fAd 0 x33) fun x34=>
 bR (stN 1 x34 x2 H) fun x9999_4 H=>
 some (.norm [x2,x11],H))
 (bV (pNil x11) fun x36=>
 bV (fAd 1 x36) fun x37=>
 bV (ld1 x37 H) fun x38=>
 bV (pNil x38) fun x40=>
 bV (fAd 4 x40) fun x41=>
 bR (stN 1 x41 x2 H) fun x9999_5 H=>
 some (.norm [x2,x11],H))) (f165j0 D n))
def h165:Hint:=(.s .o (.s .o (.s .o (.s (.s .o (.c [2,6] .o .o)) (.s .o .o)))))
theorem f165_eq (D:Dyn)(n:Nat):f165 D n=funK (s165 D n) D n 165 Tryz.f165 h165:=by kernel_rfl
theorem f165_ok {D:Dyn}(hD:DG D)(n:Nat):FI 165 (f165 D n):=fun_ok X_ok hD (SOk.nil) Tryz.func165 (by kernel_rfl) (f165_eq D n)
def s182 (D:Dyn)(n:Nat):Tb:=⟨X,[(164,f164 D n),(165,f165 D n)]⟩
def f182 (D:Dyn)(n:Nat)(vs:List AV)(H:AH):Option (AV×AH):=
 outR (hd vs fun x0 vs=>hd vs fun x1 vs=>hd vs fun x2 vs=>nl vs <|
 bV (pNil x0) fun x9=>
 bV (fAd 0 x9) fun x10=>
 bV (ixArr 4 3 x10 x1) fun x11=>
 bV (fAd 0 x11) fun x12=>
 bV (ld1 x12 H) fun x13=>
 bV (cmpO .eql (eqP x13 .nilPtr)) fun x15=>
 cnd x15 (some (.ret (.tuple []),H))
 (bR (f164 D n [x0,x13] H) fun x18 H=>
 bV (pNil x13) fun x20=>
 bV (fAd 2 x20) fun x21=>
 bR (stN 1 x21 .nilPtr H) fun x9999 H=>
 bR (f165 D n [x0,x2,x13] H) fun x25 H=>
 some (.ret (.tuple []),H)))
def h182:Hint:=(.s .o (.s (.s .o (.cl .o .o)) (.s .o (.s .o .o))))
theorem f182_eq (D:Dyn)(n:Nat):f182 D n=funK (s182 D n) D n 182 Tryz.f182 h182:=by kernel_rfl
theorem f182_ok {D:Dyn}(hD:DG D)(n:Nat):FI 182 (f182 D n):=fun_ok X_ok hD (SOk.cons (f164_ok hD n).fs (SOk.cons (f165_ok hD n).fs (SOk.nil))) Tryz.func182 (by kernel_rfl) (f182_eq D n)
def s163 (D:Dyn)(n:Nat):Tb:=⟨X,[(162,f162 D n),(182,f182 D n)]⟩
def f163 (D:Dyn)(n:Nat)(vs:List AV)(H:AH):Option (AV×AH):=
 outR (hd vs fun x0 vs=>hd vs fun x1 vs=>nl vs <|
 bV (pNil x0) fun x7=>
 bV (fAd 0 x7) fun x8=>
 bV (pNil x0) fun x11=>
 bV (fAd 0 x11) fun x12=>
 bR (f162 D n [x8,(.int .i64 (.ofNat 0))] H) fun x9 H=>
 bR (f162 D n [x12,(.int .i64 (.ofNat 1))] H) fun x13 H=>
 bV (bInt .add x9 x13) fun x16=>
 bV (pNil x0) fun x18=>
 bV (fAd 13 x18) fun x19=>
 bV (ld1 x19 H) fun x20=>
 bV (bInt .lss x16 x20) fun x21=>
 cnd x21 (some (.ret (.tuple []),H))
 (bV (bInt .gtr x9 (.int .i64 (.ofNat 0))) fun x23=>
 jn (wnt x23 true (bV (bInt .eql x13 (.int .i64 (.ofNat 0))) fun x26=>
 some (.norm [x26],H)) (some (.norm [undefA],H))) fun vs H=>hd vs fun x27 vs=>
 jn (wnt x27 false (bV (pNil x0) fun x30=>
 bV (fAd 14 x30) fun x31=>
 bV (ld1 x31 H) fun x32=>
 bV (bInt .gtr x9 x32) fun x33=>
 some (.norm [x33],H)) (some (.norm [undefA],H))) fun vs H=>hd vs fun x33_2 vs=>
 jn (wnt x23 true (bV (pk3 (some x27) (some (.bool true)) (some x33_2)) fun x34=>
 some (.norm [x34],H)) (some (.norm [undefA],H))) fun vs H=>hd vs fun x35 vs=>
 jn (wnt x35 false (some (.norm [x1],H)) (some (.norm [undefA],H))) fun vs H=>hd vs fun x37 vs=>
 jn (wnt x37 true (bV (pNil x0) fun x40=>
 bV (fAd 14 x40) fun x41=>
 bV (ld1 x41 H) fun x42=>
 bV (bInt .eql x9 x42) fun x43=>
 some (.norm [x43],H)) (some (.norm [undefA],H))) fun vs H=>hd vs fun x43_2 vs=>
 jn (wnt x35 false (bV (pk3 (some x37) (some x43_2) (some (.bool false))) fun x44=>
 some (.norm [x44],H)) (some (.norm [undefA],H))) fun vs H=>hd vs fun x44_2 vs=>
 jn (wnt x23 true (bV (pk3 (some x35) (some (.bool true)) (some x44_2)) fun x45=>
 some (.norm [x45],H)) (some (.norm [undefA],H))) fun vs H=>hd vs fun x45_2 vs=>
 bV (pk3 (some x23) (some x45_2) (some (.bool false))) fun x46=>
 cnd x46 (bV (pNil x0) fun x48=>
 bV (fAd 0 x48) fun x49=>
 bR (f182 D n [x49,(.int .i64 (.ofNat 0)),(.int .i64 (.ofNat 2))] H) fun x50 H=>
 some (.ret (.tuple []),H))
 (bV (pNil x0) fun x52=>
 bV (fAd 0 x52) fun x53=>
 bR (f182 D n [x53,(.int .i64 (.ofNat 1)),(.int .i64 (.ofNat 3))] H) fun x54 H=>
 some (.ret (.tuple []),H))))
def h163:Hint:=(.s .o (.s (.s .o (.cl .o .o)) (.s (.s .o (.cl (.s .o .o) .o)) .o)))
theorem f163_eq (D:Dyn)(n:Nat):f163 D n=funK (s163 D n) D n 163 Tryz.f163 h163:=by kernel_rfl
theorem f163_ok {D:Dyn}(hD:DG D)(n:Nat):FI 163 (f163 D n):=fun_ok X_ok hD (SOk.cons (f162_ok hD n).fs (SOk.cons (f182_ok hD n).fs (SOk.nil))) Tryz.func163 (by kernel_rfl) (f163_eq D n)
end Go.Eng.Sh
end
end
section
noncomputable section
namespace Go.Eng.Sh
open Go.Proofs
set_option maxRecDepth 100000
def s161 (D:Dyn)(n:Nat):Tb:=⟨X,[(162,f162 D n),(181,f181 D n),(163,f163 D n),(165,f165 D n)]⟩
def f161j0 (D:Dyn)(n:Nat)(vs:List AV)(H:AH):Rs:=
 hd vs fun x0_2 vs=>hd vs fun x1_2 vs=>hd vs fun x2_2 vs=>
 some (.norm [x0_2,x1_2,x2_2],H)
def f161j1 (D:Dyn)(n:Nat)(vs:List AV)(H:AH):Rs:=
 hd vs fun x0_3 vs=>hd vs fun x1_3 vs=>hd vs fun x2_3 vs=>
 bR (f163 D n [x0_3,(.bool false)] H) fun x79 H=>
 some (.norm [x0_3,x1_3,x2_3],H)
def f161j2 (D:Dyn)(n:Nat)(vs:List AV)(H:AH):Rs:=
 hd vs fun x0_4 vs=>hd vs fun x1_4 vs=>hd vs fun x2_4 vs=>
 some (.norm [x0_4,x1_4,x2_4],H)
def f161j3 (D:Dyn)(n:Nat)(vs:List AV)(H:AH):Rs:=
 hd vs fun x0_5 vs=>hd vs fun x1_5 vs=>hd vs fun x2_5 vs=>
 bV (bldS [(0,1),(1,1),(2,1),(3,1),(4,1)] [(.int .i64 (.ofNat 0)),(.int .i64 (.ofNat 0)), .nilPtr, .nilPtr, .nilPtr] [(0,x1_5),(2,x2_5)]) fun x82=>
 bA (bxV 273 x82) H fun x83 H=>
 bV (pNil x0_5) fun x85=>
 bV (fAd 0 x85) fun x86=>
 bV (fAd 12 x86) fun x87=>
 bV (ld1 x87 H) fun x88=>
 bR (upM [6] x88 x1_5 x83 H) fun x9999 H=>
 bV (pNil x0_5) fun x92=>
 bV (fAd 0 x92) fun x93=>
 bR (f165 D n [x93,(.int .i64 (.ofNat 0)),x83] H) fun x95 H=>
 some (.ret (.tuple []),H)
def f161 (D:Dyn)(n:Nat)(vs:List AV)(H:AH):Option (AV×AH):=
 outR (hd vs fun x0 vs=>hd vs fun x1 vs=>hd vs fun x2 vs=>nl vs <|
 bV (pNil x0) fun x13=>
 bV (fAd 0 x13) fun x14=>
 bV (pNil x0) fun x17=>
 bV (fAd 0 x17) fun x18=>
 bR (f162 D n [x14,(.int .i64 (.ofNat 0))] H) fun x15 H=>
 bR (f162 D n [x18,(.int .i64 (.ofNat 1))] H) fun x19 H=>
 bV (pNil x0) fun x21=>
 bV (fAd 0 x21) fun x22=>
 bV (pNil x0) fun x25=>
 bV (fAd 0 x25) fun x26=>
 bR (f162 D n [x22,(.int .i64 (.ofNat 2))] H) fun x23 H=>
 bR (f162 D n [x26,(.int .i64 (.ofNat 3))] H) fun x27 H=>
 bV (bInt .add x15 x19) fun x30=>
 bV (bInt .add x30 x23) fun x32=>
 bV (bInt .add x32 x27) fun x34=>
 bV (bInt .add x15 x23) fun x38=>
 bV (pNil x0) fun x40=>
 bV (fAd 13 x40) fun x41=>
 bV (ld1 x41 H) fun x42=>
 bV (bInt .geq x38 x42) fun x43=>
 jn (cnd x43 (bV (pNil x0) fun x46=>
 bV (fAd 13 x46) fun x47=>
 bV (ld1 x47 H) fun x48=>
 bV (bInt .lss x15 x48) fun x49=>
 jn (cnd x49 (bV (pNil x0) fun x51=>
 bV (fAd 0 x51) fun x52=>
 bR (f181 D n [x52,(.int .i64 (.ofNat 2))] H) fun x53 H=>
 bR (f163 D n [x0,(.bool false)] H) fun x55 H=>
 some (.norm [x0,x1,x2],H))
 (bV (pNil x0) fun x57=>
 bV (fAd 0 x57) fun x58=>
 bR (f181 D n [x58,(.int .i64 (.ofNat 0))] H) fun x59 H=>
 some (.norm [x0,x1,x2],H))) (f161j0 D n))
 (bV (pNil x0) fun x63=>
 bV (fAd 13 x63) fun x64=>
 bV (ld1 x64 H) fun x65=>
 bV (bInt .geq x34 x65) fun x66=>
 jn (cnd x66 (bV (pNil x0) fun x69=>
 bV (fAd 13 x69) fun x70=>
 bV (ld1 x70 H) fun x71=>
 bV (bInt .mul (.int .i64 (.ofNat 2)) x71) fun x72=>
 bV (bInt .geq x34 x72) fun x73=>
 jn (cnd x73 (bV (pNil x0) fun x75=>
 bV (fAd 0 x75) fun x76=>
 bR (f181 D n [x76,(.int .i64 (.ofNat 3))] H) fun x77 H=>
 some (.norm [x0,x1,x2],H))
 (some (.norm [x0,x1,x2],H))) (f161j1 D n))
 (some (.norm [x0,x1,x2],H))) (f161j2 D n))) (f161j3 D n))
def h161:Hint:=(.s .o (.s .o (.s (.s .o (.b0 (.s .o (.c [0,1,2] (.s .o (.c [0,1,2] (.s .o .o) .o)) (.s .o (.c [0,1,2] (.s (.s .o (.c [0,1,2] .o .o)) .o) .o)))))) (.s .o (.s .o .o)))))
theorem f161_eq (D:Dyn)(n:Nat):f161 D n=funK (s161 D n) D n 161 Tryz.f161 h161:=by kernel_rfl
theorem f161_ok {D:Dyn}(hD:DG D)(n:Nat):FI 161 (f161 D n):=fun_ok X_ok hD (SOk.cons (f162_ok hD n).fs (SOk.cons (f181_ok hD n).fs (SOk.cons (f163_ok hD n).fs (SOk.cons (f165_ok hD n).fs (SOk.nil))))) Tryz.func161 (by kernel_rfl) (f161_eq D n)
def s137 (D:Dyn)(n:Nat):Tb:=⟨X,[(161,f161 D n),(162,f162 D n),(163,f163 D n),(164,f164 D n),(165,f165 D n)]⟩
def f137j0 (D:Dyn)(n:Nat)(vs:List AV)(H:AH):Rs:=
 hd vs fun x0_2 vs=>hd vs fun x2_2 vs=>hd vs fun x6 vs=>
 some (.norm [x0_2,x2_2,x6],H)
def f137j1 (D:Dyn)(n:Nat)(vs:List AV)(H:AH):Rs:=
 hd vs fun x0_3 vs=>hd vs fun x2_3 vs=>hd vs fun x6_2 vs=>
 bV (pNil x0_3) fun x79=>
 bV (fAd 0 x79) fun x80=>
 bR (f164 D n [x80,x6_2] H) fun x82 H=>
 bV (pNil x6_2) fun x85=>
 bV (fAd 2 x85) fun x86=>
 bR (stN 1 x86 x2_3 H) fun x9999_3 H=>
 bV (pNil x0_3) fun x88=>
 bV (fAd 0 x88) fun x89=>
 bR (f165 D n [x89,(.int .i64 (.ofNat 1)),x6_2] H) fun x91 H=>
 some (.ret (.tuple []),H)
def f137 (D:Dyn)(n:Nat)(vs:List AV)(H:AH):Option (AV×AH):=
 outR (hd vs fun x0 vs=>hd vs fun x1 vs=>hd vs fun x2 vs=>nl vs <|
 bV (pNil x0) fun x10=>
 bV (fAd 0 x10) fun x11=>
 bV (fAd 12 x11) fun x12=>
 bV (ld1 x12 H) fun x13=>
 bV (lkM [6] .nilPtr false x13 x1 H) fun x15=>
 bV (cmpO .eql (eqP x15 .nilPtr)) fun x17=>
 cnd x17 (bR (f161 D n [x0,x1,x2] H) fun x21 H=>
 some (.ret (.tuple []),H))
 (bV (pNil x15) fun x23=>
 bV (fAd 1 x23) fun x24=>
 bV (ld1 x24 H) fun x25=>
 bV (bInt .eql x25 (.int .i64 (.ofNat 2))) fun x27=>
 jn (cnd x27 (bV (pNil x0) fun x29=>
 bV (fAd 0 x29) fun x30=>
 bV (pNil x0) fun x33=>
 bV (fAd 0 x33) fun x34=>
 bR (f162 D n [x30,(.int .i64 (.ofNat 3))] H) fun x31 H=>
 bR (f162 D n [x34,(.int .i64 (.ofNat 2))] H) fun x35 H=>
 bV (bInt .quo x31 x35) fun x36=>
 bV (mx2 (.int .i64 (.ofNat 1)) x36) fun x37=>
 bV (pNil x0) fun x40=>
 bV (fAd 13 x40) fun x41=>
 bV (ld1 x41 H) fun x42=>
 bV (pNil x0) fun x44=>
 bV (fAd 14 x44) fun x45=>
 bV (ld1 x45 H) fun x46=>
 bV (bInt .add x46 x37) fun x48=>
 bV (mn2 x42 x48) fun x49=>
 bV (pNil x0) fun x50=>
 bV (fAd 14 x50) fun x51=>
 bR (stN 1 x51 x49 H) fun x9999 H=>
 bR (f163 D n [x0,(.bool false)] H) fun x53 H=>
 some (.norm [x0,x2,x15],H))
 (bV (bInt .eql x25 (.int .i64 (.ofNat 3))) fun x55=>
 jn (cnd x55 (bV (pNil x0) fun x57=>
 bV (fAd 0 x57) fun x58=>
 bV (pNil x0) fun x61=>
 bV (fAd 0 x61) fun x62=>
 bR (f162 D n [x58,(.int .i64 (.ofNat 2))] H) fun x59 H=>
 bR (f162 D n [x62,(.int .i64 (.ofNat 3))] H) fun x63 H=>
 bV (bInt .quo x59 x63) fun x64=>
 bV (mx2 (.int .i64 (.ofNat 1)) x64) fun x65=>
 bV (pNil x0) fun x68=>
 bV (fAd 14 x68) fun x69=>
 bV (ld1 x69 H) fun x70=>
 bV (bInt .sub x70 x65) fun x72=>
 bV (mx2 (.int .i64 (.ofNat 0)) x72) fun x73=>
 bV (pNil x0) fun x74=>
 bV (fAd 14 x74) fun x75=>
 bR (stN 1 x75 x73 H) fun x9999_2 H=>
 bR (f163 D n [x0,(.bool true)] H) fun x77 H=>
 some (.norm [x0,x2,x15],H))
 (some (.norm [x0,x2,x15],H))) (f137j0 D n))) (f137j1 D n)))
def h137:Hint:=(.s .o (.s (.s .o (.cl (.s .o .o) .o)) (.s (.s .o (.b0 (.s .o (.c [0,2,6] (.s .o (.s .o .o)) (.s .o (.c [0,2,6] (.s .o (.s .o .o)) .o)))))) (.s .o (.s .o .o)))))
theorem f137_eq (D:Dyn)(n:Nat):f137 D n=funK (s137 D n) D n 137 Tryz.f137 h137:=by kernel_rfl
theorem f137_ok {D:Dyn}(hD:DG D)(n:Nat):FI 137 (f137 D n):=fun_ok X_ok hD (SOk.cons (f161_ok hD n).fs (SOk.cons (f162_ok hD n).fs (SOk.cons (f163_ok hD n).fs (SOk.cons (f164_ok hD n).fs (SOk.cons (f165_ok hD n).fs (SOk.nil)))))) Tryz.func137 (by kernel_rfl) (f137_eq D n)
def s145 (D:Dyn)(n:Nat):Tb:=⟨X,[(136,f136 D n),(137,f137 D n)]⟩
def f145 (D:Dyn)(n:Nat)(vs:List AV)(H:AH):Option (AV×AH):=
 outR (hd vs fun x0 vs=>hd vs fun x1 vs=>nl vs <|
 bA (bxV 83 (.agg (rep 512 [(.int .u8 (.ofNat 0))]))) H fun x4 H=>
 bR (f136 D n [x0] H) fun x8 H=>
 cnd x8 (bV (bldA 1 (rep 512 [(.int .u8 (.ofNat 0))]) []) fun x9=>
 bR (stN 512 x4 x9 H) fun x9999 H=>
 bV (ldN 512 x4 H) fun x9004=>bV (some (.int .i64 (.ofNat 2))) fun x5=>some (.ret (.tuple [x9004,x5]),H))
 (bV (pNil x0) fun x11=>
 bV (fAd 0 x11) fun x12=>
 bV (fAd 12 x12) fun x13=>
 bV (ld1 x13 H) fun x14=>
 bV (lkM [6] .nilPtr false x14 x1 H) fun x16=>
 bV (cmpO .eql (eqP x16 .nilPtr)) fun x18=>
 jn (wnt x18 false (bV (pNil x16) fun x21=>
 bV (fAd 2 x21) fun x22=>
 bV (ld1 x22 H) fun x23=>
 bV (cmpO .eql (eqP x23 .nilPtr)) fun x24=>
 some (.norm [x24],H)) (some (.norm [undefA],H))) fun vs H=>hd vs fun x24_2 vs=>
 bV (pk3 (some x18) (some (.bool true)) (some x24_2)) fun x25=>
 cnd x25 (bV (bldA 1 (rep 512 [(.int .u8 (.ofNat 0))]) []) fun x26=>
 bR (stN 512 x4 x26 H) fun x9999_2 H=>
 bV (ldN 512 x4 H) fun x9004_2=>bV (some (.int .i64 (.ofNat 5))) fun x5_2=>some (.ret (.tuple [x9004_2,x5_2]),H))
 (bV (pNil x16) fun x30=>
 bV (fAd 2 x30) fun x31=>
 bV (ld1 x31 H) fun x32=>
 bR (f137 D n [x0,x1,x32] H) fun x33 H=>
 bV (pNil x16) fun x35=>
 bV (fAd 2 x35) fun x36=>
 bV (ld1 x36 H) fun x37=>
 bV (pNil x37) fun x38=>
 bV (ldN 512 x38 H) fun x39=>
 bR (stN 512 x4 x39 H) fun x9999_3 H=>
 bV (ldN 512 x4 H) fun x9004_3=>bV (some (.int .i64 (.ofNat 0))) fun x5_3=>some (.ret (.tuple [x9004_3,x5_3]),H))))
def h145:Hint:=(.s .o (.s (.s .o (.cl (.s .o .o) .o)) (.s .o (.s (.s .o (.cl (.s .o .o) .o)) (.s .o (.s .o .o))))))
theorem f145_eq (D:Dyn)(n:Nat):f145 D n=funK (s145 D n) D n 145 Tryz.f145 h145:=by kernel_rfl
theorem f145_ok {D:Dyn}(hD:DG D)(n:Nat):FI 145 (f145 D n):=fun_ok X_ok hD (SOk.cons (f136_ok hD n).fs (SOk.cons (f137_ok hD n).fs (SOk.nil))) Tryz.func145 (by kernel_rfl) (f145_eq D n)
def s153 (D:Dyn)(n:Nat):Tb:=⟨X,[]⟩
def f153l0 (D:Dyn)(n:Nat)(vs:List AV)(H:AH):Rs:=
 hd vs fun x0_2 vs=>hd vs fun x1_2 vs=>hd vs fun x7_2 vs=>hd vs fun x8 vs=>
 bV (bInt .lss x8 x7_2) fun x9=>
 cnd x9 (bV (ixStr x1_2 x8) fun x14=>
 bV (cvI .u64 x14) fun x15=>
 bV (bInt .xor x0_2 x15) fun x16=>
 bV (bInt .mul x16 (.int .u64 (.ofNat 1099511628211))) fun x17=>
 bV (bInt .add x8 (.int .i64 (.ofNat 1))) fun x18=>
 some (.norm [x17,x1_2,x7_2,x18],H))
 (some (.exit 0 [x0_2],H))
def f153b1 (D:Dyn)(n:Nat)(vs:List AV)(H:AH):Rs:=
 hd vs fun x0_3 vs=>
 bV (some x0_3) fun x4=>some (.ret x4,H)
def f153 (D:Dyn)(n:Nat)(vs:List AV)(H:AH):Option (AV×AH):=
 outR (hd vs fun x0 vs=>hd vs fun x1 vs=>nl vs <|
 bV (lnStr x1) fun x7=>
 jb 0 (loopK n (f153l0 D n) [x0,x1,x7,(.int .i64 (.ofNat 0))] H) (f153b1 D n))
def h153:Hint:=(.s .o (.s (.s .o (.b [0] (.l [0,1,7,8] (.s .o (.s (.cr .o .o) (.s (.b0 (.s .o .o)) .o)))))) (.s .o .o)))
theorem f153_eq (D:Dyn)(n:Nat):f153 D n=funK (s153 D n) D n 153 Tryz.f153 h153:=by kernel_rfl
theorem f153_ok {D:Dyn}(hD:DG D)(n:Nat):FI 153 (f153 D n):=fun_ok X_ok hD (SOk.nil) Tryz.func153 (by kernel_rfl) (f153_eq D n)
def s124 (D:Dyn)(n:Nat):Tb:=⟨X,[(153,f153 D n)]⟩
def f124 (D:Dyn)(n:Nat)(vs:List AV)(H:AH):Option (AV×AH):=
 outR (hd vs fun x0 vs=>nl vs <|
 bR (f153 D n [(.int .u64 (.ofNat 14695981039346656037)),x0] H) fun x4 H=>
 bV (some x4) fun x2=>some (.ret x2,H))
def h124:Hint:=(.s .o (.s .o .o))
theorem f124_eq (D:Dyn)(n:Nat):f124 D n=funK (s124 D n) D n 124 Tryz.f124 h124:=by kernel_rfl
theorem f124_ok {D:Dyn}(hD:DG D)(n:Nat):FI 124 (f124 D n):=fun_ok X_ok hD (SOk.cons (f153_ok hD n).fs (SOk.nil)) Tryz.func124 (by kernel_rfl) (f124_eq D n)
def s170 (D:Dyn)(n:Nat):Tb:=⟨X,[(124,f124 D n)]⟩
def f170 (D:Dyn)(n:Nat)(vs:List AV)(H:AH):Option (AV×AH):=
 outR (hd vs fun x0 vs=>nl vs <|
 bA (bxV 83 x0) H fun x1 H=>
 bV (slArr 512 1 x1 none none none) fun x3=>
 bV (cvBS x3 H) fun x4=>
 bR (f124 D n [x4] H) fun x5 H=>
 bV (some x5) fun x2=>some (.ret x2,H))
def h170:Hint:=(.s .o (.s .o .o))
theorem f170_eq (D:Dyn)(n:Nat):f170 D n=funK (s170 D n) D n 170 Tryz.f170 h170:=by kernel_rfl
theorem f170_ok {D:Dyn}(hD:DG D)(n:Nat):FI 170 (f170 D n):=fun_ok X_ok hD (SOk.cons (f124_ok hD n).fs (SOk.nil)) Tryz.func170 (by kernel_rfl) (f170_eq D n)
def s185 (D:Dyn)(n:Nat):Tb:=⟨X,[]⟩
def f185l0 (D:Dyn)(n:Nat)(vs:List AV)(H:AH):Rs:=
 hd vs fun x3 vs=>hd vs fun x6 vs=>hd vs fun x7_2 vs=>hd vs fun x8 vs=>
 bV (bInt .lss x8 x7_2) fun x9=>
 cnd x9 (bV (ixSl 1 x6 x8) fun x10=>
 bV (ld1 x10 H) fun x11=>
 bV (bInt .shl x3 (.int .u64 (.ofNat 8))) fun x13=>
 bV (cvI .u64 x11) fun x15=>
 bV (bInt .or x13 x15) fun x16=>
 bV (bInt .add x8 (.int .i64 (.ofNat 1))) fun x17=>
 some (.norm [x16,x6,x7_2,x17],H))
 (some (.exit 0 [x3],H))
def f185b1 (D:Dyn)(n:Nat)(vs:List AV)(H:AH):Rs:=
 hd vs fun x3_2 vs=>
 bV (some x3_2) fun x2=>some (.ret x2,H)
def f185 (D:Dyn)(n:Nat)(vs:List AV)(H:AH):Option (AV×AH):=
 outR (hd vs fun x0 vs=>nl vs <|
 bV (lnSl x0) fun x7=>
 jb 0 (loopK n (f185l0 D n) [(.int .u64 (.ofNat 0)),x0,x7,(.int .i64 (.ofNat 0))] H) (f185b1 D n))
def h185:Hint:=(.s .o (.s .o (.s (.s .o (.b [3] (.l [3,6,7,8] (.s .o (.s (.cr .o .o) (.s (.b0 (.s .o .o)) .o)))))) (.s .o .o))))
theorem f185_eq (D:Dyn)(n:Nat):f185 D n=funK (s185 D n) D n 185 Tryz.f185 h185:=by kernel_rfl
theorem f185_ok {D:Dyn}(hD:DG D)(n:Nat):FI 185 (f185 D n):=fun_ok X_ok hD (SOk.nil) Tryz.func185 (by kernel_rfl) (f185_eq D n)
def s134 (D:Dyn)(n:Nat):Tb:=⟨X,[(119,f119 D n)]⟩
def f134 (D:Dyn)(n:Nat)(vs:List AV)(H:AH):Option (AV×AH):=
 outR (hd vs fun x0 vs=>hd vs fun x1 vs=>hd vs fun x2 vs=>nl vs <|
 bA (bxV 83 (.agg (rep 512 [(.int .u8 (.ofNat 0))]))) H fun x6 H=>
 bV (bInt .lss x1 (.int .i64 (.ofNat 0))) fun x10=>
 jn (wnt x10 false (bV (bInt .gtr x1 (.int .i64 (.ofNat 2147483647))) fun x13=>
 some (.norm [x13],H)) (some (.norm [undefA],H))) fun vs H=>hd vs fun x13_2 vs=>
 bV (pk3 (some x10) (some (.bool true)) (some x13_2)) fun x14=>
 cnd x14 (bV (bldA 1 (rep 512 [(.int .u8 (.ofNat 0))]) []) fun x15=>
 bR (stN 512 x6 x15 H) fun x9999 H=>
 bV (ldN 512 x6 H) fun x9006=>bV (some (.int .i64 (.ofNat 1))) fun x7=>some (.ret (.tuple [x9006,x7]),H))
 (bV (lnStr x2) fun x17=>
 bV (bInt .gtr x17 (.int .i64 (.ofNat 500))) fun x18=>
 cnd x18 (bV (bldA 1 (rep 512 [(.int .u8 (.ofNat 0))]) []) fun x19=>
 bR (stN 512 x6 x19 H) fun x9999_2 H=>
 bV (ldN 512 x6 H) fun x9006_2=>bV (some (.int .i64 (.ofNat 40))) fun x7_2=>some (.ret (.tuple [x9006_2,x7_2]),H))
 (bA (bxV 83 (.agg (rep 512 [(.int .u8 (.ofNat 0))]))) H fun x8 H=>
 bV (slArr 512 1 x8 none none none) fun x20=>
 bR (cpy 1 x20 (.str 4 2037675114) H) fun x21 H=>
 bV (ixArr 512 1 x8 (.int .i64 (.ofNat 4))) fun x23=>
 bR (stN 1 x23 x0 H) fun x9999_3 H=>
 bV (slArr 512 1 x8 (some (.int .i64 (.ofNat 6))) (some (.int .i64 (.ofNat 8))) none) fun x24=>
 bV (lnStr x2) fun x26=>
 bV (cvI .u64 x26) fun x27=>
 bR (f119 D n [x24,x27] H) fun x28 H=>
 bV (slArr 512 1 x8 (some (.int .i64 (.ofNat 8))) (some (.int .i64 (.ofNat 12))) none) fun x29=>
 bV (cvI .u64 x1) fun x31=>
 bR (f119 D n [x29,x31] H) fun x32 H=>
 bV (slArr 512 1 x8 (some (.int .i64 (.ofNat 12))) none none) fun x33=>
 bR (cpy 1 x33 x2 H) fun x35 H=>
 bV (ldN 512 x8 H) fun x36=>
 bR (stN 512 x6 x36 H) fun x9999_4 H=>
 bV (ldN 512 x6 H) fun x9006_3=>bV (some (.int .i64 (.ofNat 0))) fun x7_3=>some (.ret (.tuple [x9006_3,x7_3]),H))))
def h134:Hint:=(.s .o (.s (.s .o (.cl (.s .o .o) .o)) (.s (.s .o (.cl (.s .o .o) .o)) (.s .o (.s .o (.s .o (.s .o (.s .o (.s .o (.s .o .o))))))))))
theorem f134_eq (D:Dyn)(n:Nat):f134 D n=funK (s134 D n) D n 134 Tryz.f134 h134:=by kernel_rfl
theorem f134_ok {D:Dyn}(hD:DG D)(n:Nat):FI 134 (f134 D n):=fun_ok X_ok hD (SOk.cons (f119_ok hD n).fs (SOk.nil)) Tryz.func134 (by kernel_rfl) (f134_eq D n)
def s171 (D:Dyn)(n:Nat):Tb:=⟨X,[(185,f185 D n),(134,f134 D n)]⟩
def f171 (D:Dyn)(n:Nat)(vs:List AV)(H:AH):Option (AV×AH):=
 outR (hd vs fun x0 vs=>nl vs <|
 bA (bxV 83 x0) H fun x1 H=>
 bV (slArr 512 1 x1 (some (.int .i64 (.ofNat 6))) (some (.int .i64 (.ofNat 8))) none) fun x8=>
 bR (f185 D n [x8] H) fun x9 H=>
 bV (bInt .gtr x9 (.int .u64 (.ofNat 500))) fun x11=>
 cnd x11 (bV (some (.int .u8 (.ofNat 0))) fun x2=>bV (some (.int .i64 (.ofNat 0))) fun x3=>bV (some (.str 0 0)) fun x4=>bV (some (.int .i64 (.ofNat 4))) fun x5=>some (.ret (.tuple [x2,x3,x4,x5]),H))
 (bV (ixArr 512 1 x1 (.int .i64 (.ofNat 4))) fun x12=>
 bV (ld1 x12 H) fun x13=>
 bV (slArr 512 1 x1 (some (.int .i64 (.ofNat 8))) (some (.int .i64 (.ofNat 12))) none) fun x14=>
 bR (f185 D n [x14] H) fun x15 H=>
 bV (cvI .i64 x15) fun x16=>
 bV (bInt .add (.int .u64 (.ofNat 12)) x9) fun x18=>
 bV (slArr 512 1 x1 (some (.int .i64 (.ofNat 12))) (some x18) none) fun x19=>
 bV (cvBS x19 H) fun x20=>
 bR (f134 D n [x13,x16,x20] H) fun x25 H=>
 bV (pExtract x25 0) fun x26=>
 bV (pExtract x25 1) fun x27=>
 bA (bxV 83 (.agg (rep 512 [(.int .u8 (.ofNat 0))]))) H fun x7 H=>
 bR (stN 512 x7 x26 H) fun x9999 H=>
 bV (bInt .neq x27 (.int .i64 (.ofNat 0))) fun x29=>
 jn (wnt x29 false (bV (ldN 512 x7 H) fun x31=>
 bV (ldN 512 x1 H) fun x32=>
 bV (cmpO .neq (eqA (List.replicate 512 7) x31 x32)) fun x33=>
 some (.norm [x33],H)) (some (.norm [undefA],H))) fun vs H=>hd vs fun x33_2 vs=>
 bV (pk3 (some x29) (some (.bool true)) (some x33_2)) fun x34=>
 cnd x34 (bV (some (.int .u8 (.ofNat 0))) fun x2_2=>bV (some (.int .i64 (.ofNat 0))) fun x3_2=>bV (some (.str 0 0)) fun x4_2=>bV (some (.int .i64 (.ofNat 4))) fun x5_2=>some (.ret (.tuple [x2_2,x3_2,x4_2,x5_2]),H))
 (bV (some x13) fun x2_3=>bV (some x16) fun x3_3=>bV (some x20) fun x4_3=>bV (some (.int .i64 (.ofNat 0))) fun x5_3=>some (.ret (.tuple [x2_3,x3_3,x4_3,x5_3]),H))))
def h171:Hint:=(.s .o (.s .o (.s (.s .o (.cl (.s .o .o) .o)) (.s .o (.s .o (.s .o (.s .o (.s (.s .o (.cl (.s .o .o) .o)) (.s .o .o)))))))))
theorem f171_eq (D:Dyn)(n:Nat):f171 D n=funK (s171 D n) D n 171 Tryz.f171 h171:=by kernel_rfl
theorem f171_ok {D:Dyn}(hD:DG D)(n:Nat):FI 171 (f171 D n):=fun_ok X_ok hD (SOk.cons (f185_ok hD n).fs (SOk.cons (f134_ok hD n).fs (SOk.nil))) Tryz.func171 (by kernel_rfl) (f171_eq D n)
def s146 (D:Dyn)(n:Nat):Tb:=⟨X,[(170,f170 D n),(171,f171 D n)]⟩
def f146 (D:Dyn)(n:Nat)(vs:List AV)(H:AH):Option (AV×AH):=
 outR (hd vs fun x0 vs=>hd vs fun x1 vs=>nl vs <|
 bA (bxV 72 x0) H fun x2 H=>
 bA (bxV 83 x1) H fun x3 H=>
 bV (fAd 0 x2) fun x8=>
 bV (ld1 x8 H) fun x9=>
 bV (bInt .eql x9 (.int .i64 (.ofNat 0))) fun x10=>
 jn (wnt x10 false (bV (ldN 512 x3 H) fun x12=>
 bV (fAd 2 x2) fun x14=>
 bV (ld1 x14 H) fun x15=>
 bR (f170 D n [x12] H) fun x13 H=>chk (ld1 x14 H) x15 <|
 bV (bInt .neq x13 x15) fun x16=>
 some (.norm [x16],H)) (some (.norm [undefA],H))) fun vs H=>hd vs fun x16_2 vs=>
 bV (pk3 (some x10) (some (.bool true)) (some x16_2)) fun x17=>
 cnd x17 (bV (some (.int .u8 (.ofNat 0))) fun x4=>bV (some (.str 0 0)) fun x5=>bV (some (.int .i64 (.ofNat 52))) fun x6=>some (.ret (.tuple [x4,x5,x6]),H))
 (bV (ldN 512 x3 H) fun x19=>
 bR (f171 D n [x19] H) fun x20 H=>
 bV (pExtract x20 0) fun x21=>
 bV (pExtract x20 1) fun x22=>
 bV (pExtract x20 2) fun x23=>
 bV (pExtract x20 3) fun x24=>
 bV (bInt .neq x24 (.int .i64 (.ofNat 0))) fun x26=>
 cnd x26 (bV (some (.int .u8 (.ofNat 0))) fun x4_2=>bV (some (.str 0 0)) fun x5_2=>bV (some x24) fun x6_2=>some (.ret (.tuple [x4_2,x5_2,x6_2]),H))
 (bV (fAd 1 x2) fun x29=>
 bV (ld1 x29 H) fun x30=>
 bV (bInt .neq x22 x30) fun x31=>
 cnd x31 (bV (some (.int .u8 (.ofNat 0))) fun x4_3=>bV (some (.str 0 0)) fun x5_3=>bV (some (.int .i64 (.ofNat 52))) fun x6_3=>some (.ret (.tuple [x4_3,x5_3,x6_3]),H))
 (bV (some x21) fun x4_4=>bV (some x23) fun x5_4=>bV (some (.int .i64 (.ofNat 0))) fun x6_4=>some (.ret (.tuple [x4_4,x5_4,x6_4]),H)))))
def h146:Hint:=(.s .o (.s (.s .o (.cl (.s .o .o) .o)) (.s .o (.s (.s .o (.cl (.s .o .o) .o)) (.s (.s .o (.cl (.s .o .o) .o)) (.s .o .o))))))
theorem f146_eq (D:Dyn)(n:Nat):f146 D n=funK (s146 D n) D n 146 Tryz.f146 h146:=by kernel_rfl
theorem f146_ok {D:Dyn}(hD:DG D)(n:Nat):FI 146 (f146 D n):=fun_ok X_ok hD (SOk.cons (f170_ok hD n).fs (SOk.cons (f171_ok hD n).fs (SOk.nil))) Tryz.func146 (by kernel_rfl) (f146_eq D n)
def s121 (D:Dyn)(n:Nat):Tb:=⟨X,[]⟩
def f121 (D:Dyn)(n:Nat)(vs:List AV)(H:AH):Option (AV×AH):=
 outR (hd vs fun x0 vs=>nl vs <|
 bV (cmpO .eql (eqP x0 .nilPtr)) fun x4=>
 cnd x4 (bV (some (.int .i64 (.ofNat 2))) fun x2=>some (.ret x2,H))
 (bV (pNil x0) fun x6=>
 bV (fAd 6 x6) fun x7=>
 bV (ld1 x7 H) fun x8=>
 cnd x8 (bV (some (.int .i64 (.ofNat 51))) fun x2_2=>some (.ret x2_2,H))
 (bV (some (.int .i64 (.ofNat 0))) fun x2_3=>some (.ret x2_3,H))))
def h121:Hint:=(.s .o (.s (.s .o (.cl (.s .o .o) .o)) (.s (.s .o (.cl (.s .o .o) .o)) (.s .o .o))))
theorem f121_eq (D:Dyn)(n:Nat):f121 D n=funK (s121 D n) D n 121 Tryz.f121 h121:=by kernel_rfl
theorem f121_ok {D:Dyn}(hD:DG D)(n:Nat):FI 121 (f121 D n):=fun_ok X_ok hD (SOk.nil) Tryz.func121 (by kernel_rfl) (f121_eq D n)
def s78 (D:Dyn)(n:Nat):Tb:=⟨X,[(121,f121 D n)]⟩
def f78 (D:Dyn)(n:Nat)(vs:List AV)(H:AH):Option (AV×AH):=
 outR (hd vs fun x0 vs=>hd vs fun x1 vs=>nl vs <|
 bR (f121 D n [x0] H) fun x7 H=>
 bV (bInt .neq x7 (.int .i64 (.ofNat 0))) fun x9=>
 cnd x9 (bV (some x7) fun x4=>some (.ret x4,H))
 (bV (bInt .lss x1 (.int .i64 (.ofNat 0))) fun x12=>
 jn (wnt x12 false (bV (pNil x0) fun x16=>
 bV (fAd 0 x16) fun x17=>
 bV (ld1 x17 H) fun x18=>
 bV (bInt .geq x1 x18) fun x19=>
 some (.norm [x19],H)) (some (.norm [undefA],H))) fun vs H=>hd vs fun x19_2 vs=>
 bV (pk3 (some x12) (some (.bool true)) (some x19_2)) fun x20=>
 cnd x20 (bV (some (.int .i64 (.ofNat 1))) fun x4_2=>some (.ret x4_2,H))
 (bV (some (.int .i64 (.ofNat 0))) fun x4_3=>some (.ret x4_3,H))))
def h78:Hint:=(.s .o (.s (.s .o (.s .o (.cl (.s .o .o) .o))) (.s (.s .o (.cl (.s .o .o) .o)) (.s .o .o))))
theorem f78_eq (D:Dyn)(n:Nat):f78 D n=funK (s78 D n) D n 78 Tryz.f78 h78:=by kernel_rfl
theorem f78_ok {D:Dyn}(hD:DG D)(n:Nat):FI 78 (f78 D n):=fun_ok X_ok hD (SOk.cons (f121_ok hD n).fs (SOk.nil)) Tryz.func78 (by kernel_rfl) (f78_eq D n)
def s38 (D:Dyn)(n:Nat):Tb:=⟨X,[(78,f78 D n)]⟩
def f38 (D:Dyn)(n:Nat)(vs:List AV)(H:AH):Option (AV×AH):=
 outR (hd vs fun x0 vs=>hd vs fun x1 vs=>nl vs <|
 bA (bxV 83 (.agg (rep 512 [(.int .u8 (.ofNat 0))]))) H fun x4 H=>
 bR (f78 D n [x0,x1] H) fun x11 H=>
 bV (bInt .neq x11 (.int .i64 (.ofNat 0))) fun x13=>
 cnd x13 (bV (bldA 1 (rep 512 [(.int .u8 (.ofNat 0))]) []) fun x14=>
 bR (stN 512 x4 x14 H) fun x9999 H=>
 bV (ldN 512 x4 H) fun x9004=>bV (some x11) fun x5=>some (.ret (.tuple [x9004,x5]),H))
 (bV (pNil x0) fun x18=>
 bV (fAd 3 x18) fun x19=>
 bV (ld1 x19 H) fun x20=>
 bV (lkM [6] (.int .i64 (.ofNat 0)) true x20 x1 H) fun x22=>
 bV (pExtract x22 0) fun x23=>
 bV (pExtract x22 1) fun x24=>
 cnd x24 (bV (pNil x0) fun x27=>
 bV (fAd 2 x27) fun x28=>
 bV (ld1 x28 H) fun x29=>
 bV (ixSl 513 x29 x23) fun x31=>
 bV (fAd 1 x31) fun x32=>
 bV (ldN 512 x32 H) fun x33=>
 bR (stN 512 x4 x33 H) fun x9999_2 H=>
 bV (ldN 512 x4 H) fun x9004_2=>bV (some (.int .i64 (.ofNat 0))) fun x5_2=>some (.ret (.tuple [x9004_2,x5_2]),H))
 (bV (pNil x0) fun x35=>
 bV (fAd 1 x35) fun x36=>
 bV (ld1 x36 H) fun x37=>
 bV (lkM [6] (.agg (rep 512 [(.int .u8 (.ofNat 0))])) false x37 x1 H) fun x39=>
 bR (stN 512 x4 x39 H) fun x9999_3 H=>
 bV (ldN 512 x4 H) fun x9004_3=>bV (some (.int .i64 (.ofNat 0))) fun x5_3=>some (.ret (.tuple [x9004_3,x5_3]),H))))
def h38:Hint:=(.s .o (.s (.s .o (.s .o (.cl (.s .o .o) .o))) (.s (.s .o (.s .o (.cl (.s .o .o) .o))) (.s .o .o))))
theorem f38_eq (D:Dyn)(n:Nat):f38 D n=funK (s38 D n) D n 38 Tryz.f38 h38:=by kernel_rfl
theorem f38_ok {D:Dyn}(hD:DG D)(n:Nat):FI 38 (f38 D n):=fun_ok X_ok hD (SOk.cons (f78_ok hD n).fs (SOk.nil)) Tryz.func38 (by kernel_rfl) (f38_eq D n)
def s100 (D:Dyn)(n:Nat):Tb:=⟨X,[(136,f136 D n),(137,f137 D n)]⟩
def f100 (D:Dyn)(n:Nat)(vs:List AV)(H:AH):Option (AV×AH):=
 outR (hd vs fun x0 vs=>hd vs fun x1 vs=>hd vs fun x2 vs=>nl vs <|
 bA (bxV 83 x2) H fun x5 H=>
 bR (f136 D n [x0] H) fun x8 H=>
 cnd x8 (bV (some (.int .i64 (.ofNat 2))) fun x6=>some (.ret x6,H))
 (bR (f137 D n [x0,x1,x5] H) fun x11 H=>
 bV (some (.int .i64 (.ofNat 0))) fun x6_2=>some (.ret x6_2,H)))
def h100:Hint:=(.s .o (.s (.s .o (.cl (.s .o .o) .o)) (.s .o (.s .o .o))))
theorem f100_eq (D:Dyn)(n:Nat):f100 D n=funK (s100 D n) D n 100 Tryz.f100 h100:=by kernel_rfl
theorem f100_ok {D:Dyn}(hD:DG D)(n:Nat):FI 100 (f100 D n):=fun_ok X_ok hD (SOk.cons (f136_ok hD n).fs (SOk.cons (f137_ok hD n).fs (SOk.nil))) Tryz.func100 (by kernel_rfl) (f100_eq D n)
def s112 (D:Dyn)(n:Nat):Tb:=⟨X,[(145,f145 D n),(146,f146 D n),(38,f38 D n),(100,f100 D n)]⟩
def f112j0 (D:Dyn)(n:Nat)(vs:List AV)(H:AH):Rs:=
 hd vs fun x0_2 vs=>hd vs fun x3_2 vs=>
 some (.norm [x0_2,x3_2],H)
def f112j1 (D:Dyn)(n:Nat)(vs:List AV)(H:AH):Rs:=
 hd vs fun x14 vs=>hd vs fun x15 vs=>
 bV (some x14) fun x4_4=>bV (some x15) fun x5_4=>bV (some (.int .i64 (.ofNat 0))) fun x6_4=>some (.ret (.tuple [x4_4,x5_4,x6_4]),H)
def f112j2 (D:Dyn)(n:Nat)(vs:List AV)(H:AH):Rs:=
 hd vs fun x0_3 vs=>hd vs fun x3_3 vs=>
 bV (pNil x0_3) fun x46=>
 bV (fAd 0 x46) fun x47=>
 bV (ld1 x47 H) fun x48=>
 bV (fAd 0 x3_3) fun x49=>
 bV (ld1 x49 H) fun x50=>
 bA (bxV 83 (.agg (rep 512 [(.int .u8 (.ofNat 0))]))) H fun x12 H=>
 bR (f38 D n [x48,x50] H) fun x51 H=>
 bV (pExtract x51 0) fun x52=>
 bV (pExtract x51 1) fun x53=>
 bR (stN 512 x12 x52 H) fun x9999_2 H=>
 bV (bInt .neq x53 (.int .i64 (.ofNat 0))) fun x55=>
 cnd x55 (bV (some (.int .u8 (.ofNat 0))) fun x4_2=>bV (some (.str 0 0)) fun x5_2=>bV (some x53) fun x6_2=>some (.ret (.tuple [x4_2,x5_2,x6_2]),H))
 (bV (ldN 3 x3_3 H) fun x58=>
 bV (ldN 512 x12 H) fun x59=>
 bR (f146 D n [x58,x59] H) fun x60 H=>
 bV (pExtract x60 0) fun x61=>
 bV (pExtract x60 1) fun x62=>
 bV (pExtract x60 2) fun x63=>
 bV (bInt .neq x63 (.int .i64 (.ofNat 0))) fun x65=>
 cnd x65 (bV (some (.int .u8 (.ofNat 0))) fun x4_3=>bV (some (.str 0 0)) fun x5_3=>bV (some x63) fun x6_3=>some (.ret (.tuple [x4_3,x5_3,x6_3]),H))
 (bV (pNil x0_3) fun x68=>
 bV (fAd 1 x68) fun x69=>
 bV (ld1 x69 H) fun x70=>
 bV (cmpO .neq (eqP x70 .nilPtr)) fun x71=>
 jn (cnd x71 (bV (pNil x0_3) fun x73=>
 bV (fAd 1 x73) fun x74=>
 bV (ld1 x74 H) fun x75=>
 bV (fAd 0 x3_3) fun x76=>
 bV (ld1 x76 H) fun x77=>
 bV (ldN 512 x12 H) fun x78=>
 bR (f100 D n [x75,x77,x78] H) fun x79 H=>
 some (.norm [x61,x62],H))
 (some (.norm [x61,x62],H))) (f112j1 D n)))
def f112 (D:Dyn)(n:Nat)(vs:List AV)(H:AH):Option (AV×AH):=
 outR (hd vs fun x0 vs=>hd vs fun x1 vs=>nl vs <|
 bA (bxV 72 x1) H fun x3 H=>
 bV (pNil x0) fun x17=>
 bV (fAd 1 x17) fun x18=>
 bV (ld1 x18 H) fun x19=>
 bV (cmpO .neq (eqP x19 .nilPtr)) fun x20=>
 jn (cnd x20 (bV (pNil x0) fun x23=>
 bV (fAd 1 x23) fun x24=>
 bV (ld1 x24 H) fun x25=>
 bV (fAd 0 x3) fun x26=>
 bV (ld1 x26 H) fun x27=>
 bA (bxV 83 (.agg (rep 512 [(.int .u8 (.ofNat 0))]))) H fun x7 H=>
 bR (f145 D n [x25,x27] H) fun x28 H=>
 bV (pExtract x28 0) fun x29=>
 bV (pExtract x28 1) fun x30=>
 bR (stN 512 x7 x29 H) fun x9999 H=>
 bV (bInt .eql x30 (.int .i64 (.ofNat 0))) fun x32=>
 jn (cnd x32 (bV (ldN 3 x3 H) fun x34=>
 bV (ldN 512 x7 H) fun x35=>
 bR (f146 D n [x34,x35] H) fun x36 H=>
 bV (pExtract x36 0) fun x37=>
 bV (pExtract x36 1) fun x38=>
 bV (pExtract x36 2) fun x39=>
 bV (bInt .eql x39 (.int .i64 (.ofNat 0))) fun x41=>
 cnd x41 (bV (some x37) fun x4=>bV (some x38) fun x5=>bV (some (.int .i64 (.ofNat 0))) fun x6=>some (.ret (.tuple [x4,x5,x6]),H))
 (some (.norm [x0,x3],H)))
 (some (.norm [x0,x3],H))) (f112j0 D n))
 (some (.norm [x0,x3],H))) (f112j2 D n))
def h112:Hint:=(.s .o (.s (.s .o (.c [0,3] (.s .o (.s .o (.c [0,3] (.s .o (.s .o (.cl (.s .o .o) .o))) .o))) .o)) (.s .o (.s (.s .o (.cl (.s .o .o) .o)) (.s .o (.s (.s .o (.cl (.s .o .o) .o)) (.s (.s .o (.c [14,15] .o .o)) (.s .o .o))))))))
theorem f112_eq (D:Dyn)(n:Nat):f112 D n=funK (s112 D n) D n 112 Tryz.f112 h112:=by kernel_rfl
theorem f112_ok {D:Dyn}(hD:DG D)(n:Nat):FI 112 (f112 D n):=fun_ok X_ok hD (SOk.cons (f145_ok hD n).fs (SOk.cons (f146_ok hD n).fs (SOk.cons (f38_ok hD n).fs (SOk.cons (f100_ok hD n).fs (SOk.nil))))) Tryz.func112 (by kernel_rfl) (f112_eq D n)
def s147 (D:Dyn)(n:Nat):Tb:=⟨X,[]⟩
def f147 (D:Dyn)(n:Nat)(vs:List AV)(H:AH):Option (AV×AH):=
 outR (hd vs fun x0 vs=>hd vs fun x1 vs=>nl vs <|
 bV (pNil x0) fun x7=>
 bV (fAd 1 x7) fun x8=>
 bV (ld1 x8 H) fun x9=>
 jn (wnt x9 false (bV (pNil x0) fun x12=>
 bV (fAd 0 x12) fun x13=>
 bV (ld1 x13 H) fun x14=>
 bV (lnStr x14) fun x15=>
 bV (bInt .lss x15 x1) fun x17=>
 some (.norm [x17],H)) (some (.norm [undefA],H))) fun vs H=>hd vs fun x17_2 vs=>
 bV (pk3 (some x9) (some (.bool true)) (some x17_2)) fun x18=>
 cnd x18 (bV (pNil x0) fun x20=>
 bV (fAd 1 x20) fun x21=>
 bR (stN 1 x21 (.bool true) H) fun x9999 H=>
 bV (some (.str 0 0)) fun x4=>some (.ret x4,H))
 (bV (pNil x0) fun x23=>
 bV (fAd 0 x23) fun x24=>
 bV (ld1 x24 H) fun x25=>
 bV (slStr x25 none (some x1)) fun x27=>
 bV (pNil x0) fun x30=>
 bV (fAd 0 x30) fun x31=>
 bV (ld1 x31 H) fun x32=>
 bV (slStr x32 (some x1) none) fun x34=>
 bV (pNil x0) fun x35=>
 bV (fAd 0 x35) fun x36=>
 bR (stN 1 x36 x34 H) fun x9999_2 H=>
 bV (some x27) fun x4_2=>some (.ret x4_2,H)))
def h147:Hint:=(.s .o (.s (.s .o (.cl (.s .o (.s .o .o)) .o)) (.s .o (.s .o (.s .o .o)))))
theorem f147_eq (D:Dyn)(n:Nat):f147 D n=funK (s147 D n) D n 147 Tryz.f147 h147:=by kernel_rfl
theorem f147_ok {D:Dyn}(hD:DG D)(n:Nat):FI 147 (f147 D n):=fun_ok X_ok hD (SOk.nil) Tryz.func147 (by kernel_rfl) (f147_eq D n)
def s173 (D:Dyn)(n:Nat):Tb:=⟨X,[(185,f185 D n),(118,f118 D n)]⟩
def f173 (D:Dyn)(n:Nat)(vs:List AV)(H:AH):Option (AV×AH):=
 outR (hd vs fun x0 vs=>nl vs <|
 bA (bxV 72 (.agg [(.int .i64 (.ofNat 0)),(.int .i64 (.ofNat 0)),(.int .u64 (.ofNat 0))])) H fun x2 H=>
 bV (lnStr x0) fun x7=>
 bV (bInt .neq x7 (.int .i64 (.ofNat 16))) fun x8=>
 cnd x8 (bV (bldS [(0,1),(1,1),(2,1)] [(.int .i64 (.ofNat 0)),(.int .i64 (.ofNat 0)),(.int .u64 (.ofNat 0))] []) fun x9=>
 bR (stN 3 x2 x9 H) fun x9999 H=>
 bV (ldN 3 x2 H) fun x9002=>bV (some (.int .i64 (.ofNat 4))) fun x3=>some (.ret (.tuple [x9002,x3]),H))
 (bA (cvSB 5 x0) H fun x11 H=>
 bV (s2a 16 x11) fun x12=>
 bV (ldN 16 x12 H) fun x13=>
 bA (bxV 225 (.agg (rep 16 [(.int .u8 (.ofNat 0))]))) H fun x4 H=>
 bR (stN 16 x4 x13 H) fun x9999_2 H=>
 bV (slArr 16 1 x4 none (some (.int .i64 (.ofNat 4))) none) fun x14=>
 bV (slArr 16 1 x4 (some (.int .i64 (.ofNat 4))) (some (.int .i64 (.ofNat 8))) none) fun x17=>
 bV (slArr 16 1 x4 (some (.int .i64 (.ofNat 8))) none none) fun x20=>
 bA (bxV 72 (.agg [(.int .i64 (.ofNat 0)),(.int .i64 (.ofNat 0)),(.int .u64 (.ofNat 0))])) H fun x5 H=>
 bR (f185 D n [x14] H) fun x15 H=>
 bV (cvI .i64 x15) fun x16=>
 bR (f185 D n [x17] H) fun x18 H=>
 bV (cvI .i64 x18) fun x19=>
 bR (f185 D n [x20] H) fun x21 H=>
 bV (bldS [(0,1),(1,1),(2,1)] [(.int .i64 (.ofNat 0)),(.int .i64 (.ofNat 0)),(.int .u64 (.ofNat 0))] [(0,x16),(1,x19),(2,x21)]) fun x22=>
 bR (stN 3 x5 x22 H) fun x9999_3 H=>
 bV (ldN 3 x5 H) fun x23=>
 bR (f118 D n [x23] H) fun x24 H=>
 bV (aun .not x24) fun x25=>
 cnd x25 (bV (bldS [(0,1),(1,1),(2,1)] [(.int .i64 (.ofNat 0)),(.int .i64 (.ofNat 0)),(.int .u64 (.ofNat 0))] []) fun x26=>
 bR (stN 3 x2 x26 H) fun x9999_4 H=>
 bV (ldN 3 x2 H) fun x9002_2=>bV (some (.int .i64 (.ofNat 4))) fun x3_2=>some (.ret (.tuple [x9002_2,x3_2]),H))
 (bV (ldN 3 x5 H) fun x27=>
 bR (stN 3 x2 x27 H) fun x9999_5 H=>
 bV (ldN 3 x2 H) fun x9002_3=>bV (some (.int .i64 (.ofNat 0))) fun x3_3=>some (.ret (.tuple [x9002_3,x3_3]),H))))
def h173:Hint:=(.s .o (.s (.s .o (.cl (.s .o .o) .o)) (.s .o (.s .o (.s (.s .o (.cl (.s .o .o) .o)) (.s .o .o))))))
theorem f173_eq (D:Dyn)(n:Nat):f173 D n=funK (s173 D n) D n 173 Tryz.f173 h173:=by kernel_rfl
theorem f173_ok {D:Dyn}(hD:DG D)(n:Nat):FI 173 (f173 D n):=fun_ok X_ok hD (SOk.cons (f185_ok hD n).fs (SOk.cons (f118_ok hD n).fs (SOk.nil))) Tryz.func173 (by kernel_rfl) (f173_eq D n)
def s149 (D:Dyn)(n:Nat):Tb:=⟨X,[(147,f147 D n),(173,f173 D n)]⟩
def f149 (D:Dyn)(n:Nat)(vs:List AV)(H:AH):Option (AV×AH):=
 outR (hd vs fun x0 vs=>nl vs <|
 bR (f147 D n [x0,(.int .i64 (.ofNat 16))] H) fun x6 H=>
 bV (pNil x0) fun x8=>
 bV (fAd 1 x8) fun x9=>
 bV (ld1 x9 H) fun x10=>
 cnd x10 (some (.ret (.tuple []),H))
 (bR (f173 D n [x6] H) fun x13 H=>
 bV (pExtract x13 0) fun x14=>
 bV (pExtract x13 1) fun x15=>
 bA (bxV 72 (.agg [(.int .i64 (.ofNat 0)),(.int .i64 (.ofNat 0)),(.int .u64 (.ofNat 0))])) H fun x3 H=>
 bR (stN 3 x3 x14 H) fun x9999 H=>
 bV (bInt .neq x15 (.int .i64 (.ofNat 0))) fun x17=>
 cnd x17 (bV (pNil x0) fun x19=>
 bV (fAd 1 x19) fun x20=>
 bR (stN 1 x20 (.bool true) H) fun x9999_2 H=>
 some (.ret (.tuple []),H))
 (bV (pNil x0) fun x23=>
 bV (fAd 2 x23) fun x24=>
 bV (fAd 3 x24) fun x25=>
 bV (ld1 x25 H) fun x26=>
 bV (ldN 3 x3 H) fun x27=>
 bA (bldL 72 3 1 [(.int .i64 (.ofNat 0)),(.int .i64 (.ofNat 0)),(.int .u64 (.ofNat 0))] [(0,x27)]) H fun x28 H=>
 bR (apP 72 3 24 x26 x28 H) fun x29 H=>
 bV (pNil x0) fun x30=>
 bV (fAd 2 x30) fun x31=>
 bV (fAd 3 x31) fun x32=>
 bR (stN 1 x32 x29 H) fun x9999_3 H=>
 some (.ret (.tuple []),H))))
def h149:Hint:=(.s .o (.s (.s .o (.cl .o .o)) (.s .o (.s (.s .o (.cl (.s .o .o) .o)) .o))))
theorem f149_eq (D:Dyn)(n:Nat):f149 D n=funK (s149 D n) D n 149 Tryz.f149 h149:=by kernel_rfl
theorem f149_ok {D:Dyn}(hD:DG D)(n:Nat):FI 149 (f149 D n):=fun_ok X_ok hD (SOk.cons (f147_ok hD n).fs (SOk.cons (f173_ok hD n).fs (SOk.nil))) Tryz.func149 (by kernel_rfl) (f149_eq D n)
def s81 (D:Dyn)(n:Nat):Tb:=⟨X,[(107,f107 D n),(123,f123 D n)]⟩
def f81 (D:Dyn)(n:Nat)(vs:List AV)(H:AH):Option (AV×AH):=
 outR (hd vs fun x0 vs=>nl vs <|
 bA (bxV 133 x0) H fun x1 H=>
 bV (ldN 4 x1 H) fun x3=>
 bR (f107 D n [x3] H) fun x4 H=>
 jn (wnt x4 true (bV (ldN 4 x1 H) fun x6=>
 bR (f123 D n [x6] H) fun x7 H=>
 bV (bInt .leq x7 (.int .i64 (.ofNat 500))) fun x8=>
 some (.norm [x8],H)) (some (.norm [undefA],H))) fun vs H=>hd vs fun x8_2 vs=>
 bV (pk3 (some x4) (some x8_2) (some (.bool false))) fun x9=>
 bV (some x9) fun x2=>some (.ret x2,H))
def h81:Hint:=(.s .o (.s .o .o))
theorem f81_eq (D:Dyn)(n:Nat):f81 D n=funK (s81 D n) D n 81 Tryz.f81 h81:=by kernel_rfl
theorem f81_ok {D:Dyn}(hD:DG D)(n:Nat):FI 81 (f81 D n):=fun_ok X_ok hD (SOk.cons (f107_ok hD n).fs (SOk.cons (f123_ok hD n).fs (SOk.nil))) Tryz.func81 (by kernel_rfl) (f81_eq D n)
def s172 (D:Dyn)(n:Nat):Tb:=⟨X,[(147,f147 D n)]⟩
def f172 (D:Dyn)(n:Nat)(vs:List AV)(H:AH):Option (AV×AH):=
 outR (hd vs fun x0 vs=>nl vs <|
 bR (f147 D n [x0,(.int .i64 (.ofNat 1))] H) fun x5 H=>
 bV (pNil x0) fun x7=>
 bV (fAd 1 x7) fun x8=>
 bV (ld1 x8 H) fun x9=>
 cnd x9 (bV (some (.str 0 0)) fun x2=>some (.ret x2,H))
 (bV (ixStr x5 (.int .i64 (.ofNat 0))) fun x12=>
 bV (cvI .i64 x12) fun x13=>
 bR (f147 D n [x0,x13] H) fun x14 H=>
 bV (some x14) fun x2_2=>some (.ret x2_2,H)))
def h172:Hint:=(.s .o (.s .o (.s (.s .o (.cl (.s .o .o) .o)) (.s .o .o))))
theorem f172_eq (D:Dyn)(n:Nat):f172 D n=funK (s172 D n) D n 172 Tryz.f172 h172:=by kernel_rfl
theorem f172_ok {D:Dyn}(hD:DG D)(n:Nat):FI 172 (f172 D n):=fun_ok X_ok hD (SOk.cons (f147_ok hD n).fs (SOk.nil)) Tryz.func172 (by kernel_rfl) (f172_eq D n)
def s148 (D:Dyn)(n:Nat):Tb:=⟨X,[(172,f172 D n)]⟩
def f148 (D:Dyn)(n:Nat)(vs:List AV)(H:AH):Option (AV×AH):=
 outR (hd vs fun x0 vs=>nl vs <|
 bV (pNil x0) fun x4=>
 bV (fAd 2 x4) fun x5=>
 bV (fAd 1 x5) fun x6=>
 bV (ld1 x6 H) fun x7=>
 bR (f172 D n [x0] H) fun x9 H=>chk (ld1 x6 H) x7 <|
 bA (bldL 9 1 1 [(.str 0 0)] [(0,x9)]) H fun x10 H=>
 bR (apP 9 1 16 x7 x10 H) fun x11 H=>
 bV (pNil x0) fun x12=>
 bV (fAd 2 x12) fun x13=>
 bV (fAd 1 x13) fun x14=>
 bR (stN 1 x14 x11 H) fun x9999 H=>
 some (.ret (.tuple []),H))
def h148:Hint:= .o
theorem f148_eq (D:Dyn)(n:Nat):f148 D n=funK (s148 D n) D n 148 Tryz.f148 h148:=by kernel_rfl
theorem f148_ok {D:Dyn}(hD:DG D)(n:Nat):FI 148 (f148 D n):=fun_ok X_ok hD (SOk.cons (f172_ok hD n).fs (SOk.nil)) Tryz.func148 (by kernel_rfl) (f148_eq D n)
def s150 (D:Dyn)(n:Nat):Tb:=⟨X,[(172,f172 D n)]⟩
def f150 (D:Dyn)(n:Nat)(vs:List AV)(H:AH):Option (AV×AH):=
 outR (hd vs fun x0 vs=>nl vs <|
 bV (pNil x0) fun x4=>
 bV (fAd 2 x4) fun x5=>
 bV (fAd 2 x5) fun x6=>
 bV (ld1 x6 H) fun x7=>
 bR (f172 D n [x0] H) fun x9 H=>chk (ld1 x6 H) x7 <|
 bA (bldL 9 1 1 [(.str 0 0)] [(0,x9)]) H fun x10 H=>
 bR (apP 9 1 16 x7 x10 H) fun x11 H=>
 bV (pNil x0) fun x12=>
 bV (fAd 2 x12) fun x13=>
 bV (fAd 2 x13) fun x14=>
 bR (stN 1 x14 x11 H) fun x9999 H=>
 some (.ret (.tuple []),H))
def h150:Hint:= .o
theorem f150_eq (D:Dyn)(n:Nat):f150 D n=funK (s150 D n) D n 150 Tryz.f150 h150:=by kernel_rfl
theorem f150_ok {D:Dyn}(hD:DG D)(n:Nat):FI 150 (f150 D n):=fun_ok X_ok hD (SOk.cons (f172_ok hD n).fs (SOk.nil)) Tryz.func150 (by kernel_rfl) (f150_eq D n)
def s113 (D:Dyn)(n:Nat):Tb:=⟨X,[(147,f147 D n),(149,f149 D n),(81,f81 D n)]⟩
def f113l0 (D:Dyn)(n:Nat)(vs:List AV)(H:AH):Rs:=
 hd vs fun x4_4 vs=>hd vs fun x6_3 vs=>hd vs fun x8_3 vs=>hd vs fun x47_3 vs=>hd vs fun x48_2 vs=>hd vs fun x50 vs=>hd vs fun x51_2 vs=>hd vs fun x52 vs=>
 bV (bInt .lss x52 x51_2) fun x53=>
 cnd x53 (bV (ixSl 1 x50 x52) fun x54=>
 bV (ld1 x54 H) fun x55=>
 bR (callV (s113 D n).S D x55 [] H) fun x57 H=>
 bV (bInt .add x52 (.int .i64 (.ofNat 1))) fun x58=>
 some (.norm [x4_4,x6_3,x8_3,x47_3,x48_2,x50,x51_2,x58],H))
 (some (.exit 2 [x4_4,x6_3,x8_3,x47_3,x48_2],H))
def f113b1 (D:Dyn)(n:Nat)(vs:List AV)(H:AH):Rs:=
 hd vs fun x4_5 vs=>hd vs fun x6_4 vs=>hd vs fun x8_4 vs=>hd vs fun x47_4 vs=>hd vs fun x48_3 vs=>
 bV (pNil x6_4) fun x60=>
 bV (fAd 1 x60) fun x61=>
 bV (ld1 x61 H) fun x62=>
 cnd x62 (some (.exit 0 [x4_5,x6_4],H))
 (bV (bInt .add x48_3 (.int .i64 (.ofNat 1))) fun x63=>
 some (.norm [x4_5,x6_4,x8_4,x47_4,x63],H))
def f113l2 (D:Dyn)(n:Nat)(vs:List AV)(H:AH):Rs:=
 hd vs fun x4_3 vs=>hd vs fun x6_2 vs=>hd vs fun x8_2 vs=>hd vs fun x47_2 vs=>hd vs fun x48 vs=>
 bV (bInt .lss x48 x47_2) fun x49=>
 cnd x49 (bV (lnSl x8_2) fun x51=>
 jb 2 (loopK n (f113l0 D n) [x4_3,x6_2,x8_2,x47_2,x48,x8_2,x51,(.int .i64 (.ofNat 0))] H) (f113b1 D n))
 (some (.exit 0 [x4_3,x6_2],H))
def f113b3 (D:Dyn)(n:Nat)(vs:List AV)(H:AH):Rs:=
 hd vs fun x4_6 vs=>hd vs fun x6_5 vs=>
 bV (pNil x6_5) fun x65=>
 bV (fAd 1 x65) fun x66=>
 bV (ld1 x66 H) fun x67=>
 jn (wnt x67 false (bV (pNil x6_5) fun x70=>
 bV (fAd 0 x70) fun x71=>
 bV (ld1 x71 H) fun x72=>
 bV (bStr .neq x72 (.str 0 0)) fun x73=>
 some (.norm [x73],H)) (some (.norm [undefA],H))) fun vs H=>hd vs fun x73_2 vs=>
 bV (pk3 (some x67) (some (.bool true)) (some x73_2)) fun x74=>
 jn (wnt x74 false (bV (pNil x6_5) fun x77=>
 bV (fAd 2 x77) fun x78=>
 bV (ldN 4 x78 H) fun x79=>
 bR (f81 D n [x79] H) fun x80 H=>
 bV (aun .not x80) fun x81=>
 some (.norm [x81],H)) (some (.norm [undefA],H))) fun vs H=>hd vs fun x81_2 vs=>
 bV (pk3 (some x74) (some (.bool true)) (some x81_2)) fun x82=>
 cnd x82 (bV (bldS [(0,1),(1,1),(2,1),(3,1)] [(.bool false), .nilSlice, .nilSlice, .nilSlice] []) fun x83=>
 bR (stN 4 x4_6 x83 H) fun x9999_3 H=>
 bV (ldN 4 x4_6 H) fun x9004_3=>bV (some (.int .i64 (.ofNat 4))) fun x5_3=>some (.ret (.tuple [x9004_3,x5_3]),H))
 (bV (pNil x6_5) fun x85=>
 bV (fAd 2 x85) fun x86=>
 bV (ldN 4 x86 H) fun x87=>
 bR (stN 4 x4_6 x87 H) fun x9999_4 H=>
 bV (ldN 4 x4_6 H) fun x9004_4=>bV (some (.int .i64 (.ofNat 0))) fun x5_4=>some (.ret (.tuple [x9004_4,x5_4]),H))
def f113j4 (D:Dyn)(n:Nat)(vs:List AV)(H:AH):Rs:=
 hd vs fun x4_2 vs=>hd vs fun x6 vs=>hd vs fun x7 vs=>hd vs fun x8 vs=>
 bV (ixStr x7 (.int .i64 (.ofNat 0))) fun x41=>
 bV (cvI .i64 x41) fun x42=>
 bV (bInt .shl x42 (.int .u64 (.ofNat 8))) fun x43=>
 bV (ixStr x7 (.int .i64 (.ofNat 1))) fun x45=>
 bV (cvI .i64 x45) fun x46=>
 bV (bInt .or x43 x46) fun x47=>
 jb 0 (loopK n (f113l2 D n) [x4_2,x6,x8,x47,(.int .i64 (.ofNat 0))] H) (f113b3 D n)
def f113 (D:Dyn)(n:Nat)(vs:List AV)(H:AH):Option (AV×AH):=
 outR (hd vs fun x0 vs=>hd vs fun x1 vs=>nl vs <|
 bA (bxV 133 (.agg [(.bool false), .nilSlice, .nilSlice, .nilSlice])) H fun x4 H=>
 bV (lnStr x1) fun x12=>
 bV (bInt .gtr x12 (.int .i64 (.ofNat 500))) fun x13=>
 cnd x13 (bV (bldS [(0,1),(1,1),(2,1),(3,1)] [(.bool false), .nilSlice, .nilSlice, .nilSlice] []) fun x14=>
 bR (stN 4 x4 x14 H) fun x9999 H=>
 bV (ldN 4 x4 H) fun x9004=>bV (some (.int .i64 (.ofNat 4))) fun x5=>some (.ret (.tuple [x9004,x5]),H))
 (bV (bldS [(0,1),(1,1),(2,1),(3,1)] [(.bool false), .nilSlice, .nilSlice, .nilSlice] [(0,x0)]) fun x17=>
 bV (bldS [(0,1),(1,1),(2,4)] [(.str 0 0),(.bool false),(.bool false), .nilSlice, .nilSlice, .nilSlice] [(0,x1),(2,x17)]) fun x18=>
 bA (bxV 259 x18) H fun x19 H=>
 bR (f147 D n [x19,(.int .i64 (.ofNat 2))] H) fun x21 H=>
 bV (pNil x19) fun x23=>
 bV (fAd 1 x23) fun x24=>
 bV (ld1 x24 H) fun x25=>
 cnd x25 (bV (bldS [(0,1),(1,1),(2,1),(3,1)] [(.bool false), .nilSlice, .nilSlice, .nilSlice] []) fun x26=>
 bR (stN 4 x4 x26 H) fun x9999_2 H=>
 bV (ldN 4 x4 H) fun x9004_2=>bV (some (.int .i64 (.ofNat 4))) fun x5_2=>some (.ret (.tuple [x9004_2,x5_2]),H))
 (bA (bldL 1 1 2 [.nilFunc] [(0,(.func 148 [x19] [])),(1,(.func 149 [x19] []))]) H fun x31 H=>
 jn (cnd x0 (bA (bldL 1 1 2 [.nilFunc] [(0,(.func 148 [x19] [])),(1,(.func 150 [x19] []))]) H fun x37 H=>
 some (.norm [x4,x19,x21,x37],H))
 (bR (f149 D n [x19] H) fun x39 H=>
 some (.norm [x4,x19,x21,x31],H))) (f113j4 D n))))
def h113:Hint:=(.s .o (.s (.s .o (.cl (.s .o .o) .o)) (.s .o (.s .o (.s (.s .o (.cl (.s .o .o) .o)) (.s .o (.s (.s .o (.c [4,6,7,8] .o .o)) (.s (.s .o (.b [4,6] (.l [4,6,8,47,48] (.s .o (.s (.cr .o .o) (.s (.b0 (.s (.s .o (.b [4,6,8,47,48] (.l [4,6,8,47,48,50,51,52] (.s .o (.s (.cr .o .o) (.s (.b0 (.s .o .o)) .o)))))) (.s .o (.cl .o .o)))) .o)))))) (.s (.s .o (.cl (.s .o .o) .o)) (.s .o .o))))))))))
theorem f113_eq (D:Dyn)(n:Nat):f113 D n=funK (s113 D n) D n 113 Tryz.f113 h113:=by kernel_rfl
theorem f113_ok {D:Dyn}(hD:DG D)(n:Nat):FI 113 (f113 D n):=fun_ok X_ok hD (SOk.cons (f147_ok hD n).fs (SOk.cons (f149_ok hD n).fs (SOk.cons (f81_ok hD n).fs (SOk.nil)))) Tryz.func113 (by kernel_rfl) (f113_eq D n)
def s69 (D:Dyn)(n:Nat):Tb:=⟨X,[(112,f112 D n),(113,f113 D n)]⟩
def f69 (D:Dyn)(n:Nat)(vs:List AV)(H:AH):Option (AV×AH):=
 outR (hd vs fun x0 vs=>hd vs fun x1 vs=>nl vs <|
 bA (bxV 72 x1) H fun x3 H=>
 bA (bxV 133 (.agg [(.bool false), .nilSlice, .nilSlice, .nilSlice])) H fun x4 H=>
 bV (fAd 0 x3) fun x11=>
 bV (ld1 x11 H) fun x12=>
 bV (bInt .eql x12 (.int .i64 (.ofNat 1))) fun x13=>
 cnd x13 (bV (pNil x0) fun x16=>
 bV (fAd 5 x16) fun x17=>
 bV (ld1 x17 H) fun x18=>
 bV (fAd 2 x3) fun x19=>
 bV (ld1 x19 H) fun x20=>
 bV (lkM [10] (.agg [(.bool false), .nilSlice, .nilSlice, .nilSlice]) true x18 x20 H) fun x21=>
 bV (pExtract x21 0) fun x22=>
 bV (pExtract x21 1) fun x23=>
 bA (bxV 133 (.agg [(.bool false), .nilSlice, .nilSlice, .nilSlice])) H fun x6 H=>
 bR (stN 4 x6 x22 H) fun x9999 H=>
 bV (aun .not x23) fun x25=>
 jn (wnt x25 false (bV (fAd 1 x3) fun x27=>
 bV (ld1 x27 H) fun x28=>
 bV (bInt .neq x28 (.int .i64 (.ofNat 0))) fun x29=>
 some (.norm [x29],H)) (some (.norm [undefA],H))) fun vs H=>hd vs fun x29_2 vs=>
 bV (pk3 (some x25) (some (.bool true)) (some x29_2)) fun x30=>
 cnd x30 (bV (bldS [(0,1),(1,1),(2,1),(3,1)] [(.bool false), .nilSlice, .nilSlice, .nilSlice] []) fun x31=>
 bR (stN 4 x4 x31 H) fun x9999_2 H=>
 bV (ldN 4 x4 H) fun x9004=>bV (some (.int .i64 (.ofNat 1))) fun x5=>some (.ret (.tuple [x9004,x5]),H))
 (bV (ldN 4 x6 H) fun x32=>
 bR (stN 4 x4 x32 H) fun x9999_3 H=>
 bV (ldN 4 x4 H) fun x9004_2=>bV (some (.int .i64 (.ofNat 0))) fun x5_2=>some (.ret (.tuple [x9004_2,x5_2]),H)))
 (bV (ldN 3 x3 H) fun x35=>
 bR (f112 D n [x0,x35] H) fun x36 H=>
 bV (pExtract x36 0) fun x37=>
 bV (pExtract x36 1) fun x38=>
 bV (pExtract x36 2) fun x39=>
 bV (bInt .neq x39 (.int .i64 (.ofNat 0))) fun x41=>
 cnd x41 (bV (bldS [(0,1),(1,1),(2,1),(3,1)] [(.bool false), .nilSlice, .nilSlice, .nilSlice] []) fun x42=>
 bR (stN 4 x4 x42 H) fun x9999_4 H=>
 bV (ldN 4 x4 H) fun x9004_3=>bV (some x39) fun x5_3=>some (.ret (.tuple [x9004_3,x5_3]),H))
 (bV (bInt .neq x37 (.int .u8 (.ofNat 1))) fun x45=>
 jn (wnt x45 true (bV (bInt .neq x37 (.int .u8 (.ofNat 2))) fun x48=>
 some (.norm [x48],H)) (some (.norm [undefA],H))) fun vs H=>hd vs fun x48_2 vs=>
 bV (pk3 (some x45) (some x48_2) (some (.bool false))) fun x49=>
 cnd x49 (bV (bldS [(0,1),(1,1),(2,1),(3,1)] [(.bool false), .nilSlice, .nilSlice, .nilSlice] []) fun x50=>
 bR (stN 4 x4 x50 H) fun x9999_5 H=>
 bV (ldN 4 x4 H) fun x9004_4=>bV (some (.int .i64 (.ofNat 4))) fun x5_4=>some (.ret (.tuple [x9004_4,x5_4]),H))
 (bV (bInt .eql x37 (.int .u8 (.ofNat 1))) fun x52=>
 bR (f113 D n [x52,x38] H) fun x54 H=>
 bV (pExtract x54 0) fun x55=>
 bV (pExtract x54 1) fun x56=>
 bR (stN 4 x4 x55 H) fun x9999_6 H=>
 bV (ldN 4 x4 H) fun x9004_5=>bV (some x56) fun x5_5=>some (.ret (.tuple [x9004_5,x5_5]),H)))))
def h69:Hint:=(.s .o (.s (.s .o (.cl (.s .o (.s (.s .o (.cl (.s .o .o) .o)) (.s .o .o))) .o)) (.s .o (.s (.s .o (.cl (.s .o .o) .o)) (.s (.s .o (.cl (.s .o .o) .o)) (.s .o .o))))))
theorem f69_eq (D:Dyn)(n:Nat):f69 D n=funK (s69 D n) D n 69 Tryz.f69 h69:=by kernel_rfl
theorem f69_ok {D:Dyn}(hD:DG D)(n:Nat):FI 69 (f69 D n):=fun_ok X_ok hD (SOk.cons (f112_ok hD n).fs (SOk.cons (f113_ok hD n).fs (SOk.nil))) Tryz.func69 (by kernel_rfl) (f69_eq D n)
def s70 (D:Dyn)(n:Nat):Tb:=⟨X,[]⟩
def f70j0 (D:Dyn)(n:Nat)(vs:List AV)(H:AH):Rs:=
 hd vs fun x1_3 vs=>hd vs fun x2_3 vs=>hd vs fun x5_2 vs=>hd vs fun x9_3 vs=>hd vs fun x10_3 vs=>hd vs fun x11_2 vs=>
 bV (bInt .add x11_2 (.int .i64 (.ofNat 1))) fun x30=>
 some (.norm [x1_3,x2_3,x5_2,x9_3,x10_3,x30],H)
def f70l1 (D:Dyn)(n:Nat)(vs:List AV)(H:AH):Rs:=
 hd vs fun x1_2 vs=>hd vs fun x2_2 vs=>hd vs fun x5 vs=>hd vs fun x9_2 vs=>hd vs fun x10_2 vs=>hd vs fun x11 vs=>
 bV (bInt .lss x11 x10_2) fun x12=>
 cnd x12 (bV (ixSl 1 x9_2 x11) fun x13=>
 bV (ld1 x13 H) fun x14=>
 bV (bStr .lss x14 x1_2) fun x17=>
 jn (wnt x17 false (bV (fAd 0 x2_2) fun x19=>
 bV (ld1 x19 H) fun x20=>
 bV (aun .not x20) fun x21=>
 some (.norm [x21],H)) (some (.norm [undefA],H))) fun vs H=>hd vs fun x22 vs=>
 jn (wnt x22 true (bV (bStr .eql x14 x1_2) fun x25=>
 some (.norm [x25],H)) (some (.norm [undefA],H))) fun vs H=>hd vs fun x25_2 vs=>
 jn (wnt x17 false (bV (pk3 (some x22) (some x25_2) (some (.bool false))) fun x26=>
 some (.norm [x26],H)) (some (.norm [undefA],H))) fun vs H=>hd vs fun x26_2 vs=>
 bV (pk3 (some x17) (some (.bool true)) (some x26_2)) fun x27=>
 jn (cnd x27 (bV (bInt .add x5 (.int .i64 (.ofNat 1))) fun x29=>
 some (.norm [x1_2,x2_2,x29,x9_2,x10_2,x11],H))
 (some (.norm [x1_2,x2_2,x5,x9_2,x10_2,x11],H))) (f70j0 D n))
 (some (.exit 0 [x5],H))
def f70b2 (D:Dyn)(n:Nat)(vs:List AV)(H:AH):Rs:=
 hd vs fun x5_3 vs=>
 bV (some x5_3) fun x4=>some (.ret x4,H)
def f70 (D:Dyn)(n:Nat)(vs:List AV)(H:AH):Option (AV×AH):=
 outR (hd vs fun x0 vs=>hd vs fun x1 vs=>nl vs <|
 bA (bxV 133 x0) H fun x2 H=>
 bV (fAd 1 x2) fun x8=>
 bV (ld1 x8 H) fun x9=>
 bV (lnSl x9) fun x10=>
 jb 0 (loopK n (f70l1 D n) [x1,x2,(.int .i64 (.ofNat 0)),x9,x10,(.int .i64 (.ofNat 0))] H) (f70b2 D n))
def h70:Hint:=(.s .o (.s .o (.s (.s .o (.b [5] (.l [1,2,5,9,10,11] (.s .o (.s (.cr .o .o) (.s (.b0 (.s .o (.s .o (.c [1,2,5,9,10,11] .o .o)))) .o)))))) (.s .o .o))))
theorem f70_eq (D:Dyn)(n:Nat):f70 D n=funK (s70 D n) D n 70 Tryz.f70 h70:=by kernel_rfl
theorem f70_ok {D:Dyn}(hD:DG D)(n:Nat):FI 70 (f70 D n):=fun_ok X_ok hD (SOk.nil) Tryz.func70 (by kernel_rfl) (f70_eq D n)
def s105 (D:Dyn)(n:Nat):Tb:=⟨X,[]⟩
def f105 (D:Dyn)(n:Nat)(vs:List AV)(H:AH):Option (AV×AH):=
 outR (hd vs fun x0 vs=>hd vs fun x1 vs=>nl vs <|
 bA (bxV 72 x1) H fun x3 H=>
 bV (pNil x0) fun x6=>
 bV (fAd 3 x6) fun x7=>
 bV (ld1 x7 H) fun x8=>
 bV (ldN 3 x3 H) fun x9=>
 bA (bldL 72 3 1 [(.int .i64 (.ofNat 0)),(.int .i64 (.ofNat 0)),(.int .u64 (.ofNat 0))] [(0,x9)]) H fun x10 H=>
 bR (apP 72 3 24 x8 x10 H) fun x11 H=>
 bV (pNil x0) fun x12=>
 bV (fAd 3 x12) fun x13=>
 bR (stN 1 x13 x11 H) fun x9999 H=>
 some (.ret (.tuple []),H))
def h105:Hint:=(.s .o .o)
theorem f105_eq (D:Dyn)(n:Nat):f105 D n=funK (s105 D n) D n 105 Tryz.f105 h105:=by kernel_rfl
theorem f105_ok {D:Dyn}(hD:DG D)(n:Nat):FI 105 (f105 D n):=fun_ok X_ok hD (SOk.nil) Tryz.func105 (by kernel_rfl) (f105_eq D n)
def s166 (D:Dyn)(n:Nat):Tb:=⟨X,[(108,f108 D n)]⟩
def f166 (D:Dyn)(n:Nat)(vs:List AV)(H:AH):Option (AV×AH):=
 outR (hd vs fun x0 vs=>hd vs fun x1 vs=>hd vs fun x2 vs=>nl vs <|
 bA (bxV 133 x0) H fun x3 H=>
 bA (bxV 133 x2) H fun x5 H=>
 bR (f108 D n [x1] H) fun x9 H=>
 bV (aun .not x9) fun x10=>
 jn (wnt x10 false (bV (fAd 0 x3) fun x12=>
 bV (ld1 x12 H) fun x13=>
 bV (fAd 0 x5) fun x14=>
 bV (ld1 x14 H) fun x15=>
 bV (bBool .neq x13 x15) fun x16=>
 some (.norm [x16],H)) (some (.norm [undefA],H))) fun vs H=>hd vs fun x16_2 vs=>
 bV (pk3 (some x10) (some (.bool true)) (some x16_2)) fun x17=>
 cnd x17 (bV (some (.bool false)) fun x6=>some (.ret x6,H))
 (bV (fAd 1 x3) fun x18=>
 bV (ld1 x18 H) fun x19=>
 bV (lnSl x19) fun x20=>
 bV (bInt .gtr x20 (.int .i64 (.ofNat 0))) fun x22=>
 jn (wnt x22 true (bV (fAd 1 x3) fun x24=>
 bV (ld1 x24 H) fun x25=>
 bV (bInt .sub x20 (.int .i64 (.ofNat 1))) fun x27=>
 bV (ixSl 1 x25 x27) fun x28=>
 bV (ld1 x28 H) fun x29=>
 bV (bStr .geq x29 x1) fun x31=>
 some (.norm [x31],H)) (some (.norm [undefA],H))) fun vs H=>hd vs fun x31_2 vs=>
 bV (pk3 (some x22) (some x31_2) (some (.bool false))) fun x32=>
 cnd x32 (bV (some (.bool false)) fun x6_2=>some (.ret x6_2,H))
 (bV (fAd 1 x5) fun x33=>
 bV (ld1 x33 H) fun x34=>
 bV (lnSl x34) fun x35=>
 bV (bInt .eql x35 (.int .i64 (.ofNat 0))) fun x36=>
 cnd x36 (bV (some (.bool true)) fun x6_3=>some (.ret x6_3,H))
 (bV (fAd 1 x5) fun x38=>
 bV (ld1 x38 H) fun x39=>
 bV (ixSl 1 x39 (.int .i64 (.ofNat 0))) fun x40=>
 bV (ld1 x40 H) fun x41=>
 bV (bStr .lss x1 x41) fun x42=>
 jn (wnt x42 false (bV (fAd 0 x3) fun x44=>
 bV (ld1 x44 H) fun x45=>
 some (.norm [x45],H)) (some (.norm [undefA],H))) fun vs H=>hd vs fun x46 vs=>
 jn (wnt x46 true (bV (fAd 1 x5) fun x48=>
 bV (ld1 x48 H) fun x49=>
 bV (ixSl 1 x49 (.int .i64 (.ofNat 0))) fun x50=>
 bV (ld1 x50 H) fun x51=>
 bV (bStr .eql x1 x51) fun x52=>
 some (.norm [x52],H)) (some (.norm [undefA],H))) fun vs H=>hd vs fun x52_2 vs=>
 jn (wnt x42 false (bV (pk3 (some x46) (some x52_2) (some (.bool false))) fun x53=>
 some (.norm [x53],H)) (some (.norm [undefA],H))) fun vs H=>hd vs fun x53_2 vs=>
 bV (pk3 (some x42) (some (.bool true)) (some x53_2)) fun x54=>
 bV (some x54) fun x6_4=>some (.ret x6_4,H)))))
def h166:Hint:=(.s .o (.s (.s .o (.cl (.s .o .o) .o)) (.s (.s .o (.s .o (.cl (.s .o .o) .o))) (.s (.s .o (.cl (.s .o .o) .o)) (.s .o .o)))))
theorem f166_eq (D:Dyn)(n:Nat):f166 D n=funK (s166 D n) D n 166 Tryz.f166 h166:=by kernel_rfl
theorem f166_ok {D:Dyn}(hD:DG D)(n:Nat):FI 166 (f166 D n):=fun_ok X_ok hD (SOk.cons (f108_ok hD n).fs (SOk.nil)) Tryz.func166 (by kernel_rfl) (f166_eq D n)
def s144 (D:Dyn)(n:Nat):Tb:=⟨X,[]⟩
def f144j0 (D:Dyn)(n:Nat)(vs:List AV)(H:AH):Rs:=
 hd vs fun x0_3 vs=>
 bV (some x0_3) fun x4=>some (.ret x4,H)
def f144j1 (D:Dyn)(n:Nat)(vs:List AV)(H:AH):Rs:=
 hd vs fun x0_2 vs=>hd vs fun x1_2 vs=>
 bV (acap X 37 x0_2) fun x10=>
 bV (lnSl x0_2) fun x12=>
 bV (bInt .sub x10 x12) fun x13=>
 bV (bInt .sub x1_2 x13) fun x14=>
 bV (bInt .gtr x14 (.int .i64 (.ofNat 0))) fun x16=>
 jn (cnd x16 (bV (acap X 37 x0_2) fun x19=>
 bV (slSl 1 x0_2 none (some x19) none H) fun x20=>
 bR (apZ 9 1 16 [(.str 0 0)] x20 x14 H) fun x22 H=>
 bV (lnSl x0_2) fun x24=>
 bV (slSl 1 x22 none (some x24) none H) fun x25=>
 some (.norm [x25],H))
 (some (.norm [x0_2],H))) (f144j0 D n)
def f144 (D:Dyn)(n:Nat)(vs:List AV)(H:AH):Option (AV×AH):=
 outR (hd vs fun x0 vs=>hd vs fun x1 vs=>nl vs <|
 bV (bInt .lss x1 (.int .i64 (.ofNat 0))) fun x6=>
 jn (cnd x6 (none)
 (some (.norm [x0,x1],H))) (f144j1 D n))
def h144:Hint:=(.s .o (.s (.s .o (.c [0,1] .o .o)) (.s (.s .o (.s .o (.c [0] .o .o))) (.s .o .o))))
theorem f144_eq (D:Dyn)(n:Nat):f144 D n=funK (s144 D n) D n 144 Tryz.f144 h144:=by kernel_rfl
theorem f144_ok {D:Dyn}(hD:DG D)(n:Nat):FI 144 (f144 D n):=fun_ok X_ok hD (SOk.nil) Tryz.func144 (by kernel_rfl) (f144_eq D n)
def s111 (D:Dyn)(n:Nat):Tb:=⟨X,[(144,f144 D n)]⟩
def f111j0 (D:Dyn)(n:Nat)(vs:List AV)(H:AH):Rs:=
 hd vs fun x0_3 vs=>hd vs fun x3_2 vs=>hd vs fun x9_2 vs=>hd vs fun x10_3 vs=>hd vs fun x11_2 vs=>
 bV (bInt .add x11_2 (.int .i64 (.ofNat 1))) fun x22=>
 some (.norm [x0_3,x3_2,x9_2,x10_3,x22],H)
def f111l1 (D:Dyn)(n:Nat)(vs:List AV)(H:AH):Rs:=
 hd vs fun x0_2 vs=>hd vs fun x3 vs=>hd vs fun x9 vs=>hd vs fun x10_2 vs=>hd vs fun x11 vs=>
 bV (bInt .lss x11 x10_2) fun x12=>
 cnd x12 (bV (ixSl 1 x9 x11) fun x13=>
 bV (ld1 x13 H) fun x14=>
 bV (lnSl x14) fun x17=>
 bV (bInt .add x3 x17) fun x18=>
 bV (bInt .lss x18 (.int .i64 (.ofNat 0))) fun x20=>
 jn (cnd x20 (none)
 (some (.norm [x0_2,x18,x9,x10_2,x11],H))) (f111j0 D n))
 (some (.exit 0 [x0_2,x3],H))
def f111l2 (D:Dyn)(n:Nat)(vs:List AV)(H:AH):Rs:=
 hd vs fun x6 vs=>hd vs fun x25 vs=>hd vs fun x26_2 vs=>hd vs fun x27 vs=>
 bV (bInt .lss x27 x26_2) fun x28=>
 cnd x28 (bV (ixSl 1 x25 x27) fun x29=>
 bV (ld1 x29 H) fun x30=>
 bR (apP 9 1 16 x6 x30 H) fun x33 H=>
 bV (bInt .add x27 (.int .i64 (.ofNat 1))) fun x34=>
 some (.norm [x33,x25,x26_2,x34],H))
 (some (.exit 2 [x6],H))
def f111b3 (D:Dyn)(n:Nat)(vs:List AV)(H:AH):Rs:=
 hd vs fun x6_2 vs=>
 bV (some x6_2) fun x2=>some (.ret x2,H)
def f111b4 (D:Dyn)(n:Nat)(vs:List AV)(H:AH):Rs:=
 hd vs fun x0_4 vs=>hd vs fun x3_3 vs=>
 bR (f144 D n [.nilSlice,x3_3] H) fun x24 H=>
 bV (lnSl x0_4) fun x26=>
 jb 2 (loopK n (f111l2 D n) [x24,x0_4,x26,(.int .i64 (.ofNat 0))] H) (f111b3 D n)
def f111 (D:Dyn)(n:Nat)(vs:List AV)(H:AH):Option (AV×AH):=
 outR (hd vs fun x0 vs=>nl vs <|
 bV (lnSl x0) fun x10=>
 jb 0 (loopK n (f111l1 D n) [x0,(.int .i64 (.ofNat 0)),x0,x10,(.int .i64 (.ofNat 0))] H) (f111b4 D n))
def h111:Hint:=(.s .o (.s .o (.s (.s .o (.b [0,3] (.l [0,3,9,10,11] (.s .o (.s (.cr .o .o) (.s (.b0 (.s .o (.s .o (.s .o (.c [0,3,9,10,11] .o .o))))) .o)))))) (.s .o (.s (.s .o (.b [6] (.l [6,25,26,27] (.s .o (.s (.cr .o .o) (.s (.b0 (.s .o .o)) .o)))))) (.s .o .o))))))
theorem f111_eq (D:Dyn)(n:Nat):f111 D n=funK (s111 D n) D n 111 Tryz.f111 h111:=by kernel_rfl
theorem f111_ok {D:Dyn}(hD:DG D)(n:Nat):FI 111 (f111 D n):=fun_ok X_ok hD (SOk.cons (f144_ok hD n).fs (SOk.nil)) Tryz.func111 (by kernel_rfl) (f111_eq D n)
end Go.Eng.Sh
end
end
section
noncomputable section
namespace Go.Eng.Sh
open Go.Proofs
set_option maxRecDepth 100000
def s168 (D:Dyn)(n:Nat):Tb:=⟨X,[]⟩
def f168j0 (D:Dyn)(n:Nat)(vs:List AV)(H:AH):Rs:=
 hd vs fun x0_3 vs=>
 bV (some x0_3) fun x4=>some (.ret x4,H)
def f168j1 (D:Dyn)(n:Nat)(vs:List AV)(H:AH):Rs:=
 hd vs fun x0_2 vs=>hd vs fun x1_2 vs=>
 bV (acap X 77 x0_2) fun x10=>
 bV (lnSl x0_2) fun x12=>
 bV (bInt .sub x10 x12) fun x13=>
 bV (bInt .sub x1_2 x13) fun x14=>
 bV (bInt .gtr x14 (.int .i64 (.ofNat 0))) fun x16=>
 jn (cnd x16 (bV (acap X 77 x0_2) fun x19=>
 bV (slSl 3 x0_2 none (some x19) none H) fun x20=>
 bR (apZ 72 3 24 [(.int .i64 (.ofNat 0)),(.int .i64 (.ofNat 0)),(.int .u64 (.ofNat 0))] x20 x14 H) fun x22 H=>
 bV (lnSl x0_2) fun x24=>
 bV (slSl 3 x22 none (some x24) none H) fun x25=>
 some (.norm [x25],H))
 (some (.norm [x0_2],H))) (f168j0 D n)
def f168 (D:Dyn)(n:Nat)(vs:List AV)(H:AH):Option (AV×AH):=
 outR (hd vs fun x0 vs=>hd vs fun x1 vs=>nl vs <|
 bV (bInt .lss x1 (.int .i64 (.ofNat 0))) fun x6=>
 jn (cnd x6 (none)
 (some (.norm [x0,x1],H))) (f168j1 D n))
def h168:Hint:=(.s .o (.s (.s .o (.c [0,1] .o .o)) (.s (.s .o (.s .o (.c [0] .o .o))) (.s .o .o))))
theorem f168_eq (D:Dyn)(n:Nat):f168 D n=funK (s168 D n) D n 168 Tryz.f168 h168:=by kernel_rfl
theorem f168_ok {D:Dyn}(hD:DG D)(n:Nat):FI 168 (f168 D n):=fun_ok X_ok hD (SOk.nil) Tryz.func168 (by kernel_rfl) (f168_eq D n)
def s140 (D:Dyn)(n:Nat):Tb:=⟨X,[(168,f168 D n)]⟩
def f140j0 (D:Dyn)(n:Nat)(vs:List AV)(H:AH):Rs:=
 hd vs fun x0_3 vs=>hd vs fun x3_2 vs=>hd vs fun x9_2 vs=>hd vs fun x10_3 vs=>hd vs fun x11_2 vs=>
 bV (bInt .add x11_2 (.int .i64 (.ofNat 1))) fun x22=>
 some (.norm [x0_3,x3_2,x9_2,x10_3,x22],H)
def f140l1 (D:Dyn)(n:Nat)(vs:List AV)(H:AH):Rs:=
 hd vs fun x0_2 vs=>hd vs fun x3 vs=>hd vs fun x9 vs=>hd vs fun x10_2 vs=>hd vs fun x11 vs=>
 bV (bInt .lss x11 x10_2) fun x12=>
 cnd x12 (bV (ixSl 1 x9 x11) fun x13=>
 bV (ld1 x13 H) fun x14=>
 bV (lnSl x14) fun x17=>
 bV (bInt .add x3 x17) fun x18=>
 bV (bInt .lss x18 (.int .i64 (.ofNat 0))) fun x20=>
 jn (cnd x20 (none)
 (some (.norm [x0_2,x18,x9,x10_2,x11],H))) (f140j0 D n))
 (some (.exit 0 [x0_2,x3],H))
def f140l2 (D:Dyn)(n:Nat)(vs:List AV)(H:AH):Rs:=
 hd vs fun x6 vs=>hd vs fun x25 vs=>hd vs fun x26_2 vs=>hd vs fun x27 vs=>
 bV (bInt .lss x27 x26_2) fun x28=>
 cnd x28 (bV (ixSl 1 x25 x27) fun x29=>
 bV (ld1 x29 H) fun x30=>
 bR (apP 72 3 24 x6 x30 H) fun x33 H=>
 bV (bInt .add x27 (.int .i64 (.ofNat 1))) fun x34=>
 some (.norm [x33,x25,x26_2,x34],H))
 (some (.exit 2 [x6],H))
def f140b3 (D:Dyn)(n:Nat)(vs:List AV)(H:AH):Rs:=
 hd vs fun x6_2 vs=>
 bV (some x6_2) fun x2=>some (.ret x2,H)
def f140b4 (D:Dyn)(n:Nat)(vs:List AV)(H:AH):Rs:=
 hd vs fun x0_4 vs=>hd vs fun x3_3 vs=>
 bR (f168 D n [.nilSlice,x3_3] H) fun x24 H=>
 bV (lnSl x0_4) fun x26=>
 jb 2 (loopK n (f140l2 D n) [x24,x0_4,x26,(.int .i64 (.ofNat 0))] H) (f140b3 D n)
def f140 (D:Dyn)(n:Nat)(vs:List AV)(H:AH):Option (AV×AH):=
 outR (hd vs fun x0 vs=>nl vs <|
 bV (lnSl x0) fun x10=>
 jb 0 (loopK n (f140l1 D n) [x0,(.int .i64 (.ofNat 0)),x0,x10,(.int .i64 (.ofNat 0))] H) (f140b4 D n))
def h140:Hint:=(.s .o (.s .o (.s (.s .o (.b [0,3] (.l [0,3,9,10,11] (.s .o (.s (.cr .o .o) (.s (.b0 (.s .o (.s .o (.s .o (.c [0,3,9,10,11] .o .o))))) .o)))))) (.s .o (.s (.s .o (.b [6] (.l [6,25,26,27] (.s .o (.s (.cr .o .o) (.s (.b0 (.s .o .o)) .o)))))) (.s .o .o))))))
theorem f140_eq (D:Dyn)(n:Nat):f140 D n=funK (s140 D n) D n 140 Tryz.f140 h140:=by kernel_rfl
theorem f140_ok {D:Dyn}(hD:DG D)(n:Nat):FI 140 (f140 D n):=fun_ok X_ok hD (SOk.cons (f168_ok hD n).fs (SOk.nil)) Tryz.func140 (by kernel_rfl) (f140_eq D n)
def s138 (D:Dyn)(n:Nat):Tb:=⟨X,[(107,f107 D n),(166,f166 D n),(111,f111 D n),(140,f140 D n)]⟩
def f138 (D:Dyn)(n:Nat)(vs:List AV)(H:AH):Option (AV×AH):=
 outR (hd vs fun x0 vs=>hd vs fun x1 vs=>hd vs fun x2 vs=>nl vs <|
 bA (bxV 133 x0) H fun x3 H=>
 bA (bxV 133 x2) H fun x5 H=>
 bA (bxV 133 (.agg [(.bool false), .nilSlice, .nilSlice, .nilSlice])) H fun x6 H=>
 bV (ldN 4 x3 H) fun x8=>
 bR (f107 D n [x8] H) fun x9 H=>
 bV (aun .not x9) fun x10=>
 jn (wnt x10 false (bV (ldN 4 x5 H) fun x12=>
 bR (f107 D n [x12] H) fun x13 H=>
 bV (aun .not x13) fun x14=>
 some (.norm [x14],H)) (some (.norm [undefA],H))) fun vs H=>hd vs fun x14_2 vs=>
 bV (pk3 (some x10) (some (.bool true)) (some x14_2)) fun x15=>
 jn (wnt x15 false (bV (ldN 4 x3 H) fun x17=>
 bV (ldN 4 x5 H) fun x19=>
 bR (f166 D n [x17,x1,x19] H) fun x20 H=>
 bV (aun .not x20) fun x21=>
 some (.norm [x21],H)) (some (.norm [undefA],H))) fun vs H=>hd vs fun x21_2 vs=>
 bV (pk3 (some x15) (some (.bool true)) (some x21_2)) fun x22=>
 cnd x22 (bV (bldS [(0,1),(1,1),(2,1),(3,1)] [(.bool false), .nilSlice, .nilSlice, .nilSlice] []) fun x23=>
 bR (stN 4 x6 x23 H) fun x9999 H=>
 bV (ldN 4 x6 H) fun x9006=>bV (some (.int .i64 (.ofNat 1))) fun x7=>some (.ret (.tuple [x9006,x7]),H))
 (bV (fAd 0 x3) fun x24=>
 bV (ld1 x24 H) fun x25=>
 cnd x25 (bV (fAd 1 x3) fun x26=>
 bV (ld1 x26 H) fun x27=>
 bV (fAd 1 x5) fun x28=>
 bV (ld1 x28 H) fun x29=>
 bA (bldL 37 1 2 [.nilSlice] [(0,x27),(1,x29)]) H fun x30 H=>
 bV (fAd 2 x3) fun x32=>
 bV (ld1 x32 H) fun x33=>
 bV (fAd 2 x5) fun x34=>
 bV (ld1 x34 H) fun x35=>
 bA (bldL 37 1 2 [.nilSlice] [(0,x33),(1,x35)]) H fun x36 H=>
 bR (f111 D n [x30] H) fun x31 H=>chk (ld1 x32 H) x33 <| chk (ld1 x34 H) x35 <|
 bR (f111 D n [x36] H) fun x37 H=>
 bV (bldS [(0,1),(1,1),(2,1),(3,1)] [(.bool false), .nilSlice, .nilSlice, .nilSlice] [(0,(.bool true)),(1,x31),(2,x37)]) fun x38=>
 bR (stN 4 x6 x38 H) fun x9999_2 H=>
 bV (ldN 4 x6 H) fun x9006_2=>bV (some (.int .i64 (.ofNat 0))) fun x7_2=>some (.ret (.tuple [x9006_2,x7_2]),H))
 (bV (fAd 1 x3) fun x39=>
 bV (ld1 x39 H) fun x40=>
 bA (bldL 9 1 1 [(.str 0 0)] [(0,x1)]) H fun x42 H=>
 bV (fAd 1 x5) fun x43=>
 bV (ld1 x43 H) fun x44=>
 bA (bldL 37 1 3 [.nilSlice] [(0,x40),(1,x42),(2,x44)]) H fun x45 H=>
 bV (fAd 3 x3) fun x47=>
 bV (ld1 x47 H) fun x48=>
 bV (fAd 3 x5) fun x49=>
 bV (ld1 x49 H) fun x50=>
 bA (bldL 77 1 2 [.nilSlice] [(0,x48),(1,x50)]) H fun x51 H=>
 bR (f111 D n [x45] H) fun x46 H=>chk (ld1 x47 H) x48 <| chk (ld1 x49 H) x50 <|
 bR (f140 D n [x51] H) fun x52 H=>
 bV (bldS [(0,1),(1,1),(2,1),(3,1)] [(.bool false), .nilSlice, .nilSlice, .nilSlice] [(1,x46),(3,x52)]) fun x53=>
 bR (stN 4 x6 x53 H) fun x9999_3 H=>
 bV (ldN 4 x6 H) fun x9006_3=>bV (some (.int .i64 (.ofNat 0))) fun x7_3=>some (.ret (.tuple [x9006_3,x7_3]),H))))
def h138:Hint:=(.s .o (.s (.s .o (.cl (.s .o .o) .o)) (.s (.s .o (.cl (.s .o .o) .o)) (.s .o .o))))
theorem f138_eq (D:Dyn)(n:Nat):f138 D n=funK (s138 D n) D n 138 Tryz.f138 h138:=by kernel_rfl
theorem f138_ok {D:Dyn}(hD:DG D)(n:Nat):FI 138 (f138 D n):=fun_ok X_ok hD (SOk.cons (f107_ok hD n).fs (SOk.cons (f166_ok hD n).fs (SOk.cons (f111_ok hD n).fs (SOk.cons (f140_ok hD n).fs (SOk.nil))))) Tryz.func138 (by kernel_rfl) (f138_eq D n)
def s104 (D:Dyn)(n:Nat):Tb:=⟨X,[(123,f123 D n),(69,f69 D n),(105,f105 D n),(138,f138 D n),(139,f139 D n),(111,f111 D n),(141,f141 D n),(140,f140 D n)]⟩
def f104j0 (D:Dyn)(n:Nat)(vs:List AV)(H:AH):Rs:=
 hd vs fun x0_3 vs=>hd vs fun x5_3 vs=>hd vs fun x7_3 vs=>hd vs fun x8_3 vs=>hd vs fun x10 vs=>hd vs fun x11 vs=>hd vs fun x14 vs=>
 bV (bInt .neq x14 (.int .i64 (.ofNat 0))) fun x85=>
 cnd x85 (bV (bldS [(0,1),(1,1),(2,1),(3,1)] [(.bool false), .nilSlice, .nilSlice, .nilSlice] []) fun x86=>
 bR (stN 4 x8_3 x86 H) fun x9999_5 H=>
 bV (ldN 4 x8_3 H) fun x9008_2=>bV (some (.int .i64 (.ofNat 4))) fun x9_2=>some (.ret (.tuple [x9008_2,x9_2]),H))
 (some (.norm [x0_3,x5_3,x7_3,x8_3,x10,x11],H))
def f104j1 (D:Dyn)(n:Nat)(vs:List AV)(H:AH):Rs:=
 hd vs fun x0_2 vs=>hd vs fun x2_2 vs=>hd vs fun x5_2 vs=>hd vs fun x7_2 vs=>hd vs fun x8_2 vs=>hd vs fun x12 vs=>
 bV (pNil x0_2) fun x30=>
 bV (fAd 0 x30) fun x31=>
 bV (ld1 x31 H) fun x32=>
 bV (fAd 3 x5_2) fun x33=>
 bV (ld1 x33 H) fun x34=>
 bV (ixSl 3 x34 x12) fun x36=>
 bV (ldN 3 x36 H) fun x37=>
 bA (bxV 133 (.agg [(.bool false), .nilSlice, .nilSlice, .nilSlice])) H fun x13 H=>
 bR (f69 D n [x32,x37] H) fun x38 H=>
 bV (pExtract x38 0) fun x39=>
 bV (pExtract x38 1) fun x40=>
 bR (stN 4 x13 x39 H) fun x9999 H=>
 bV (bInt .neq x40 (.int .i64 (.ofNat 0))) fun x42=>
 cnd x42 (bV (bldS [(0,1),(1,1),(2,1),(3,1)] [(.bool false), .nilSlice, .nilSlice, .nilSlice] []) fun x43=>
 bR (stN 4 x8_2 x43 H) fun x9999_2 H=>
 bV (ldN 4 x8_2 H) fun x9008=>bV (some x40) fun x9=>some (.ret (.tuple [x9008,x9]),H))
 (bV (fAd 3 x5_2) fun x46=>
 bV (ld1 x46 H) fun x47=>
 bV (ixSl 3 x47 x12) fun x49=>
 bV (ldN 3 x49 H) fun x50=>
 bR (f105 D n [x0_2,x50] H) fun x51 H=>
 bV (mn2 x2_2 x12) fun x54=>
 bV (mx2 x2_2 x12) fun x57=>
 bV (bInt .add x57 (.int .i64 (.ofNat 1))) fun x58=>
 bV (bInt .lss x12 x2_2) fun x61=>
 jn (cnd x61 (bV (ldN 4 x13 H) fun x63=>
 bV (fAd 1 x5_2) fun x64=>
 bV (ld1 x64 H) fun x65=>
 bV (ixSl 1 x65 x54) fun x67=>
 bV (ld1 x67 H) fun x68=>
 bV (ldN 4 x7_2 H) fun x69=>
 bR (f138 D n [x63,x68,x69] H) fun x70 H=>
 bV (pExtract x70 0) fun x71=>
 bV (pExtract x70 1) fun x72=>
 bR (stN 4 x7_2 x71 H) fun x9999_3 H=>
 some (.norm [x0_2,x5_2,x7_2,x8_2,x54,x58,x72],H))
 (bV (ldN 4 x7_2 H) fun x74=>
 bV (fAd 1 x5_2) fun x75=>
 bV (ld1 x75 H) fun x76=>
 bV (ixSl 1 x76 x54) fun x78=>
 bV (ld1 x78 H) fun x79=>
 bV (ldN 4 x13 H) fun x80=>
 bR (f138 D n [x74,x79,x80] H) fun x81 H=>
 bV (pExtract x81 0) fun x82=>
 bV (pExtract x81 1) fun x83=>
 bR (stN 4 x7_2 x82 H) fun x9999_4 H=>
 some (.norm [x0_2,x5_2,x7_2,x8_2,x54,x58,x83],H))) (f104j0 D n))
def f104j2 (D:Dyn)(n:Nat)(vs:List AV)(H:AH):Rs:=
 hd vs fun x0_4 vs=>hd vs fun x5_4 vs=>hd vs fun x7_4 vs=>hd vs fun x8_4 vs=>hd vs fun x10_2 vs=>hd vs fun x11_2 vs=>
 bV (ldN 4 x7_4 H) fun x88=>
 bR (f139 D n [x88] H) fun x89 H=>
 bV (pExtract x89 0) fun x90=>
 bV (pExtract x89 1) fun x91=>
 bV (pExtract x89 2) fun x92=>
 bV (bInt .neq x92 (.int .i64 (.ofNat 0))) fun x94=>
 cnd x94 (bV (bldS [(0,1),(1,1),(2,1),(3,1)] [(.bool false), .nilSlice, .nilSlice, .nilSlice] []) fun x95=>
 bR (stN 4 x8_4 x95 H) fun x9999_6 H=>
 bV (ldN 4 x8_4 H) fun x9008_3=>bV (some x92) fun x9_3=>some (.ret (.tuple [x9008_3,x9_3]),H))
 (bV (fAd 1 x5_4) fun x97=>
 bV (ld1 x97 H) fun x98=>
 bV (slSl 1 x98 none (some x10_2) (some x10_2) H) fun x101=>
 bV (fAd 1 x5_4) fun x103=>
 bV (ld1 x103 H) fun x104=>
 bV (bInt .sub x11_2 (.int .i64 (.ofNat 1))) fun x106=>
 bV (slSl 1 x104 (some x106) none none H) fun x107=>
 bA (bldL 37 1 3 [.nilSlice] [(0,x101),(1,x91),(2,x107)]) H fun x108 H=>
 bV (fAd 3 x5_4) fun x110=>
 bV (ld1 x110 H) fun x111=>
 bV (slSl 3 x111 none (some x10_2) (some x10_2) H) fun x114=>
 bV (fAd 3 x5_4) fun x118=>
 bV (ld1 x118 H) fun x119=>
 bV (slSl 3 x119 (some x11_2) none none H) fun x121=>
 bR (f111 D n [x108] H) fun x109 H=>chk (ld1 x110 H) x111 <| chk (slSl 3 x111 none (some x10_2) (some x10_2) H) x114 <| chk (ld1 x118 H) x119 <| chk (slSl 3 x119 (some x11_2) none none H) x121 <|
 bR (f141 D n [x0_4,x90] H) fun x117 H=>chk (ld1 x110 H) x111 <| chk (slSl 3 x111 none (some x10_2) (some x10_2) H) x114 <| chk (ld1 x118 H) x119 <| chk (slSl 3 x119 (some x11_2) none none H) x121 <|
 bA (bldL 77 1 3 [.nilSlice] [(0,x114),(1,x117),(2,x121)]) H fun x122 H=>
 bR (f140 D n [x122] H) fun x123 H=>
 bV (bldS [(0,1),(1,1),(2,1),(3,1)] [(.bool false), .nilSlice, .nilSlice, .nilSlice] [(1,x109),(3,x123)]) fun x124=>
 bR (stN 4 x8_4 x124 H) fun x9999_7 H=>
 bV (ldN 4 x8_4 H) fun x9008_4=>bV (some (.int .i64 (.ofNat 0))) fun x9_4=>some (.ret (.tuple [x9008_4,x9_4]),H))
def f104 (D:Dyn)(n:Nat)(vs:List AV)(H:AH):Option (AV×AH):=
 outR (hd vs fun x0 vs=>hd vs fun x1 vs=>hd vs fun x2 vs=>hd vs fun x3 vs=>nl vs <|
 bA (bxV 133 x1) H fun x5 H=>
 bA (bxV 133 x3) H fun x7 H=>
 bA (bxV 133 (.agg [(.bool false), .nilSlice, .nilSlice, .nilSlice])) H fun x8 H=>
 bV (bInt .add x2 (.int .i64 (.ofNat 1))) fun x20=>
 bV (ldN 4 x7 H) fun x21=>
 bR (f123 D n [x21] H) fun x22 H=>
 bV (bInt .lss x22 (.int .i64 (.ofNat 160))) fun x23=>
 jn (cnd x23 (bV (bInt .sub x2 (.int .i64 (.ofNat 1))) fun x25=>
 bV (bInt .eql x2 (.int .i64 (.ofNat 0))) fun x27=>
 jn (cnd x27 (some (.norm [x0,x2,x5,x7,x8,(.int .i64 (.ofNat 1))],H))
 (some (.norm [x0,x2,x5,x7,x8,x25],H))) (f104j1 D n))
 (some (.norm [x0,x5,x7,x8,x2,x20],H))) (f104j2 D n))
def h104:Hint:=(.s .o (.s .o (.s (.s .o (.c [0,5,7,8,10,11] (.s .o (.s (.s .o (.c [0,2,5,7,8,12] .o .o)) (.s .o (.s (.s .o (.cl (.s .o .o) .o)) (.s .o (.s .o (.s (.s .o (.c [0,5,7,8,10,11,14] .o .o)) (.s .o (.cl (.s .o .o) .o))))))))) .o)) (.s .o (.s (.s .o (.cl (.s .o .o) .o)) (.s .o .o))))))
theorem f104_eq (D:Dyn)(n:Nat):f104 D n=funK (s104 D n) D n 104 Tryz.f104 h104:=by kernel_rfl
theorem f104_ok {D:Dyn}(hD:DG D)(n:Nat):FI 104 (f104 D n):=fun_ok X_ok hD (SOk.cons (f123_ok hD n).fs (SOk.cons (f69_ok hD n).fs (SOk.cons (f105_ok hD n).fs (SOk.cons (f138_ok hD n).fs (SOk.cons (f139_ok hD n).fs (SOk.cons (f111_ok hD n).fs (SOk.cons (f141_ok hD n).fs (SOk.cons (f140_ok hD n).fs (SOk.nil))))))))) Tryz.func104 (by kernel_rfl) (f104_eq D n)
def s103 (D:Dyn)(n:Nat):Tb:=⟨X,[(68,f68 D n),(69,f69 D n),(70,f70 D n),(104,f104 D n),(105,f105 D n)]⟩
def f103j0 (D:Dyn)(n:Nat)(vs:List AV)(H:AH):Rs:=
 hd vs fun x6_2 vs=>hd vs fun x7_2 vs=>hd vs fun x8_2 vs=>hd vs fun x10_2 vs=>hd vs fun x11 vs=>
 some (.norm [x6_2,x7_2,x8_2,x10_2,x11],H)
def f103j1 (D:Dyn)(n:Nat)(vs:List AV)(H:AH):Rs:=
 hd vs fun x6_3 vs=>hd vs fun x7_3 vs=>hd vs fun x8_3 vs=>hd vs fun x10_3 vs=>hd vs fun x11_2 vs=>
 bV (bInt .neq x11_2 (.int .i64 (.ofNat 0))) fun x63=>
 cnd x63 (bV (bldS [(0,1),(1,1),(2,1),(3,1)] [(.bool false), .nilSlice, .nilSlice, .nilSlice] []) fun x64=>
 bR (stN 4 x8_3 x64 H) fun x9999_8 H=>
 bV (ldN 4 x8_3 H) fun x9008_3=>bV (some x11_2) fun x9_3=>some (.ret (.tuple [x9008_3,x9_3]),H))
 (bV (ld1 x6_3 H) fun x66=>
 bV (ldN 3 x7_3 H) fun x67=>
 bR (f105 D n [x66,x67] H) fun x68 H=>
 bV (ldN 4 x10_3 H) fun x69=>
 bR (stN 4 x8_3 x69 H) fun x9999_9 H=>
 bV (ldN 4 x8_3 H) fun x9008_4=>bV (some (.int .i64 (.ofNat 0))) fun x9_4=>some (.ret (.tuple [x9008_4,x9_4]),H))
def f103 (D:Dyn)(n:Nat)(vs:List AV)(H:AH):Option (AV×AH):=
 outR (hd vs fun x0 vs=>hd vs fun x1 vs=>hd vs fun x2 vs=>hd vs fun x3 vs=>hd vs fun x4 vs=>hd vs fun x5 vs=>hd vs fun x6 vs=>nl vs <|
 bA (bxV 72 x0) H fun x7 H=>
 bA (bxV 133 (.agg [(.bool false), .nilSlice, .nilSlice, .nilSlice])) H fun x8 H=>
 bV (ld1 x1 H) fun x14=>
 bV (bInt .add x14 (.int .i64 (.ofNat 1))) fun x15=>
 bR (stN 1 x1 x15 H) fun x9999 H=>
 bV (ld1 x1 H) fun x16=>
 bV (ld1 x2 H) fun x17=>
 bR (f68 D n [x17] H) fun x18 H=>chk (ld1 x1 H) x16 <|
 bV (bInt .gtr x16 x18) fun x19=>
 cnd x19 (bV (bldS [(0,1),(1,1),(2,1),(3,1)] [(.bool false), .nilSlice, .nilSlice, .nilSlice] []) fun x20=>
 bR (stN 4 x8 x20 H) fun x9999_2 H=>
 bV (ldN 4 x8 H) fun x9008=>bV (some (.int .i64 (.ofNat 4))) fun x9=>some (.ret (.tuple [x9008,x9]),H))
 (bV (ld1 x2 H) fun x22=>
 bV (ldN 3 x7 H) fun x23=>
 bR (f69 D n [x22,x23] H) fun x24 H=>
 bV (pExtract x24 0) fun x25=>
 bV (pExtract x24 1) fun x26=>
 bA (bxV 133 (.agg [(.bool false), .nilSlice, .nilSlice, .nilSlice])) H fun x10 H=>
 bR (stN 4 x10 x25 H) fun x9999_3 H=>
 bV (bInt .neq x26 (.int .i64 (.ofNat 0))) fun x28=>
 cnd x28 (bV (bldS [(0,1),(1,1),(2,1),(3,1)] [(.bool false), .nilSlice, .nilSlice, .nilSlice] []) fun x29=>
 bR (stN 4 x8 x29 H) fun x9999_4 H=>
 bV (ldN 4 x8 H) fun x9008_2=>bV (some x26) fun x9_2=>some (.ret (.tuple [x9008_2,x9_2]),H))
 (bV (fAd 0 x10) fun x31=>
 bV (ld1 x31 H) fun x32=>
 jn (cnd x32 (bV (ld1 x3 H) fun x34=>
 bV (ldN 4 x10 H) fun x35=>
 bR (callV (s103 D n).S D x34 [x35] H) fun x36 H=>
 bV (pExtract x36 0) fun x37=>
 bV (pExtract x36 1) fun x38=>
 bR (stN 4 x10 x37 H) fun x9999_5 H=>
 some (.norm [x6,x7,x8,x10,x38],H))
 (bV (ldN 4 x10 H) fun x39=>
 bV (ld1 x4 H) fun x40=>
 bR (f70 D n [x39,x40] H) fun x41 H=>
 bA (bxV 133 (.agg [(.bool false), .nilSlice, .nilSlice, .nilSlice])) H fun x13 H=>
 bV (ld1 x5 H) fun x43=>
 bV (fAd 3 x10) fun x44=>
 bV (ld1 x44 H) fun x45=>
 bV (ixSl 3 x45 x41) fun x47=>
 bV (ldN 3 x47 H) fun x48=>
 bR (callV (s103 D n).S D x43 [x48] H) fun x49 H=>
 bV (pExtract x49 0) fun x50=>
 bV (pExtract x49 1) fun x51=>
 bR (stN 4 x13 x50 H) fun x9999_6 H=>
 bV (bInt .eql x51 (.int .i64 (.ofNat 0))) fun x53=>
 jn (cnd x53 (bV (ld1 x6 H) fun x55=>
 bV (ldN 4 x10 H) fun x56=>
 bV (ldN 4 x13 H) fun x58=>
 bR (f104 D n [x55,x56,x41,x58] H) fun x59 H=>
 bV (pExtract x59 0) fun x60=>
 bV (pExtract x59 1) fun x61=>
 bR (stN 4 x10 x60 H) fun x9999_7 H=>
 some (.norm [x6,x7,x8,x10,x61],H))
 (some (.norm [x6,x7,x8,x10,x51],H))) (f103j0 D n))) (f103j1 D n))))
def h103:Hint:=(.s .o (.s (.s .o (.s .o (.cl (.s .o .o) .o))) (.s .o (.s (.s .o (.cl (.s .o .o) .o)) (.s (.s .o (.c [6,7,8,10,11] .o (.s .o (.s .o (.s .o (.s .o (.c [6,7,8,10,11] .o .o))))))) (.s (.s .o (.cl (.s .o .o) .o)) (.s .o (.s .o .o))))))))
theorem f103_eq (D:Dyn)(n:Nat):f103 D n=funK (s103 D n) D n 103 Tryz.f103 h103:=by kernel_rfl
theorem f103_ok {D:Dyn}(hD:DG D)(n:Nat):FI 103 (f103 D n):=fun_ok X_ok hD (SOk.cons (f68_ok hD n).fs (SOk.cons (f69_ok hD n).fs (SOk.cons (f70_ok hD n).fs (SOk.cons (f104_ok hD n).fs (SOk.cons (f105_ok hD n).fs (SOk.nil)))))) Tryz.func103 (by kernel_rfl) (f103_eq D n)
def s63 (D:Dyn)(n:Nat):Tb:=⟨X,[(102,f102 D n),(101,f101 D n),(106,f106 D n)]⟩
def f63 (D:Dyn)(n:Nat)(vs:List AV)(H:AH):Option (AV×AH):=
 outR (hd vs fun x0 vs=>hd vs fun x1 vs=>hd vs fun x2 vs=>nl vs <|
 bA (bxV 22 x0) H fun x3 H=>
 bA (bxV 9 x1) H fun x4 H=>
 bA (bxV 136 x2) H fun x5 H=>
 bV (ld1 x3 H) fun x14=>
 bV (ld1 x3 H) fun x15=>
 bV (pNil x15) fun x16=>
 bV (fAd 6 x16) fun x17=>
 bV (ld1 x17 H) fun x18=>
 bA (mkM [10]) H fun x19 H=>
 bV (bldS [(0,1),(1,1),(2,1),(3,1)] [.nilPtr,(.int .u64 (.ofNat 0)), .nilMap, .nilSlice] [(0,x14),(1,x18),(2,x19)]) fun x20=>
 bA (bxV 209 x20) H fun x21 H=>
 bA (bxV 207 .nilPtr) H fun x7 H=>
 bR (stN 1 x7 x21 H) fun x9999 H=>
 bV (ld1 x3 H) fun x22=>
 bV (pNil x22) fun x23=>
 bV (fAd 2 x23) fun x24=>
 bV (fAd 0 x24) fun x25=>
 bV (ld1 x25 H) fun x26=>
 bV (bInt .eql x26 (.int .i64 (.ofNat 0))) fun x27=>
 cnd x27 (bV (ld1 x5 H) fun x29=>
 bV (bldS [(0,1),(1,1),(2,1),(3,1)] [(.bool false), .nilSlice, .nilSlice, .nilSlice] [(0,(.bool true))]) fun x30=>
 bR (callV (s63 D n).S D x29 [x30] H) fun x31 H=>
 bV (pExtract x31 0) fun x32=>
 bV (pExtract x31 1) fun x33=>
 bA (bxV 133 (.agg [(.bool false), .nilSlice, .nilSlice, .nilSlice])) H fun x8 H=>
 bR (stN 4 x8 x32 H) fun x9999_2 H=>
 bV (bInt .neq x33 (.int .i64 (.ofNat 0))) fun x35=>
 cnd x35 (bV (some x33) fun x6=>some (.ret x6,H))
 (bV (ld1 x7 H) fun x37=>
 bV (ld1 x7 H) fun x38=>
 bV (ldN 4 x8 H) fun x39=>
 bR (f102 D n [x38,x39] H) fun x40 H=>chk (ld1 x7 H) x37 <|
 bR (f101 D n [x37,x40] H) fun x41 H=>
 bV (some (.int .i64 (.ofNat 0))) fun x6_2=>some (.ret x6_2,H)))
 (bA (bxV 3 (.int .i64 (.ofNat 0))) H fun x10 H=>
 bR (stN 1 x10 (.int .i64 (.ofNat 0)) H) fun x9999_3 H=>
 bA (bxV 142 .nilFunc) H fun x11 H=>
 bR (stN 1 x11 (.func 103 [] [x10,x3,x5,x4,x11,x7]) H) fun x9999_4 H=>
 bV (ld1 x11 H) fun x44=>
 bV (ld1 x3 H) fun x45=>
 bV (pNil x45) fun x46=>
 bV (fAd 2 x46) fun x47=>
 bV (ldN 3 x47 H) fun x48=>
 bA (bxV 133 (.agg [(.bool false), .nilSlice, .nilSlice, .nilSlice])) H fun x12 H=>
 bR (callV (s63 D n).S D x44 [x48] H) fun x49 H=>
 bV (pExtract x49 0) fun x50=>
 bV (pExtract x49 1) fun x51=>
 bR (stN 4 x12 x50 H) fun x9999_5 H=>
 bV (bInt .neq x51 (.int .i64 (.ofNat 0))) fun x53=>
 cnd x53 (bV (some x51) fun x6_3=>some (.ret x6_3,H))
 (bV (ld1 x7 H) fun x55=>
 bV (ldN 4 x12 H) fun x56=>
 bR (f106 D n [x55,x56] H) fun x57 H=>
 bV (some x57) fun x6_4=>some (.ret x6_4,H))))
def h63:Hint:=(.s .o (.s .o (.s (.s .o (.cl (.s .o (.s (.s .o (.cl (.s .o .o) .o)) (.s .o (.s .o .o)))) .o)) (.s .o (.s .o (.s .o (.s .o (.s (.s .o (.cl (.s .o .o) .o)) (.s .o .o)))))))))
theorem f63_eq (D:Dyn)(n:Nat):f63 D n=funK (s63 D n) D n 63 Tryz.f63 h63:=by kernel_rfl
theorem f63_ok {D:Dyn}(hD:DG D)(n:Nat):FI 63 (f63 D n):=fun_ok X_ok hD (SOk.cons (f102_ok hD n).fs (SOk.cons (f101_ok hD n).fs (SOk.cons (f106_ok hD n).fs (SOk.nil)))) Tryz.func63 (by kernel_rfl) (f63_eq D n)
def s184 (D:Dyn)(n:Nat):Tb:=⟨X,[]⟩
def f184l0 (D:Dyn)(n:Nat)(vs:List AV)(H:AH):Rs:=
 hd vs fun x0_2 vs=>hd vs fun x2 vs=>hd vs fun x3 vs=>
 bV (bInt .lss x2 x3) fun x9=>
 cnd x9 (bV (ixSl 1 x0_2 x3) fun x20=>
 bV (ld1 x20 H) fun x21=>
 bV (ixSl 1 x0_2 x2) fun x24=>
 bV (ld1 x24 H) fun x25=>
 bV (ixSl 1 x0_2 x2) fun x26=>
 bR (stN 1 x26 x21 H) fun x9999 H=>
 bV (ixSl 1 x0_2 x3) fun x27=>
 bR (stN 1 x27 x25 H) fun x9999_2 H=>
 bV (bInt .add x2 (.int .i64 (.ofNat 1))) fun x11=>
 bV (bInt .sub x3 (.int .i64 (.ofNat 1))) fun x13=>
 some (.norm [x0_2,x11,x13],H))
 (some (.exit 0 [],H))
def f184b1 (D:Dyn)(n:Nat)(vs:List AV)(H:AH):Rs:=
 some (.ret (.tuple []),H)
def f184 (D:Dyn)(n:Nat)(vs:List AV)(H:AH):Option (AV×AH):=
 outR (hd vs fun x0 vs=>nl vs <|
 bV (lnSl x0) fun x5=>
 bV (bInt .sub x5 (.int .i64 (.ofNat 1))) fun x6=>
 jb 0 (loopK n (f184l0 D n) [x0,(.int .i64 (.ofNat 0)),x6] H) (f184b1 D n))
def h184:Hint:=(.s .o (.b [] (.l [0,2,3] (.s (.s .o (.cr .o .o)) (.s (.b0 .o) .o)))))
theorem f184_eq (D:Dyn)(n:Nat):f184 D n=funK (s184 D n) D n 184 Tryz.f184 h184:=by kernel_rfl
theorem f184_ok {D:Dyn}(hD:DG D)(n:Nat):FI 184 (f184 D n):=fun_ok X_ok hD (SOk.nil) Tryz.func184 (by kernel_rfl) (f184_eq D n)
def s169 (D:Dyn)(n:Nat):Tb:=⟨X,[(184,f184 D n)]⟩
def f169 (D:Dyn)(n:Nat)(vs:List AV)(H:AH):Option (AV×AH):=
 outR (hd vs fun x0 vs=>hd vs fun x1 vs=>nl vs <|
 bV (slSl 1 x0 none (some x1) none H) fun x6=>
 bR (f184 D n [x6] H) fun x7 H=>
 bV (slSl 1 x0 (some x1) none none H) fun x10=>
 bR (f184 D n [x10] H) fun x11 H=>
 bR (f184 D n [x0] H) fun x13 H=>
 some (.ret (.tuple []),H))
def h169:Hint:=(.s .o (.s .o .o))
theorem f169_eq (D:Dyn)(n:Nat):f169 D n=funK (s169 D n) D n 169 Tryz.f169 h169:=by kernel_rfl
theorem f169_ok {D:Dyn}(hD:DG D)(n:Nat):FI 169 (f169 D n):=fun_ok X_ok hD (SOk.cons (f184_ok hD n).fs (SOk.nil)) Tryz.func169 (by kernel_rfl) (f169_eq D n)
def s143 (D:Dyn)(n:Nat):Tb:=⟨X,[(169,f169 D n)]⟩
def f143 (D:Dyn)(n:Nat)(vs:List AV)(H:AH):Option (AV×AH):=
 outR (hd vs fun x0 vs=>hd vs fun x1 vs=>nl vs <|
 bV (lnSl x0) fun x6=>
 bV (bInt .sub x6 x1) fun x8=>
 bR (f169 D n [x0,x8] H) fun x9 H=>
 some (.ret (.tuple []),H))
def h143:Hint:= .o
theorem f143_eq (D:Dyn)(n:Nat):f143 D n=funK (s143 D n) D n 143 Tryz.f143 h143:=by kernel_rfl
theorem f143_ok {D:Dyn}(hD:DG D)(n:Nat):FI 143 (f143 D n):=fun_ok X_ok hD (SOk.cons (f169_ok hD n).fs (SOk.nil)) Tryz.func143 (by kernel_rfl) (f143_eq D n)
def s110 (D:Dyn)(n:Nat):Tb:=⟨X,[(143,f143 D n)]⟩
def f110 (D:Dyn)(n:Nat)(vs:List AV)(H:AH):Option (AV×AH):=
 outR (hd vs fun x0 vs=>hd vs fun x1 vs=>hd vs fun x2 vs=>nl vs <|
 bV (slSl 1 x0 (some x1) none none H) fun x12=>
 bV (lnSl x2) fun x14=>
 bV (bInt .eql x14 (.int .i64 (.ofNat 0))) fun x16=>
 cnd x16 (bV (some x0) fun x6=>some (.ret x6,H))
 (bV (lnSl x0) fun x19=>
 bV (bInt .eql x1 x19) fun x22=>
 cnd x22 (bR (apP 9 1 16 x0 x2 H) fun x25 H=>
 bV (some x25) fun x6_2=>some (.ret x6_2,H))
 (bV (bInt .add x19 x14) fun x28=>
 bV (acap X 37 x0) fun x30=>
 bV (bInt .gtr x28 x30) fun x31=>
 cnd x31 (bV (slSl 1 x0 none (some x1) none H) fun x34=>
 bV (bInt .add x19 x14) fun x37=>
 bV (bInt .sub x37 x1) fun x39=>
 bR (apZ 9 1 16 [(.str 0 0)] x34 x39 H) fun x40 H=>
 bV (slSl 1 x40 (some x1) none none H) fun x43=>
 bR (cpy 1 x43 x2 H) fun x45 H=>
 bV (bInt .add x1 x14) fun x49=>
 bV (slSl 1 x40 (some x49) none none H) fun x50=>
 bV (slSl 1 x0 (some x1) none none H) fun x53=>
 bR (cpy 1 x50 x53 H) fun x54 H=>
 bV (some x40) fun x6_3=>some (.ret x6_3,H))
 (bV (bInt .add x19 x14) fun x59=>
 bV (slSl 1 x0 none (some x59) none H) fun x60=>
 bV (bInt .add x1 x14) fun x65=>
 bV (slSl 1 x60 (some x65) none none H) fun x66=>
 bR (D.fn 142 [x2,x66] H) fun x67 H=>
 bV (aun .not x67) fun x68=>
 cnd x68 (bV (bInt .add x1 x14) fun x72=>
 bV (slSl 1 x60 (some x72) none none H) fun x73=>
 bV (slSl 1 x60 (some x1) none none H) fun x76=>
 bR (cpy 1 x73 x76 H) fun x77 H=>
 bV (slSl 1 x60 (some x1) none none H) fun x80=>
 bR (cpy 1 x80 x2 H) fun x82 H=>
 bV (some x60) fun x6_4=>some (.ret x6_4,H))
 (bV (slSl 1 x60 (some x19) none none H) fun x86=>
 bR (cpy 1 x86 x2 H) fun x88 H=>
 bV (slSl 1 x60 (some x1) none none H) fun x91=>
 bR (f143 D n [x91,x14] H) fun x93 H=>
 bV (some x60) fun x6_5=>some (.ret x6_5,H))))))
def h110:Hint:=(.s .o (.s .o (.s .o (.s (.s .o (.cl (.s .o .o) .o)) (.s .o (.s (.s .o (.cl (.s .o .o) .o)) (.s (.s .o (.cl (.s .o (.s .o (.s .o (.s .o .o)))) .o)) (.s .o (.s (.s .o (.cl (.s .o (.s .o (.s .o .o))) .o)) (.s .o (.s .o (.s .o .o))))))))))))
theorem f110_eq (D:Dyn)(n:Nat):f110 D n=funK (s110 D n) D n 110 Tryz.f110 h110:=by kernel_rfl
theorem f110_ok {D:Dyn}(hD:DG D)(n:Nat):FI 110 (f110 D n):=fun_ok X_ok hD (SOk.cons (f143_ok hD n).fs (SOk.nil)) Tryz.func110 (by kernel_rfl) (f110_eq D n)
def m110 (D:Dyn)(n:Nat)(vs:List AV)(H:AH):Option (AV×AH):=insK (f110 D n) vs H
theorem m110_ok {D:Dyn}(hD:DG D)(n:Nat):FI 110 (m110 D n):=insK_ok (by kernel_rfl) (f110_ok hD n)
def s65 (D:Dyn)(n:Nat):Tb:=⟨X,[(107,f107 D n),(108,f108 D n),(109,f109 D n),(70,f70 D n),(110,m110 D n)]⟩
def f65 (D:Dyn)(n:Nat)(vs:List AV)(H:AH):Option (AV×AH):=
 outR (hd vs fun x0 vs=>hd vs fun x1 vs=>hd vs fun x2 vs=>nl vs <|
 bA (bxV 133 x0) H fun x3 H=>
 bA (bxV 133 (.agg [(.bool false), .nilSlice, .nilSlice, .nilSlice])) H fun x6 H=>
 bV (ldN 4 x3 H) fun x10=>
 bR (f107 D n [x10] H) fun x11 H=>
 bV (aun .not x11) fun x12=>
 jn (wnt x12 false (bV (fAd 0 x3) fun x14=>
 bV (ld1 x14 H) fun x15=>
 bV (aun .not x15) fun x16=>
 some (.norm [x16],H)) (some (.norm [undefA],H))) fun vs H=>hd vs fun x16_2 vs=>
 bV (pk3 (some x12) (some (.bool true)) (some x16_2)) fun x17=>
 jn (wnt x17 false (bR (f108 D n [x1] H) fun x20 H=>
 bV (aun .not x20) fun x21=>
 some (.norm [x21],H)) (some (.norm [undefA],H))) fun vs H=>hd vs fun x21_2 vs=>
 bV (pk3 (some x17) (some (.bool true)) (some x21_2)) fun x22=>
 jn (wnt x22 false (bV (lnStr x2) fun x25=>
 bV (bInt .gtr x25 (.int .i64 (.ofNat 200))) fun x26=>
 some (.norm [x26],H)) (some (.norm [undefA],H))) fun vs H=>hd vs fun x26_2 vs=>
 bV (pk3 (some x22) (some (.bool true)) (some x26_2)) fun x27=>
 cnd x27 (bV (bldS [(0,1),(1,1),(2,1),(3,1)] [(.bool false), .nilSlice, .nilSlice, .nilSlice] []) fun x28=>
 bR (stN 4 x6 x28 H) fun x9999 H=>
 bV (ldN 4 x6 H) fun x9006=>bV (some (.int .i64 (.ofNat 1))) fun x7=>some (.ret (.tuple [x9006,x7]),H))
 (bV (fAd 1 x3) fun x29=>
 bV (ld1 x29 H) fun x30=>
 bV (fAd 2 x3) fun x32=>
 bV (ld1 x32 H) fun x33=>
 bA (bxV 133 (.agg [(.bool false), .nilSlice, .nilSlice, .nilSlice])) H fun x8 H=>
 bR (f109 D n [x30] H) fun x31 H=>chk (ld1 x32 H) x33 <|
 bR (f109 D n [x33] H) fun x34 H=>
 bV (bldS [(0,1),(1,1),(2,1),(3,1)] [(.bool false), .nilSlice, .nilSlice, .nilSlice] [(0,(.bool true)),(1,x31),(2,x34)]) fun x35=>
 bR (stN 4 x8 x35 H) fun x9999_2 H=>
 bV (ldN 4 x3 H) fun x36=>
 bR (f70 D n [x36,x1] H) fun x38 H=>
 bV (fAd 1 x3) fun x40=>
 bV (ld1 x40 H) fun x41=>
 bV (lnSl x41) fun x42=>
 bV (bInt .lss x38 x42) fun x43=>
 jn (wnt x43 true (bV (fAd 1 x3) fun x45=>
 bV (ld1 x45 H) fun x46=>
 bV (ixSl 1 x46 x38) fun x48=>
 bV (ld1 x48 H) fun x49=>
 bV (bStr .eql x49 x1) fun x51=>
 some (.norm [x51],H)) (some (.norm [undefA],H))) fun vs H=>hd vs fun x51_2 vs=>
 bV (pk3 (some x43) (some x51_2) (some (.bool false))) fun x52=>
 cnd x52 (bV (fAd 2 x8) fun x53=>
 bV (ld1 x53 H) fun x54=>
 bV (ixSl 1 x54 x38) fun x57=>
 bR (stN 1 x57 x2 H) fun x9999_3 H=>
 bV (ldN 4 x8 H) fun x58=>
 bR (stN 4 x6 x58 H) fun x9999_4 H=>
 bV (ldN 4 x6 H) fun x9006_2=>bV (some (.int .i64 (.ofNat 0))) fun x7_2=>some (.ret (.tuple [x9006_2,x7_2]),H))
 (bV (fAd 1 x8) fun x59=>
 bV (ld1 x59 H) fun x60=>
 bA (bldL 9 1 1 [(.str 0 0)] [(0,x1)]) H fun x63 H=>
 bR (m110 D n [x60,x38,x63] H) fun x64 H=>
 bV (fAd 1 x8) fun x65=>
 bR (stN 1 x65 x64 H) fun x9999_5 H=>
 bV (fAd 2 x8) fun x66=>
 bV (ld1 x66 H) fun x67=>
 bA (bldL 9 1 1 [(.str 0 0)] [(0,x2)]) H fun x70 H=>
 bR (m110 D n [x67,x38,x70] H) fun x71 H=>
 bV (fAd 2 x8) fun x72=>
 bR (stN 1 x72 x71 H) fun x9999_6 H=>
 bV (ldN 4 x8 H) fun x73=>
 bR (stN 4 x6 x73 H) fun x9999_7 H=>
 bV (ldN 4 x6 H) fun x9006_3=>bV (some (.int .i64 (.ofNat 0))) fun x7_3=>some (.ret (.tuple [x9006_3,x7_3]),H))))
def h65:Hint:=(.s .o (.s (.s .o (.cl (.s .o .o) .o)) (.s .o (.s .o (.s (.s .o (.cl (.s .o (.s .o .o)) .o)) (.s .o (.s .o (.s .o .o))))))))
theorem f65_eq (D:Dyn)(n:Nat):f65 D n=funK (s65 D n) D n 65 Tryz.f65 h65:=by kernel_rfl
theorem f65_ok {D:Dyn}(hD:DG D)(n:Nat):FI 65 (f65 D n):=fun_ok X_ok hD (SOk.cons (f107_ok hD n).fs (SOk.cons (f108_ok hD n).fs (SOk.cons (f109_ok hD n).fs (SOk.cons (f70_ok hD n).fs (SOk.cons (m110_ok hD n).fs (SOk.nil)))))) Tryz.func65 (by kernel_rfl) (f65_eq D n)
def s64 (D:Dyn)(n:Nat):Tb:=⟨X,[(65,f65 D n)]⟩
def f64 (D:Dyn)(n:Nat)(vs:List AV)(H:AH):Option (AV×AH):=
 outR (hd vs fun x0 vs=>hd vs fun x1 vs=>hd vs fun x2 vs=>nl vs <|
 bA (bxV 133 x0) H fun x3 H=>
 bA (bxV 133 (.agg [(.bool false), .nilSlice, .nilSlice, .nilSlice])) H fun x4 H=>
 bV (ldN 4 x3 H) fun x6=>
 bV (ld1 x1 H) fun x7=>
 bV (ld1 x2 H) fun x8=>
 bR (f65 D n [x6,x7,x8] H) fun x9 H=>
 bV (pExtract x9 0) fun x10=>
 bV (pExtract x9 1) fun x11=>
 bR (stN 4 x4 x10 H) fun x9999 H=>
 bV (ldN 4 x4 H) fun x9004=>bV (some x11) fun x5=>some (.ret (.tuple [x9004,x5]),H))
def h64:Hint:=(.s .o (.s .o .o))
theorem f64_eq (D:Dyn)(n:Nat):f64 D n=funK (s64 D n) D n 64 Tryz.f64 h64:=by kernel_rfl
theorem f64_ok {D:Dyn}(hD:DG D)(n:Nat):FI 64 (f64 D n):=fun_ok X_ok hD (SOk.cons (f65_ok hD n).fs (SOk.nil)) Tryz.func64 (by kernel_rfl) (f64_eq D n)
def s20 (D:Dyn)(n:Nat):Tb:=⟨X,[(62,f62 D n),(63,f63 D n)]⟩
def f20 (D:Dyn)(n:Nat)(vs:List AV)(H:AH):Option (AV×AH):=
 outR (hd vs fun x0 vs=>hd vs fun x1 vs=>hd vs fun x2 vs=>nl vs <|
 bA (bxV 9 x1) H fun x4 H=>
 bA (bxV 9 x2) H fun x5 H=>
 bR (f62 D n [x0] H) fun x8 H=>
 cnd x8 (bV (some (.int .i64 (.ofNat 2))) fun x6=>some (.ret x6,H))
 (bV (ld1 x4 H) fun x9=>
 bV (lnStr x9) fun x10=>
 bV (bInt .lss x10 (.int .i64 (.ofNat 1))) fun x11=>
 jn (wnt x11 false (bV (ld1 x4 H) fun x13=>
 bV (lnStr x13) fun x14=>
 bV (bInt .gtr x14 (.int .i64 (.ofNat 40))) fun x15=>
 some (.norm [x15],H)) (some (.norm [undefA],H))) fun vs H=>hd vs fun x15_2 vs=>
 bV (pk3 (some x11) (some (.bool true)) (some x15_2)) fun x16=>
 jn (wnt x16 false (bV (ld1 x5 H) fun x18=>
 bV (lnStr x18) fun x19=>
 bV (bInt .gtr x19 (.int .i64 (.ofNat 200))) fun x20=>
 some (.norm [x20],H)) (some (.norm [undefA],H))) fun vs H=>hd vs fun x20_2 vs=>
 bV (pk3 (some x16) (some (.bool true)) (some x20_2)) fun x21=>
 cnd x21 (bV (some (.int .i64 (.ofNat 1))) fun x6_2=>some (.ret x6_2,H))
 (bV (ld1 x4 H) fun x23=>
 bR (f63 D n [x0,x23,(.func 64 [] [x4,x5])] H) fun x25 H=>
 bV (some x25) fun x6_3=>some (.ret x6_3,H))))
def h20:Hint:=(.s .o (.s (.s .o (.cl (.s .o .o) .o)) (.s (.s .o (.cl (.s .o .o) .o)) (.s .o .o))))
theorem f20_eq (D:Dyn)(n:Nat):f20 D n=funK (s20 D n) D n 20 Tryz.f20 h20:=by kernel_rfl
theorem f20_ok {D:Dyn}(hD:DG D)(n:Nat):FI 20 (f20 D n):=fun_ok X_ok hD (SOk.cons (f62_ok hD n).fs (SOk.cons (f63_ok hD n).fs (SOk.nil))) Tryz.func20 (by kernel_rfl) (f20_eq D n)
def s32 (D:Dyn)(n:Nat):Tb:=⟨X,[(62,f62 D n)]⟩
def f32 (D:Dyn)(n:Nat)(vs:List AV)(H:AH):Option (AV×AH):=
 outR (hd vs fun x0 vs=>nl vs <|
 bA (bxV 72 (.agg [(.int .i64 (.ofNat 0)),(.int .i64 (.ofNat 0)),(.int .u64 (.ofNat 0))])) H fun x2 H=>
 bR (f62 D n [x0] H) fun x4 H=>
 cnd x4 (bV (bldS [(0,1),(1,1),(2,1)] [(.int .i64 (.ofNat 0)),(.int .i64 (.ofNat 0)),(.int .u64 (.ofNat 0))] []) fun x5=>
 bR (stN 3 x2 x5 H) fun x9999 H=>
 bV (ldN 3 x2 H) fun x9002=>some (.ret x9002,H))
 (bV (pNil x0) fun x7=>
 bV (fAd 2 x7) fun x8=>
 bV (ldN 3 x8 H) fun x9=>
 bR (stN 3 x2 x9 H) fun x9999_2 H=>
 bV (ldN 3 x2 H) fun x9002_2=>some (.ret x9002_2,H)))
def h32:Hint:=(.s .o (.s (.s .o (.cl (.s .o .o) .o)) (.s .o .o)))
theorem f32_eq (D:Dyn)(n:Nat):f32 D n=funK (s32 D n) D n 32 Tryz.f32 h32:=by kernel_rfl
theorem f32_ok {D:Dyn}(hD:DG D)(n:Nat):FI 32 (f32 D n):=fun_ok X_ok hD (SOk.cons (f62_ok hD n).fs (SOk.nil)) Tryz.func32 (by kernel_rfl) (f32_eq D n)
def s36 (D:Dyn)(n:Nat):Tb:=⟨X,[(62,f62 D n)]⟩
def f36 (D:Dyn)(n:Nat)(vs:List AV)(H:AH):Option (AV×AH):=
 outR (hd vs fun x0 vs=>nl vs <|
 bR (f62 D n [x0] H) fun x4 H=>
 cnd x4 (bV (some (.int .i64 (.ofNat 0))) fun x2=>some (.ret x2,H))
 (bV (pNil x0) fun x6=>
 bV (fAd 5 x6) fun x7=>
 bV (ld1 x7 H) fun x8=>
 bV (lnMap x8 H) fun x9=>
 bV (some x9) fun x2_2=>some (.ret x2_2,H)))
def h36:Hint:=(.s .o (.s (.s .o (.cl (.s .o .o) .o)) (.s .o .o)))
theorem f36_eq (D:Dyn)(n:Nat):f36 D n=funK (s36 D n) D n 36 Tryz.f36 h36:=by kernel_rfl
theorem f36_ok {D:Dyn}(hD:DG D)(n:Nat):FI 36 (f36 D n):=fun_ok X_ok hD (SOk.cons (f62_ok hD n).fs (SOk.nil)) Tryz.func36 (by kernel_rfl) (f36_eq D n)
def s115 (D:Dyn)(n:Nat):Tb:=⟨X,[]⟩
def f115l0 (D:Dyn)(n:Nat)(vs:List AV)(H:AH):Rs:=
 hd vs fun x0_2 vs=>hd vs fun x1_2 vs=>hd vs fun x7_2 vs=>hd vs fun x8 vs=>
 bV (bInt .lss x8 x7_2) fun x9=>
 cnd x9 (bV (ixSl 1 x0_2 x8) fun x14=>
 bV (ld1 x14 H) fun x15=>
 bV (bStr .eql x1_2 x15) fun x16=>
 cnd x16 (bV (some x8) fun x4=>some (.ret x4,H))
 (bV (bInt .add x8 (.int .i64 (.ofNat 1))) fun x18=>
 some (.norm [x0_2,x1_2,x7_2,x18],H)))
 (some (.exit 0 [],H))
def f115b1 (D:Dyn)(n:Nat)(vs:List AV)(H:AH):Rs:=
 bV (some (.int .i64 (.negSucc 0))) fun x4_2=>some (.ret x4_2,H)
def f115 (D:Dyn)(n:Nat)(vs:List AV)(H:AH):Option (AV×AH):=
 outR (hd vs fun x0 vs=>hd vs fun x1 vs=>nl vs <|
 bV (lnSl x0) fun x7=>
 jb 0 (loopK n (f115l0 D n) [x0,x1,x7,(.int .i64 (.ofNat 0))] H) (f115b1 D n))
def h115:Hint:=(.s .o (.s (.s .o (.b [] (.l [0,1,7,8] (.s .o (.s (.cr .o .o) (.s (.b0 (.s .o (.s .o (.cl (.s .o .o) .o)))) .o)))))) (.s .o .o)))
theorem f115_eq (D:Dyn)(n:Nat):f115 D n=funK (s115 D n) D n 115 Tryz.f115 h115:=by kernel_rfl
theorem f115_ok {D:Dyn}(hD:DG D)(n:Nat):FI 115 (f115 D n):=fun_ok X_ok hD (SOk.nil) Tryz.func115 (by kernel_rfl) (f115_eq D n)
def s72 (D:Dyn)(n:Nat):Tb:=⟨X,[(115,f115 D n)]⟩
def f72 (D:Dyn)(n:Nat)(vs:List AV)(H:AH):Option (AV×AH):=
 outR (hd vs fun x0 vs=>hd vs fun x1 vs=>nl vs <|
 bA (bxV 133 x0) H fun x2 H=>
 bV (fAd 0 x2) fun x7=>
 bV (ld1 x7 H) fun x8=>
 bV (aun .not x8) fun x9=>
 cnd x9 (bV (some (.str 0 0)) fun x4=>bV (some (.bool false)) fun x5=>some (.ret (.tuple [x4,x5]),H))
 (bV (fAd 1 x2) fun x10=>
 bV (ld1 x10 H) fun x11=>
 bR (f115 D n [x11,x1] H) fun x13 H=>
 bV (bInt .lss x13 (.int .i64 (.ofNat 0))) fun x15=>
 jn (wnt x15 false (bV (fAd 2 x2) fun x18=>
 bV (ld1 x18 H) fun x19=>
 bV (lnSl x19) fun x20=>
 bV (bInt .geq x13 x20) fun x21=>
 some (.norm [x21],H)) (some (.norm [undefA],H))) fun vs H=>hd vs fun x21_2 vs=>
 bV (pk3 (some x15) (some (.bool true)) (some x21_2)) fun x22=>
 cnd x22 (bV (some (.str 0 0)) fun x4_2=>bV (some (.bool false)) fun x5_2=>some (.ret (.tuple [x4_2,x5_2]),H))
 (bV (fAd 2 x2) fun x23=>
 bV (ld1 x23 H) fun x24=>
 bV (ixSl 1 x24 x13) fun x26=>
 bV (ld1 x26 H) fun x27=>
 bV (some x27) fun x4_3=>bV (some (.bool true)) fun x5_3=>some (.ret (.tuple [x4_3,x5_3]),H))))
def h72:Hint:=(.s .o (.s (.s .o (.cl (.s .o .o) .o)) (.s .o (.s (.s .o (.cl (.s .o .o) .o)) (.s .o .o)))))
theorem f72_eq (D:Dyn)(n:Nat):f72 D n=funK (s72 D n) D n 72 Tryz.f72 h72:=by kernel_rfl
theorem f72_ok {D:Dyn}(hD:DG D)(n:Nat):FI 72 (f72 D n):=fun_ok X_ok hD (SOk.cons (f115_ok hD n).fs (SOk.nil)) Tryz.func72 (by kernel_rfl) (f72_eq D n)
def s27 (D:Dyn)(n:Nat):Tb:=⟨X,[(62,f62 D n),(68,f68 D n),(69,f69 D n),(72,f72 D n),(70,f70 D n)]⟩
def f27l0 (D:Dyn)(n:Nat)(vs:List AV)(H:AH):Rs:=
 hd vs fun x0_2 vs=>hd vs fun x1_2 vs=>hd vs fun x6_2 vs=>hd vs fun x32_2 vs=>hd vs fun x33 vs=>
 bV (bInt .lss x33 x32_2) fun x34=>
 cnd x34 (bV (ldN 3 x6_2 H) fun x37=>
 bR (f69 D n [x0_2,x37] H) fun x38 H=>
 bV (pExtract x38 0) fun x39=>
 bV (pExtract x38 1) fun x40=>
 bA (bxV 133 (.agg [(.bool false), .nilSlice, .nilSlice, .nilSlice])) H fun x7 H=>
 bR (stN 4 x7 x39 H) fun x9999_2 H=>
 bV (bInt .neq x40 (.int .i64 (.ofNat 0))) fun x42=>
 cnd x42 (bV (some (.str 0 0)) fun x4_4=>bV (some x40) fun x5_4=>some (.ret (.tuple [x4_4,x5_4]),H))
 (bV (fAd 0 x7) fun x44=>
 bV (ld1 x44 H) fun x45=>
 cnd x45 (bV (ldN 4 x7 H) fun x47=>
 bR (f72 D n [x47,x1_2] H) fun x49 H=>
 bV (pExtract x49 0) fun x50=>
 bV (pExtract x49 1) fun x51=>
 bV (aun .not x51) fun x53=>
 cnd x53 (bV (some (.str 0 0)) fun x4_5=>bV (some (.int .i64 (.ofNat 5))) fun x5_5=>some (.ret (.tuple [x4_5,x5_5]),H))
 (bV (some x50) fun x4_6=>bV (some (.int .i64 (.ofNat 0))) fun x5_6=>some (.ret (.tuple [x4_6,x5_6]),H)))
 (bV (fAd 3 x7) fun x55=>
 bV (ld1 x55 H) fun x56=>
 bV (ldN 4 x7 H) fun x57=>
 bR (f70 D n [x57,x1_2] H) fun x59 H=>chk (ld1 x55 H) x56 <|
 bV (ixSl 3 x56 x59) fun x60=>
 bV (ldN 3 x60 H) fun x61=>
 bR (stN 3 x6_2 x61 H) fun x9999_3 H=>
 bV (bInt .add x33 (.int .i64 (.ofNat 1))) fun x62=>
 some (.norm [x0_2,x1_2,x6_2,x32_2,x62],H))))
 (some (.exit 0 [],H))
def f27b1 (D:Dyn)(n:Nat)(vs:List AV)(H:AH):Rs:=
 bV (some (.str 0 0)) fun x4_7=>bV (some (.int .i64 (.ofNat 4))) fun x5_7=>some (.ret (.tuple [x4_7,x5_7]),H)
def f27 (D:Dyn)(n:Nat)(vs:List AV)(H:AH):Option (AV×AH):=
 outR (hd vs fun x0 vs=>hd vs fun x1 vs=>nl vs <|
 bR (f62 D n [x0] H) fun x12 H=>
 cnd x12 (bV (some (.str 0 0)) fun x4=>bV (some (.int .i64 (.ofNat 2))) fun x5=>some (.ret (.tuple [x4,x5]),H))
 (bV (lnStr x1) fun x14=>
 bV (bInt .lss x14 (.int .i64 (.ofNat 1))) fun x15=>
 jn (wnt x15 false (bV (lnStr x1) fun x18=>
 bV (bInt .gtr x18 (.int .i64 (.ofNat 40))) fun x19=>
 some (.norm [x19],H)) (some (.norm [undefA],H))) fun vs H=>hd vs fun x19_2 vs=>
 bV (pk3 (some x15) (some (.bool true)) (some x19_2)) fun x20=>
 cnd x20 (bV (some (.str 0 0)) fun x4_2=>bV (some (.int .i64 (.ofNat 1))) fun x5_2=>some (.ret (.tuple [x4_2,x5_2]),H))
 (bV (pNil x0) fun x22=>
 bV (fAd 2 x22) fun x23=>
 bV (fAd 0 x23) fun x24=>
 bV (ld1 x24 H) fun x25=>
 bV (bInt .eql x25 (.int .i64 (.ofNat 0))) fun x26=>
 cnd x26 (bV (some (.str 0 0)) fun x4_3=>bV (some (.int .i64 (.ofNat 5))) fun x5_3=>some (.ret (.tuple [x4_3,x5_3]),H))
 (bV (pNil x0) fun x28=>
 bV (fAd 2 x28) fun x29=>
 bV (ldN 3 x29 H) fun x30=>
 bA (bxV 72 (.agg [(.int .i64 (.ofNat 0)),(.int .i64 (.ofNat 0)),(.int .u64 (.ofNat 0))])) H fun x6 H=>
 bR (stN 3 x6 x30 H) fun x9999 H=>
 bR (f68 D n [x0] H) fun x32 H=>
 jb 0 (loopK n (f27l0 D n) [x0,x1,x6,x32,(.int .i64 (.ofNat 0))] H) (f27b1 D n)))))
def h27:Hint:=(.s .o (.s (.s .o (.cl (.s .o .o) .o)) (.s (.s .o (.cl (.s .o .o) .o)) (.s (.s .o (.cl (.s .o .o) .o)) (.s .o (.s (.s .o (.b [] (.l [0,1,6,32,33] (.s .o (.s (.cr .o .o) (.s (.b0 (.s .o (.s (.s .o (.cl (.s .o .o) .o)) (.s (.s .o (.cl (.s .o (.s (.s .o (.cl (.s .o .o) .o)) (.s .o .o))) .o)) .o)))) .o)))))) (.s .o .o)))))))
theorem f27_eq (D:Dyn)(n:Nat):f27 D n=funK (s27 D n) D n 27 Tryz.f27 h27:=by kernel_rfl
theorem f27_ok {D:Dyn}(hD:DG D)(n:Nat):FI 27 (f27 D n):=fun_ok X_ok hD (SOk.cons (f62_ok hD n).fs (SOk.cons (f68_ok hD n).fs (SOk.cons (f69_ok hD n).fs (SOk.cons (f72_ok hD n).fs (SOk.cons (f70_ok hD n).fs (SOk.nil)))))) Tryz.func27 (by kernel_rfl) (f27_eq D n)
def s33 (D:Dyn)(n:Nat):Tb:=⟨X,[(27,f27 D n)]⟩
def f33 (D:Dyn)(n:Nat)(vs:List AV)(H:AH):Option (AV×AH):=
 outR (hd vs fun x0 vs=>hd vs fun x1 vs=>hd vs fun x2 vs=>hd vs fun x3 vs=>nl vs <|
 bR (f27 D n [x0,x1] H) fun x14 H=>
 bV (pExtract x14 0) fun x15=>
 bV (pExtract x14 1) fun x16=>
 jn (wnt x3 true (bV (bInt .eql x16 (.int .i64 (.ofNat 0))) fun x20=>
 some (.norm [x20],H)) (some (.norm [undefA],H))) fun vs H=>hd vs fun x20_2 vs=>
 bV (pk3 (some x3) (some x20_2) (some (.bool false))) fun x21=>
 jn (wnt x21 true (bV (bStr .eql x15 x2) fun x25=>
 some (.norm [x25],H)) (some (.norm [undefA],H))) fun vs H=>hd vs fun x25_2 vs=>
 bV (pk3 (some x21) (some x25_2) (some (.bool false))) fun x26=>
 jn (wnt x26 false (bV (aun .not x3) fun x29=>
 some (.norm [x29],H)) (some (.norm [undefA],H))) fun vs H=>hd vs fun x30 vs=>
 jn (wnt x30 true (bV (bInt .eql x16 (.int .i64 (.ofNat 5))) fun x32=>
 some (.norm [x32],H)) (some (.norm [undefA],H))) fun vs H=>hd vs fun x32_2 vs=>
 jn (wnt x26 false (bV (pk3 (some x30) (some x32_2) (some (.bool false))) fun x33=>
 some (.norm [x33],H)) (some (.norm [undefA],H))) fun vs H=>hd vs fun x34 vs=>
 jn (wnt x34 true (bV (bStr .eql x15 (.str 0 0)) fun x36=>
 some (.norm [x36],H)) (some (.norm [undefA],H))) fun vs H=>hd vs fun x36_2 vs=>
 jn (wnt x26 false (bV (pk3 (some x34) (some x36_2) (some (.bool false))) fun x37=>
 some (.norm [x37],H)) (some (.norm [undefA],H))) fun vs H=>hd vs fun x37_2 vs=>
 bV (pk3 (some x26) (some (.bool true)) (some x37_2)) fun x38=>
 bV (some x38) fun x8=>some (.ret x8,H))
def h33:Hint:=(.s .o (.s .o (.s .o .o)))
theorem f33_eq (D:Dyn)(n:Nat):f33 D n=funK (s33 D n) D n 33 Tryz.f33 h33:=by kernel_rfl
theorem f33_ok {D:Dyn}(hD:DG D)(n:Nat):FI 33 (f33 D n):=fun_ok X_ok hD (SOk.cons (f27_ok hD n).fs (SOk.nil)) Tryz.func33 (by kernel_rfl) (f33_eq D n)
def s114 (D:Dyn)(n:Nat):Tb:=⟨X,[]⟩
def f114l0 (D:Dyn)(n:Nat)(vs:List AV)(H:AH):Rs:=
 hd vs fun x0_2 vs=>hd vs fun x1_2 vs=>hd vs fun x3 vs=>
 bV (bInt .geq x3 (.int .i64 (.ofNat 0))) fun x8=>
 cnd x8 (bV (ld1 x1_2 H) fun x13=>
 bV (ixSl 3 x13 x3) fun x15=>
 bV (ldN 3 x15 H) fun x16=>
 bR (callV (s114 D n).S D x0_2 [x3,x16] H) fun x17 H=>
 bV (aun .not x17) fun x18=>
 cnd x18 (some (.ret (.tuple []),H))
 (bV (bInt .sub x3 (.int .i64 (.ofNat 1))) fun x10=>
 some (.norm [x0_2,x1_2,x10],H)))
 (some (.exit 0 [],H))
def f114b1 (D:Dyn)(n:Nat)(vs:List AV)(H:AH):Rs:=
 some (.ret (.tuple []),H)
def f114 (D:Dyn)(n:Nat)(vs:List AV)(H:AH):Option (AV×AH):=
 outR (hd vs fun x0 vs=>hd vs fun x1 vs=>nl vs <|
 bV (ld1 x1 H) fun x4=>
 bV (lnSl x4) fun x5=>
 bV (bInt .sub x5 (.int .i64 (.ofNat 1))) fun x6=>
 jb 0 (loopK n (f114l0 D n) [x0,x1,x6] H) (f114b1 D n))
def h114:Hint:=(.s .o (.b [] (.l [0,1,3] (.s (.s .o (.cr .o .o)) (.s (.b0 (.s .o (.cl .o .o))) .o)))))
theorem f114_eq (D:Dyn)(n:Nat):f114 D n=funK (s114 D n) D n 114 Tryz.f114 h114:=by kernel_rfl
theorem f114_ok {D:Dyn}(hD:DG D)(n:Nat):FI 114 (f114 D n):=fun_ok X_ok hD (SOk.nil) Tryz.func114 (by kernel_rfl) (f114_eq D n)
def s71 (D:Dyn)(n:Nat):Tb:=⟨X,[]⟩
def f71 (D:Dyn)(n:Nat)(vs:List AV)(H:AH):Option (AV×AH):=
 outR (hd vs fun x0 vs=>nl vs <|
 bA (bxV 77 x0) H fun x1 H=>
 bV (some (.func 114 [] [x1])) fun x2=>some (.ret x2,H))
def h71:Hint:=(.s .o (.s .o .o))
theorem f71_eq (D:Dyn)(n:Nat):f71 D n=funK (s71 D n) D n 71 Tryz.f71 h71:=by kernel_rfl
theorem f71_ok {D:Dyn}(hD:DG D)(n:Nat):FI 71 (f71 D n):=fun_ok X_ok hD (SOk.nil) Tryz.func71 (by kernel_rfl) (f71_eq D n)
def s26 (D:Dyn)(n:Nat):Tb:=⟨X,[(62,f62 D n),(68,f68 D n),(69,f69 D n),(70,f70 D n),(71,f71 D n)]⟩
def f26j0 (D:Dyn)(n:Nat)(vs:List AV)(H:AH):Rs:=
 hd vs fun x0_3 vs=>hd vs fun x1_3 vs=>hd vs fun x4_3 vs=>hd vs fun x6_3 vs=>hd vs fun x28_3 vs=>hd vs fun x29_2 vs=>
 bV (bInt .add x29_2 (.int .i64 (.ofNat 1))) fun x92=>
 some (.norm [x0_3,x1_3,x4_3,x6_3,x28_3,x92],H)
def f26l1 (D:Dyn)(n:Nat)(vs:List AV)(H:AH):Rs:=
 hd vs fun x0_2 vs=>hd vs fun x1_2 vs=>hd vs fun x4_2 vs=>hd vs fun x6_2 vs=>hd vs fun x28_2 vs=>hd vs fun x29 vs=>
 bV (bInt .lss x29 x28_2) fun x30=>
 cnd x30 (bV (ld1 x6_2 H) fun x31=>
 bV (lnSl x31) fun x32=>
 bV (bInt .eql x32 (.int .i64 (.ofNat 0))) fun x33=>
 cnd x33 (bV (bldS [(0,1),(1,1)] [(.str 0 0),(.str 0 0)] []) fun x34=>
 bR (stN 2 x4_2 x34 H) fun x9999_4 H=>
 bV (ldN 2 x4_2 H) fun x9004_3=>bV (some (.int .i64 (.ofNat 5))) fun x5_3=>some (.ret (.tuple [x9004_3,x5_3]),H))
 (bV (ld1 x6_2 H) fun x37=>
 bV (ld1 x6_2 H) fun x38=>
 bV (lnSl x38) fun x39=>
 bV (bInt .sub x39 (.int .i64 (.ofNat 1))) fun x40=>
 bV (ixSl 3 x37 x40) fun x41=>
 bV (ldN 3 x41 H) fun x42=>
 bR (f69 D n [x0_2,x42] H) fun x43 H=>
 bV (pExtract x43 0) fun x44=>
 bV (pExtract x43 1) fun x45=>
 bA (bxV 133 (.agg [(.bool false), .nilSlice, .nilSlice, .nilSlice])) H fun x7 H=>
 bR (stN 4 x7 x44 H) fun x9999_5 H=>
 bV (bInt .neq x45 (.int .i64 (.ofNat 0))) fun x47=>
 cnd x47 (bV (bldS [(0,1),(1,1)] [(.str 0 0),(.str 0 0)] []) fun x48=>
 bR (stN 2 x4_2 x48 H) fun x9999_6 H=>
 bV (ldN 2 x4_2 H) fun x9004_4=>bV (some x45) fun x5_4=>some (.ret (.tuple [x9004_4,x5_4]),H))
 (bV (ld1 x6_2 H) fun x50=>
 bV (ld1 x6_2 H) fun x51=>
 bV (lnSl x51) fun x52=>
 bV (bInt .sub x52 (.int .i64 (.ofNat 1))) fun x53=>
 bV (slSl 3 x50 none (some x53) none H) fun x54=>
 bR (stN 1 x6_2 x54 H) fun x9999_7 H=>
 bV (ldN 4 x7 H) fun x55=>
 bR (f70 D n [x55,x1_2] H) fun x57 H=>
 bV (fAd 0 x7) fun x58=>
 bV (ld1 x58 H) fun x59=>
 jn (wnt x59 true (bV (fAd 1 x7) fun x62=>
 bV (ld1 x62 H) fun x63=>
 bV (lnSl x63) fun x64=>
 bV (bInt .lss x57 x64) fun x65=>
 some (.norm [x65],H)) (some (.norm [undefA],H))) fun vs H=>hd vs fun x65_2 vs=>
 bV (pk3 (some x59) (some x65_2) (some (.bool false))) fun x66=>
 cnd x66 (bV (fAd 1 x7) fun x67=>
 bV (ld1 x67 H) fun x68=>
 bV (ixSl 1 x68 x57) fun x70=>
 bV (ld1 x70 H) fun x71=>
 bV (fAd 2 x7) fun x72=>
 bV (ld1 x72 H) fun x73=>
 bV (ixSl 1 x73 x57) fun x75=>
 bV (ld1 x75 H) fun x76=>
 bV (bldS [(0,1),(1,1)] [(.str 0 0),(.str 0 0)] [(0,x71),(1,x76)]) fun x77=>
 bR (stN 2 x4_2 x77 H) fun x9999_8 H=>
 bV (ldN 2 x4_2 H) fun x9004_5=>bV (some (.int .i64 (.ofNat 0))) fun x5_5=>some (.ret (.tuple [x9004_5,x5_5]),H))
 (bV (fAd 0 x7) fun x78=>
 bV (ld1 x78 H) fun x79=>
 bV (aun .not x79) fun x80=>
 jn (cnd x80 (bV (fAd 3 x7) fun x81=>
 bV (ld1 x81 H) fun x82=>
 bV (slSl 3 x82 (some x57) none none H) fun x84=>
 bR (f71 D n [x84] H) fun x85 H=>
 newB H (.loop ⟨.ready,none,26,0,[6],[x6_2]⟩) fun A H=>bR (rfC (s26 D n).S D x85 A H) fun _ H=>endLp A H fun j H=>jmpK j (
 some (.norm [x0_2,x1_2,x4_2,x6_2,x28_2,x29],H))
 (fun id=>cond (Nat.beq 0 id) (some (.exit id [x4_2,x6_2],H)) (none)) (bV (ldN 2 x4_2 H) fun x9004_6=>none))
 (some (.norm [x0_2,x1_2,x4_2,x6_2,x28_2,x29],H))) (f26j0 D n)))))
 (some (.exit 0 [x4_2,x6_2],H))
def f26b2 (D:Dyn)(n:Nat)(vs:List AV)(H:AH):Rs:=
 hd vs fun x4_4 vs=>hd vs fun x6_4 vs=>
 bV (ld1 x6_4 H) fun x93=>
 bV (lnSl x93) fun x94=>
 bV (bInt .eql x94 (.int .i64 (.ofNat 0))) fun x95=>
 cnd x95 (bV (bldS [(0,1),(1,1)] [(.str 0 0),(.str 0 0)] []) fun x96=>
 bR (stN 2 x4_4 x96 H) fun x9999_9 H=>
 bV (ldN 2 x4_4 H) fun x9004_7=>bV (some (.int .i64 (.ofNat 5))) fun x5_6=>some (.ret (.tuple [x9004_7,x5_6]),H))
 (bV (bldS [(0,1),(1,1)] [(.str 0 0),(.str 0 0)] []) fun x97=>
 bR (stN 2 x4_4 x97 H) fun x9999_10 H=>
 bV (ldN 2 x4_4 H) fun x9004_8=>bV (some (.int .i64 (.ofNat 4))) fun x5_7=>some (.ret (.tuple [x9004_8,x5_7]),H))
def f26 (D:Dyn)(n:Nat)(vs:List AV)(H:AH):Option (AV×AH):=
 outR (hd vs fun x0 vs=>hd vs fun x1 vs=>nl vs <|
 bA (bxV 48 (.agg [(.str 0 0),(.str 0 0)])) H fun x4 H=>
 bR (f62 D n [x0] H) fun x13 H=>
 cnd x13 (bV (bldS [(0,1),(1,1)] [(.str 0 0),(.str 0 0)] []) fun x14=>
 bR (stN 2 x4 x14 H) fun x9999 H=>
 bV (ldN 2 x4 H) fun x9004=>bV (some (.int .i64 (.ofNat 2))) fun x5=>some (.ret (.tuple [x9004,x5]),H))
 (bV (pNil x0) fun x16=>
 bV (fAd 2 x16) fun x17=>
 bV (fAd 0 x17) fun x18=>
 bV (ld1 x18 H) fun x19=>
 bV (bInt .eql x19 (.int .i64 (.ofNat 0))) fun x20=>
 cnd x20 (bV (bldS [(0,1),(1,1)] [(.str 0 0),(.str 0 0)] []) fun x21=>
 bR (stN 2 x4 x21 H) fun x9999_2 H=>
 bV (ldN 2 x4 H) fun x9004_2=>bV (some (.int .i64 (.ofNat 5))) fun x5_2=>some (.ret (.tuple [x9004_2,x5_2]),H))
 (bV (pNil x0) fun x23=>
 bV (fAd 2 x23) fun x24=>
 bV (ldN 3 x24 H) fun x25=>
 bA (bldL 72 3 1 [(.int .i64 (.ofNat 0)),(.int .i64 (.ofNat 0)),(.int .u64 (.ofNat 0))] [(0,x25)]) H fun x26 H=>
 bA (bxV 77 .nilSlice) H fun x6 H=>
 bR (stN 1 x6 x26 H) fun x9999_3 H=>
 bR (f68 D n [x0] H) fun x28 H=>
 jb 0 (loopK n (f26l1 D n) [x0,x1,x4,x6,x28,(.int .i64 (.ofNat 0))] H) (f26b2 D n))))
def h26:Hint:=(.s .o (.s (.s .o (.cl (.s .o .o) .o)) (.s (.s .o (.cl (.s .o .o) .o)) (.s .o (.s (.s .o (.b [4,6] (.l [0,1,4,6,28,29] (.s .o (.s (.cr .o .o) (.s (.b0 (.s (.s .o (.cl (.s .o .o) .o)) (.s .o (.s (.s .o (.cl (.s .o .o) .o)) (.s .o (.s .o (.s (.s .o (.cl (.s .o .o) .o)) (.s .o (.c [0,1,4,6,28,29] (.s .o (.b0 (.rf 0 [6]))) .o))))))))) .o)))))) (.s (.s .o (.cl (.s .o .o) .o)) (.s .o .o)))))))
theorem f26_eq (D:Dyn)(n:Nat):f26 D n=funK (s26 D n) D n 26 Tryz.f26 h26:=by kernel_rfl
theorem f26_ok {D:Dyn}(hD:DG D)(n:Nat):FI 26 (f26 D n):=fun_ok X_ok hD (SOk.cons (f62_ok hD n).fs (SOk.cons (f68_ok hD n).fs (SOk.cons (f69_ok hD n).fs (SOk.cons (f70_ok hD n).fs (SOk.cons (f71_ok hD n).fs (SOk.nil)))))) Tryz.func26 (by kernel_rfl) (f26_eq D n)
def r26_0 (D:Dyn)(n:Nat)(A:Nat)(l:ALoop)(az:List AV)(H:AH):Option (AV×AH):=
 bif eqNL [6] l.live then endQ A (hd l.vals fun x6 vs=>hd az fun x86 az=>hd az fun x87 az=>nl az <|
 bA (bxV 72 (.agg [(.int .i64 (.ofNat 0)),(.int .i64 (.ofNat 0)),(.int .u64 (.ofNat 0))])) H fun x11 H=>
 bR (stN 3 x11 x87 H) fun x9999 H=>
 beginK A H fun H=>
 bV (ld1 x6 H) fun x88=>
 bV (ldN 3 x11 H) fun x89=>
 bA (bldL 72 3 1 [(.int .i64 (.ofNat 0)),(.int .i64 (.ofNat 0)),(.int .u64 (.ofNat 0))] [(0,x89)]) H fun x90 H=>
 bR (apP 72 3 24 x88 x90 H) fun x91 H=>
 bR (stN 1 x6 x91 H) fun x9999_2 H=>
 some (.norm [],H))else none
def r26_0a:Hint:= .o
def r26_0b:Hint:=(.b0 .o)
theorem r26_0_eq (D:Dyn)(n:Nat):r26_0 D n=rndK (s26 D n) D n 26 0 [6] [0] r26_0a r26_0b:=by kernel_rfl
theorem r26_0_ok {D:Dyn}(hD:DG D)(n:Nat):RS 26 0 (r26_0 D n):=round_ok X_ok hD (SOk.cons (f62_ok hD n).fs (SOk.cons (f68_ok hD n).fs (SOk.cons (f69_ok hD n).fs (SOk.cons (f70_ok hD n).fs (SOk.cons (f71_ok hD n).fs (SOk.nil)))))) (by kernel_rfl) (r26_0_eq D n)
def s35 (D:Dyn)(n:Nat):Tb:=⟨X,[]⟩
def f35 (D:Dyn)(n:Nat)(vs:List AV)(H:AH):Option (AV×AH):=
 outR (hd vs fun x0 vs=>nl vs <|
 bV (cmpO .eql (eqP x0 .nilPtr)) fun x4=>
 cnd x4 (bV (some (.int .i64 (.ofNat 0))) fun x2=>some (.ret x2,H))
 (bV (pNil x0) fun x6=>
 bV (fAd 8194 x6) fun x7=>
 bV (ixArr 4 1 x7 (.int .u8 (.ofNat 0))) fun x8=>
 bV (ld1 x8 H) fun x9=>
 bV (some x9) fun x2_2=>some (.ret x2_2,H)))
def h35:Hint:=(.s .o (.s (.s .o (.cl (.s .o .o) .o)) (.s .o .o)))
theorem f35_eq (D:Dyn)(n:Nat):f35 D n=funK (s35 D n) D n 35 Tryz.f35 h35:=by kernel_rfl
theorem f35_ok {D:Dyn}(hD:DG D)(n:Nat):FI 35 (f35 D n):=fun_ok X_ok hD (SOk.nil) Tryz.func35 (by kernel_rfl) (f35_eq D n)
def s157 (D:Dyn)(n:Nat):Tb:=⟨X,[]⟩
def f157 (D:Dyn)(n:Nat)(vs:List AV)(H:AH):Option (AV×AH):=
 outR (hd vs fun x0 vs=>hd vs fun x1 vs=>nl vs <|
 bV (ld1 x1 H) fun x3=>
 bV (lnStr x0) fun x5=>
 bV (cvI .u8 x5) fun x6=>
 bA (bldL 5 1 1 [(.int .u8 (.ofNat 0))] [(0,x6)]) H fun x7 H=>
 bR (apP 5 1 1 x3 x7 H) fun x8 H=>
 bR (stN 1 x1 x8 H) fun x9999 H=>
 bV (ld1 x1 H) fun x9=>
 bR (apP 5 1 1 x9 x0 H) fun x11 H=>
 bR (stN 1 x1 x11 H) fun x9999_2 H=>
 some (.ret (.tuple []),H))
def h157:Hint:=(.s .o .o)
theorem f157_eq (D:Dyn)(n:Nat):f157 D n=funK (s157 D n) D n 157 Tryz.f157 h157:=by kernel_rfl
theorem f157_ok {D:Dyn}(hD:DG D)(n:Nat):FI 157 (f157 D n):=fun_ok X_ok hD (SOk.nil) Tryz.func157 (by kernel_rfl) (f157_eq D n)
def s158 (D:Dyn)(n:Nat):Tb:=⟨X,[(75,f75 D n)]⟩
def f158j0 (D:Dyn)(n:Nat)(vs:List AV)(H:AH):Rs:=
 hd vs fun x2_2 vs=>hd vs fun x4 vs=>
 bV (ld1 x2_2 H) fun x13=>
 bR (apP 5 1 1 x13 x4 H) fun x15 H=>
 bR (stN 1 x2_2 x15 H) fun x9999_2 H=>
 some (.ret (.tuple []),H)
def f158 (D:Dyn)(n:Nat)(vs:List AV)(H:AH):Option (AV×AH):=
 outR (hd vs fun x0 vs=>hd vs fun x1 vs=>hd vs fun x2 vs=>nl vs <|
 bA (bxV 72 x0) H fun x3 H=>
 bV (ldN 3 x3 H) fun x7=>
 bR (f75 D n [x7] H) fun x8 H=>
 bV (pExtract x8 0) fun x9=>
 bV (pExtract x8 1) fun x10=>
 bV (bInt .neq x10 (.int .i64 (.ofNat 0))) fun x12=>
 jn (cnd x12 (bR (stN 1 x1 (.int .i64 (.ofNat 4)) H) fun x9999 H=>
 some (.norm [x2,x9],H))
 (some (.norm [x2,x9],H))) (f158j0 D n))
def h158:Hint:=(.s .o (.s .o (.s (.s .o (.c [2,4] .o .o)) .o)))
theorem f158_eq (D:Dyn)(n:Nat):f158 D n=funK (s158 D n) D n 158 Tryz.f158 h158:=by kernel_rfl
theorem f158_ok {D:Dyn}(hD:DG D)(n:Nat):FI 158 (f158 D n):=fun_ok X_ok hD (SOk.cons (f75_ok hD n).fs (SOk.nil)) Tryz.func158 (by kernel_rfl) (f158_eq D n)
end Go.Eng.Sh
end
end
section
noncomputable section
namespace Go.Eng.Sh
open Go.Proofs
set_option maxRecDepth 100000
def s133 (D:Dyn)(n:Nat):Tb:=⟨X,[(107,f107 D n),(123,f123 D n)]⟩
def f133j0 (D:Dyn)(n:Nat)(vs:List AV)(H:AH):Rs:=
 hd vs fun x1_4 vs=>hd vs fun x4_4 vs=>hd vs fun x5_4 vs=>hd vs fun x6_3 vs=>hd vs fun x7_3 vs=>hd vs fun x38_3 vs=>hd vs fun x39_3 vs=>hd vs fun x40_2 vs=>
 bV (bInt .add x40_2 (.int .i64 (.ofNat 1))) fun x65=>
 some (.norm [x1_4,x4_4,x5_4,x6_3,x7_3,x38_3,x39_3,x65],H)
def f133l1 (D:Dyn)(n:Nat)(vs:List AV)(H:AH):Rs:=
 hd vs fun x1_3 vs=>hd vs fun x4_3 vs=>hd vs fun x5_3 vs=>hd vs fun x6_2 vs=>hd vs fun x7_2 vs=>hd vs fun x38_2 vs=>hd vs fun x39_2 vs=>hd vs fun x40 vs=>
 bV (bInt .lss x40 x39_2) fun x41=>
 cnd x41 (bV (ixSl 1 x38_2 x40) fun x43=>
 bV (ld1 x43 H) fun x44=>
 bR (callV (s133 D n).S D x6_2 [x44] H) fun x47 H=>
 bV (fAd 0 x1_3) fun x48=>
 bV (ld1 x48 H) fun x49=>
 jn (cnd x49 (bV (fAd 2 x1_3) fun x51=>
 bV (ld1 x51 H) fun x52=>
 bV (ixSl 1 x52 x40) fun x54=>
 bV (ld1 x54 H) fun x55=>
 bR (callV (s133 D n).S D x6_2 [x55] H) fun x56 H=>
 some (.norm [x1_3,x4_3,x5_3,x6_2,x7_2,x38_2,x39_2,x40],H))
 (bV (fAd 3 x1_3) fun x58=>
 bV (ld1 x58 H) fun x59=>
 bV (bInt .add x40 (.int .i64 (.ofNat 1))) fun x61=>
 bV (ixSl 3 x59 x61) fun x62=>
 bV (ldN 3 x62 H) fun x63=>
 bR (callV (s133 D n).S D x7_2 [x63] H) fun x64 H=>
 some (.norm [x1_3,x4_3,x5_3,x6_2,x7_2,x38_2,x39_2,x40],H))) (f133j0 D n))
 (some (.exit 0 [x4_3,x5_3],H))
def f133b2 (D:Dyn)(n:Nat)(vs:List AV)(H:AH):Rs:=
 hd vs fun x4_5 vs=>hd vs fun x5_5 vs=>
 bV (ld1 x5_5 H) fun x66=>
 bV (bInt .neq x66 (.int .i64 (.ofNat 0))) fun x67=>
 cnd x67 (bV (ld1 x5_5 H) fun x68=>
 bV (some (.str 0 0)) fun x2_3=>bV (some x68) fun x3_3=>some (.ret (.tuple [x2_3,x3_3]),H))
 (bV (ld1 x4_5 H) fun x69=>
 bV (cvBS x69 H) fun x70=>
 bV (some x70) fun x2_4=>bV (some (.int .i64 (.ofNat 0))) fun x3_4=>some (.ret (.tuple [x2_4,x3_4]),H))
def f133j3 (D:Dyn)(n:Nat)(vs:List AV)(H:AH):Rs:=
 hd vs fun x1_2 vs=>hd vs fun x4_2 vs=>hd vs fun x5_2 vs=>hd vs fun x6 vs=>hd vs fun x7 vs=>
 bV (fAd 1 x1_2) fun x37=>
 bV (ld1 x37 H) fun x38=>
 bV (lnSl x38) fun x39=>
 jb 0 (loopK n (f133l1 D n) [x1_2,x4_2,x5_2,x6,x7,x38,x39,(.int .i64 (.ofNat 0))] H) (f133b2 D n)
def f133 (D:Dyn)(n:Nat)(vs:List AV)(H:AH):Option (AV×AH):=
 outR (hd vs fun x0 vs=>nl vs <|
 bA (bxV 133 x0) H fun x1 H=>
 bV (ldN 4 x1 H) fun x10=>
 bR (f107 D n [x10] H) fun x11 H=>
 bV (aun .not x11) fun x12=>
 cnd x12 (bV (some (.str 0 0)) fun x2=>bV (some (.int .i64 (.ofNat 4))) fun x3=>some (.ret (.tuple [x2,x3]),H))
 (bV (ldN 4 x1 H) fun x13=>
 bR (f123 D n [x13] H) fun x14 H=>
 bV (bInt .gtr x14 (.int .i64 (.ofNat 500))) fun x15=>
 cnd x15 (bV (some (.str 0 0)) fun x2_2=>bV (some (.int .i64 (.ofNat 40))) fun x3_2=>some (.ret (.tuple [x2_2,x3_2]),H))
 (bV (fAd 1 x1) fun x16=>
 bV (ld1 x16 H) fun x17=>
 bV (lnSl x17) fun x18=>
 bV (bInt .shr x18 (.int .u64 (.ofNat 8))) fun x19=>
 bV (cvI .u8 x19) fun x20=>
 bV (fAd 1 x1) fun x21=>
 bV (ld1 x21 H) fun x22=>
 bV (lnSl x22) fun x23=>
 bV (cvI .u8 x23) fun x24=>
 bA (bldL 5 1 2 [(.int .u8 (.ofNat 0))] [(0,x20),(1,x24)]) H fun x25 H=>
 bA (bxV 188 .nilSlice) H fun x4 H=>
 bR (stN 1 x4 x25 H) fun x9999 H=>
 bA (bxV 26 (.int .i64 (.ofNat 0))) H fun x5 H=>
 bR (stN 1 x5 (.int .i64 (.ofNat 0)) H) fun x9999_2 H=>
 bV (fAd 0 x1) fun x28=>
 bV (ld1 x28 H) fun x29=>
 bV (aun .not x29) fun x30=>
 jn (cnd x30 (bV (fAd 3 x1) fun x32=>
 bV (ld1 x32 H) fun x33=>
 bV (ixSl 3 x33 (.int .i64 (.ofNat 0))) fun x34=>
 bV (ldN 3 x34 H) fun x35=>
 bR (callV (s133 D n).S D (.func 158 [] [x5,x4]) [x35] H) fun x36 H=>
 some (.norm [x1,x4,x5,(.func 157 [] [x4]),(.func 158 [] [x5,x4])],H))
 (some (.norm [x1,x4,x5,(.func 157 [] [x4]),(.func 158 [] [x5,x4])],H))) (f133j3 D n))))
def h133:Hint:=(.s .o (.s (.s .o (.cl (.s .o .o) .o)) (.s (.s .o (.cl (.s .o .o) .o)) (.s .o (.s .o (.s .o (.s .o (.s (.s .o (.c [1,4,5,6,7] .o .o)) (.s (.s .o (.b [4,5] (.l [1,4,5,6,7,38,39,40] (.s .o (.s (.cr .o .o) (.s (.b0 (.s .o (.s .o (.s .o (.c [1,4,5,6,7,38,39,40] .o .o))))) .o)))))) (.s (.s .o (.cl (.s .o .o) .o)) (.s .o .o)))))))))))
theorem f133_eq (D:Dyn)(n:Nat):f133 D n=funK (s133 D n) D n 133 Tryz.f133 h133:=by kernel_rfl
theorem f133_ok {D:Dyn}(hD:DG D)(n:Nat):FI 133 (f133 D n):=fun_ok X_ok hD (SOk.cons (f107_ok hD n).fs (SOk.cons (f123_ok hD n).fs (SOk.nil))) Tryz.func133 (by kernel_rfl) (f133_eq D n)
def s174 (D:Dyn)(n:Nat):Tb:=⟨X,[]⟩
def f174l0 (D:Dyn)(n:Nat)(vs:List AV)(H:AH):Rs:=
 hd vs fun x0_2 vs=>hd vs fun x1_2 vs=>hd vs fun x2_2 vs=>hd vs fun x5 vs=>
 bV (ld1 x1_2 H) fun x17=>
 bV (pNil x17) fun x18=>
 bV (fAd 0 x18) fun x19=>
 bV (ld1 x19 H) fun x20=>
 bV (bInt .lss x5 x20) fun x21=>
 cnd x21 (bV (ld1 x1_2 H) fun x24=>
 bV (pNil x24) fun x26=>
 bV (fAd 2 x26) fun x27=>
 bV (ixArr 8192 1 x27 x5) fun x28=>
 bV (ld1 x28 H) fun x29=>
 bV (ld1 x2_2 H) fun x30=>
 bV (bInt .eql x29 x30) fun x31=>
 jn (wnt x31 true (bR (callV (s174 D n).S D x0_2 [x5] H) fun x35 H=>
 bV (aun .not x35) fun x36=>
 some (.norm [x36],H)) (some (.norm [undefA],H))) fun vs H=>hd vs fun x36_2 vs=>
 bV (pk3 (some x31) (some x36_2) (some (.bool false))) fun x37=>
 cnd x37 (some (.ret (.tuple []),H))
 (bV (bInt .add x5 (.int .i64 (.ofNat 1))) fun x23=>
 some (.norm [x0_2,x1_2,x2_2,x23],H)))
 (some (.exit 0 [],H))
def f174b1 (D:Dyn)(n:Nat)(vs:List AV)(H:AH):Rs:=
 some (.ret (.tuple []),H)
def f174 (D:Dyn)(n:Nat)(vs:List AV)(H:AH):Option (AV×AH):=
 outR (hd vs fun x0 vs=>hd vs fun x1 vs=>hd vs fun x2 vs=>hd vs fun x3 vs=>nl vs <|
 bV (ld1 x1 H) fun x6=>
 bV (ld1 x2 H) fun x7=>
 bV (pNil x6) fun x8=>
 bV (fAd 8194 x8) fun x9=>
 bV (ixArr 4 1 x9 x7) fun x10=>
 bV (ld1 x10 H) fun x11=>
 bV (bInt .eql x11 (.int .i64 (.ofNat 0))) fun x12=>
 cnd x12 (some (.ret (.tuple []),H))
 (bV (ld1 x3 H) fun x13=>
 bV (bInt .add x13 (.int .i64 (.ofNat 1))) fun x14=>
 bV (mx2 x14 (.int .i64 (.ofNat 2))) fun x15=>
 jb 0 (loopK n (f174l0 D n) [x0,x1,x2,x15] H) (f174b1 D n)))
def h174:Hint:=(.s (.s .o (.cl .o .o)) (.s .o (.b [] (.l [0,1,2,5] (.s (.s .o (.cr .o .o)) (.s (.b0 (.s .o (.cl .o .o))) .o))))))
theorem f174_eq (D:Dyn)(n:Nat):f174 D n=funK (s174 D n) D n 174 Tryz.f174 h174:=by kernel_rfl
theorem f174_ok {D:Dyn}(hD:DG D)(n:Nat):FI 174 (f174 D n):=fun_ok X_ok hD (SOk.nil) Tryz.func174 (by kernel_rfl) (f174_eq D n)
def s151 (D:Dyn)(n:Nat):Tb:=⟨X,[]⟩
def f151 (D:Dyn)(n:Nat)(vs:List AV)(H:AH):Option (AV×AH):=
 outR (hd vs fun x0 vs=>hd vs fun x1 vs=>hd vs fun x2 vs=>nl vs <|
 bA (bxV 42 x0) H fun x3 H=>
 bA (bxV 151 x1) H fun x4 H=>
 bA (bxV 3 x2) H fun x5 H=>
 bV (some (.func 174 [] [x3,x4,x5])) fun x6=>some (.ret x6,H))
def h151:Hint:=(.s .o (.s .o .o))
theorem f151_eq (D:Dyn)(n:Nat):f151 D n=funK (s151 D n) D n 151 Tryz.f151 h151:=by kernel_rfl
theorem f151_ok {D:Dyn}(hD:DG D)(n:Nat):FI 151 (f151 D n):=fun_ok X_ok hD (SOk.nil) Tryz.func151 (by kernel_rfl) (f151_eq D n)
def s159 (D:Dyn)(n:Nat):Tb:=⟨X,[(151,f151 D n),(98,f98 D n)]⟩
def f159l0 (D:Dyn)(n:Nat)(vs:List AV)(H:AH):Rs:=
 hd vs fun x1_2 vs=>hd vs fun x2_2 vs=>hd vs fun x3_2 vs=>hd vs fun x13_2 vs=>hd vs fun x14 vs=>
 bV (bInt .lss x14 (.int .i64 (.ofNat 2))) fun x15=>
 cnd x15 (bV (ixAg1 2 1 x13_2 x14) fun x16=>
 bV (ld1 x1_2 H) fun x17=>
 bR (f151 D n [x17,(.int .u8 (.ofNat 0)),x16] H) fun x19 H=>
 newB H (.loop ⟨.ready,none,159,0,[1,2,3],[x1_2,x2_2,x3_2]⟩) fun A H=>bR (rfC (s159 D n).S D x19 A H) fun _ H=>endLp A H fun j H=>jmpK j (
 bV (bInt .add x14 (.int .i64 (.ofNat 1))) fun x29=>
 some (.norm [x1_2,x2_2,x3_2,x13_2,x29],H))
 (fun id=>cond (Nat.beq 0 id) (some (.exit id [x2_2,x3_2],H)) (none)) (bV (ld1 x2_2 H) fun x9002_2=>bV (ld1 x3_2 H) fun x9003_2=>some (.ret (.tuple [x9002_2,x9003_2]),H)))
 (some (.exit 0 [x2_2,x3_2],H))
def f159b1 (D:Dyn)(n:Nat)(vs:List AV)(H:AH):Rs:=
 hd vs fun x2_3 vs=>hd vs fun x3_3 vs=>
 bR (stN 1 x2_3 (.int .i64 (.ofNat 0)) H) fun x9999_3 H=>
 bR (stN 1 x3_3 (.int .i64 (.ofNat 3)) H) fun x9999_4 H=>
 bV (ld1 x2_3 H) fun x9002_3=>bV (ld1 x3_3 H) fun x9003_3=>some (.ret (.tuple [x9002_3,x9003_3]),H)
def f159 (D:Dyn)(n:Nat)(vs:List AV)(H:AH):Option (AV×AH):=
 outR (hd vs fun x0 vs=>nl vs <|
 bA (bxV 42 x0) H fun x1 H=>
 bA (bxV 3 (.int .i64 (.ofNat 0))) H fun x2 H=>
 bA (bxV 26 (.int .i64 (.ofNat 0))) H fun x3 H=>
 bV (ld1 x1 H) fun x7=>
 bV (cmpO .eql (eqP x7 .nilPtr)) fun x8=>
 cnd x8 (bR (stN 1 x2 (.int .i64 (.ofNat 0)) H) fun x9999 H=>
 bR (stN 1 x3 (.int .i64 (.ofNat 2)) H) fun x9999_2 H=>
 bV (ld1 x2 H) fun x9002=>bV (ld1 x3 H) fun x9003=>some (.ret (.tuple [x9002,x9003]),H))
 (bV (ld1 x1 H) fun x9=>
 bV (pNil x9) fun x10=>
 bV (fAd 1 x10) fun x11=>
 bV (ld1 x11 H) fun x12=>
 bV (bldA 1 [(.int .i64 (.ofNat 0)),(.int .i64 (.ofNat 0))] [(0,x12),(1,(.int .i64 (.ofNat 0)))]) fun x13=>
 jb 0 (loopK n (f159l0 D n) [x1,x2,x3,x13,(.int .i64 (.ofNat 0))] H) (f159b1 D n)))
def h159:Hint:=(.s .o (.s (.s .o (.cl (.s .o .o) .o)) (.s (.s .o (.b [2,3] (.l [1,2,3,13,14] (.s .o (.s (.cr .o .o) (.s (.b0 (.s .o (.s .o (.b0 (.rf 0 [1,2,3]))))) .o)))))) (.s .o .o))))
theorem f159_eq (D:Dyn)(n:Nat):f159 D n=funK (s159 D n) D n 159 Tryz.f159 h159:=by kernel_rfl
theorem f159_ok {D:Dyn}(hD:DG D)(n:Nat):FI 159 (f159 D n):=fun_ok X_ok hD (SOk.cons (f151_ok hD n).fs (SOk.cons (f98_ok hD n).fs (SOk.nil))) Tryz.func159 (by kernel_rfl) (f159_eq D n)
def r159_0 (D:Dyn)(n:Nat)(A:Nat)(l:ALoop)(az:List AV)(H:AH):Option (AV×AH):=
 bif eqNL [1,2,3] l.live then endQ A (hd l.vals fun x1 vs=>hd vs fun x2 vs=>hd vs fun x3 vs=>hd az fun x20 az=>nl az <|
 beginK A H fun H=>
 bV (ld1 x1 H) fun x21=>
 bR (f98 D n [x21,x20,(.int .u8 (.ofNat 2))] H) fun x23 H=>
 bV (ld1 x1 H) fun x24=>
 bV (pNil x24) fun x26=>
 bV (fAd 1 x26) fun x27=>
 bR (stN 1 x27 x20 H) fun x9999 H=>
 bR (stN 1 x2 x20 H) fun x9999_2 H=>
 bR (stN 1 x3 (.int .i64 (.ofNat 0)) H) fun x9999_3 H=>
 some (.ret (.tuple []),H))else none
def r159_0a:Hint:= .o
def r159_0b:Hint:=(.b0 (.s .o (.s .o (.s .o .o))))
theorem r159_0_eq (D:Dyn)(n:Nat):r159_0 D n=rndK (s159 D n) D n 159 0 [1,2,3] [0] r159_0a r159_0b:=by kernel_rfl
theorem r159_0_ok {D:Dyn}(hD:DG D)(n:Nat):RS 159 0 (r159_0 D n):=round_ok X_ok hD (SOk.cons (f151_ok hD n).fs (SOk.cons (f98_ok hD n).fs (SOk.nil))) (by kernel_rfl) (r159_0_eq D n)
def s152 (D:Dyn)(n:Nat):Tb:=⟨X,[]⟩
def f152 (D:Dyn)(n:Nat)(vs:List AV)(H:AH):Option (AV×AH):=
 outR (hd vs fun x0 vs=>nl vs <|
 bV (pNil x0) fun x3=>
 bV (fAd 2 x3) fun x4=>
 bR (stN 1 x4 .nilSlice H) fun x9999 H=>
 bV (pNil x0) fun x6=>
 bV (fAd 3 x6) fun x7=>
 bV (ld1 x7 H) fun x8=>
 bR (clM x8 H) fun x9999_2 H=>
 some (.ret (.tuple []),H))
def h152:Hint:=(.s .o .o)
theorem f152_eq (D:Dyn)(n:Nat):f152 D n=funK (s152 D n) D n 152 Tryz.f152 h152:=by kernel_rfl
theorem f152_ok {D:Dyn}(hD:DG D)(n:Nat):FI 152 (f152 D n):=fun_ok X_ok hD (SOk.nil) Tryz.func152 (by kernel_rfl) (f152_eq D n)
def s122 (D:Dyn)(n:Nat):Tb:=⟨X,[(152,f152 D n)]⟩
def f122j0 (D:Dyn)(n:Nat)(vs:List AV)(H:AH):Rs:=
 hd vs fun x0_3 vs=>hd vs fun x1_3 vs=>hd vs fun x9_3 vs=>hd vs fun x10_3 vs=>hd vs fun x11_2 vs=>
 bV (bInt .add x11_2 (.int .i64 (.ofNat 1))) fun x34=>
 some (.norm [x0_3,x1_3,x9_3,x10_3,x34],H)
def f122l1 (D:Dyn)(n:Nat)(vs:List AV)(H:AH):Rs:=
 hd vs fun x0_2 vs=>hd vs fun x1_2 vs=>hd vs fun x9_2 vs=>hd vs fun x10_2 vs=>hd vs fun x11 vs=>
 bV (bInt .lss x11 x10_2) fun x12=>
 cnd x12 (bV (ixSl 513 x9_2 x11) fun x14=>
 bV (ldN 513 x14 H) fun x15=>
 bA (bxV 165 (.agg ([(.int .i64 (.ofNat 0))]++rep 512 [(.int .u8 (.ofNat 0))]))) H fun x5 H=>
 bR (stN 513 x5 x15 H) fun x9999 H=>
 bV (lnSl x1_2) fun x18=>
 bV (bInt .lss x11 x18) fun x19=>
 jn (wnt x19 true (bV (ixSl 1 x1_2 x11) fun x23=>
 bV (ld1 x23 H) fun x24=>
 some (.norm [x24],H)) (some (.norm [undefA],H))) fun vs H=>hd vs fun x24_2 vs=>
 bV (pk3 (some x19) (some x24_2) (some (.bool false))) fun x25=>
 jn (cnd x25 (bV (pNil x0_2) fun x27=>
 bV (fAd 1 x27) fun x28=>
 bV (ld1 x28 H) fun x29=>
 bV (fAd 0 x5) fun x30=>
 bV (ld1 x30 H) fun x31=>
 bV (fAd 1 x5) fun x32=>
 bV (ldN 512 x32 H) fun x33=>
 bR (upM [6] x29 x31 x33 H) fun x9999_2 H=>
 some (.norm [x0_2,x1_2,x9_2,x10_2,x11],H))
 (some (.norm [x0_2,x1_2,x9_2,x10_2,x11],H))) (f122j0 D n))
 (some (.exit 0 [x0_2],H))
def f122b2 (D:Dyn)(n:Nat)(vs:List AV)(H:AH):Rs:=
 hd vs fun x0_4 vs=>
 bR (f152 D n [x0_4] H) fun x36 H=>
 bV (pNil x0_4) fun x39=>
 bV (fAd 4 x39) fun x40=>
 bR (stN 1 x40 (.int .i64 (.ofNat 0)) H) fun x9999_3 H=>
 bV (pNil x0_4) fun x41=>
 bV (fAd 5 x41) fun x42=>
 bR (stN 1 x42 .nilSlice H) fun x9999_4 H=>
 bV (pNil x0_4) fun x44=>
 bV (fAd 6 x44) fun x45=>
 bR (stN 1 x45 (.bool true) H) fun x9999_5 H=>
 some (.ret (.tuple []),H)
def f122 (D:Dyn)(n:Nat)(vs:List AV)(H:AH):Option (AV×AH):=
 outR (hd vs fun x0 vs=>hd vs fun x1 vs=>nl vs <|
 bV (pNil x0) fun x7=>
 bV (fAd 2 x7) fun x8=>
 bV (ld1 x8 H) fun x9=>
 bV (lnSl x9) fun x10=>
 jb 0 (loopK n (f122l1 D n) [x0,x1,x9,x10,(.int .i64 (.ofNat 0))] H) (f122b2 D n))
def h122:Hint:=(.s (.s .o (.b [0] (.l [0,1,9,10,11] (.s .o (.s (.cr .o .o) (.s (.b0 (.s .o (.s .o (.c [0,1,9,10,11] .o .o)))) .o)))))) (.s .o (.s .o .o)))
theorem f122_eq (D:Dyn)(n:Nat):f122 D n=funK (s122 D n) D n 122 Tryz.f122 h122:=by kernel_rfl
theorem f122_ok {D:Dyn}(hD:DG D)(n:Nat):FI 122 (f122 D n):=fun_ok X_ok hD (SOk.cons (f152_ok hD n).fs (SOk.nil)) Tryz.func122 (by kernel_rfl) (f122_eq D n)
def s79 (D:Dyn)(n:Nat):Tb:=⟨X,[(122,f122 D n)]⟩
def f79 (D:Dyn)(n:Nat)(vs:List AV)(H:AH):Option (AV×AH):=
 outR (hd vs fun x0 vs=>nl vs <|
 bV (pNil x0) fun x4=>
 bV (fAd 4 x4) fun x5=>
 bV (ld1 x5 H) fun x6=>
 bV (bInt .eql x6 (.int .i64 (.ofNat 0))) fun x7=>
 cnd x7 (bV (some (.int .i64 (.ofNat 0))) fun x2=>some (.ret x2,H))
 (bV (pNil x0) fun x9=>
 bV (fAd 4 x9) fun x10=>
 bV (ld1 x10 H) fun x11=>
 bV (bInt .sub x11 (.int .i64 (.ofNat 1))) fun x12=>
 bV (pNil x0) fun x13=>
 bV (fAd 4 x13) fun x14=>
 bR (stN 1 x14 x12 H) fun x9999 H=>
 bV (pNil x0) fun x16=>
 bV (fAd 4 x16) fun x17=>
 bV (ld1 x17 H) fun x18=>
 bV (bInt .gtr x18 (.int .i64 (.ofNat 0))) fun x19=>
 cnd x19 (bV (some (.int .i64 (.ofNat 0))) fun x2_2=>some (.ret x2_2,H))
 (bV (pNil x0) fun x22=>
 bV (fAd 5 x22) fun x23=>
 bV (ld1 x23 H) fun x24=>
 bR (f122 D n [x0,x24] H) fun x25 H=>
 bV (some (.int .i64 (.ofNat 51))) fun x2_3=>some (.ret x2_3,H))))
def h79:Hint:=(.s .o (.s (.s .o (.cl (.s .o .o) .o)) (.s .o (.s (.s .o (.cl (.s .o .o) .o)) (.s .o (.s .o .o))))))
theorem f79_eq (D:Dyn)(n:Nat):f79 D n=funK (s79 D n) D n 79 Tryz.f79 h79:=by kernel_rfl
theorem f79_ok {D:Dyn}(hD:DG D)(n:Nat):FI 79 (f79 D n):=fun_ok X_ok hD (SOk.cons (f122_ok hD n).fs (SOk.nil)) Tryz.func79 (by kernel_rfl) (f79_eq D n)
def s39 (D:Dyn)(n:Nat):Tb:=⟨X,[(78,f78 D n),(79,f79 D n)]⟩
def f39 (D:Dyn)(n:Nat)(vs:List AV)(H:AH):Option (AV×AH):=
 outR (hd vs fun x0 vs=>hd vs fun x1 vs=>hd vs fun x2 vs=>nl vs <|
 bA (bxV 83 x2) H fun x5 H=>
 bR (f78 D n [x0,x1] H) fun x10 H=>
 bV (bInt .neq x10 (.int .i64 (.ofNat 0))) fun x12=>
 cnd x12 (bV (some x10) fun x6=>some (.ret x6,H))
 (bV (pNil x0) fun x15=>
 bV (fAd 3 x15) fun x16=>
 bV (ld1 x16 H) fun x17=>
 bV (pNil x0) fun x20=>
 bV (fAd 2 x20) fun x21=>
 bV (ld1 x21 H) fun x22=>
 bV (lnSl x22) fun x23=>
 bR (upM [6] x17 x1 x23 H) fun x9999 H=>
 bV (pNil x0) fun x26=>
 bV (fAd 2 x26) fun x27=>
 bV (ld1 x27 H) fun x28=>
 bV (ldN 512 x5 H) fun x30=>
 bV (bldS [(0,1),(1,512)] ([(.int .i64 (.ofNat 0))]++rep 512 [(.int .u8 (.ofNat 0))]) [(0,x1),(1,x30)]) fun x31=>
 bA (bldL 165 513 1 ([(.int .i64 (.ofNat 0))]++rep 512 [(.int .u8 (.ofNat 0))]) [(0,x31)]) H fun x32 H=>
 bR (apP 165 513 520 x28 x32 H) fun x33 H=>
 bV (pNil x0) fun x34=>
 bV (fAd 2 x34) fun x35=>
 bR (stN 1 x35 x33 H) fun x9999_2 H=>
 bR (f79 D n [x0] H) fun x37 H=>
 bV (some x37) fun x6_2=>some (.ret x6_2,H)))
def h39:Hint:=(.s .o (.s (.s .o (.s .o (.cl (.s .o .o) .o))) (.s .o (.s .o (.s .o .o)))))
theorem f39_eq (D:Dyn)(n:Nat):f39 D n=funK (s39 D n) D n 39 Tryz.f39 h39:=by kernel_rfl
theorem f39_ok {D:Dyn}(hD:DG D)(n:Nat):FI 39 (f39 D n):=fun_ok X_ok hD (SOk.cons (f78_ok hD n).fs (SOk.cons (f79_ok hD n).fs (SOk.nil))) Tryz.func39 (by kernel_rfl) (f39_eq D n)
def s160 (D:Dyn)(n:Nat):Tb:=⟨X,[(171,f171 D n),(170,f170 D n)]⟩
def f160 (D:Dyn)(n:Nat)(vs:List AV)(H:AH):Option (AV×AH):=
 outR (hd vs fun x0 vs=>hd vs fun x1 vs=>nl vs <|
 bA (bxV 83 x1) H fun x3 H=>
 bA (bxV 72 (.agg [(.int .i64 (.ofNat 0)),(.int .i64 (.ofNat 0)),(.int .u64 (.ofNat 0))])) H fun x4 H=>
 bV (ldN 512 x3 H) fun x11=>
 bR (f171 D n [x11] H) fun x12 H=>
 bV (pExtract x12 0) fun x13=>
 bV (pExtract x12 1) fun x14=>
 bV (pExtract x12 2) fun x15=>
 bV (pExtract x12 3) fun x16=>
 bV (bInt .neq x16 (.int .i64 (.ofNat 0))) fun x18=>
 cnd x18 (bV (bldS [(0,1),(1,1),(2,1)] [(.int .i64 (.ofNat 0)),(.int .i64 (.ofNat 0)),(.int .u64 (.ofNat 0))] []) fun x19=>
 bR (stN 3 x4 x19 H) fun x9999 H=>
 bV (ldN 3 x4 H) fun x9004=>bV (some x16) fun x5=>some (.ret (.tuple [x9004,x5]),H))
 (bV (bInt .lss x0 (.int .i64 (.ofNat 1))) fun x22=>
 jn (wnt x22 false (bV (bInt .geq x0 (.int .i64 (.ofNat 8192))) fun x25=>
 some (.norm [x25],H)) (some (.norm [undefA],H))) fun vs H=>hd vs fun x25_2 vs=>
 bV (pk3 (some x22) (some (.bool true)) (some x25_2)) fun x26=>
 cnd x26 (bV (bldS [(0,1),(1,1),(2,1)] [(.int .i64 (.ofNat 0)),(.int .i64 (.ofNat 0)),(.int .u64 (.ofNat 0))] []) fun x27=>
 bR (stN 3 x4 x27 H) fun x9999_2 H=>
 bV (ldN 3 x4 H) fun x9004_2=>bV (some (.int .i64 (.ofNat 1))) fun x5_2=>some (.ret (.tuple [x9004_2,x5_2]),H))
 (bV (ldN 512 x3 H) fun x30=>
 bR (f170 D n [x30] H) fun x31 H=>
 bV (bldS [(0,1),(1,1),(2,1)] [(.int .i64 (.ofNat 0)),(.int .i64 (.ofNat 0)),(.int .u64 (.ofNat 0))] [(0,x0),(1,x14),(2,x31)]) fun x32=>
 bR (stN 3 x4 x32 H) fun x9999_3 H=>
 bV (ldN 3 x4 H) fun x9004_3=>bV (some (.int .i64 (.ofNat 0))) fun x5_3=>some (.ret (.tuple [x9004_3,x5_3]),H))))
def h160:Hint:=(.s .o (.s .o (.s (.s .o (.cl (.s .o .o) .o)) (.s (.s .o (.cl (.s .o .o) .o)) (.s .o .o)))))
theorem f160_eq (D:Dyn)(n:Nat):f160 D n=funK (s160 D n) D n 160 Tryz.f160 h160:=by kernel_rfl
theorem f160_ok {D:Dyn}(hD:DG D)(n:Nat):FI 160 (f160 D n):=fun_ok X_ok hD (SOk.cons (f171_ok hD n).fs (SOk.cons (f170_ok hD n).fs (SOk.nil))) Tryz.func160 (by kernel_rfl) (f160_eq D n)
def s135 (D:Dyn)(n:Nat):Tb:=⟨X,[(159,f159 D n),(39,f39 D n),(160,f160 D n)]⟩
def f135 (D:Dyn)(n:Nat)(vs:List AV)(H:AH):Option (AV×AH):=
 outR (hd vs fun x0 vs=>hd vs fun x1 vs=>nl vs <|
 bA (bxV 83 x1) H fun x3 H=>
 bA (bxV 72 (.agg [(.int .i64 (.ofNat 0)),(.int .i64 (.ofNat 0)),(.int .u64 (.ofNat 0))])) H fun x4 H=>
 bV (pNil x0) fun x11=>
 bV (fAd 1 x11) fun x12=>
 bV (ld1 x12 H) fun x13=>
 bR (f159 D n [x13] H) fun x14 H=>
 bV (pExtract x14 0) fun x15=>
 bV (pExtract x14 1) fun x16=>
 bV (bInt .neq x16 (.int .i64 (.ofNat 0))) fun x18=>
 cnd x18 (bV (bldS [(0,1),(1,1),(2,1)] [(.int .i64 (.ofNat 0)),(.int .i64 (.ofNat 0)),(.int .u64 (.ofNat 0))] []) fun x19=>
 bR (stN 3 x4 x19 H) fun x9999 H=>
 bV (ldN 3 x4 H) fun x9004=>bV (some x16) fun x5=>some (.ret (.tuple [x9004,x5]),H))
 (bV (pNil x0) fun x23=>
 bV (fAd 4 x23) fun x24=>
 bV (ld1 x24 H) fun x25=>
 bA (bldL 3 1 1 [(.int .i64 (.ofNat 0))] [(0,x15)]) H fun x27 H=>
 bR (apP 3 1 8 x25 x27 H) fun x28 H=>
 bV (pNil x0) fun x29=>
 bV (fAd 4 x29) fun x30=>
 bR (stN 1 x30 x28 H) fun x9999_2 H=>
 bV (pNil x0) fun x32=>
 bV (fAd 0 x32) fun x33=>
 bV (ld1 x33 H) fun x34=>
 bV (pNil x34) fun x35=>
 bV (fAd 0 x35) fun x36=>
 bV (ld1 x36 H) fun x37=>
 bV (ldN 512 x3 H) fun x39=>
 bR (f39 D n [x37,x15,x39] H) fun x40 H=>
 bV (bInt .neq x40 (.int .i64 (.ofNat 0))) fun x42=>
 cnd x42 (bV (bldS [(0,1),(1,1),(2,1)] [(.int .i64 (.ofNat 0)),(.int .i64 (.ofNat 0)),(.int .u64 (.ofNat 0))] []) fun x43=>
 bR (stN 3 x4 x43 H) fun x9999_3 H=>
 bV (ldN 3 x4 H) fun x9004_2=>bV (some x40) fun x5_2=>some (.ret (.tuple [x9004_2,x5_2]),H))
 (bV (pNil x0) fun x47=>
 bV (fAd 5 x47) fun x48=>
 bV (ld1 x48 H) fun x49=>
 bV (ldN 512 x3 H) fun x51=>
 bV (bldS [(0,1),(1,512)] ([(.int .i64 (.ofNat 0))]++rep 512 [(.int .u8 (.ofNat 0))]) [(0,x15),(1,x51)]) fun x52=>
 bA (bldL 197 513 1 ([(.int .i64 (.ofNat 0))]++rep 512 [(.int .u8 (.ofNat 0))]) [(0,x52)]) H fun x53 H=>
 bR (apP 197 513 520 x49 x53 H) fun x54 H=>
 bV (pNil x0) fun x55=>
 bV (fAd 5 x55) fun x56=>
 bR (stN 1 x56 x54 H) fun x9999_4 H=>
 bV (ldN 512 x3 H) fun x58=>
 bR (f160 D n [x15,x58] H) fun x59 H=>
 bV (pExtract x59 0) fun x60=>
 bV (pExtract x59 1) fun x61=>
 bR (stN 3 x4 x60 H) fun x9999_5 H=>
 bV (ldN 3 x4 H) fun x9004_3=>bV (some x61) fun x5_3=>some (.ret (.tuple [x9004_3,x5_3]),H))))
def h135:Hint:=(.s .o (.s .o (.s (.s .o (.cl (.s .o .o) .o)) (.s .o (.s (.s .o (.s .o (.cl (.s .o .o) .o))) (.s .o (.s .o .o)))))))
theorem f135_eq (D:Dyn)(n:Nat):f135 D n=funK (s135 D n) D n 135 Tryz.f135 h135:=by kernel_rfl
theorem f135_ok {D:Dyn}(hD:DG D)(n:Nat):FI 135 (f135 D n):=fun_ok X_ok hD (SOk.cons (f159_ok hD n).fs (SOk.cons (f39_ok hD n).fs (SOk.cons (f160_ok hD n).fs (SOk.nil)))) Tryz.func135 (by kernel_rfl) (f135_eq D n)
def s99 (D:Dyn)(n:Nat):Tb:=⟨X,[(69,f69 D n),(133,f133 D n),(134,f134 D n),(135,f135 D n)]⟩
def f99l0 (D:Dyn)(n:Nat)(vs:List AV)(H:AH):Rs:=
 hd vs fun x0_2 vs=>hd vs fun x4_2 vs=>hd vs fun x6_2 vs=>hd vs fun x8 vs=>hd vs fun x49_2 vs=>hd vs fun x50_2 vs=>hd vs fun x51 vs=>
 bV (bInt .lss x51 x50_2) fun x52=>
 cnd x52 (bV (ixSl 3 x49_2 x51) fun x54=>
 bV (ldN 3 x54 H) fun x55=>
 bA (bxV 72 (.agg [(.int .i64 (.ofNat 0)),(.int .i64 (.ofNat 0)),(.int .u64 (.ofNat 0))])) H fun x10 H=>
 bR (stN 3 x10 x55 H) fun x9999_6 H=>
 bV (ldN 3 x10 H) fun x60=>
 bR (D.fn 99 [x0_2,x60] H) fun x61 H=>
 bV (pExtract x61 0) fun x62=>
 bV (pExtract x61 1) fun x63=>
 bV (ixSl 3 x8 x51) fun x64=>
 bR (stN 3 x64 x62 H) fun x9999_7 H=>
 bV (bInt .neq x63 (.int .i64 (.ofNat 0))) fun x66=>
 cnd x66 (bV (bldS [(0,1),(1,1),(2,1)] [(.int .i64 (.ofNat 0)),(.int .i64 (.ofNat 0)),(.int .u64 (.ofNat 0))] []) fun x67=>
 bR (stN 3 x4_2 x67 H) fun x9999_8 H=>
 bV (ldN 3 x4_2 H) fun x9004_4=>bV (some x63) fun x5_4=>some (.ret (.tuple [x9004_4,x5_4]),H))
 (bV (bInt .add x51 (.int .i64 (.ofNat 1))) fun x69=>
 some (.norm [x0_2,x4_2,x6_2,x8,x49_2,x50_2,x69],H)))
 (some (.exit 0 [x0_2,x4_2,x6_2,x8],H))
def f99j1 (D:Dyn)(n:Nat)(vs:List AV)(H:AH):Rs:=
 hd vs fun x0_4 vs=>hd vs fun x4_4 vs=>hd vs fun x6_4 vs=>hd vs fun x11 vs=>
 bV (ldN 4 x6_4 H) fun x75=>
 bR (f133 D n [x75] H) fun x76 H=>
 bV (pExtract x76 0) fun x77=>
 bV (pExtract x76 1) fun x78=>
 bV (bInt .neq x78 (.int .i64 (.ofNat 0))) fun x80=>
 cnd x80 (bV (bldS [(0,1),(1,1),(2,1)] [(.int .i64 (.ofNat 0)),(.int .i64 (.ofNat 0)),(.int .u64 (.ofNat 0))] []) fun x81=>
 bR (stN 3 x4_4 x81 H) fun x9999_10 H=>
 bV (ldN 3 x4_4 H) fun x9004_5=>bV (some x78) fun x5_5=>some (.ret (.tuple [x9004_5,x5_5]),H))
 (bV (pNil x0_4) fun x86=>
 bV (fAd 2 x86) fun x87=>
 bV (ld1 x87 H) fun x88=>
 bR (f134 D n [x11,x88,x77] H) fun x90 H=>
 bV (pExtract x90 0) fun x91=>
 bV (pExtract x90 1) fun x92=>
 bA (bxV 83 (.agg (rep 512 [(.int .u8 (.ofNat 0))]))) H fun x13 H=>
 bR (stN 512 x13 x91 H) fun x9999_11 H=>
 bV (bInt .neq x92 (.int .i64 (.ofNat 0))) fun x94=>
 cnd x94 (bV (bldS [(0,1),(1,1),(2,1)] [(.int .i64 (.ofNat 0)),(.int .i64 (.ofNat 0)),(.int .u64 (.ofNat 0))] []) fun x95=>
 bR (stN 3 x4_4 x95 H) fun x9999_12 H=>
 bV (ldN 3 x4_4 H) fun x9004_6=>bV (some x92) fun x5_6=>some (.ret (.tuple [x9004_6,x5_6]),H))
 (bV (ldN 512 x13 H) fun x98=>
 bR (f135 D n [x0_4,x98] H) fun x99 H=>
 bV (pExtract x99 0) fun x100=>
 bV (pExtract x99 1) fun x101=>
 bR (stN 3 x4_4 x100 H) fun x9999_13 H=>
 bV (ldN 3 x4_4 H) fun x9004_7=>bV (some x101) fun x5_7=>some (.ret (.tuple [x9004_7,x5_7]),H)))
def f99b2 (D:Dyn)(n:Nat)(vs:List AV)(H:AH):Rs:=
 hd vs fun x0_3 vs=>hd vs fun x4_3 vs=>hd vs fun x6_3 vs=>hd vs fun x8_2 vs=>
 bV (fAd 3 x6_3) fun x71=>
 bR (stN 1 x71 x8_2 H) fun x9999_9 H=>
 bV (fAd 0 x6_3) fun x72=>
 bV (ld1 x72 H) fun x73=>
 jn (cnd x73 (some (.norm [x0_3,x4_3,x6_3,(.int .u8 (.ofNat 1))],H))
 (some (.norm [x0_3,x4_3,x6_3,(.int .u8 (.ofNat 2))],H))) (f99j1 D n)
def f99 (D:Dyn)(n:Nat)(vs:List AV)(H:AH):Option (AV×AH):=
 outR (hd vs fun x0 vs=>hd vs fun x1 vs=>nl vs <|
 bA (bxV 72 x1) H fun x3 H=>
 bA (bxV 72 (.agg [(.int .i64 (.ofNat 0)),(.int .i64 (.ofNat 0)),(.int .u64 (.ofNat 0))])) H fun x4 H=>
 bV (fAd 0 x3) fun x14=>
 bV (ld1 x14 H) fun x15=>
 bV (bInt .neq x15 (.int .i64 (.ofNat 1))) fun x16=>
 cnd x16 (bV (ldN 3 x3 H) fun x17=>
 bR (stN 3 x4 x17 H) fun x9999 H=>
 bV (ldN 3 x4 H) fun x9004=>bV (some (.int .i64 (.ofNat 0))) fun x5=>some (.ret (.tuple [x9004,x5]),H))
 (bV (pNil x0) fun x19=>
 bV (fAd 3 x19) fun x20=>
 bV (ld1 x20 H) fun x21=>
 bV (bInt .sub x21 (.int .i64 (.ofNat 1))) fun x22=>
 bV (pNil x0) fun x23=>
 bV (fAd 3 x23) fun x24=>
 bR (stN 1 x24 x22 H) fun x9999_2 H=>
 bV (pNil x0) fun x26=>
 bV (fAd 3 x26) fun x27=>
 bV (ld1 x27 H) fun x28=>
 bV (bInt .lss x28 (.int .i64 (.ofNat 0))) fun x29=>
 cnd x29 (bV (bldS [(0,1),(1,1),(2,1)] [(.int .i64 (.ofNat 0)),(.int .i64 (.ofNat 0)),(.int .u64 (.ofNat 0))] []) fun x30=>
 bR (stN 3 x4 x30 H) fun x9999_3 H=>
 bV (ldN 3 x4 H) fun x9004_2=>bV (some (.int .i64 (.ofNat 4))) fun x5_2=>some (.ret (.tuple [x9004_2,x5_2]),H))
 (bV (pNil x0) fun x33=>
 bV (fAd 0 x33) fun x34=>
 bV (ld1 x34 H) fun x35=>
 bV (ldN 3 x3 H) fun x36=>
 bA (bxV 133 (.agg [(.bool false), .nilSlice, .nilSlice, .nilSlice])) H fun x6 H=>
 bR (f69 D n [x35,x36] H) fun x37 H=>
 bV (pExtract x37 0) fun x38=>
 bV (pExtract x37 1) fun x39=>
 bR (stN 4 x6 x38 H) fun x9999_4 H=>
 bV (bInt .neq x39 (.int .i64 (.ofNat 0))) fun x41=>
 cnd x41 (bV (bldS [(0,1),(1,1),(2,1)] [(.int .i64 (.ofNat 0)),(.int .i64 (.ofNat 0)),(.int .u64 (.ofNat 0))] []) fun x42=>
 bR (stN 3 x4 x42 H) fun x9999_5 H=>
 bV (ldN 3 x4 H) fun x9004_3=>bV (some x39) fun x5_3=>some (.ret (.tuple [x9004_3,x5_3]),H))
 (bV (fAd 3 x6) fun x44=>
 bV (ld1 x44 H) fun x45=>
 bV (lnSl x45) fun x46=>
 bA (mkSl 72 3 24 [(.int .i64 (.ofNat 0)),(.int .i64 (.ofNat 0)),(.int .u64 (.ofNat 0))] x46 x46) H fun x47 H=>
 bV (fAd 3 x6) fun x48=>
 bV (ld1 x48 H) fun x49=>
 bV (lnSl x49) fun x50=>
 jb 0 (loopK n (f99l0 D n) [x0,x4,x6,x47,x49,x50,(.int .i64 (.ofNat 0))] H) (f99b2 D n)))))
def h99:Hint:=(.s .o (.s (.s .o (.cl (.s .o .o) .o)) (.s (.s .o (.s .o (.cl (.s .o .o) .o))) (.s .o (.s (.s .o (.cl (.s .o .o) .o)) (.s .o (.s (.s .o (.b [0,4,6,8] (.l [0,4,6,8,49,50,51] (.s .o (.s (.cr .o .o) (.s (.b0 (.s .o (.s .o (.s .o (.cl (.s .o .o) .o))))) .o)))))) (.s .o (.s .o (.s (.s .o (.c [0,4,6,11] .o .o)) (.s .o (.s (.s .o (.cl (.s .o .o) .o)) (.s .o (.s (.s .o (.cl (.s .o .o) .o)) (.s .o .o)))))))))))))))
theorem f99_eq (D:Dyn)(n:Nat):f99 D n=funK (s99 D n) D n 99 Tryz.f99 h99:=by kernel_rfl
theorem f99_ok {D:Dyn}(hD:DG D)(n:Nat):FI 99 (f99 D n):=fun_ok X_ok hD (SOk.cons (f69_ok hD n).fs (SOk.cons (f133_ok hD n).fs (SOk.cons (f134_ok hD n).fs (SOk.cons (f135_ok hD n).fs (SOk.nil))))) Tryz.func99 (by kernel_rfl) (f99_eq D n)
def s116 (D:Dyn)(n:Nat):Tb:=⟨X,[]⟩
def f116 (D:Dyn)(n:Nat)(vs:List AV)(H:AH):Option (AV×AH):=
 outR (hd vs fun x0 vs=>hd vs fun x1 vs=>nl vs <|
 bV (cmpO .eql (eqP x0 .nilPtr)) fun x6=>
 cnd x6 (bV (some (.int .i64 (.ofNat 2))) fun x4=>some (.ret x4,H))
 (bV (bInt .lss x1 (.int .i64 (.ofNat 2))) fun x8=>
 jn (wnt x8 false (bV (pNil x0) fun x12=>
 bV (fAd 0 x12) fun x13=>
 bV (ld1 x13 H) fun x14=>
 bV (bInt .geq x1 x14) fun x15=>
 some (.norm [x15],H)) (some (.norm [undefA],H))) fun vs H=>hd vs fun x15_2 vs=>
 bV (pk3 (some x8) (some (.bool true)) (some x15_2)) fun x16=>
 cnd x16 (bV (some (.int .i64 (.ofNat 1))) fun x4_2=>some (.ret x4_2,H))
 (bV (some (.int .i64 (.ofNat 0))) fun x4_3=>some (.ret x4_3,H))))
def h116:Hint:=(.s .o (.s (.s .o (.cl (.s .o .o) .o)) (.s (.s .o (.cl (.s .o .o) .o)) (.s .o .o))))
theorem f116_eq (D:Dyn)(n:Nat):f116 D n=funK (s116 D n) D n 116 Tryz.f116 h116:=by kernel_rfl
theorem f116_ok {D:Dyn}(hD:DG D)(n:Nat):FI 116 (f116 D n):=fun_ok X_ok hD (SOk.nil) Tryz.func116 (by kernel_rfl) (f116_eq D n)
def s73 (D:Dyn)(n:Nat):Tb:=⟨X,[(116,f116 D n),(98,f98 D n)]⟩
def f73j0 (D:Dyn)(n:Nat)(vs:List AV)(H:AH):Rs:=
 bV (some (.int .i64 (.ofNat 0))) fun x4_3=>some (.ret x4_3,H)
def f73 (D:Dyn)(n:Nat)(vs:List AV)(H:AH):Option (AV×AH):=
 outR (hd vs fun x0 vs=>hd vs fun x1 vs=>nl vs <|
 bR (f116 D n [x0,x1] H) fun x8 H=>
 bV (bInt .neq x8 (.int .i64 (.ofNat 0))) fun x10=>
 cnd x10 (bV (some x8) fun x4=>some (.ret x4,H))
 (bV (pNil x0) fun x14=>
 bV (fAd 2 x14) fun x15=>
 bV (ixArr 8192 1 x15 x1) fun x16=>
 bV (ld1 x16 H) fun x17=>
 bV (bInt .eql x17 (.int .u8 (.ofNat 2))) fun x19=>
 jn (cnd x19 (bR (f98 D n [x0,x1,(.int .u8 (.ofNat 0))] H) fun x22 H=>
 some (.norm [],H))
 (bV (bInt .eql x17 (.int .u8 (.ofNat 1))) fun x24=>
 cnd x24 (bR (f98 D n [x0,x1,(.int .u8 (.ofNat 3))] H) fun x27 H=>
 some (.norm [],H))
 (bV (some (.int .i64 (.ofNat 5))) fun x4_2=>some (.ret x4_2,H)))) (f73j0 D n)))
def h73:Hint:=(.s .o (.s (.s .o (.s .o (.cl (.s .o .o) .o))) (.s (.s .o (.b0 (.s .o (.c [] .o (.s .o (.cr .o (.s .o .o))))))) (.s .o .o))))
theorem f73_eq (D:Dyn)(n:Nat):f73 D n=funK (s73 D n) D n 73 Tryz.f73 h73:=by kernel_rfl
theorem f73_ok {D:Dyn}(hD:DG D)(n:Nat):FI 73 (f73 D n):=fun_ok X_ok hD (SOk.cons (f116_ok hD n).fs (SOk.cons (f98_ok hD n).fs (SOk.nil))) Tryz.func73 (by kernel_rfl) (f73_eq D n)
def s60 (D:Dyn)(n:Nat):Tb:=⟨X,[(62,f62 D n),(35,f35 D n),(99,f99 D n),(73,f73 D n),(100,f100 D n)]⟩
def f60l0 (D:Dyn)(n:Nat)(vs:List AV)(H:AH):Rs:=
 hd vs fun x1_2 vs=>hd vs fun x6_2 vs=>hd vs fun x11 vs=>hd vs fun x64_2 vs=>hd vs fun x65_2 vs=>hd vs fun x66 vs=>
 bV (bInt .lss x66 x65_2) fun x67=>
 cnd x67 (bV (ixSl 1 x64_2 x66) fun x68=>
 bV (ld1 x68 H) fun x69=>
 bR (f73 D n [x1_2,x69] H) fun x72 H=>
 bV (bInt .add x66 (.int .i64 (.ofNat 1))) fun x73=>
 some (.norm [x1_2,x6_2,x11,x64_2,x65_2,x73],H))
 (some (.exit 0 [x6_2,x11],H))
def f60b1 (D:Dyn)(n:Nat)(vs:List AV)(H:AH):Rs:=
 hd vs fun x6_3 vs=>hd vs fun x11_2 vs=>
 bV (bldS [(0,1),(1,1),(2,1)] [(.int .i64 (.ofNat 0)),(.int .i64 (.ofNat 0)),(.int .u64 (.ofNat 0))] []) fun x74=>
 bR (stN 3 x6_3 x74 H) fun x9999_5 H=>
 bV (ldN 3 x6_3 H) fun x9006_4=>bV (some .nilSlice) fun x7_4=>bV (some x11_2) fun x8_4=>some (.ret (.tuple [x9006_4,x7_4,x8_4]),H)
def f60l2 (D:Dyn)(n:Nat)(vs:List AV)(H:AH):Rs:=
 hd vs fun x0_2 vs=>hd vs fun x6_4 vs=>hd vs fun x10_2 vs=>hd vs fun x84_2 vs=>hd vs fun x85_2 vs=>hd vs fun x86 vs=>
 bV (bInt .lss x86 x85_2) fun x87=>
 cnd x87 (bV (ixSl 513 x84_2 x86) fun x88=>
 bV (ldN 513 x88 H) fun x89=>
 bA (bxV 197 (.agg ([(.int .i64 (.ofNat 0))]++rep 512 [(.int .u8 (.ofNat 0))]))) H fun x15 H=>
 bR (stN 513 x15 x89 H) fun x9999_6 H=>
 bV (pNil x0_2) fun x91=>
 bV (fAd 1 x91) fun x92=>
 bV (ld1 x92 H) fun x93=>
 bV (fAd 0 x15) fun x94=>
 bV (ld1 x94 H) fun x95=>
 bV (fAd 1 x15) fun x96=>
 bV (ldN 512 x96 H) fun x97=>
 bR (f100 D n [x93,x95,x97] H) fun x98 H=>
 bV (bInt .add x86 (.int .i64 (.ofNat 1))) fun x99=>
 some (.norm [x0_2,x6_4,x10_2,x84_2,x85_2,x99],H))
 (some (.exit 2 [x0_2,x6_4,x10_2],H))
def f60b3 (D:Dyn)(n:Nat)(vs:List AV)(H:AH):Rs:=
 hd vs fun x0_3 vs=>hd vs fun x6_5 vs=>hd vs fun x10_3 vs=>
 some (.norm [x0_3,x6_5,x10_3],H)
def f60j4 (D:Dyn)(n:Nat)(vs:List AV)(H:AH):Rs:=
 hd vs fun x0_4 vs=>hd vs fun x6_6 vs=>hd vs fun x10_4 vs=>
 bV (pNil x0_4) fun x101=>
 bV (fAd 7 x101) fun x102=>
 bV (ld1 x102 H) fun x103=>
 bV (ldN 3 x10_4 H) fun x106=>
 bV (pNil x0_4) fun x107=>
 bV (fAd 2 x107) fun x108=>
 bR (stN 3 x108 x106 H) fun x9999_7 H=>
 bV (pNil x0_4) fun x109=>
 bV (fAd 7 x109) fun x110=>
 bR (stN 1 x110 .nilSlice H) fun x9999_8 H=>
 bA (mkM [10]) H fun x112 H=>
 bV (pNil x0_4) fun x113=>
 bV (fAd 5 x113) fun x114=>
 bR (stN 1 x114 x112 H) fun x9999_9 H=>
 bV (ldN 3 x10_4 H) fun x115=>
 bR (stN 3 x6_6 x115 H) fun x9999_10 H=>
 bV (ldN 3 x6_6 H) fun x9006_5=>bV (some x103) fun x7_5=>bV (some (.int .i64 (.ofNat 0))) fun x8_5=>some (.ret (.tuple [x9006_5,x7_5,x8_5]),H)
def f60 (D:Dyn)(n:Nat)(vs:List AV)(H:AH):Option (AV×AH):=
 outR (hd vs fun x0 vs=>hd vs fun x1 vs=>hd vs fun x2 vs=>nl vs <|
 bA (bxV 72 (.agg [(.int .i64 (.ofNat 0)),(.int .i64 (.ofNat 0)),(.int .u64 (.ofNat 0))])) H fun x6 H=>
 bR (f62 D n [x0] H) fun x18 H=>
 jn (wnt x18 false (bV (cmpO .eql (eqP x1 .nilPtr)) fun x21=>
 some (.norm [x21],H)) (some (.norm [undefA],H))) fun vs H=>hd vs fun x21_2 vs=>
 bV (pk3 (some x18) (some (.bool true)) (some x21_2)) fun x22=>
 cnd x22 (bV (bldS [(0,1),(1,1),(2,1)] [(.int .i64 (.ofNat 0)),(.int .i64 (.ofNat 0)),(.int .u64 (.ofNat 0))] []) fun x23=>
 bR (stN 3 x6 x23 H) fun x9999 H=>
 bV (ldN 3 x6 H) fun x9006=>bV (some .nilSlice) fun x7=>bV (some (.int .i64 (.ofNat 2))) fun x8=>some (.ret (.tuple [x9006,x7,x8]),H))
 (bV (bInt .lss x2 (.int .i64 (.ofNat 1))) fun x25=>
 jn (wnt x25 false (bV (bInt .gtr x2 (.int .i64 (.ofNat 2147483647))) fun x28=>
 some (.norm [x28],H)) (some (.norm [undefA],H))) fun vs H=>hd vs fun x28_2 vs=>
 bV (pk3 (some x25) (some (.bool true)) (some x28_2)) fun x29=>
 cnd x29 (bV (bldS [(0,1),(1,1),(2,1)] [(.int .i64 (.ofNat 0)),(.int .i64 (.ofNat 0)),(.int .u64 (.ofNat 0))] []) fun x30=>
 bR (stN 3 x6 x30 H) fun x9999_2 H=>
 bV (ldN 3 x6 H) fun x9006_2=>bV (some .nilSlice) fun x7_2=>bV (some (.int .i64 (.ofNat 1))) fun x8_2=>some (.ret (.tuple [x9006_2,x7_2,x8_2]),H))
 (bV (pNil x0) fun x34=>
 bV (fAd 5 x34) fun x35=>
 bV (ld1 x35 H) fun x36=>
 bR (f35 D n [x1] H) fun x32 H=>chk (ld1 x35 H) x36 <|
 bV (lnMap x36 H) fun x37=>
 bV (bInt .lss x32 x37) fun x38=>
 cnd x38 (bV (bldS [(0,1),(1,1),(2,1)] [(.int .i64 (.ofNat 0)),(.int .i64 (.ofNat 0)),(.int .u64 (.ofNat 0))] []) fun x39=>
 bR (stN 3 x6 x39 H) fun x9999_3 H=>
 bV (ldN 3 x6 H) fun x9006_3=>bV (some .nilSlice) fun x7_3=>bV (some (.int .i64 (.ofNat 3))) fun x8_3=>some (.ret (.tuple [x9006_3,x7_3,x8_3]),H))
 (bV (pNil x0) fun x44=>
 bV (fAd 5 x44) fun x45=>
 bV (ld1 x45 H) fun x46=>
 bV (lnMap x46 H) fun x47=>
 bV (bldS [(0,1),(1,1),(2,1),(3,1),(4,1),(5,1)] [.nilPtr, .nilPtr,(.int .i64 (.ofNat 0)),(.int .i64 (.ofNat 0)), .nilSlice, .nilSlice] [(0,x0),(1,x1),(2,x2),(3,x47)]) fun x48=>
 bA (bxV 193 x48) H fun x49 H=>
 bV (pNil x0) fun x53=>
 bV (fAd 2 x53) fun x54=>
 bV (ldN 3 x54 H) fun x55=>
 bR (f99 D n [x49,x55] H) fun x56 H=>
 bV (pExtract x56 0) fun x57=>
 bV (pExtract x56 1) fun x58=>
 bA (bxV 72 (.agg [(.int .i64 (.ofNat 0)),(.int .i64 (.ofNat 0)),(.int .u64 (.ofNat 0))])) H fun x10 H=>
 bR (stN 3 x10 x57 H) fun x9999_4 H=>
 bV (bInt .neq x58 (.int .i64 (.ofNat 0))) fun x60=>
 cnd x60 (bV (pNil x49) fun x62=>
 bV (fAd 4 x62) fun x63=>
 bV (ld1 x63 H) fun x64=>
 bV (lnSl x64) fun x65=>
 jb 0 (loopK n (f60l0 D n) [x1,x6,x58,x64,x65,(.int .i64 (.ofNat 0))] H) (f60b1 D n))
 (bV (pNil x0) fun x77=>
 bV (fAd 1 x77) fun x78=>
 bV (ld1 x78 H) fun x79=>
 bV (cmpO .neq (eqP x79 .nilPtr)) fun x80=>
 jn (cnd x80 (bV (pNil x49) fun x82=>
 bV (fAd 5 x82) fun x83=>
 bV (ld1 x83 H) fun x84=>
 bV (lnSl x84) fun x85=>
 jb 2 (loopK n (f60l2 D n) [x0,x6,x10,x84,x85,(.int .i64 (.ofNat 0))] H) (f60b3 D n))
 (some (.norm [x0,x6,x10],H))) (f60j4 D n))))))
def h60:Hint:=(.s .o (.s (.s .o (.cl (.s .o .o) .o)) (.s (.s .o (.cl (.s .o .o) .o)) (.s (.s .o (.cl (.s .o .o) .o)) (.s .o (.s .o (.s (.s .o (.cl (.s (.s .o (.b [6,11] (.l [1,6,11,64,65,66] (.s .o (.s (.cr .o .o) (.s (.b0 (.s .o .o)) .o)))))) (.s .o .o)) .o)) (.s (.s .o (.c [0,6,10] (.s .o (.b [0,6,10] (.l [0,6,10,84,85,86] (.s .o (.s (.cr .o .o) (.s (.b0 (.s .o .o)) .o)))))) .o)) (.s .o (.s .o (.s .o (.s .o .o))))))))))))
theorem f60_eq (D:Dyn)(n:Nat):f60 D n=funK (s60 D n) D n 60 Tryz.f60 h60:=by kernel_rfl
theorem f60_ok {D:Dyn}(hD:DG D)(n:Nat):FI 60 (f60 D n):=fun_ok X_ok hD (SOk.cons (f62_ok hD n).fs (SOk.cons (f35_ok hD n).fs (SOk.cons (f99_ok hD n).fs (SOk.cons (f73_ok hD n).fs (SOk.cons (f100_ok hD n).fs (SOk.nil)))))) Tryz.func60 (by kernel_rfl) (f60_eq D n)
def s67 (D:Dyn)(n:Nat):Tb:=⟨X,[(107,f107 D n),(70,f70 D n),(111,f111 D n)]⟩
def f67 (D:Dyn)(n:Nat)(vs:List AV)(H:AH):Option (AV×AH):=
 outR (hd vs fun x0 vs=>hd vs fun x1 vs=>nl vs <|
 bA (bxV 133 x0) H fun x2 H=>
 bA (bxV 133 (.agg [(.bool false), .nilSlice, .nilSlice, .nilSlice])) H fun x4 H=>
 bV (ldN 4 x2 H) fun x7=>
 bR (f107 D n [x7] H) fun x8 H=>
 bV (aun .not x8) fun x9=>
 jn (wnt x9 false (bV (fAd 0 x2) fun x11=>
 bV (ld1 x11 H) fun x12=>
 bV (aun .not x12) fun x13=>
 some (.norm [x13],H)) (some (.norm [undefA],H))) fun vs H=>hd vs fun x13_2 vs=>
 bV (pk3 (some x9) (some (.bool true)) (some x13_2)) fun x14=>
 cnd x14 (bV (bldS [(0,1),(1,1),(2,1),(3,1)] [(.bool false), .nilSlice, .nilSlice, .nilSlice] []) fun x15=>
 bR (stN 4 x4 x15 H) fun x9999 H=>
 bV (ldN 4 x4 H) fun x9004=>bV (some (.int .i64 (.ofNat 1))) fun x5=>some (.ret (.tuple [x9004,x5]),H))
 (bV (ldN 4 x2 H) fun x16=>
 bR (f70 D n [x16,x1] H) fun x18 H=>
 bV (fAd 1 x2) fun x20=>
 bV (ld1 x20 H) fun x21=>
 bV (lnSl x21) fun x22=>
 bV (bInt .geq x18 x22) fun x23=>
 jn (wnt x23 false (bV (fAd 1 x2) fun x25=>
 bV (ld1 x25 H) fun x26=>
 bV (ixSl 1 x26 x18) fun x28=>
 bV (ld1 x28 H) fun x29=>
 bV (bStr .neq x29 x1) fun x31=>
 some (.norm [x31],H)) (some (.norm [undefA],H))) fun vs H=>hd vs fun x31_2 vs=>
 bV (pk3 (some x23) (some (.bool true)) (some x31_2)) fun x32=>
 cnd x32 (bV (bldS [(0,1),(1,1),(2,1),(3,1)] [(.bool false), .nilSlice, .nilSlice, .nilSlice] []) fun x33=>
 bR (stN 4 x4 x33 H) fun x9999_2 H=>
 bV (ldN 4 x4 H) fun x9004_2=>bV (some (.int .i64 (.ofNat 5))) fun x5_2=>some (.ret (.tuple [x9004_2,x5_2]),H))
 (bV (fAd 1 x2) fun x34=>
 bV (ld1 x34 H) fun x35=>
 bV (slSl 1 x35 none (some x18) (some x18) H) fun x38=>
 bV (fAd 1 x2) fun x39=>
 bV (ld1 x39 H) fun x40=>
 bV (bInt .add x18 (.int .i64 (.ofNat 1))) fun x42=>
 bV (slSl 1 x40 (some x42) none none H) fun x43=>
 bA (bldL 37 1 2 [.nilSlice] [(0,x38),(1,x43)]) H fun x44 H=>
 bV (fAd 2 x2) fun x46=>
 bV (ld1 x46 H) fun x47=>
 bV (slSl 1 x47 none (some x18) (some x18) H) fun x50=>
 bV (fAd 2 x2) fun x51=>
 bV (ld1 x51 H) fun x52=>
 bV (bInt .add x18 (.int .i64 (.ofNat 1))) fun x54=>
 bV (slSl 1 x52 (some x54) none none H) fun x55=>
 bA (bldL 37 1 2 [.nilSlice] [(0,x50),(1,x55)]) H fun x56 H=>
 bR (f111 D n [x44] H) fun x45 H=>chk (ld1 x46 H) x47 <| chk (slSl 1 x47 none (some x18) (some x18) H) x50 <| chk (ld1 x51 H) x52 <| chk (slSl 1 x52 (some x54) none none H) x55 <|
 bR (f111 D n [x56] H) fun x57 H=>
 bV (bldS [(0,1),(1,1),(2,1),(3,1)] [(.bool false), .nilSlice, .nilSlice, .nilSlice] [(0,(.bool true)),(1,x45),(2,x57)]) fun x58=>
 bR (stN 4 x4 x58 H) fun x9999_3 H=>
 bV (ldN 4 x4 H) fun x9004_3=>bV (some (.int .i64 (.ofNat 0))) fun x5_3=>some (.ret (.tuple [x9004_3,x5_3]),H))))
def h67:Hint:=(.s .o (.s (.s .o (.cl (.s .o .o) .o)) (.s .o (.s (.s .o (.cl (.s .o .o) .o)) (.s .o .o)))))
theorem f67_eq (D:Dyn)(n:Nat):f67 D n=funK (s67 D n) D n 67 Tryz.f67 h67:=by kernel_rfl
theorem f67_ok {D:Dyn}(hD:DG D)(n:Nat):FI 67 (f67 D n):=fun_ok X_ok hD (SOk.cons (f107_ok hD n).fs (SOk.cons (f70_ok hD n).fs (SOk.cons (f111_ok hD n).fs (SOk.nil)))) Tryz.func67 (by kernel_rfl) (f67_eq D n)
def s66 (D:Dyn)(n:Nat):Tb:=⟨X,[(67,f67 D n)]⟩
def f66 (D:Dyn)(n:Nat)(vs:List AV)(H:AH):Option (AV×AH):=
 outR (hd vs fun x0 vs=>hd vs fun x1 vs=>nl vs <|
 bA (bxV 133 x0) H fun x2 H=>
 bA (bxV 133 (.agg [(.bool false), .nilSlice, .nilSlice, .nilSlice])) H fun x3 H=>
 bV (ldN 4 x2 H) fun x5=>
 bV (ld1 x1 H) fun x6=>
 bR (f67 D n [x5,x6] H) fun x7 H=>
 bV (pExtract x7 0) fun x8=>
 bV (pExtract x7 1) fun x9=>
 bR (stN 4 x3 x8 H) fun x9999 H=>
 bV (ldN 4 x3 H) fun x9003=>bV (some x9) fun x4=>some (.ret (.tuple [x9003,x4]),H))
def h66:Hint:=(.s .o (.s .o .o))
theorem f66_eq (D:Dyn)(n:Nat):f66 D n=funK (s66 D n) D n 66 Tryz.f66 h66:=by kernel_rfl
theorem f66_ok {D:Dyn}(hD:DG D)(n:Nat):FI 66 (f66 D n):=fun_ok X_ok hD (SOk.cons (f67_ok hD n).fs (SOk.nil)) Tryz.func66 (by kernel_rfl) (f66_eq D n)
def s23 (D:Dyn)(n:Nat):Tb:=⟨X,[(62,f62 D n),(63,f63 D n)]⟩
def f23 (D:Dyn)(n:Nat)(vs:List AV)(H:AH):Option (AV×AH):=
 outR (hd vs fun x0 vs=>hd vs fun x1 vs=>nl vs <|
 bA (bxV 9 x1) H fun x3 H=>
 bR (f62 D n [x0] H) fun x6 H=>
 cnd x6 (bV (some (.int .i64 (.ofNat 2))) fun x4=>some (.ret x4,H))
 (bV (ld1 x3 H) fun x7=>
 bV (lnStr x7) fun x8=>
 bV (bInt .lss x8 (.int .i64 (.ofNat 1))) fun x9=>
 jn (wnt x9 false (bV (ld1 x3 H) fun x11=>
 bV (lnStr x11) fun x12=>
 bV (bInt .gtr x12 (.int .i64 (.ofNat 40))) fun x13=>
 some (.norm [x13],H)) (some (.norm [undefA],H))) fun vs H=>hd vs fun x13_2 vs=>
 bV (pk3 (some x9) (some (.bool true)) (some x13_2)) fun x14=>
 cnd x14 (bV (some (.int .i64 (.ofNat 1))) fun x4_2=>some (.ret x4_2,H))
 (bV (ld1 x3 H) fun x16=>
 bR (f63 D n [x0,x16,(.func 66 [] [x3])] H) fun x18 H=>
 bV (some x18) fun x4_3=>some (.ret x4_3,H))))
def h23:Hint:=(.s .o (.s (.s .o (.cl (.s .o .o) .o)) (.s (.s .o (.cl (.s .o .o) .o)) (.s .o .o))))
theorem f23_eq (D:Dyn)(n:Nat):f23 D n=funK (s23 D n) D n 23 Tryz.f23 h23:=by kernel_rfl
theorem f23_ok {D:Dyn}(hD:DG D)(n:Nat):FI 23 (f23 D n):=fun_ok X_ok hD (SOk.cons (f62_ok hD n).fs (SOk.cons (f63_ok hD n).fs (SOk.nil))) Tryz.func23 (by kernel_rfl) (f23_eq D n)
def s18 (D:Dyn)(n:Nat):Tb:=⟨X,[(49,f49 D n),(59,f59 D n),(31,f31 D n),(20,f20 D n),(32,f32 D n),(36,f36 D n),(33,f33 D n),(26,f26 D n),(60,f60 D n),(23,f23 D n)]⟩
def f18 (D:Dyn)(n:Nat)(vs:List AV)(H:AH):Option (AV×AH):=
 outR (nl vs <|
 bR (f49 D n [(.int .i64 (.ofNat 64))] H) fun x16 H=>
 bV (pExtract x16 0) fun x17=>
 bV (pExtract x16 1) fun x18=>
 bR (f59 D n [(.int .i64 (.ofNat 64))] H) fun x20 H=>
 bV (pExtract x20 0) fun x21=>
 bV (pExtract x20 1) fun x22=>
 bV (bldS [(0,1),(1,1),(2,1)] [(.int .i64 (.ofNat 0)),(.int .i64 (.ofNat 0)),(.int .u64 (.ofNat 0))] []) fun x25=>
 bR (f31 D n [x17, .nilPtr,x25] H) fun x26 H=>
 bV (pExtract x26 0) fun x27=>
 bV (pExtract x26 1) fun x28=>
 bV (bInt .neq x18 (.int .i64 (.ofNat 0))) fun x30=>
 jn (wnt x30 false (bV (bInt .neq x22 (.int .i64 (.ofNat 0))) fun x33=>
 some (.norm [x33],H)) (some (.norm [undefA],H))) fun vs H=>hd vs fun x33_2 vs=>
 bV (pk3 (some x30) (some (.bool true)) (some x33_2)) fun x34=>
 jn (wnt x34 false (bV (bInt .neq x28 (.int .i64 (.ofNat 0))) fun x37=>
 some (.norm [x37],H)) (some (.norm [undefA],H))) fun vs H=>hd vs fun x37_2 vs=>
 bV (pk3 (some x34) (some (.bool true)) (some x37_2)) fun x38=>
 jn (wnt x38 false (bR (f20 D n [x27,(.str 1 97),(.str 1 49)] H) fun x41 H=>
 bV (bInt .neq x41 (.int .i64 (.ofNat 0))) fun x42=>
 some (.norm [x42],H)) (some (.norm [undefA],H))) fun vs H=>hd vs fun x42_2 vs=>
 bV (pk3 (some x38) (some (.bool true)) (some x42_2)) fun x43=>
 jn (wnt x43 false (bR (f20 D n [x27,(.str 1 98),(.str 1 50)] H) fun x46 H=>
 bV (bInt .neq x46 (.int .i64 (.ofNat 0))) fun x47=>
 some (.norm [x47],H)) (some (.norm [undefA],H))) fun vs H=>hd vs fun x47_2 vs=>
 bV (pk3 (some x43) (some (.bool true)) (some x47_2)) fun x48=>
 jn (wnt x48 false (bR (f32 D n [x27] H) fun x51 H=>
 bV (fd1 0 x51) fun x52=>
 bV (bInt .neq x52 (.int .i64 (.ofNat 1))) fun x53=>
 some (.norm [x53],H)) (some (.norm [undefA],H))) fun vs H=>hd vs fun x53_2 vs=>
 bV (pk3 (some x48) (some (.bool true)) (some x53_2)) fun x54=>
 jn (wnt x54 false (bR (f36 D n [x27] H) fun x57 H=>
 bV (bInt .neq x57 (.int .i64 (.ofNat 1))) fun x58=>
 some (.norm [x58],H)) (some (.norm [undefA],H))) fun vs H=>hd vs fun x58_2 vs=>
 bV (pk3 (some x54) (some (.bool true)) (some x58_2)) fun x59=>
 jn (wnt x59 false (bR (f33 D n [x27,(.str 1 97),(.str 1 49),(.bool true)] H) fun x62 H=>
 bV (aun .not x62) fun x63=>
 some (.norm [x63],H)) (some (.norm [undefA],H))) fun vs H=>hd vs fun x63_2 vs=>
 bV (pk3 (some x59) (some (.bool true)) (some x63_2)) fun x64=>
 cnd x64 (bV (some (.bool false)) fun x0=>some (.ret x0,H))
 (bR (f26 D n [x27,(.str 0 0)] H) fun x67 H=>
 bV (pExtract x67 0) fun x68=>
 bV (pExtract x67 1) fun x69=>
 bA (bxV 48 (.agg [(.str 0 0),(.str 0 0)])) H fun x7 H=>
 bR (stN 2 x7 x68 H) fun x9999 H=>
 bR (f60 D n [x27,x21,(.int .i64 (.ofNat 5))] H) fun x73 H=>
 bV (pExtract x73 0) fun x74=>
 bV (pExtract x73 1) fun x75=>
 bV (pExtract x73 2) fun x76=>
 bA (bxV 72 (.agg [(.int .i64 (.ofNat 0)),(.int .i64 (.ofNat 0)),(.int .u64 (.ofNat 0))])) H fun x9 H=>
 bR (stN 3 x9 x74 H) fun x9999_2 H=>
 bV (bInt .neq x69 (.int .i64 (.ofNat 0))) fun x78=>
 jn (wnt x78 false (bV (ldN 2 x7 H) fun x80=>
 bV (bldS [(0,1),(1,1)] [(.str 0 0),(.str 0 0)] [(0,(.str 1 97)),(1,(.str 1 49))]) fun x81=>
 bV (cmpO .neq (eqA [2,2] x80 x81)) fun x82=>
 some (.norm [x82],H)) (some (.norm [undefA],H))) fun vs H=>hd vs fun x82_2 vs=>
 bV (pk3 (some x78) (some (.bool true)) (some x82_2)) fun x83=>
 jn (wnt x83 false (bV (bInt .neq x76 (.int .i64 (.ofNat 0))) fun x86=>
 some (.norm [x86],H)) (some (.norm [undefA],H))) fun vs H=>hd vs fun x86_2 vs=>
 bV (pk3 (some x83) (some (.bool true)) (some x86_2)) fun x87=>
 jn (wnt x87 false (bV (fAd 0 x9) fun x89=>
 bV (ld1 x89 H) fun x90=>
 bV (bInt .neq x90 (.int .i64 (.ofNat 2))) fun x91=>
 some (.norm [x91],H)) (some (.norm [undefA],H))) fun vs H=>hd vs fun x91_2 vs=>
 bV (pk3 (some x87) (some (.bool true)) (some x91_2)) fun x92=>
 jn (wnt x92 false (bV (fAd 1 x9) fun x94=>
 bV (ld1 x94 H) fun x95=>
 bV (bInt .neq x95 (.int .i64 (.ofNat 5))) fun x96=>
 some (.norm [x96],H)) (some (.norm [undefA],H))) fun vs H=>hd vs fun x96_2 vs=>
 bV (pk3 (some x92) (some (.bool true)) (some x96_2)) fun x97=>
 jn (wnt x97 false (bV (lnSl x75) fun x100=>
 bV (bInt .neq x100 (.int .i64 (.ofNat 0))) fun x101=>
 some (.norm [x101],H)) (some (.norm [undefA],H))) fun vs H=>hd vs fun x101_2 vs=>
 bV (pk3 (some x97) (some (.bool true)) (some x101_2)) fun x102=>
 jn (wnt x102 false (bR (f36 D n [x27] H) fun x105 H=>
 bV (bInt .neq x105 (.int .i64 (.ofNat 0))) fun x106=>
 some (.norm [x106],H)) (some (.norm [undefA],H))) fun vs H=>hd vs fun x106_2 vs=>
 bV (pk3 (some x102) (some (.bool true)) (some x106_2)) fun x107=>
 jn (wnt x107 false (bR (f20 D n [x27,(.str 1 99),(.str 1 51)] H) fun x110 H=>
 bV (bInt .neq x110 (.int .i64 (.ofNat 0))) fun x111=>
 some (.norm [x111],H)) (some (.norm [undefA],H))) fun vs H=>hd vs fun x111_2 vs=>
 bV (pk3 (some x107) (some (.bool true)) (some x111_2)) fun x112=>
 jn (wnt x112 false (bR (f36 D n [x27] H) fun x115 H=>
 bV (bInt .neq x115 (.int .i64 (.ofNat 1))) fun x116=>
 some (.norm [x116],H)) (some (.norm [undefA],H))) fun vs H=>hd vs fun x116_2 vs=>
 bV (pk3 (some x112) (some (.bool true)) (some x116_2)) fun x117=>
 cnd x117 (bV (some (.bool false)) fun x0_2=>some (.ret x0_2,H))
 (bR (f60 D n [x27,x21,(.int .i64 (.ofNat 6))] H) fun x121 H=>
 bV (pExtract x121 0) fun x122=>
 bV (pExtract x121 1) fun x123=>
 bV (pExtract x121 2) fun x124=>
 bA (bxV 72 (.agg [(.int .i64 (.ofNat 0)),(.int .i64 (.ofNat 0)),(.int .u64 (.ofNat 0))])) H fun x12 H=>
 bR (stN 3 x12 x122 H) fun x9999_3 H=>
 bV (bInt .eql x124 (.int .i64 (.ofNat 0))) fun x126=>
 jn (wnt x126 true (bV (fAd 0 x12) fun x128=>
 bV (ld1 x128 H) fun x129=>
 bV (bInt .eql x129 (.int .i64 (.ofNat 3))) fun x130=>
 some (.norm [x130],H)) (some (.norm [undefA],H))) fun vs H=>hd vs fun x130_2 vs=>
 bV (pk3 (some x126) (some x130_2) (some (.bool false))) fun x131=>
 jn (wnt x131 true (bV (lnSl x123) fun x134=>
 bV (bInt .eql x134 (.int .i64 (.ofNat 1))) fun x135=>
 some (.norm [x135],H)) (some (.norm [undefA],H))) fun vs H=>hd vs fun x135_2 vs=>
 bV (pk3 (some x131) (some x135_2) (some (.bool false))) fun x136=>
 jn (wnt x136 true (bV (ixSl 3 x123 (.int .i64 (.ofNat 0))) fun x139=>
 bV (ldN 3 x139 H) fun x140=>
 bV (ldN 3 x9 H) fun x141=>
 bV (cmpO .eql (eqA [6,6,10] x140 x141)) fun x142=>
 some (.norm [x142],H)) (some (.norm [undefA],H))) fun vs H=>hd vs fun x142_2 vs=>
 bV (pk3 (some x136) (some x142_2) (some (.bool false))) fun x143=>
 jn (wnt x143 true (bR (f23 D n [x27,(.str 1 97)] H) fun x146 H=>
 bV (bInt .eql x146 (.int .i64 (.ofNat 0))) fun x147=>
 some (.norm [x147],H)) (some (.norm [undefA],H))) fun vs H=>hd vs fun x147_2 vs=>
 bV (pk3 (some x143) (some x147_2) (some (.bool false))) fun x148=>
 jn (wnt x148 true (bR (f23 D n [x27,(.str 1 98)] H) fun x151 H=>
 bV (bInt .eql x151 (.int .i64 (.ofNat 0))) fun x152=>
 some (.norm [x152],H)) (some (.norm [undefA],H))) fun vs H=>hd vs fun x152_2 vs=>
 bV (pk3 (some x148) (some x152_2) (some (.bool false))) fun x153=>
 jn (wnt x153 true (bR (f23 D n [x27,(.str 1 99)] H) fun x156 H=>
 bV (bInt .eql x156 (.int .i64 (.ofNat 0))) fun x157=>
 some (.norm [x157],H)) (some (.norm [undefA],H))) fun vs H=>hd vs fun x157_2 vs=>
 bV (pk3 (some x153) (some x157_2) (some (.bool false))) fun x158=>
 jn (wnt x158 true (bV (bldS [(0,1),(1,1),(2,1)] [(.int .i64 (.ofNat 0)),(.int .i64 (.ofNat 0)),(.int .u64 (.ofNat 0))] []) fun x162=>
 bR (f32 D n [x27] H) fun x161 H=>
 bV (cmpO .eql (eqA [6,6,10] x161 x162)) fun x163=>
 some (.norm [x163],H)) (some (.norm [undefA],H))) fun vs H=>hd vs fun x163_2 vs=>
 bV (pk3 (some x158) (some x163_2) (some (.bool false))) fun x164=>
 bV (some x164) fun x0_3=>some (.ret x0_3,H))))
def h18:Hint:=(.s .o (.s .o (.s .o (.s .o (.s (.s .o (.cl (.s .o .o) .o)) (.s .o (.s .o (.s (.s .o (.cl (.s .o .o) .o)) (.s .o (.s .o .o))))))))))
theorem f18_eq (D:Dyn)(n:Nat):f18 D n=funK (s18 D n) D n 18 Tryz.f18 h18:=by kernel_rfl
theorem f18_ok {D:Dyn}(hD:DG D)(n:Nat):FI 18 (f18 D n):=fun_ok X_ok hD (SOk.cons (f49_ok hD n).fs (SOk.cons (f59_ok hD n).fs (SOk.cons (f31_ok hD n).fs (SOk.cons (f20_ok hD n).fs (SOk.cons (f32_ok hD n).fs (SOk.cons (f36_ok hD n).fs (SOk.cons (f33_ok hD n).fs (SOk.cons (f26_ok hD n).fs (SOk.cons (f60_ok hD n).fs (SOk.cons (f23_ok hD n).fs (SOk.nil))))))))))) Tryz.func18 (by kernel_rfl) (f18_eq D n)
def s61 (D:Dyn)(n:Nat):Tb:=⟨X,[]⟩
def f61 (D:Dyn)(n:Nat)(vs:List AV)(H:AH):Option (AV×AH):=
 outR (hd vs fun x0 vs=>nl vs <|
 bV (bInt .lss x0 (.int .i64 (.ofNat 1))) fun x5=>
 jn (wnt x5 false (bV (bInt .gtr x0 (.int .i64 (.ofNat 1024))) fun x8=>
 some (.norm [x8],H)) (some (.norm [undefA],H))) fun vs H=>hd vs fun x8_2 vs=>
 bV (pk3 (some x5) (some (.bool true)) (some x8_2)) fun x9=>
 cnd x9 (bV (some .nilPtr) fun x2=>bV (some (.int .i64 (.ofNat 1))) fun x3=>some (.ret (.tuple [x2,x3]),H))
 (bA (mkM [6]) H fun x10 H=>
 bV (bldS [(0,12),(12,1)] [.nilPtr, .nilPtr,(.int .i64 (.ofNat 0)), .nilPtr, .nilPtr,(.int .i64 (.ofNat 0)), .nilPtr, .nilPtr,(.int .i64 (.ofNat 0)), .nilPtr, .nilPtr,(.int .i64 (.ofNat 0)), .nilMap] [(1,x10)]) fun x11=>
 bV (bldS [(0,13),(13,1),(14,1)] [.nilPtr, .nilPtr,(.int .i64 (.ofNat 0)), .nilPtr, .nilPtr,(.int .i64 (.ofNat 0)), .nilPtr, .nilPtr,(.int .i64 (.ofNat 0)), .nilPtr, .nilPtr,(.int .i64 (.ofNat 0)), .nilMap,(.int .i64 (.ofNat 0)),(.int .i64 (.ofNat 0))] [(0,x11),(1,x0)]) fun x13=>
 bA (bxV 206 x13) H fun x14 H=>
 bV (some x14) fun x2_2=>bV (some (.int .i64 (.ofNat 0))) fun x3_2=>some (.ret (.tuple [x2_2,x3_2]),H)))
def h61:Hint:=(.s .o (.s (.s .o (.cl (.s .o .o) .o)) (.s .o .o)))
theorem f61_eq (D:Dyn)(n:Nat):f61 D n=funK (s61 D n) D n 61 Tryz.f61 h61:=by kernel_rfl
theorem f61_ok {D:Dyn}(hD:DG D)(n:Nat):FI 61 (f61 D n):=fun_ok X_ok hD (SOk.nil) Tryz.func61 (by kernel_rfl) (f61_eq D n)
def s19 (D:Dyn)(n:Nat):Tb:=⟨X,[(49,f49 D n),(59,f59 D n),(61,f61 D n),(31,f31 D n)]⟩
def f19 (D:Dyn)(n:Nat)(vs:List AV)(H:AH):Option (AV×AH):=
 outR (hd vs fun x0 vs=>nl vs <|
 bR (f49 D n [(.int .i64 (.ofNat 512))] H) fun x12 H=>
 bV (pExtract x12 0) fun x13=>
 bV (pExtract x12 1) fun x14=>
 bR (f59 D n [(.int .i64 (.ofNat 512))] H) fun x16 H=>
 bV (pExtract x16 0) fun x17=>
 bV (pExtract x16 1) fun x18=>
 bR (f61 D n [x0] H) fun x21 H=>
 bV (pExtract x21 0) fun x22=>
 bV (pExtract x21 1) fun x23=>
 bV (bldS [(0,1),(1,1),(2,1)] [(.int .i64 (.ofNat 0)),(.int .i64 (.ofNat 0)),(.int .u64 (.ofNat 0))] []) fun x27=>
 bR (f31 D n [x13,x22,x27] H) fun x28 H=>
 bV (pExtract x28 0) fun x29=>
 bV (pExtract x28 1) fun x30=>
 bV (bInt .neq x14 (.int .i64 (.ofNat 0))) fun x32=>
 jn (wnt x32 false (bV (bInt .neq x18 (.int .i64 (.ofNat 0))) fun x35=>
 some (.norm [x35],H)) (some (.norm [undefA],H))) fun vs H=>hd vs fun x35_2 vs=>
 bV (pk3 (some x32) (some (.bool true)) (some x35_2)) fun x36=>
 jn (wnt x36 false (bV (bInt .neq x30 (.int .i64 (.ofNat 0))) fun x39=>
 some (.norm [x39],H)) (some (.norm [undefA],H))) fun vs H=>hd vs fun x39_2 vs=>
 bV (pk3 (some x36) (some (.bool true)) (some x39_2)) fun x40=>
 cnd x40 (bV (some .nilPtr) fun x2=>some (.ret x2,H))
 (bV (bldS [(0,1),(1,1),(2,1),(3,1),(4,1)] [.nilPtr, .nilPtr, .nilPtr,(.int .i64 (.ofNat 0)), .nilSlice] [(0,x13),(1,x17),(2,x29)]) fun x44=>
 bA (bxV 44 x44) H fun x45 H=>
 bV (some x45) fun x2_2=>some (.ret x2_2,H)))
def h19:Hint:=(.s .o (.s .o (.s .o (.s .o (.s .o (.s (.s .o (.cl (.s .o .o) .o)) (.s .o .o)))))))
theorem f19_eq (D:Dyn)(n:Nat):f19 D n=funK (s19 D n) D n 19 Tryz.f19 h19:=by kernel_rfl
theorem f19_ok {D:Dyn}(hD:DG D)(n:Nat):FI 19 (f19 D n):=fun_ok X_ok hD (SOk.cons (f49_ok hD n).fs (SOk.cons (f59_ok hD n).fs (SOk.cons (f61_ok hD n).fs (SOk.cons (f31_ok hD n).fs (SOk.nil))))) Tryz.func19 (by kernel_rfl) (f19_eq D n)
def s21 (D:Dyn)(n:Nat):Tb:=⟨X,[]⟩
def f21 (D:Dyn)(n:Nat)(vs:List AV)(H:AH):Option (AV×AH):=
 outR (hd vs fun x0 vs=>nl vs <|
 bV (lnStr x0) fun x5=>
 bV (mn2 x5 (.int .i64 (.ofNat 100))) fun x6=>
 bV (slStr x0 none (some x6)) fun x7=>
 bV (some x7) fun x2=>some (.ret x2,H))
def h21:Hint:=(.s .o (.s .o .o))
theorem f21_eq (D:Dyn)(n:Nat):f21 D n=funK (s21 D n) D n 21 Tryz.f21 h21:=by kernel_rfl
theorem f21_ok {D:Dyn}(hD:DG D)(n:Nat):FI 21 (f21 D n):=fun_ok X_ok hD (SOk.nil) Tryz.func21 (by kernel_rfl) (f21_eq D n)
end Go.Eng.Sh
end
end
section
noncomputable section
namespace Go.Eng.Sh
open Go.Proofs
set_option maxRecDepth 100000
def s22 (D:Dyn)(n:Nat):Tb:=⟨X,[(26,f26 D n),(33,f33 D n)]⟩
def f22l0 (D:Dyn)(n:Nat)(vs:List AV)(H:AH):Rs:=
 hd vs fun x0_2 vs=>hd vs fun x1_2 vs=>hd vs fun x5 vs=>hd vs fun x6 vs=>
 bV (lnSl x1_2) fun x13=>
 bV (bInt .lss x6 x13) fun x14=>
 cnd x14 (bR (f26 D n [x0_2,x5] H) fun x20 H=>
 bV (pExtract x20 0) fun x21=>
 bV (pExtract x20 1) fun x22=>
 bA (bxV 48 (.agg [(.str 0 0),(.str 0 0)])) H fun x7 H=>
 bR (stN 2 x7 x21 H) fun x9999 H=>
 bV (bInt .neq x22 (.int .i64 (.ofNat 0))) fun x24=>
 jn (wnt x24 false (bV (ldN 2 x7 H) fun x26=>
 bV (ixSl 2 x1_2 x6) fun x29=>
 bV (ldN 2 x29 H) fun x30=>
 bV (cmpO .neq (eqA [2,2] x26 x30)) fun x31=>
 some (.norm [x31],H)) (some (.norm [undefA],H))) fun vs H=>hd vs fun x31_2 vs=>
 bV (pk3 (some x24) (some (.bool true)) (some x31_2)) fun x32=>
 jn (wnt x32 false (bV (ixSl 2 x1_2 x6) fun x37=>
 bV (fAd 0 x37) fun x38=>
 bV (ld1 x38 H) fun x39=>
 bV (ixSl 2 x1_2 x6) fun x42=>
 bV (fAd 1 x42) fun x43=>
 bV (ld1 x43 H) fun x44=>
 bR (f33 D n [x0_2,x39,x44,(.bool true)] H) fun x45 H=>
 bV (aun .not x45) fun x46=>
 some (.norm [x46],H)) (some (.norm [undefA],H))) fun vs H=>hd vs fun x46_2 vs=>
 bV (pk3 (some x32) (some (.bool true)) (some x46_2)) fun x47=>
 cnd x47 (bV (some (.bool false)) fun x4=>some (.ret x4,H))
 (bV (ixSl 2 x1_2 x6) fun x50=>
 bV (fAd 0 x50) fun x51=>
 bV (ld1 x51 H) fun x52=>
 bV (bStr .add x52 (.str 1 0)) fun x53=>
 bV (bInt .add x6 (.int .i64 (.ofNat 1))) fun x16=>
 some (.norm [x0_2,x1_2,x53,x16],H)))
 (some (.exit 0 [x0_2,x5],H))
def f22b1 (D:Dyn)(n:Nat)(vs:List AV)(H:AH):Rs:=
 hd vs fun x0_3 vs=>hd vs fun x5_2 vs=>
 bR (f26 D n [x0_3,x5_2] H) fun x57 H=>
 bV (pExtract x57 0) fun x58=>
 bV (pExtract x57 1) fun x59=>
 bA (bxV 48 (.agg [(.str 0 0),(.str 0 0)])) H fun x9 H=>
 bR (stN 2 x9 x58 H) fun x9999_2 H=>
 bV (bInt .eql x59 (.int .i64 (.ofNat 5))) fun x61=>
 bV (some x61) fun x4_2=>some (.ret x4_2,H)
def f22 (D:Dyn)(n:Nat)(vs:List AV)(H:AH):Option (AV×AH):=
 outR (hd vs fun x0 vs=>hd vs fun x1 vs=>nl vs <|
 jb 0 (loopK n (f22l0 D n) [x0,x1,(.str 0 0),(.int .i64 (.ofNat 0))] H) (f22b1 D n))
def h22:Hint:=(.s .o (.s .o (.s (.s .o (.b [0,5] (.l [0,1,5,6] (.s (.s .o (.cr .o .o)) (.s (.b0 (.s .o (.s (.s .o (.cl (.s .o .o) .o)) .o))) .o))))) (.s .o (.s .o .o)))))
theorem f22_eq (D:Dyn)(n:Nat):f22 D n=funK (s22 D n) D n 22 Tryz.f22 h22:=by kernel_rfl
theorem f22_ok {D:Dyn}(hD:DG D)(n:Nat):FI 22 (f22 D n):=fun_ok X_ok hD (SOk.cons (f26_ok hD n).fs (SOk.cons (f33_ok hD n).fs (SOk.nil))) Tryz.func22 (by kernel_rfl) (f22_eq D n)
def s4 (D:Dyn)(n:Nat):Tb:=⟨X,[(18,f18 D n),(19,f19 D n),(21,f21 D n),(20,f20 D n),(22,f22 D n),(23,f23 D n)]⟩
def f4l0 (D:Dyn)(n:Nat)(vs:List AV)(H:AH):Rs:=
 hd vs fun x0_3 vs=>hd vs fun x3_2 vs=>hd vs fun x4_2 vs=>hd vs fun x5_2 vs=>hd vs fun x6_2 vs=>hd vs fun x10 vs=>
 bV (lnSl x5_2) fun x87=>
 bV (bInt .lss x10 x87) fun x88=>
 jn (wnt x88 true (bV (ixSl 2 x5_2 x10) fun x92=>
 bV (fAd 0 x92) fun x93=>
 bV (ld1 x93 H) fun x94=>
 bV (ixSl 1 x0_3 x6_2) fun x97=>
 bV (ld1 x97 H) fun x98=>
 bV (bStr .lss x94 x98) fun x99=>
 some (.norm [x99],H)) (some (.norm [undefA],H))) fun vs H=>hd vs fun x99_2 vs=>
 bV (pk3 (some x88) (some x99_2) (some (.bool false))) fun x100=>
 cnd x100 (bV (bInt .add x10 (.int .i64 (.ofNat 1))) fun x102=>
 some (.norm [x0_3,x3_2,x4_2,x5_2,x6_2,x102],H))
 (some (.exit 2 [x0_3,x3_2,x4_2,x5_2,x6_2,x10],H))
def f4j1 (D:Dyn)(n:Nat)(vs:List AV)(H:AH):Rs:=
 hd vs fun x0_5 vs=>hd vs fun x3_4 vs=>hd vs fun x4_4 vs=>hd vs fun x5_4 vs=>hd vs fun x6_4 vs=>
 some (.norm [x0_5,x3_4,x4_4,x5_4,x6_4],H)
def f4b2 (D:Dyn)(n:Nat)(vs:List AV)(H:AH):Rs:=
 hd vs fun x0_4 vs=>hd vs fun x3_3 vs=>hd vs fun x4_3 vs=>hd vs fun x5_3 vs=>hd vs fun x6_3 vs=>hd vs fun x10_2 vs=>
 bV (lnSl x5_3) fun x105=>
 bV (bInt .eql x10_2 x105) fun x106=>
 jn (wnt x106 false (bV (ixSl 2 x5_3 x10_2) fun x110=>
 bV (fAd 0 x110) fun x111=>
 bV (ld1 x111 H) fun x112=>
 bV (ixSl 1 x0_4 x6_3) fun x115=>
 bV (ld1 x115 H) fun x116=>
 bV (bStr .neq x112 x116) fun x117=>
 some (.norm [x117],H)) (some (.norm [undefA],H))) fun vs H=>hd vs fun x117_2 vs=>
 bV (pk3 (some x106) (some (.bool true)) (some x117_2)) fun x118=>
 jn (cnd x118 (bA (bldL 48 2 0 [(.str 0 0),(.str 0 0)] []) H fun x119 H=>
 bV (slSl 2 x5_3 none (some x10_2) none H) fun x122=>
 bV (ixSl 1 x0_4 x6_3) fun x126=>
 bV (ld1 x126 H) fun x127=>
 bV (ixSl 1 x0_4 x6_3) fun x130=>
 bV (ld1 x130 H) fun x131=>
 bV (slSl 2 x5_3 (some x10_2) none none H) fun x139=>
 bR (apP 48 2 32 x119 x122 H) fun x123 H=>chk (ld1 x126 H) x127 <| chk (ld1 x130 H) x131 <| chk (slSl 2 x5_3 (some x10_2) none none H) x139 <|
 bR (f21 D n [x131] H) fun x132 H=>chk (ld1 x126 H) x127 <| chk (slSl 2 x5_3 (some x10_2) none none H) x139 <|
 bV (bStr .add (.str 3 2123375) x132) fun x133=>
 bV (bldS [(0,1),(1,1)] [(.str 0 0),(.str 0 0)] [(0,x127),(1,x133)]) fun x134=>
 bA (bldL 48 2 1 [(.str 0 0),(.str 0 0)] [(0,x134)]) H fun x135 H=>
 bR (apP 48 2 32 x123 x135 H) fun x136 H=>chk (slSl 2 x5_3 (some x10_2) none none H) x139 <|
 bR (apP 48 2 32 x136 x139 H) fun x140 H=>
 some (.norm [x0_4,x3_3,x4_3,x140,x6_3],H))
 (some (.norm [x0_4,x3_3,x4_3,x5_3,x6_3],H))) (f4j1 D n)
def f4b3 (D:Dyn)(n:Nat)(vs:List AV)(H:AH):Rs:=
 hd vs fun x0_6 vs=>hd vs fun x3_5 vs=>hd vs fun x4_5 vs=>hd vs fun x5_5 vs=>hd vs fun x6_5 vs=>
 bV (bInt .add x6_5 (.int .i64 (.ofNat 1))) fun x33=>
 some (.norm [x0_6,x3_5,x4_5,x5_5,x33],H)
def f4l4 (D:Dyn)(n:Nat)(vs:List AV)(H:AH):Rs:=
 hd vs fun x0_2 vs=>hd vs fun x3 vs=>hd vs fun x4 vs=>hd vs fun x5 vs=>hd vs fun x6 vs=>
 bV (lnSl x0_2) fun x30=>
 bV (bInt .lss x6 x30) fun x31=>
 cnd x31 (jb 1 (bV (lnSl x0_2) fun x36=>
 bV (bInt .sub x36 (.int .i64 (.ofNat 1))) fun x37=>
 bV (bInt .sub x37 x6) fun x39=>
 bV (ixSl 1 x0_2 x39) fun x40=>
 bV (ld1 x40 H) fun x41=>
 bV (ixSl 1 x0_2 x6) fun x44=>
 bV (ld1 x44 H) fun x45=>
 bV (lnStr x45) fun x46=>
 bV (bInt .gtr x46 (.int .i64 (.ofNat 1000))) fun x47=>
 jn (wnt x47 false (bV (lnStr x41) fun x50=>
 bV (bInt .gtr x50 (.int .i64 (.ofNat 1000))) fun x51=>
 some (.norm [x51],H)) (some (.norm [undefA],H))) fun vs H=>hd vs fun x51_2 vs=>
 bV (pk3 (some x47) (some (.bool true)) (some x51_2)) fun x52=>
 cnd x52 (bV (some (.bool true)) fun x2_3=>some (.ret x2_3,H))
 (bV (pNil x3) fun x54=>
 bV (fAd 2 x54) fun x55=>
 bV (ld1 x55 H) fun x56=>
 bV (ixSl 1 x0_2 x6) fun x59=>
 bV (ld1 x59 H) fun x60=>
 bV (ixSl 1 x0_2 x6) fun x63=>
 bV (ld1 x63 H) fun x64=>
 bR (f21 D n [x64] H) fun x65 H=>chk (ld1 x55 H) x56 <| chk (ld1 x59 H) x60 <|
 bV (bStr .add (.str 3 2123375) x65) fun x66=>
 bR (f20 D n [x56,x60,x66] H) fun x67 H=>
 bV (pNil x4) fun x69=>
 bV (fAd 2 x69) fun x70=>
 bV (ld1 x70 H) fun x71=>
 bR (f21 D n [x41] H) fun x74 H=>chk (ld1 x70 H) x71 <|
 bV (bStr .add (.str 3 2123375) x74) fun x75=>
 bR (f20 D n [x71,x41,x75] H) fun x76 H=>
 bV (bInt .eql x67 (.int .i64 (.ofNat 3))) fun x78=>
 jn (wnt x78 false (bV (bInt .eql x76 (.int .i64 (.ofNat 3))) fun x81=>
 some (.norm [x81],H)) (some (.norm [undefA],H))) fun vs H=>hd vs fun x81_2 vs=>
 bV (pk3 (some x78) (some (.bool true)) (some x81_2)) fun x82=>
 cnd x82 (bV (some (.bool true)) fun x2_4=>some (.ret x2_4,H))
 (bV (bInt .neq x67 (.int .i64 (.ofNat 0))) fun x84=>
 cnd x84 (some (.exit 1 [x0_2,x3,x4,x5,x6],H))
 (jb 2 (loopK n (f4l0 D n) [x0_2,x3,x4,x5,x6,(.int .i64 (.ofNat 0))] H) (f4b2 D n))))) (f4b3 D n))
 (some (.exit 0 [x3,x4,x5],H))
def f4l5 (D:Dyn)(n:Nat)(vs:List AV)(H:AH):Rs:=
 hd vs fun x3_7 vs=>hd vs fun x4_7 vs=>hd vs fun x5_7 vs=>hd vs fun x11 vs=>
 bV (lnSl x5_7) fun x159=>
 bV (bInt .lss x11 x159) fun x160=>
 cnd x160 (bV (pNil x3_7) fun x164=>
 bV (fAd 2 x164) fun x165=>
 bV (ld1 x165 H) fun x166=>
 bV (ixSl 2 x5_7 x11) fun x169=>
 bV (fAd 0 x169) fun x170=>
 bV (ld1 x170 H) fun x171=>
 bR (f23 D n [x166,x171] H) fun x172 H=>
 bV (bInt .neq x172 (.int .i64 (.ofNat 0))) fun x173=>
 jn (wnt x173 false (bV (pNil x4_7) fun x176=>
 bV (fAd 2 x176) fun x177=>
 bV (ld1 x177 H) fun x178=>
 bV (lnSl x5_7) fun x181=>
 bV (bInt .sub x181 (.int .i64 (.ofNat 1))) fun x182=>
 bV (bInt .sub x182 x11) fun x184=>
 bV (ixSl 2 x5_7 x184) fun x185=>
 bV (fAd 0 x185) fun x186=>
 bV (ld1 x186 H) fun x187=>
 bR (f23 D n [x178,x187] H) fun x188 H=>
 bV (bInt .neq x188 (.int .i64 (.ofNat 0))) fun x189=>
 some (.norm [x189],H)) (some (.norm [undefA],H))) fun vs H=>hd vs fun x189_2 vs=>
 bV (pk3 (some x173) (some (.bool true)) (some x189_2)) fun x190=>
 cnd x190 (bV (some (.bool false)) fun x2_6=>some (.ret x2_6,H))
 (bV (bInt .add x11 (.int .i64 (.ofNat 1))) fun x162=>
 some (.norm [x3_7,x4_7,x5_7,x162],H)))
 (some (.exit 4 [x3_7,x4_7],H))
def f4b6 (D:Dyn)(n:Nat)(vs:List AV)(H:AH):Rs:=
 hd vs fun x3_8 vs=>hd vs fun x4_8 vs=>
 bV (pNil x3_8) fun x192=>
 bV (fAd 2 x192) fun x193=>
 bV (ld1 x193 H) fun x194=>
 bR (f22 D n [x194, .nilSlice] H) fun x195 H=>
 jn (wnt x195 true (bV (pNil x4_8) fun x198=>
 bV (fAd 2 x198) fun x199=>
 bV (ld1 x199 H) fun x200=>
 bR (f22 D n [x200, .nilSlice] H) fun x201 H=>
 some (.norm [x201],H)) (some (.norm [undefA],H))) fun vs H=>hd vs fun x201_2 vs=>
 bV (pk3 (some x195) (some x201_2) (some (.bool false))) fun x202=>
 bV (some x202) fun x2_7=>some (.ret x2_7,H)
def f4b7 (D:Dyn)(n:Nat)(vs:List AV)(H:AH):Rs:=
 hd vs fun x3_6 vs=>hd vs fun x4_6 vs=>hd vs fun x5_6 vs=>
 bV (pNil x3_6) fun x142=>
 bV (fAd 2 x142) fun x143=>
 bV (ld1 x143 H) fun x144=>
 bR (f22 D n [x144,x5_6] H) fun x146 H=>
 bV (aun .not x146) fun x147=>
 jn (wnt x147 false (bV (pNil x4_6) fun x150=>
 bV (fAd 2 x150) fun x151=>
 bV (ld1 x151 H) fun x152=>
 bR (f22 D n [x152,x5_6] H) fun x154 H=>
 bV (aun .not x154) fun x155=>
 some (.norm [x155],H)) (some (.norm [undefA],H))) fun vs H=>hd vs fun x155_2 vs=>
 bV (pk3 (some x147) (some (.bool true)) (some x155_2)) fun x156=>
 cnd x156 (bV (some (.bool false)) fun x2_5=>some (.ret x2_5,H))
 (jb 4 (loopK n (f4l5 D n) [x3_6,x4_6,x5_6,(.int .i64 (.ofNat 0))] H) (f4b6 D n))
def f4 (D:Dyn)(n:Nat)(vs:List AV)(H:AH):Option (AV×AH):=
 outR (hd vs fun x0 vs=>nl vs <|
 bR (f18 D n [] H) fun x12 H=>
 bV (aun .not x12) fun x13=>
 jn (wnt x13 false (bV (lnSl x0) fun x16=>
 bV (bInt .gtr x16 (.int .i64 (.ofNat 150))) fun x17=>
 some (.norm [x17],H)) (some (.norm [undefA],H))) fun vs H=>hd vs fun x17_2 vs=>
 bV (pk3 (some x13) (some (.bool true)) (some x17_2)) fun x18=>
 cnd x18 (bR (f18 D n [] H) fun x19 H=>
 bV (some x19) fun x2=>some (.ret x2,H))
 (bR (f19 D n [(.int .i64 (.ofNat 0))] H) fun x20 H=>
 bR (f19 D n [(.int .i64 (.ofNat 3))] H) fun x21 H=>
 bV (cmpO .eql (eqP x20 .nilPtr)) fun x23=>
 jn (wnt x23 false (bV (cmpO .eql (eqP x21 .nilPtr)) fun x26=>
 some (.norm [x26],H)) (some (.norm [undefA],H))) fun vs H=>hd vs fun x26_2 vs=>
 bV (pk3 (some x23) (some (.bool true)) (some x26_2)) fun x27=>
 cnd x27 (bV (some (.bool false)) fun x2_2=>some (.ret x2_2,H))
 (jb 0 (loopK n (f4l4 D n) [x0,x20,x21, .nilSlice,(.int .i64 (.ofNat 0))] H) (f4b7 D n))))
def h4:Hint:=(.s .o (.s (.s .o (.cl (.s .o .o) .o)) (.s .o (.s .o (.s (.s .o (.cl (.s .o .o) .o)) (.s .o (.s (.s .o (.b [3,4,5] (.l [0,3,4,5,6] (.s (.s .o (.cr .o .o)) (.s (.b [0,3,4,5,6] (.s .o (.s (.s .o (.cl (.s .o .o) .o)) (.s .o (.s .o (.s (.s .o (.cl (.s .o .o) .o)) (.s (.s .o (.cl .o .o)) (.s .o (.s (.b [0,3,4,5,6,10] (.l [0,3,4,5,6,10] (.s (.s .o (.cr .o .o)) (.b0 .o)))) (.s .o (.c [0,3,4,5,6] .o .o))))))))))) .o))))) (.s (.s .o (.cl (.s .o .o) .o)) (.s (.s .o (.b [3,4] (.l [3,4,5,11] (.s (.s .o (.cr .o .o)) (.s (.b0 (.s .o (.cl (.s .o .o) .o))) .o))))) (.s .o .o))))))))))
theorem f4_eq (D:Dyn)(n:Nat):f4 D n=funK (s4 D n) D n 4 Tryz.f4 h4:=by kernel_rfl
theorem f4_ok {D:Dyn}(hD:DG D)(n:Nat):FI 4 (f4 D n):=fun_ok X_ok hD (SOk.cons (f18_ok hD n).fs (SOk.cons (f19_ok hD n).fs (SOk.cons (f21_ok hD n).fs (SOk.cons (f20_ok hD n).fs (SOk.cons (f22_ok hD n).fs (SOk.cons (f23_ok hD n).fs (SOk.nil))))))) Tryz.func4 (by kernel_rfl) (f4_eq D n)
def s76 (D:Dyn)(n:Nat):Tb:=⟨X,[]⟩
def f76 (D:Dyn)(n:Nat)(vs:List AV)(H:AH):Option (AV×AH):=
 outR (hd vs fun x0 vs=>nl vs <|
 bV (cmpO .eql (eqM x0 .nilMap)) fun x4=>
 cnd x4 (bV (some .nilMap) fun x2=>some (.ret x2,H))
 (none))
def h76:Hint:=(.s .o (.s (.s .o (.cl (.s .o .o) .o)) (.s .o .o)))
theorem f76_eq (D:Dyn)(n:Nat):f76 D n=funK (s76 D n) D n 76 Tryz.f76 h76:=by kernel_rfl
theorem f76_ok {D:Dyn}(hD:DG D)(n:Nat):FI 76 (f76 D n):=fun_ok X_ok hD (SOk.nil) Tryz.func76 (by kernel_rfl) (f76_eq D n)
def m76 (D:Dyn)(n:Nat)(vs:List AV)(H:AH):Option (AV×AH):=clnK (f76 D n) vs H
theorem m76_ok {D:Dyn}(hD:DG D)(n:Nat):FI 76 (m76 D n):=clnK_ok ⟨_,Tryz.func76,rfl⟩ (AnyW.maps_Clone Tryz.clone76) (f76_ok hD n)
def s37 (D:Dyn)(n:Nat):Tb:=⟨X,[(76,m76 D n),(77,f77 D n)]⟩
def f37 (D:Dyn)(n:Nat)(vs:List AV)(H:AH):Option (AV×AH):=
 outR (hd vs fun x0 vs=>nl vs <|
 bV (cmpO .eql (eqP x0 .nilPtr)) fun x5=>
 cnd x5 (bV (some .nilPtr) fun x2=>some (.ret x2,H))
 (bV (pNil x0) fun x7=>
 bV (ldN 8 x7 H) fun x8=>
 bA (bxV 141 (.agg [.nilPtr, .nilPtr,(.int .i64 (.ofNat 0)),(.int .i64 (.ofNat 0)),(.int .u64 (.ofNat 0)), .nilMap,(.int .u64 (.ofNat 0)), .nilSlice])) H fun x3 H=>
 bR (stN 8 x3 x8 H) fun x9999 H=>
 bV (pNil x0) fun x10=>
 bV (fAd 5 x10) fun x11=>
 bV (ld1 x11 H) fun x12=>
 bR (m76 D n [x12] H) fun x13 H=>
 bV (fAd 5 x3) fun x14=>
 bR (stN 1 x14 x13 H) fun x9999_2 H=>
 bV (pNil x0) fun x16=>
 bV (fAd 7 x16) fun x17=>
 bV (ld1 x17 H) fun x18=>
 bR (f77 D n [x18] H) fun x19 H=>
 bV (fAd 7 x3) fun x20=>
 bR (stN 1 x20 x19 H) fun x9999_3 H=>
 bV (some x3) fun x2_2=>some (.ret x2_2,H)))
def h37:Hint:=(.s .o (.s (.s .o (.cl (.s .o .o) .o)) (.s .o (.s .o (.s .o (.s .o .o))))))
theorem f37_eq (D:Dyn)(n:Nat):f37 D n=funK (s37 D n) D n 37 Tryz.f37 h37:=by kernel_rfl
theorem f37_ok {D:Dyn}(hD:DG D)(n:Nat):FI 37 (f37 D n):=fun_ok X_ok hD (SOk.cons (m76_ok hD n).fs (SOk.cons (f77_ok hD n).fs (SOk.nil))) Tryz.func37 (by kernel_rfl) (f37_eq D n)
def s8 (D:Dyn)(n:Nat):Tb:=⟨X,[(18,f18 D n),(19,f19 D n),(21,f21 D n),(20,f20 D n),(37,f37 D n),(23,f23 D n),(22,f22 D n)]⟩
def f8l0 (D:Dyn)(n:Nat)(vs:List AV)(H:AH):Rs:=
 hd vs fun x0_3 vs=>hd vs fun x1_3 vs=>hd vs fun x5_2 vs=>hd vs fun x6_2 vs=>hd vs fun x7_2 vs=>hd vs fun x8 vs=>
 bV (lnSl x6_2) fun x58=>
 bV (bInt .lss x8 x58) fun x59=>
 jn (wnt x59 true (bV (ixSl 2 x6_2 x8) fun x63=>
 bV (fAd 0 x63) fun x64=>
 bV (ld1 x64 H) fun x65=>
 bV (ixSl 1 x0_3 x7_2) fun x68=>
 bV (ld1 x68 H) fun x69=>
 bV (bStr .lss x65 x69) fun x70=>
 some (.norm [x70],H)) (some (.norm [undefA],H))) fun vs H=>hd vs fun x70_2 vs=>
 bV (pk3 (some x59) (some x70_2) (some (.bool false))) fun x71=>
 cnd x71 (bV (bInt .add x8 (.int .i64 (.ofNat 1))) fun x73=>
 some (.norm [x0_3,x1_3,x5_2,x6_2,x7_2,x73],H))
 (some (.exit 2 [x0_3,x1_3,x5_2,x6_2,x7_2,x8],H))
def f8j1 (D:Dyn)(n:Nat)(vs:List AV)(H:AH):Rs:=
 hd vs fun x0_5 vs=>hd vs fun x1_5 vs=>hd vs fun x5_4 vs=>hd vs fun x6_4 vs=>hd vs fun x7_4 vs=>
 some (.norm [x0_5,x1_5,x5_4,x6_4,x7_4],H)
def f8b2 (D:Dyn)(n:Nat)(vs:List AV)(H:AH):Rs:=
 hd vs fun x0_4 vs=>hd vs fun x1_4 vs=>hd vs fun x5_3 vs=>hd vs fun x6_3 vs=>hd vs fun x7_3 vs=>hd vs fun x8_2 vs=>
 bV (lnSl x6_3) fun x76=>
 bV (bInt .eql x8_2 x76) fun x77=>
 jn (wnt x77 false (bV (ixSl 2 x6_3 x8_2) fun x81=>
 bV (fAd 0 x81) fun x82=>
 bV (ld1 x82 H) fun x83=>
 bV (ixSl 1 x0_4 x7_3) fun x86=>
 bV (ld1 x86 H) fun x87=>
 bV (bStr .neq x83 x87) fun x88=>
 some (.norm [x88],H)) (some (.norm [undefA],H))) fun vs H=>hd vs fun x88_2 vs=>
 bV (pk3 (some x77) (some (.bool true)) (some x88_2)) fun x89=>
 jn (cnd x89 (bA (bldL 48 2 0 [(.str 0 0),(.str 0 0)] []) H fun x90 H=>
 bV (slSl 2 x6_3 none (some x8_2) none H) fun x93=>
 bV (ixSl 1 x0_4 x7_3) fun x97=>
 bV (ld1 x97 H) fun x98=>
 bV (ixSl 1 x0_4 x7_3) fun x101=>
 bV (ld1 x101 H) fun x102=>
 bV (slSl 2 x6_3 (some x8_2) none none H) fun x109=>
 bR (apP 48 2 32 x90 x93 H) fun x94 H=>chk (ld1 x97 H) x98 <| chk (ld1 x101 H) x102 <| chk (slSl 2 x6_3 (some x8_2) none none H) x109 <|
 bR (f21 D n [x102] H) fun x103 H=>chk (ld1 x97 H) x98 <| chk (slSl 2 x6_3 (some x8_2) none none H) x109 <|
 bV (bldS [(0,1),(1,1)] [(.str 0 0),(.str 0 0)] [(0,x98),(1,x103)]) fun x104=>
 bA (bldL 48 2 1 [(.str 0 0),(.str 0 0)] [(0,x104)]) H fun x105 H=>
 bR (apP 48 2 32 x94 x105 H) fun x106 H=>chk (slSl 2 x6_3 (some x8_2) none none H) x109 <|
 bR (apP 48 2 32 x106 x109 H) fun x110 H=>
 some (.norm [x0_4,x1_4,x5_3,x110,x7_3],H))
 (some (.norm [x0_4,x1_4,x5_3,x6_3,x7_3],H))) (f8j1 D n)
def f8b3 (D:Dyn)(n:Nat)(vs:List AV)(H:AH):Rs:=
 hd vs fun x0_6 vs=>hd vs fun x1_6 vs=>hd vs fun x5_5 vs=>hd vs fun x6_5 vs=>hd vs fun x7_5 vs=>
 bV (bInt .add x7_5 (.int .i64 (.ofNat 1))) fun x34=>
 some (.norm [x0_6,x1_6,x5_5,x6_5,x34],H)
def f8l4 (D:Dyn)(n:Nat)(vs:List AV)(H:AH):Rs:=
 hd vs fun x0_2 vs=>hd vs fun x1_2 vs=>hd vs fun x5 vs=>hd vs fun x6 vs=>hd vs fun x7 vs=>
 bV (lnSl x0_2) fun x31=>
 bV (bInt .lss x7 x31) fun x32=>
 cnd x32 (jb 1 (bV (ixSl 1 x0_2 x7) fun x37=>
 bV (ld1 x37 H) fun x38=>
 bV (lnStr x38) fun x39=>
 bV (bInt .gtr x39 (.int .i64 (.ofNat 1000))) fun x40=>
 cnd x40 (bV (some (.bool true)) fun x4_3=>some (.ret x4_3,H))
 (bV (pNil x5) fun x42=>
 bV (fAd 2 x42) fun x43=>
 bV (ld1 x43 H) fun x44=>
 bV (ixSl 1 x0_2 x7) fun x47=>
 bV (ld1 x47 H) fun x48=>
 bV (ixSl 1 x0_2 x7) fun x51=>
 bV (ld1 x51 H) fun x52=>
 bR (f21 D n [x52] H) fun x53 H=>chk (ld1 x43 H) x44 <| chk (ld1 x47 H) x48 <|
 bR (f20 D n [x44,x48,x53] H) fun x54 H=>
 bV (bInt .neq x54 (.int .i64 (.ofNat 0))) fun x55=>
 cnd x55 (some (.exit 1 [x0_2,x1_2,x5,x6,x7],H))
 (jb 2 (loopK n (f8l0 D n) [x0_2,x1_2,x5,x6,x7,(.int .i64 (.ofNat 0))] H) (f8b2 D n)))) (f8b3 D n))
 (some (.exit 0 [x1_2,x5,x6],H))
def f8j5 (D:Dyn)(n:Nat)(vs:List AV)(H:AH):Rs:=
 hd vs fun x1_9 vs=>hd vs fun x5_8 vs=>hd vs fun x6_8 vs=>hd vs fun x9_2 vs=>hd vs fun x10_2 vs=>
 bV (bInt .add x10_2 (.int .i64 (.ofNat 1))) fun x121=>
 some (.norm [x1_9,x5_8,x6_8,x9_2,x121],H)
def f8l6 (D:Dyn)(n:Nat)(vs:List AV)(H:AH):Rs:=
 hd vs fun x1_8 vs=>hd vs fun x5_7 vs=>hd vs fun x6_7 vs=>hd vs fun x9 vs=>hd vs fun x10 vs=>
 bV (lnSl x1_8) fun x118=>
 bV (bInt .lss x10 x118) fun x119=>
 cnd x119 (bV (ixSl 1 x1_8 x10) fun x124=>
 bV (ld1 x124 H) fun x125=>
 bV (lnStr x125) fun x126=>
 bV (bInt .gtr x126 (.int .i64 (.ofNat 1000))) fun x127=>
 cnd x127 (bV (some (.bool true)) fun x4_4=>some (.ret x4_4,H))
 (bV (bInt .rem x10 (.int .i64 (.ofNat 3))) fun x129=>
 bV (bInt .eql x129 (.int .i64 (.ofNat 0))) fun x130=>
 jn (cnd x130 (bV (ixSl 1 x1_8 x10) fun x134=>
 bV (ld1 x134 H) fun x135=>
 bR (f23 D n [x9,x135] H) fun x136 H=>
 some (.norm [x1_8,x5_7,x6_7,x9,x10],H))
 (bV (ixSl 1 x1_8 x10) fun x140=>
 bV (ld1 x140 H) fun x141=>
 bR (f20 D n [x9,x141,(.str 11 122623018020828045242232417)] H) fun x142 H=>
 some (.norm [x1_8,x5_7,x6_7,x9,x10],H))) (f8j5 D n)))
 (some (.exit 4 [x5_7,x6_7],H))
def f8l7 (D:Dyn)(n:Nat)(vs:List AV)(H:AH):Rs:=
 hd vs fun x5_10 vs=>hd vs fun x6_10 vs=>hd vs fun x11 vs=>hd vs fun x12 vs=>
 bV (lnSl x6_10) fun x150=>
 bV (bInt .lss x12 x150) fun x151=>
 cnd x151 (bV (ixSl 2 x6_10 x12) fun x157=>
 bV (fAd 0 x157) fun x158=>
 bV (ld1 x158 H) fun x159=>
 bR (f23 D n [x11,x159] H) fun x160 H=>
 bV (bInt .neq x160 (.int .i64 (.ofNat 0))) fun x161=>
 cnd x161 (bV (some (.bool false)) fun x4_5=>some (.ret x4_5,H))
 (bV (bInt .add x12 (.int .i64 (.ofNat 1))) fun x153=>
 some (.norm [x5_10,x6_10,x11,x153],H)))
 (some (.exit 6 [x5_10,x6_10,x11],H))
def f8b8 (D:Dyn)(n:Nat)(vs:List AV)(H:AH):Rs:=
 hd vs fun x5_11 vs=>hd vs fun x6_11 vs=>hd vs fun x11_2 vs=>
 bV (pNil x5_11) fun x163=>
 bV (fAd 2 x163) fun x164=>
 bV (ld1 x164 H) fun x165=>
 bR (f22 D n [x165,x6_11] H) fun x167 H=>
 jn (wnt x167 true (bR (f22 D n [x11_2, .nilSlice] H) fun x170 H=>
 some (.norm [x170],H)) (some (.norm [undefA],H))) fun vs H=>hd vs fun x170_2 vs=>
 bV (pk3 (some x167) (some x170_2) (some (.bool false))) fun x171=>
 bV (some x171) fun x4_6=>some (.ret x4_6,H)
def f8b9 (D:Dyn)(n:Nat)(vs:List AV)(H:AH):Rs:=
 hd vs fun x5_9 vs=>hd vs fun x6_9 vs=>
 bV (pNil x5_9) fun x144=>
 bV (fAd 2 x144) fun x145=>
 bV (ld1 x145 H) fun x146=>
 bR (f37 D n [x146] H) fun x147 H=>
 jb 6 (loopK n (f8l7 D n) [x5_9,x6_9,x147,(.int .i64 (.ofNat 0))] H) (f8b8 D n)
def f8b10 (D:Dyn)(n:Nat)(vs:List AV)(H:AH):Rs:=
 hd vs fun x1_7 vs=>hd vs fun x5_6 vs=>hd vs fun x6_6 vs=>
 bV (pNil x5_6) fun x112=>
 bV (fAd 2 x112) fun x113=>
 bV (ld1 x113 H) fun x114=>
 bR (f37 D n [x114] H) fun x115 H=>
 jb 4 (loopK n (f8l6 D n) [x1_7,x5_6,x6_6,x115,(.int .i64 (.ofNat 0))] H) (f8b9 D n)
def f8 (D:Dyn)(n:Nat)(vs:List AV)(H:AH):Option (AV×AH):=
 outR (hd vs fun x0 vs=>hd vs fun x1 vs=>nl vs <|
 bR (f18 D n [] H) fun x13 H=>
 bV (aun .not x13) fun x14=>
 jn (wnt x14 false (bV (lnSl x0) fun x17=>
 bV (bInt .gtr x17 (.int .i64 (.ofNat 100))) fun x18=>
 some (.norm [x18],H)) (some (.norm [undefA],H))) fun vs H=>hd vs fun x18_2 vs=>
 bV (pk3 (some x14) (some (.bool true)) (some x18_2)) fun x19=>
 jn (wnt x19 false (bV (lnSl x1) fun x22=>
 bV (bInt .gtr x22 (.int .i64 (.ofNat 100))) fun x23=>
 some (.norm [x23],H)) (some (.norm [undefA],H))) fun vs H=>hd vs fun x23_2 vs=>
 bV (pk3 (some x19) (some (.bool true)) (some x23_2)) fun x24=>
 cnd x24 (bR (f18 D n [] H) fun x25 H=>
 bV (some x25) fun x4=>some (.ret x4,H))
 (bR (f19 D n [(.int .i64 (.ofNat 0))] H) fun x26 H=>
 bV (cmpO .eql (eqP x26 .nilPtr)) fun x28=>
 cnd x28 (bV (some (.bool false)) fun x4_2=>some (.ret x4_2,H))
 (jb 0 (loopK n (f8l4 D n) [x0,x1,x26, .nilSlice,(.int .i64 (.ofNat 0))] H) (f8b10 D n))))
def h8:Hint:=(.s .o (.s (.s .o (.cl (.s .o .o) .o)) (.s .o (.s (.s .o (.cl (.s .o .o) .o)) (.s .o (.s (.s .o (.b [1,5,6] (.l [0,1,5,6,7] (.s (.s .o (.cr .o .o)) (.s (.b [0,1,5,6,7] (.s (.s .o (.cl (.s .o .o) .o)) (.s (.s .o (.cl .o .o)) (.s .o (.s (.b [0,1,5,6,7,8] (.l [0,1,5,6,7,8] (.s (.s .o (.cr .o .o)) (.b0 .o)))) (.s .o (.c [0,1,5,6,7] .o .o))))))) .o))))) (.s .o (.s (.s .o (.b [5,6] (.l [1,5,6,9,10] (.s (.s .o (.cr .o .o)) (.s (.b0 (.s (.s .o (.cl (.s .o .o) .o)) (.s .o (.c [1,5,6,9,10] .o .o)))) .o))))) (.s .o (.s (.s .o (.b [5,6,11] (.l [5,6,11,12] (.s (.s .o (.cr .o .o)) (.s (.b0 (.s .o (.cl (.s .o .o) .o))) .o))))) (.s .o .o)))))))))))
theorem f8_eq (D:Dyn)(n:Nat):f8 D n=funK (s8 D n) D n 8 Tryz.f8 h8:=by kernel_rfl
theorem f8_ok {D:Dyn}(hD:DG D)(n:Nat):FI 8 (f8 D n):=fun_ok X_ok hD (SOk.cons (f18_ok hD n).fs (SOk.cons (f19_ok hD n).fs (SOk.cons (f21_ok hD n).fs (SOk.cons (f20_ok hD n).fs (SOk.cons (f37_ok hD n).fs (SOk.cons (f23_ok hD n).fs (SOk.cons (f22_ok hD n).fs (SOk.nil)))))))) Tryz.func8 (by kernel_rfl) (f8_eq D n)
end Go.Eng.Sh
end
end
section
noncomputable section
namespace Go.Eng.Sh
open Go.Proofs
set_option maxRecDepth 100000
def tab (D:Dyn)(n:Nat):List (Nat×(List AV→AH→Option (AV×AH))):=[(4,f4 D n),(8,f8 D n),(18,f18 D n),(19,f19 D n),(20,f20 D n),(21,f21 D n),(22,f22 D n),(23,f23 D n),(26,f26 D n),(27,f27 D n),(31,f31 D n),(32,f32 D n),(33,f33 D n),(35,f35 D n),(36,f36 D n),(37,f37 D n),(38,f38 D n),(39,f39 D n),(49,f49 D n),(59,f59 D n),(60,f60 D n),(61,f61 D n),(62,f62 D n),(63,f63 D n),(64,f64 D n),(65,f65 D n),(66,f66 D n),(67,f67 D n),(68,f68 D n),(69,f69 D n),(70,f70 D n),(71,f71 D n),(72,f72 D n),(73,f73 D n),(75,f75 D n),(76,m76 D n),(77,f77 D n),(78,f78 D n),(79,f79 D n),(81,f81 D n),(94,f94 D n),(98,f98 D n),(99,f99 D n),(100,f100 D n),(101,f101 D n),(102,f102 D n),(103,f103 D n),(104,f104 D n),(105,f105 D n),(106,f106 D n),(107,f107 D n),(108,f108 D n),(109,f109 D n),(110,m110 D n),(111,f111 D n),(112,f112 D n),(113,f113 D n),(114,f114 D n),(115,f115 D n),(116,f116 D n),(118,f118 D n),(119,f119 D n),(121,f121 D n),(122,f122 D n),(123,f123 D n),(124,f124 D n),(133,f133 D n),(134,f134 D n),(135,f135 D n),(136,f136 D n),(137,f137 D n),(138,f138 D n),(139,f139 D n),(140,f140 D n),(141,f141 D n),(143,f143 D n),(144,f144 D n),(145,f145 D n),(146,f146 D n),(147,f147 D n),(148,f148 D n),(149,f149 D n),(150,f150 D n),(151,f151 D n),(152,f152 D n),(153,f153 D n),(157,f157 D n),(158,f158 D n),(159,f159 D n),(160,f160 D n),(161,f161 D n),(162,f162 D n),(163,f163 D n),(164,f164 D n),(165,f165 D n),(166,f166 D n),(167,f167 D n),(168,f168 D n),(169,f169 D n),(170,f170 D n),(171,f171 D n),(172,f172 D n),(173,f173 D n),(174,f174 D n),(181,f181 D n),(182,f182 D n),(183,f183 D n),(184,f184 D n),(185,f185 D n)]
def tabR (D:Dyn)(n:Nat):List ((Nat×Nat)×(Nat→ALoop→List AV→AH→Option (AV×AH))):=[((26,0),r26_0 D n),((159,0),r159_0 D n)]
theorem tab_ok (D:Dyn)(n:Nat)(hD:DG D):SOk (tab D n):=SOk.cons (f4_ok hD n).fs (SOk.cons (f8_ok hD n).fs (SOk.cons (f18_ok hD n).fs (SOk.cons (f19_ok hD n).fs (SOk.cons (f20_ok hD n).fs (SOk.cons (f21_ok hD n).fs (SOk.cons (f22_ok hD n).fs (SOk.cons (f23_ok hD n).fs (SOk.cons (f26_ok hD n).fs (SOk.cons (f27_ok hD n).fs (SOk.cons (f31_ok hD n).fs (SOk.cons (f32_ok hD n).fs (SOk.cons (f33_ok hD n).fs (SOk.cons (f35_ok hD n).fs (SOk.cons (f36_ok hD n).fs (SOk.cons (f37_ok hD n).fs (SOk.cons (f38_ok hD n).fs (SOk.cons (f39_ok hD n).fs (SOk.cons (f49_ok hD n).fs (SOk.cons (f59_ok hD n).fs (SOk.cons (f60_ok hD n).fs (SOk.cons (f61_ok hD n).fs (SOk.cons (f62_ok hD n).fs (SOk.cons (f63_ok hD n).fs (SOk.cons (f64_ok hD n).fs (SOk.cons (f65_ok hD n).fs (SOk.cons (f66_ok hD n).fs (SOk.cons (f67_ok hD n).fs (SOk.cons (f68_ok hD n).fs (SOk.cons (f69_ok hD n).fs (SOk.cons (f70_ok hD n).fs (SOk.cons (f71_ok hD n).fs (SOk.cons (f72_ok hD n).fs (SOk.cons (f73_ok hD n).fs (SOk.cons (f75_ok hD n).fs (SOk.cons (m76_ok hD n).fs (SOk.cons (f77_ok hD n).fs (SOk.cons (f78_ok hD n).fs (SOk.cons (f79_ok hD n).fs (SOk.cons (f81_ok hD n).fs (SOk.cons (f94_ok hD n).fs (SOk.cons (f98_ok hD n).fs (SOk.cons (f99_ok hD n).fs (SOk.cons (f100_ok hD n).fs (SOk.cons (f101_ok hD n).fs (SOk.cons (f102_ok hD n).fs (SOk.cons (f103_ok hD n).fs (SOk.cons (f104_ok hD n).fs (SOk.cons (f105_ok hD n).fs (SOk.cons (f106_ok hD n).fs (SOk.cons (f107_ok hD n).fs (SOk.cons (f108_ok hD n).fs (SOk.cons (f109_ok hD n).fs (SOk.cons (m110_ok hD n).fs (SOk.cons (f111_ok hD n).fs (SOk.cons (f112_ok hD n).fs (SOk.cons (f113_ok hD n).fs (SOk.cons (f114_ok hD n).fs (SOk.cons (f115_ok hD n).fs (SOk.cons (f116_ok hD n).fs (SOk.cons (f118_ok hD n).fs (SOk.cons (f119_ok hD n).fs (SOk.cons (f121_ok hD n).fs (SOk.cons (f122_ok hD n).fs (SOk.cons (f123_ok hD n).fs (SOk.cons (f124_ok hD n).fs (SOk.cons (f133_ok hD n).fs (SOk.cons (f134_ok hD n).fs (SOk.cons (f135_ok hD n).fs (SOk.cons (f136_ok hD n).fs (SOk.cons (f137_ok hD n).fs (SOk.cons (f138_ok hD n).fs (SOk.cons (f139_ok hD n).fs (SOk.cons (f140_ok hD n).fs (SOk.cons (f141_ok hD n).fs (SOk.cons (f143_ok hD n).fs (SOk.cons (f144_ok hD n).fs (SOk.cons (f145_ok hD n).fs (SOk.cons (f146_ok hD n).fs (SOk.cons (f147_ok hD n).fs (SOk.cons (f148_ok hD n).fs (SOk.cons (f149_ok hD n).fs (SOk.cons (f150_ok hD n).fs (SOk.cons (f151_ok hD n).fs (SOk.cons (f152_ok hD n).fs (SOk.cons (f153_ok hD n).fs (SOk.cons (f157_ok hD n).fs (SOk.cons (f158_ok hD n).fs (SOk.cons (f159_ok hD n).fs (SOk.cons (f160_ok hD n).fs (SOk.cons (f161_ok hD n).fs (SOk.cons (f162_ok hD n).fs (SOk.cons (f163_ok hD n).fs (SOk.cons (f164_ok hD n).fs (SOk.cons (f165_ok hD n).fs (SOk.cons (f166_ok hD n).fs (SOk.cons (f167_ok hD n).fs (SOk.cons (f168_ok hD n).fs (SOk.cons (f169_ok hD n).fs (SOk.cons (f170_ok hD n).fs (SOk.cons (f171_ok hD n).fs (SOk.cons (f172_ok hD n).fs (SOk.cons (f173_ok hD n).fs (SOk.cons (f174_ok hD n).fs (SOk.cons (f181_ok hD n).fs (SOk.cons (f182_ok hD n).fs (SOk.cons (f183_ok hD n).fs (SOk.cons (f184_ok hD n).fs (SOk.cons (f185_ok hD n).fs (SOk.nil)))))))))))))))))))))))))))))))))))))))))))))))))))))))))))))))))))))))))))))))))))))))))))))))))))))))))))))
theorem tabR_ok (D:Dyn)(n:Nat)(hD:DG D):ROk (tabR D n):=ROk.cons (r26_0_ok hD n) (ROk.cons (r159_0_ok hD n) (ROk.nil))
def dy (n:Nat):Dyn:=dyOf tab tabR n
theorem dy_ok (n:Nat):DG (dy n):=dyOf_ok tab_ok tabR_ok n
end Go.Eng.Sh
end
end
section
noncomputable section
namespace Go.Eng.Sh
open Go.Proofs
set_option maxRecDepth 1000000
theorem c18_r:saysT (f18 (dy 100000) 100000 [] ⟨.leaf,0⟩)=true:=by kernel_rfl
theorem c18 (w:World):Calls PP 18 #[] w fun e w'=>e= .returned (.bool true)∧RowKit.Below w.heap.size w w':=calls_of (f18_ok (dy_ok 100000) 100000) c18_r w
end Go.Eng.Sh
end
end
