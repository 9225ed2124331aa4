/- A checked evaluator for the program, and what it tells, part 4: no condition. -/
import Derived.Test.YtngkjhifpekkcaaGreatO3
import Derived.Test.YtngkjhifpekkcaaGreatProg
import Derived.KernelRfl
set_option linter.all false
set_option linter.unusedVariables false
set_option linter.unusedSimpArgs false
set_option maxHeartbeats 8000000
section
noncomputable section
namespace Go.Eng.Sh
open Go.Proofs
set_option maxRecDepth 100000
def s94 (D:Dyn)(n:Nat):Tb:=⟨X,[]⟩
def f94 (D:Dyn)(n:Nat)(vs:List AV)(H:AH):Option (AV×AH):=
 outR (hd vs fun x0 vs=>hd vs fun x1 vs=>nl vs <|
 bA (mkM [6]) H fun x7 H=>
 bV (bldS [(0,1),(1,1),(2,1),(3,1),(4,1),(5,1),(6,1)] [(.int .i64 (.ofNat 0)), .nilMap, .nilSlice, .nilMap,(.int .i64 (.ofNat 0)), .nilSlice,(.bool false)] [(0,x0),(1,x1),(3,x7)]) fun x8=>
 bA (bxV 163 x8) H fun x9 H=>
 bV (some x9) fun x4=>some (.ret x4,H))
def h94:Hint:=(.s .o (.s .o .o))
theorem f94_eq (D:Dyn)(n:Nat):f94 D n=funK (s94 D n) D n 94 Tryz.f94 h94:=by kernel_rfl
theorem f94_ok {D:Dyn}(hD:DG D)(n:Nat):FI 94 (f94 D n):=fun_ok X_ok hD (SOk.nil) Tryz.func94 (by kernel_rfl) (f94_eq D n)
def s49 (D:Dyn)(n:Nat):Tb:=⟨X,[(94,f94 D n)]⟩
def f49 (D:Dyn)(n:Nat)(vs:List AV)(H:AH):Option (AV×AH):=
 outR (hd vs fun x0 vs=>nl vs <|
 bV (bInt .lss x0 (.int .i64 (.ofNat 64))) fun x5=>
 jn (wnt x5 false (bV (bInt .gtr x0 (.int .i64 (.ofNat 8192))) fun x8=>
 some (.norm [x8],H)) (some (.norm [undefA],H))) fun vs H=>hd vs fun x8_2 vs=>
 bV (pk3 (some x5) (some (.bool true)) (some x8_2)) fun x9=>
 cnd x9 (bV (some .nilPtr) fun x2=>bV (some (.int .i64 (.ofNat 1))) fun x3=>some (.ret (.tuple [x2,x3]),H))
 (bA (mkM [6]) H fun x11 H=>
 bR (f94 D n [x0,x11] H) fun x12 H=>
 bV (some x12) fun x2_2=>bV (some (.int .i64 (.ofNat 0))) fun x3_2=>some (.ret (.tuple [x2_2,x3_2]),H)))
def h49:Hint:=(.s .o (.s (.s .o (.cl (.s .o .o) .o)) (.s .o .o)))
theorem f49_eq (D:Dyn)(n:Nat):f49 D n=funK (s49 D n) D n 49 Tryz.f49 h49:=by kernel_rfl
theorem f49_ok {D:Dyn}(hD:DG D)(n:Nat):FI 49 (f49 D n):=fun_ok X_ok hD (SOk.cons (f94_ok hD n).fs (SOk.nil)) Tryz.func49 (by kernel_rfl) (f49_eq D n)
def s118 (D:Dyn)(n:Nat):Tb:=⟨X,[]⟩
def f118 (D:Dyn)(n:Nat)(vs:List AV)(H:AH):Option (AV×AH):=
 outR (hd vs fun x0 vs=>nl vs <|
 bA (bxV 72 x0) H fun x1 H=>
 bV (fAd 0 x1) fun x3=>
 bV (ld1 x3 H) fun x4=>
 bV (bInt .eql x4 (.int .i64 (.ofNat 0))) fun x5=>
 cnd x5 (bV (ldN 3 x1 H) fun x6=>
 bV (bldS [(0,1),(1,1),(2,1)] [(.int .i64 (.ofNat 0)),(.int .i64 (.ofNat 0)),(.int .u64 (.ofNat 0))] []) fun x7=>
 bV (cmpO .eql (eqA [6,6,10] x6 x7)) fun x8=>
 bV (some x8) fun x2=>some (.ret x2,H))
 (bV (fAd 0 x1) fun x9=>
 bV (ld1 x9 H) fun x10=>
 bV (bInt .gtr x10 (.int .i64 (.ofNat 0))) fun x11=>
 jn (wnt x11 true (bV (fAd 0 x1) fun x13=>
 bV (ld1 x13 H) fun x14=>
 bV (bInt .lss x14 (.int .i64 (.ofNat 8192))) fun x15=>
 some (.norm [x15],H)) (some (.norm [undefA],H))) fun vs H=>hd vs fun x15_2 vs=>
 bV (pk3 (some x11) (some x15_2) (some (.bool false))) fun x16=>
 jn (wnt x16 true (bV (fAd 1 x1) fun x18=>
 bV (ld1 x18 H) fun x19=>
 bV (bInt .geq x19 (.int .i64 (.ofNat 0))) fun x20=>
 some (.norm [x20],H)) (some (.norm [undefA],H))) fun vs H=>hd vs fun x20_2 vs=>
 bV (pk3 (some x16) (some x20_2) (some (.bool false))) fun x21=>
 jn (wnt x21 true (bV (fAd 1 x1) fun x23=>
 bV (ld1 x23 H) fun x24=>
 bV (bInt .leq x24 (.int .i64 (.ofNat 2147483647))) fun x25=>
 some (.norm [x25],H)) (some (.norm [undefA],H))) fun vs H=>hd vs fun x25_2 vs=>
 bV (pk3 (some x21) (some x25_2) (some (.bool false))) fun x26=>
 bV (some x26) fun x2_2=>some (.ret x2_2,H)))
def h118:Hint:=(.s .o (.s (.s .o (.cl (.s .o .o) .o)) (.s .o .o)))
theorem f118_eq (D:Dyn)(n:Nat):f118 D n=funK (s118 D n) D n 118 Tryz.f118 h118:=by kernel_rfl
theorem f118_ok {D:Dyn}(hD:DG D)(n:Nat):FI 118 (f118 D n):=fun_ok X_ok hD (SOk.nil) Tryz.func118 (by kernel_rfl) (f118_eq D n)
def s119 (D:Dyn)(n:Nat):Tb:=⟨X,[]⟩
def f119l0 (D:Dyn)(n:Nat)(vs:List AV)(H:AH):Rs:=
 hd vs fun x0_2 vs=>hd vs fun x1_2 vs=>hd vs fun x6_2 vs=>hd vs fun x7 vs=>
 bV (bInt .lss x7 x6_2) fun x8=>
 cnd x8 (bV (lnSl x0_2) fun x12=>
 bV (bInt .sub x12 (.int .i64 (.ofNat 1))) fun x13=>
 bV (bInt .sub x13 x7) fun x15=>
 bV (bInt .mul (.int .i64 (.ofNat 8)) x7) fun x18=>
 bV (bInt .shr x1_2 x18) fun x19=>
 bV (cvI .u8 x19) fun x20=>
 bV (ixSl 1 x0_2 x15) fun x21=>
 bR (stN 1 x21 x20 H) fun x9999 H=>
 bV (bInt .add x7 (.int .i64 (.ofNat 1))) fun x22=>
 some (.norm [x0_2,x1_2,x6_2,x22],H))
 (some (.exit 0 [],H))
def f119b1 (D:Dyn)(n:Nat)(vs:List AV)(H:AH):Rs:=
 some (.ret (.tuple []),H)
def f119 (D:Dyn)(n:Nat)(vs:List AV)(H:AH):Option (AV×AH):=
 outR (hd vs fun x0 vs=>hd vs fun x1 vs=>nl vs <|
 bV (lnSl x0) fun x6=>
 jb 0 (loopK n (f119l0 D n) [x0,x1,x6,(.int .i64 (.ofNat 0))] H) (f119b1 D n))
def h119:Hint:=(.s .o (.b [] (.l [0,1,6,7] (.s .o (.s (.cr .o .o) (.s (.b0 (.s .o .o)) .o))))))
theorem f119_eq (D:Dyn)(n:Nat):f119 D n=funK (s119 D n) D n 119 Tryz.f119 h119:=by kernel_rfl
theorem f119_ok {D:Dyn}(hD:DG D)(n:Nat):FI 119 (f119 D n):=fun_ok X_ok hD (SOk.nil) Tryz.func119 (by kernel_rfl) (f119_eq D n)
def s75 (D:Dyn)(n:Nat):Tb:=⟨X,[(118,f118 D n),(119,f119 D n)]⟩
def f75 (D:Dyn)(n:Nat)(vs:List AV)(H:AH):Option (AV×AH):=
 outR (hd vs fun x0 vs=>nl vs <|
 bA (bxV 72 x0) H fun x1 H=>
 bV (ldN 3 x1 H) fun x5=>
 bR (f118 D n [x5] H) fun x6 H=>
 bV (aun .not x6) fun x7=>
 cnd x7 (bV (some (.str 0 0)) fun x2=>bV (some (.int .i64 (.ofNat 4))) fun x3=>some (.ret (.tuple [x2,x3]),H))
 (bA (bxV 225 (.agg (rep 16 [(.int .u8 (.ofNat 0))]))) H fun x4 H=>
 bV (slArr 16 1 x4 none (some (.int .i64 (.ofNat 4))) none) fun x8=>
 bV (fAd 0 x1) fun x9=>
 bV (ld1 x9 H) fun x10=>
 bV (cvI .u64 x10) fun x11=>
 bR (f119 D n [x8,x11] H) fun x12 H=>
 bV (slArr 16 1 x4 (some (.int .i64 (.ofNat 4))) (some (.int .i64 (.ofNat 8))) none) fun x13=>
 bV (fAd 1 x1) fun x14=>
 bV (ld1 x14 H) fun x15=>
 bV (cvI .u64 x15) fun x16=>
 bR (f119 D n [x13,x16] H) fun x17 H=>
 bV (slArr 16 1 x4 (some (.int .i64 (.ofNat 8))) none none) fun x18=>
 bV (fAd 2 x1) fun x19=>
 bV (ld1 x19 H) fun x20=>
 bR (f119 D n [x18,x20] H) fun x21 H=>
 bV (slArr 16 1 x4 none none none) fun x22=>
 bV (cvBS x22 H) fun x23=>
 bV (some x23) fun x2_2=>bV (some (.int .i64 (.ofNat 0))) fun x3_2=>some (.ret (.tuple [x2_2,x3_2]),H)))
def h75:Hint:=(.s .o (.s (.s .o (.cl (.s .o .o) .o)) (.s .o (.s .o (.s .o (.s .o (.s .o .o)))))))
theorem f75_eq (D:Dyn)(n:Nat):f75 D n=funK (s75 D n) D n 75 Tryz.f75 h75:=by kernel_rfl
theorem f75_ok {D:Dyn}(hD:DG D)(n:Nat):FI 75 (f75 D n):=fun_ok X_ok hD (SOk.cons (f118_ok hD n).fs (SOk.cons (f119_ok hD n).fs (SOk.nil))) Tryz.func75 (by kernel_rfl) (f75_eq D n)
def s31 (D:Dyn)(n:Nat):Tb:=⟨X,[(75,f75 D n)]⟩
def f31 (D:Dyn)(n:Nat)(vs:List AV)(H:AH):Option (AV×AH):=
 outR (hd vs fun x0 vs=>hd vs fun x1 vs=>hd vs fun x2 vs=>nl vs <|
 bA (bxV 72 x2) H fun x5 H=>
 bV (cmpO .eql (eqP x0 .nilPtr)) fun x11=>
 cnd x11 (bV (some .nilPtr) fun x6=>bV (some (.int .i64 (.ofNat 2))) fun x7=>some (.ret (.tuple [x6,x7]),H))
 (bV (ldN 3 x5 H) fun x13=>
 bR (f75 D n [x13] H) fun x14 H=>
 bV (pExtract x14 0) fun x15=>
 bV (pExtract x14 1) fun x16=>
 bV (bInt .neq x16 (.int .i64 (.ofNat 0))) fun x18=>
 jn (wnt x18 false (bV (fAd 0 x5) fun x20=>
 bV (ld1 x20 H) fun x21=>
 bV (bInt .eql x21 (.int .i64 (.ofNat 1))) fun x22=>
 some (.norm [x22],H)) (some (.norm [undefA],H))) fun vs H=>hd vs fun x22_2 vs=>
 bV (pk3 (some x18) (some (.bool true)) (some x22_2)) fun x23=>
 cnd x23 (bV (some .nilPtr) fun x6_2=>bV (some (.int .i64 (.ofNat 1))) fun x7_2=>some (.ret (.tuple [x6_2,x7_2]),H))
 (bV (ldN 3 x5 H) fun x26=>
 bA (mkM [10]) H fun x27 H=>
 bV (bldS [(0,1),(1,1),(2,3),(5,1),(6,1),(7,1)] [.nilPtr, .nilPtr,(.int .i64 (.ofNat 0)),(.int .i64 (.ofNat 0)),(.int .u64 (.ofNat 0)), .nilMap,(.int .u64 (.ofNat 0)), .nilSlice] [(0,x0),(1,x1),(2,x26),(3,x27)]) fun x28=>
 bA (bxV 141 x28) H fun x29 H=>
 bV (some x29) fun x6_3=>bV (some (.int .i64 (.ofNat 0))) fun x7_3=>some (.ret (.tuple [x6_3,x7_3]),H))))
def h31:Hint:=(.s .o (.s (.s .o (.cl (.s .o .o) .o)) (.s (.s .o (.s .o (.cl (.s .o .o) .o))) (.s .o .o))))
theorem f31_eq (D:Dyn)(n:Nat):f31 D n=funK (s31 D n) D n 31 Tryz.f31 h31:=by kernel_rfl
theorem f31_ok {D:Dyn}(hD:DG D)(n:Nat):FI 31 (f31 D n):=fun_ok X_ok hD (SOk.cons (f75_ok hD n).fs (SOk.nil)) Tryz.func31 (by kernel_rfl) (f31_eq D n)
def s13 (D:Dyn)(n:Nat):Tb:=⟨X,[(49,f49 D n),(31,f31 D n)]⟩
def f13 (D:Dyn)(n:Nat)(vs:List AV)(H:AH):Option (AV×AH):=
 outR (nl vs <|
 bR (f49 D n [(.int .i64 (.ofNat 64))] H) fun x5 H=>
 bV (pExtract x5 0) fun x6=>
 bV (pExtract x5 1) fun x7=>
 bV (bInt .neq x7 (.int .i64 (.ofNat 0))) fun x9=>
 cnd x9 (bV (some .nilPtr) fun x0=>some (.ret x0,H))
 (bV (bldS [(0,1),(1,1),(2,1)] [(.int .i64 (.ofNat 0)),(.int .i64 (.ofNat 0)),(.int .u64 (.ofNat 0))] []) fun x12=>
 bR (f31 D n [x6, .nilPtr,x12] H) fun x13 H=>
 bV (pExtract x13 0) fun x14=>
 bV (pExtract x13 1) fun x15=>
 bV (bInt .neq x15 (.int .i64 (.ofNat 0))) fun x17=>
 cnd x17 (bV (some .nilPtr) fun x0_2=>some (.ret x0_2,H))
 (bV (some x14) fun x0_3=>some (.ret x0_3,H))))
def h13:Hint:=(.s .o (.s .o (.s (.s .o (.cl (.s .o .o) .o)) (.s .o (.s (.s .o (.cl (.s .o .o) .o)) (.s .o .o))))))
theorem f13_eq (D:Dyn)(n:Nat):f13 D n=funK (s13 D n) D n 13 Tryz.f13 h13:=by kernel_rfl
theorem f13_ok {D:Dyn}(hD:DG D)(n:Nat):FI 13 (f13 D n):=fun_ok X_ok hD (SOk.cons (f49_ok hD n).fs (SOk.cons (f31_ok hD n).fs (SOk.nil))) Tryz.func13 (by kernel_rfl) (f13_eq D n)
def s97 (D:Dyn)(n:Nat):Tb:=⟨X,[]⟩
def f97 (D:Dyn)(n:Nat)(vs:List AV)(H:AH):Option (AV×AH):=
 outR (hd vs fun x0 vs=>nl vs <|
 bV (cvI .u8 x0) fun x4=>
 bA (bldL 5 1 2 [(.int .u8 (.ofNat 0))] [(0,(.int .u8 (.ofNat 114))),(1,x4)]) H fun x5 H=>
 bV (cvBS x5 H) fun x6=>
 bV (some x6) fun x2=>some (.ret x2,H))
def h97:Hint:=(.s .o (.s .o .o))
theorem f97_eq (D:Dyn)(n:Nat):f97 D n=funK (s97 D n) D n 97 Tryz.f97 h97:=by kernel_rfl
theorem f97_ok {D:Dyn}(hD:DG D)(n:Nat):FI 97 (f97 D n):=fun_ok X_ok hD (SOk.nil) Tryz.func97 (by kernel_rfl) (f97_eq D n)
def s91 (D:Dyn)(n:Nat):Tb:=⟨X,[]⟩
def f91l0 (D:Dyn)(n:Nat)(vs:List AV)(H:AH):Rs:=
 hd vs fun x0_2 vs=>hd vs fun x3 vs=>
 bV (bInt .geq x3 (.int .i64 (.ofNat 0))) fun x8=>
 cnd x8 (bV (ixStr x0_2 x3) fun x13=>
 bV (bInt .neq x13 (.int .u8 (.ofNat 255))) fun x14=>
 cnd x14 (bV (slStr x0_2 none (some x3)) fun x17=>
 bV (ixStr x0_2 x3) fun x20=>
 bV (bInt .add x20 (.int .u8 (.ofNat 1))) fun x21=>
 bA (bldL 5 1 1 [(.int .u8 (.ofNat 0))] [(0,x21)]) H fun x22 H=>
 bV (cvBS x22 H) fun x23=>
 bV (bStr .add x17 x23) fun x24=>
 bV (some x24) fun x2=>some (.ret x2,H))
 (bV (bInt .sub x3 (.int .i64 (.ofNat 1))) fun x10=>
 some (.norm [x0_2,x10],H)))
 (some (.exit 0 [],H))
def f91b1 (D:Dyn)(n:Nat)(vs:List AV)(H:AH):Rs:=
 bV (some (.str 0 0)) fun x2_2=>some (.ret x2_2,H)
def f91 (D:Dyn)(n:Nat)(vs:List AV)(H:AH):Option (AV×AH):=
 outR (hd vs fun x0 vs=>nl vs <|
 bV (lnStr x0) fun x5=>
 bV (bInt .sub x5 (.int .i64 (.ofNat 1))) fun x6=>
 jb 0 (loopK n (f91l0 D n) [x0,x6] H) (f91b1 D n))
def h91:Hint:=(.s .o (.s (.s .o (.b [] (.l [0,3] (.s (.s .o (.cr .o .o)) (.s (.b0 (.s .o (.cl (.s .o .o) .o))) .o))))) (.s .o .o)))
theorem f91_eq (D:Dyn)(n:Nat):f91 D n=funK (s91 D n) D n 91 Tryz.f91 h91:=by kernel_rfl
theorem f91_ok {D:Dyn}(hD:DG D)(n:Nat):FI 91 (f91 D n):=fun_ok X_ok hD (SOk.nil) Tryz.func91 (by kernel_rfl) (f91_eq D n)
def s62 (D:Dyn)(n:Nat):Tb:=⟨X,[]⟩
def f62 (D:Dyn)(n:Nat)(vs:List AV)(H:AH):Option (AV×AH):=
 outR (hd vs fun x0 vs=>nl vs <|
 bV (cmpO .eql (eqP x0 .nilPtr)) fun x4=>
 jn (wnt x4 false (bV (pNil x0) fun x7=>
 bV (fAd 0 x7) fun x8=>
 bV (ld1 x8 H) fun x9=>
 bV (cmpO .eql (eqP x9 .nilPtr)) fun x10=>
 some (.norm [x10],H)) (some (.norm [undefA],H))) fun vs H=>hd vs fun x10_2 vs=>
 bV (pk3 (some x4) (some (.bool true)) (some x10_2)) fun x11=>
 jn (wnt x11 false (bV (pNil x0) fun x14=>
 bV (fAd 5 x14) fun x15=>
 bV (ld1 x15 H) fun x16=>
 bV (cmpO .eql (eqM x16 .nilMap)) fun x17=>
 some (.norm [x17],H)) (some (.norm [undefA],H))) fun vs H=>hd vs fun x17_2 vs=>
 bV (pk3 (some x11) (some (.bool true)) (some x17_2)) fun x18=>
 bV (some x18) fun x2=>some (.ret x2,H))
def h62:Hint:=(.s .o (.s .o .o))
theorem f62_eq (D:Dyn)(n:Nat):f62 D n=funK (s62 D n) D n 62 Tryz.f62 h62:=by kernel_rfl
theorem f62_ok {D:Dyn}(hD:DG D)(n:Nat):FI 62 (f62 D n):=fun_ok X_ok hD (SOk.nil) Tryz.func62 (by kernel_rfl) (f62_eq D n)
def s36 (D:Dyn)(n:Nat):Tb:=⟨X,[(62,f62 D n)]⟩
def f36 (D:Dyn)(n:Nat)(vs:List AV)(H:AH):Option (AV×AH):=
 outR (hd vs fun x0 vs=>nl vs <|
 bR (f62 D n [x0] H) fun x4 H=>
 cnd x4 (bV (some (.int .i64 (.ofNat 0))) fun x2=>some (.ret x2,H))
 (bV (pNil x0) fun x6=>
 bV (fAd 5 x6) fun x7=>
 bV (ld1 x7 H) fun x8=>
 bV (lnMap x8 H) fun x9=>
 bV (some x9) fun x2_2=>some (.ret x2_2,H)))
def h36:Hint:=(.s .o (.s (.s .o (.cl (.s .o .o) .o)) (.s .o .o)))
theorem f36_eq (D:Dyn)(n:Nat):f36 D n=funK (s36 D n) D n 36 Tryz.f36 h36:=by kernel_rfl
theorem f36_ok {D:Dyn}(hD:DG D)(n:Nat):FI 36 (f36 D n):=fun_ok X_ok hD (SOk.cons (f62_ok hD n).fs (SOk.nil)) Tryz.func36 (by kernel_rfl) (f36_eq D n)
def s126 (D:Dyn)(n:Nat):Tb:=⟨X,[(36,f36 D n)]⟩
def f126 (D:Dyn)(n:Nat)(vs:List AV)(H:AH):Option (AV×AH):=
 outR (hd vs fun x0 vs=>nl vs <|
 bR (f36 D n [x0] H) fun x5 H=>
 bV (bInt .add (.int .i64 (.ofNat 8192)) x5) fun x6=>
 bV (bldS [(0,1),(1,1),(2,1),(3,1)] [.nilPtr, .nilMap,(.int .i64 (.ofNat 0)),(.int .i64 (.ofNat 0))] [(0,x0),(2,x6)]) fun x7=>
 bA (bxV 240 x7) H fun x8 H=>
 bV (some x8) fun x2=>some (.ret x2,H))
def h126:Hint:=(.s .o (.s .o .o))
theorem f126_eq (D:Dyn)(n:Nat):f126 D n=funK (s126 D n) D n 126 Tryz.f126 h126:=by kernel_rfl
theorem f126_ok {D:Dyn}(hD:DG D)(n:Nat):FI 126 (f126 D n):=fun_ok X_ok hD (SOk.cons (f36_ok hD n).fs (SOk.nil)) Tryz.func126 (by kernel_rfl) (f126_eq D n)
def s32 (D:Dyn)(n:Nat):Tb:=⟨X,[(62,f62 D n)]⟩
def f32 (D:Dyn)(n:Nat)(vs:List AV)(H:AH):Option (AV×AH):=
 outR (hd vs fun x0 vs=>nl vs <|
 bA (bxV 72 (.agg [(.int .i64 (.ofNat 0)),(.int .i64 (.ofNat 0)),(.int .u64 (.ofNat 0))])) H fun x2 H=>
 bR (f62 D n [x0] H) fun x4 H=>
 cnd x4 (bV (bldS [(0,1),(1,1),(2,1)] [(.int .i64 (.ofNat 0)),(.int .i64 (.ofNat 0)),(.int .u64 (.ofNat 0))] []) fun x5=>
 bR (stN 3 x2 x5 H) fun x9999 H=>
 bV (ldN 3 x2 H) fun x9002=>some (.ret x9002,H))
 (bV (pNil x0) fun x7=>
 bV (fAd 2 x7) fun x8=>
 bV (ldN 3 x8 H) fun x9=>
 bR (stN 3 x2 x9 H) fun x9999_2 H=>
 bV (ldN 3 x2 H) fun x9002_2=>some (.ret x9002_2,H)))
def h32:Hint:=(.s .o (.s (.s .o (.cl (.s .o .o) .o)) (.s .o .o)))
theorem f32_eq (D:Dyn)(n:Nat):f32 D n=funK (s32 D n) D n 32 Tryz.f32 h32:=by kernel_rfl
theorem f32_ok {D:Dyn}(hD:DG D)(n:Nat):FI 32 (f32 D n):=fun_ok X_ok hD (SOk.cons (f62_ok hD n).fs (SOk.nil)) Tryz.func32 (by kernel_rfl) (f32_eq D n)
def s69 (D:Dyn)(n:Nat):Tb:=⟨X,[]⟩
def f69 (D:Dyn)(n:Nat)(vs:List AV)(H:AH):Option (AV×AH):=
 outR (hd vs fun x0 vs=>hd vs fun x1 vs=>nl vs <|
 bA (bxV 72 x1) H fun x3 H=>
 bA (bxV 133 (.agg [(.bool false), .nilSlice, .nilSlice, .nilSlice])) H fun x4 H=>
 bV (fAd 0 x3) fun x11=>
 bV (ld1 x11 H) fun x12=>
 bV (bInt .eql x12 (.int .i64 (.ofNat 1))) fun x13=>
 cnd x13 (bV (pNil x0) fun x16=>
 bV (fAd 5 x16) fun x17=>
 bV (ld1 x17 H) fun x18=>
 bV (fAd 2 x3) fun x19=>
 bV (ld1 x19 H) fun x20=>
 bV (lkM [10] (.agg [(.bool false), .nilSlice, .nilSlice, .nilSlice]) true x18 x20 H) fun x21=>
 bV (pExtract x21 0) fun x22=>
 bV (pExtract x21 1) fun x23=>
 bA (bxV 133 (.agg [(.bool false), .nilSlice, .nilSlice, .nilSlice])) H fun x6 H=>
 bR (stN 4 x6 x22 H) fun x9999 H=>
 bV (aun .not x23) fun x25=>
 jn (wnt x25 false (bV (fAd 1 x3) fun x27=>
 bV (ld1 x27 H) fun x28=>
 bV (bInt .neq x28 (.int .i64 (.ofNat 0))) fun x29=>
 some (.norm [x29],H)) (some (.norm [undefA],H))) fun vs H=>hd vs fun x29_2 vs=>
 bV (pk3 (some x25) (some (.bool true)) (some x29_2)) fun x30=>
 cnd x30 (bV (bldS [(0,1),(1,1),(2,1),(3,1)] [(.bool false), .nilSlice, .nilSlice, .nilSlice] []) fun x31=>
 bR (stN 4 x4 x31 H) fun x9999_2 H=>
 bV (ldN 4 x4 H) fun x9004=>bV (some (.int .i64 (.ofNat 1))) fun x5=>some (.ret (.tuple [x9004,x5]),H))
 (bV (ldN 4 x6 H) fun x32=>
 bR (stN 4 x4 x32 H) fun x9999_3 H=>
 bV (ldN 4 x4 H) fun x9004_2=>bV (some (.int .i64 (.ofNat 0))) fun x5_2=>some (.ret (.tuple [x9004_2,x5_2]),H)))
 (bV (ldN 3 x3 H) fun x35=>
 bR (D.fn 112 [x0,x35] H) fun x36 H=>
 bV (pExtract x36 0) fun x37=>
 bV (pExtract x36 1) fun x38=>
 bV (pExtract x36 2) fun x39=>
 bV (bInt .neq x39 (.int .i64 (.ofNat 0))) fun x41=>
 cnd x41 (bV (bldS [(0,1),(1,1),(2,1),(3,1)] [(.bool false), .nilSlice, .nilSlice, .nilSlice] []) fun x42=>
 bR (stN 4 x4 x42 H) fun x9999_4 H=>
 bV (ldN 4 x4 H) fun x9004_3=>bV (some x39) fun x5_3=>some (.ret (.tuple [x9004_3,x5_3]),H))
 (bV (bInt .neq x37 (.int .u8 (.ofNat 1))) fun x45=>
 jn (wnt x45 true (bV (bInt .neq x37 (.int .u8 (.ofNat 2))) fun x48=>
 some (.norm [x48],H)) (some (.norm [undefA],H))) fun vs H=>hd vs fun x48_2 vs=>
 bV (pk3 (some x45) (some x48_2) (some (.bool false))) fun x49=>
 cnd x49 (bV (bldS [(0,1),(1,1),(2,1),(3,1)] [(.bool false), .nilSlice, .nilSlice, .nilSlice] []) fun x50=>
 bR (stN 4 x4 x50 H) fun x9999_5 H=>
 bV (ldN 4 x4 H) fun x9004_4=>bV (some (.int .i64 (.ofNat 4))) fun x5_4=>some (.ret (.tuple [x9004_4,x5_4]),H))
 (bV (bInt .eql x37 (.int .u8 (.ofNat 1))) fun x52=>
 bR (D.fn 113 [x52,x38] H) fun x54 H=>
 bV (pExtract x54 0) fun x55=>
 bV (pExtract x54 1) fun x56=>
 bR (stN 4 x4 x55 H) fun x9999_6 H=>
 bV (ldN 4 x4 H) fun x9004_5=>bV (some x56) fun x5_5=>some (.ret (.tuple [x9004_5,x5_5]),H)))))
def h69:Hint:=(.s .o (.s (.s .o (.cl (.s .o (.s (.s .o (.cl (.s .o .o) .o)) (.s .o .o))) .o)) (.s .o (.s (.s .o (.cl (.s .o .o) .o)) (.s (.s .o (.cl (.s .o .o) .o)) (.s .o .o))))))
theorem f69_eq (D:Dyn)(n:Nat):f69 D n=funK (s69 D n) D n 69 Tryz.f69 h69:=by kernel_rfl
theorem f69_ok {D:Dyn}(hD:DG D)(n:Nat):FI 69 (f69 D n):=fun_ok X_ok hD (SOk.nil) Tryz.func69 (by kernel_rfl) (f69_eq D n)
def s109 (D:Dyn)(n:Nat):Tb:=⟨X,[]⟩
def f109 (D:Dyn)(n:Nat)(vs:List AV)(H:AH):Option (AV×AH):=
 outR (hd vs fun x0 vs=>nl vs <|
 bV (cmpO .eql (eqS x0 .nilSlice)) fun x4=>
 cnd x4 (bV (some .nilSlice) fun x2=>some (.ret x2,H))
 (bA (bldL 9 1 0 [(.str 0 0)] []) H fun x5 H=>
 bR (apP 9 1 16 x5 x0 H) fun x7 H=>
 bV (some x7) fun x2_2=>some (.ret x2_2,H)))
def h109:Hint:=(.s .o (.s (.s .o (.cl (.s .o .o) .o)) (.s .o .o)))
theorem f109_eq (D:Dyn)(n:Nat):f109 D n=funK (s109 D n) D n 109 Tryz.f109 h109:=by kernel_rfl
theorem f109_ok {D:Dyn}(hD:DG D)(n:Nat):FI 109 (f109 D n):=fun_ok X_ok hD (SOk.nil) Tryz.func109 (by kernel_rfl) (f109_eq D n)
def s77 (D:Dyn)(n:Nat):Tb:=⟨X,[]⟩
def f77 (D:Dyn)(n:Nat)(vs:List AV)(H:AH):Option (AV×AH):=
 outR (hd vs fun x0 vs=>nl vs <|
 bV (cmpO .eql (eqS x0 .nilSlice)) fun x4=>
 cnd x4 (bV (some .nilSlice) fun x2=>some (.ret x2,H))
 (bA (bldL 72 3 0 [(.int .i64 (.ofNat 0)),(.int .i64 (.ofNat 0)),(.int .u64 (.ofNat 0))] []) H fun x5 H=>
 bR (apP 72 3 24 x5 x0 H) fun x7 H=>
 bV (some x7) fun x2_2=>some (.ret x2_2,H)))
def h77:Hint:=(.s .o (.s (.s .o (.cl (.s .o .o) .o)) (.s .o .o)))
theorem f77_eq (D:Dyn)(n:Nat):f77 D n=funK (s77 D n) D n 77 Tryz.f77 h77:=by kernel_rfl
theorem f77_ok {D:Dyn}(hD:DG D)(n:Nat):FI 77 (f77 D n):=fun_ok X_ok hD (SOk.nil) Tryz.func77 (by kernel_rfl) (f77_eq D n)
def s80 (D:Dyn)(n:Nat):Tb:=⟨X,[(62,f62 D n),(69,f69 D n),(109,f109 D n),(77,f77 D n)]⟩
def f80 (D:Dyn)(n:Nat)(vs:List AV)(H:AH):Option (AV×AH):=
 outR (hd vs fun x0 vs=>hd vs fun x1 vs=>nl vs <|
 bA (bxV 72 x1) H fun x3 H=>
 bA (bxV 133 (.agg [(.bool false), .nilSlice, .nilSlice, .nilSlice])) H fun x4 H=>
 bR (f62 D n [x0] H) fun x9 H=>
 cnd x9 (bV (bldS [(0,1),(1,1),(2,1),(3,1)] [(.bool false), .nilSlice, .nilSlice, .nilSlice] []) fun x10=>
 bR (stN 4 x4 x10 H) fun x9999 H=>
 bV (ldN 4 x4 H) fun x9004=>bV (some (.int .i64 (.ofNat 2))) fun x5=>some (.ret (.tuple [x9004,x5]),H))
 (bV (fAd 0 x3) fun x11=>
 bV (ld1 x11 H) fun x12=>
 bV (bInt .eql x12 (.int .i64 (.ofNat 0))) fun x13=>
 cnd x13 (bV (bldS [(0,1),(1,1),(2,1),(3,1)] [(.bool false), .nilSlice, .nilSlice, .nilSlice] []) fun x14=>
 bR (stN 4 x4 x14 H) fun x9999_2 H=>
 bV (ldN 4 x4 H) fun x9004_2=>bV (some (.int .i64 (.ofNat 1))) fun x5_2=>some (.ret (.tuple [x9004_2,x5_2]),H))
 (bV (ldN 3 x3 H) fun x17=>
 bR (f69 D n [x0,x17] H) fun x18 H=>
 bV (pExtract x18 0) fun x19=>
 bV (pExtract x18 1) fun x20=>
 bA (bxV 133 (.agg [(.bool false), .nilSlice, .nilSlice, .nilSlice])) H fun x6 H=>
 bR (stN 4 x6 x19 H) fun x9999_3 H=>
 bV (bInt .neq x20 (.int .i64 (.ofNat 0))) fun x22=>
 cnd x22 (bV (bldS [(0,1),(1,1),(2,1),(3,1)] [(.bool false), .nilSlice, .nilSlice, .nilSlice] []) fun x23=>
 bR (stN 4 x4 x23 H) fun x9999_4 H=>
 bV (ldN 4 x4 H) fun x9004_3=>bV (some x20) fun x5_3=>some (.ret (.tuple [x9004_3,x5_3]),H))
 (bV (fAd 0 x6) fun x25=>
 bV (ld1 x25 H) fun x26=>
 bV (fAd 1 x6) fun x27=>
 bV (ld1 x27 H) fun x28=>
 bV (fAd 2 x6) fun x30=>
 bV (ld1 x30 H) fun x31=>
 bV (fAd 3 x6) fun x33=>
 bV (ld1 x33 H) fun x34=>
 bR (f109 D n [x28] H) fun x29 H=>chk (ld1 x25 H) x26 <| chk (ld1 x30 H) x31 <| chk (ld1 x33 H) x34 <|
 bR (f109 D n [x31] H) fun x32 H=>chk (ld1 x25 H) x26 <| chk (ld1 x33 H) x34 <|
 bR (f77 D n [x34] H) fun x35 H=>chk (ld1 x25 H) x26 <|
 bV (bldS [(0,1),(1,1),(2,1),(3,1)] [(.bool false), .nilSlice, .nilSlice, .nilSlice] [(0,x26),(1,x29),(2,x32),(3,x35)]) fun x36=>
 bR (stN 4 x4 x36 H) fun x9999_5 H=>
 bV (ldN 4 x4 H) fun x9004_4=>bV (some (.int .i64 (.ofNat 0))) fun x5_4=>some (.ret (.tuple [x9004_4,x5_4]),H)))))
def h80:Hint:=(.s .o (.s (.s .o (.cl (.s .o .o) .o)) (.s (.s .o (.cl (.s .o .o) .o)) (.s .o (.s (.s .o (.cl (.s .o .o) .o)) (.s .o .o))))))
theorem f80_eq (D:Dyn)(n:Nat):f80 D n=funK (s80 D n) D n 80 Tryz.f80 h80:=by kernel_rfl
theorem f80_ok {D:Dyn}(hD:DG D)(n:Nat):FI 80 (f80 D n):=fun_ok X_ok hD (SOk.cons (f62_ok hD n).fs (SOk.cons (f69_ok hD n).fs (SOk.cons (f109_ok hD n).fs (SOk.cons (f77_ok hD n).fs (SOk.nil))))) Tryz.func80 (by kernel_rfl) (f80_eq D n)
def s70 (D:Dyn)(n:Nat):Tb:=⟨X,[]⟩
def f70j0 (D:Dyn)(n:Nat)(vs:List AV)(H:AH):Rs:=
 hd vs fun x1_3 vs=>hd vs fun x2_3 vs=>hd vs fun x5_2 vs=>hd vs fun x9_3 vs=>hd vs fun x10_3 vs=>hd vs fun x11_2 vs=>
 bV (bInt .add x11_2 (.int .i64 (.ofNat 1))) fun x30=>
 some (.norm [x1_3,x2_3,x5_2,x9_3,x10_3,x30],H)
def f70l1 (D:Dyn)(n:Nat)(vs:List AV)(H:AH):Rs:=
 hd vs fun x1_2 vs=>hd vs fun x2_2 vs=>hd vs fun x5 vs=>hd vs fun x9_2 vs=>hd vs fun x10_2 vs=>hd vs fun x11 vs=>
 bV (bInt .lss x11 x10_2) fun x12=>
 cnd x12 (bV (ixSl 1 x9_2 x11) fun x13=>
 bV (ld1 x13 H) fun x14=>
 bV (bStr .lss x14 x1_2) fun x17=>
 jn (wnt x17 false (bV (fAd 0 x2_2) fun x19=>
 bV (ld1 x19 H) fun x20=>
 bV (aun .not x20) fun x21=>
 some (.norm [x21],H)) (some (.norm [undefA],H))) fun vs H=>hd vs fun x22 vs=>
 jn (wnt x22 true (bV (bStr .eql x14 x1_2) fun x25=>
 some (.norm [x25],H)) (some (.norm [undefA],H))) fun vs H=>hd vs fun x25_2 vs=>
 jn (wnt x17 false (bV (pk3 (some x22) (some x25_2) (some (.bool false))) fun x26=>
 some (.norm [x26],H)) (some (.norm [undefA],H))) fun vs H=>hd vs fun x26_2 vs=>
 bV (pk3 (some x17) (some (.bool true)) (some x26_2)) fun x27=>
 jn (cnd x27 (bV (bInt .add x5 (.int .i64 (.ofNat 1))) fun x29=>
 some (.norm [x1_2,x2_2,x29,x9_2,x10_2,x11],H))
 (some (.norm [x1_2,x2_2,x5,x9_2,x10_2,x11],H))) (f70j0 D n))
 (some (.exit 0 [x5],H))
def f70b2 (D:Dyn)(n:Nat)(vs:List AV)(H:AH):Rs:=
 hd vs fun x5_3 vs=>
 bV (some x5_3) fun x4=>some (.ret x4,H)
def f70 (D:Dyn)(n:Nat)(vs:List AV)(H:AH):Option (AV×AH):=
 outR (hd vs fun x0 vs=>hd vs fun x1 vs=>nl vs <|
 bA (bxV 133 x0) H fun x2 H=>
 bV (fAd 1 x2) fun x8=>
 bV (ld1 x8 H) fun x9=>
 bV (lnSl x9) fun x10=>
 jb 0 (loopK n (f70l1 D n) [x1,x2,(.int .i64 (.ofNat 0)),x9,x10,(.int .i64 (.ofNat 0))] H) (f70b2 D n))
def h70:Hint:=(.s .o (.s .o (.s (.s .o (.b [5] (.l [1,2,5,9,10,11] (.s .o (.s (.cr .o .o) (.s (.b0 (.s .o (.s .o (.c [1,2,5,9,10,11] .o .o)))) .o)))))) (.s .o .o))))
theorem f70_eq (D:Dyn)(n:Nat):f70 D n=funK (s70 D n) D n 70 Tryz.f70 h70:=by kernel_rfl
theorem f70_ok {D:Dyn}(hD:DG D)(n:Nat):FI 70 (f70 D n):=fun_ok X_ok hD (SOk.nil) Tryz.func70 (by kernel_rfl) (f70_eq D n)
def s180 (D:Dyn)(n:Nat):Tb:=⟨X,[(80,f80 D n),(70,f70 D n)]⟩
def f180l0 (D:Dyn)(n:Nat)(vs:List AV)(H:AH):Rs:=
 hd vs fun x0_3 vs=>hd vs fun x2_3 vs=>hd vs fun x3_3 vs=>hd vs fun x4_3 vs=>hd vs fun x5_3 vs=>hd vs fun x13_3 vs=>hd vs fun x15 vs=>hd vs fun x16 vs=>
 bV (fAd 3 x13_3) fun x77=>
 bV (ld1 x77 H) fun x78=>
 bV (lnSl x78) fun x79=>
 bV (bInt .lss x16 x79) fun x80=>
 cnd x80 (bV (bInt .gtr x16 x15) fun x85=>
 jn (wnt x85 true (bV (bStr .neq x3_3 (.str 0 0)) fun x88=>
 some (.norm [x88],H)) (some (.norm [undefA],H))) fun vs H=>hd vs fun x88_2 vs=>
 bV (pk3 (some x85) (some x88_2) (some (.bool false))) fun x89=>
 jn (wnt x89 true (bV (fAd 1 x13_3) fun x91=>
 bV (ld1 x91 H) fun x92=>
 bV (bInt .sub x16 (.int .i64 (.ofNat 1))) fun x94=>
 bV (ixSl 1 x92 x94) fun x95=>
 bV (ld1 x95 H) fun x96=>
 bV (bStr .geq x96 x3_3) fun x98=>
 some (.norm [x98],H)) (some (.norm [undefA],H))) fun vs H=>hd vs fun x98_2 vs=>
 bV (pk3 (some x89) (some x98_2) (some (.bool false))) fun x99=>
 cnd x99 (some (.exit 0 [],H))
 (bV (fAd 3 x13_3) fun x101=>
 bV (ld1 x101 H) fun x102=>
 bV (ixSl 3 x102 x16) fun x104=>
 bV (ldN 3 x104 H) fun x105=>
 bR (D.fn 180 [x0_3,x105,x2_3,x3_3,x4_3,x5_3] H) fun x110 H=>
 bV (aun .not x110) fun x111=>
 cnd x111 (bV (some (.bool false)) fun x12_5=>some (.ret x12_5,H))
 (bV (bInt .add x16 (.int .i64 (.ofNat 1))) fun x82=>
 some (.norm [x0_3,x2_3,x3_3,x4_3,x5_3,x13_3,x15,x82],H))))
 (some (.exit 0 [],H))
def f180b1 (D:Dyn)(n:Nat)(vs:List AV)(H:AH):Rs:=
 bV (some (.bool true)) fun x12_6=>some (.ret x12_6,H)
def f180j2 (D:Dyn)(n:Nat)(vs:List AV)(H:AH):Rs:=
 hd vs fun x0_2 vs=>hd vs fun x2_2 vs=>hd vs fun x3_2 vs=>hd vs fun x4_2 vs=>hd vs fun x5_2 vs=>hd vs fun x7_2 vs=>hd vs fun x13_2 vs=>
 bV (pNil x0_2) fun x59=>
 bV (fAd 3 x59) fun x60=>
 bV (ld1 x60 H) fun x61=>
 bV (bInt .neq x61 (.int .i64 (.ofNat 0))) fun x62=>
 jn (wnt x62 false (bV (ldN 3 x7_2 H) fun x65=>
 bV (ldN 4 x13_2 H) fun x66=>
 bR (callV (s180 D n).S D x5_2 [x65,x66] H) fun x67 H=>
 bV (aun .not x67) fun x68=>
 some (.norm [x68],H)) (some (.norm [undefA],H))) fun vs H=>hd vs fun x68_2 vs=>
 bV (pk3 (some x62) (some (.bool true)) (some x68_2)) fun x69=>
 cnd x69 (bV (some (.bool false)) fun x12_3=>some (.ret x12_3,H))
 (bV (fAd 0 x13_2) fun x70=>
 bV (ld1 x70 H) fun x71=>
 cnd x71 (bV (some (.bool true)) fun x12_4=>some (.ret x12_4,H))
 (bV (ldN 4 x13_2 H) fun x72=>
 bR (f70 D n [x72,x2_2] H) fun x74 H=>
 jb 0 (loopK n (f180l0 D n) [x0_2,x2_2,x3_2,x4_2,x5_2,x13_2,x74,x74] H) (f180b1 D n)))
def f180 (D:Dyn)(n:Nat)(vs:List AV)(H:AH):Option (AV×AH):=
 outR (hd vs fun x0 vs=>hd vs fun x1 vs=>hd vs fun x2 vs=>hd vs fun x3 vs=>hd vs fun x4 vs=>hd vs fun x5 vs=>nl vs <|
 bA (bxV 72 x1) H fun x7 H=>
 bV (ldN 3 x7 H) fun x18=>
 bR (callV (s180 D n).S D x4 [x18] H) fun x19 H=>
 cnd x19 (bV (some (.bool true)) fun x12=>some (.ret x12,H))
 (bV (pNil x0) fun x21=>
 bV (fAd 2 x21) fun x22=>
 bV (ld1 x22 H) fun x23=>
 bV (bInt .sub x23 (.int .i64 (.ofNat 1))) fun x24=>
 bV (pNil x0) fun x25=>
 bV (fAd 2 x25) fun x26=>
 bR (stN 1 x26 x24 H) fun x9999 H=>
 bV (pNil x0) fun x28=>
 bV (fAd 2 x28) fun x29=>
 bV (ld1 x29 H) fun x30=>
 bV (bInt .lss x30 (.int .i64 (.ofNat 0))) fun x31=>
 cnd x31 (bV (pNil x0) fun x33=>
 bV (fAd 3 x33) fun x34=>
 bR (stN 1 x34 (.int .i64 (.ofNat 4)) H) fun x9999_2 H=>
 bV (some (.bool false)) fun x12_2=>some (.ret x12_2,H))
 (bV (pNil x0) fun x37=>
 bV (fAd 1 x37) fun x38=>
 bV (ld1 x38 H) fun x39=>
 bV (ldN 3 x7 H) fun x40=>
 bV (lkM (1::[6,6,10]) (.agg [(.bool false), .nilSlice, .nilSlice, .nilSlice]) true x39 x40 H) fun x41=>
 bV (pExtract x41 0) fun x42=>
 bV (pExtract x41 1) fun x43=>
 bA (bxV 133 (.agg [(.bool false), .nilSlice, .nilSlice, .nilSlice])) H fun x13 H=>
 bR (stN 4 x13 x42 H) fun x9999_3 H=>
 bV (aun .not x43) fun x45=>
 jn (cnd x45 (bV (pNil x0) fun x49=>
 bV (fAd 0 x49) fun x50=>
 bV (ld1 x50 H) fun x51=>
 bV (ldN 3 x7 H) fun x52=>
 bR (f80 D n [x51,x52] H) fun x53 H=>
 bV (pExtract x53 0) fun x54=>
 bV (pExtract x53 1) fun x55=>
 bR (stN 4 x13 x54 H) fun x9999_4 H=>
 bV (pNil x0) fun x56=>
 bV (fAd 3 x56) fun x57=>
 bR (stN 1 x57 x55 H) fun x9999_5 H=>
 some (.norm [x0,x2,x3,x4,x5,x7,x13],H))
 (some (.norm [x0,x2,x3,x4,x5,x7,x13],H))) (f180j2 D n))))
def h180:Hint:=(.s .o (.s (.s .o (.cl (.s .o .o) .o)) (.s (.s .o (.s .o (.cl (.s .o (.s .o .o)) .o))) (.s .o (.s (.s .o (.c [0,2,3,4,5,7,13] .o .o)) (.s (.s .o (.cl (.s .o .o) .o)) (.s (.s .o (.cl (.s .o .o) .o)) (.s .o (.s (.s .o (.b [] (.l [0,2,3,4,5,13,15,16] (.s (.s .o (.cr .o .o)) (.s (.b0 (.s (.s .o (.cl .o .o)) (.s .o (.cl (.s .o .o) .o)))) .o))))) (.s .o .o))))))))))
theorem f180_eq (D:Dyn)(n:Nat):f180 D n=funK (s180 D n) D n 180 Tryz.f180 h180:=by kernel_rfl
theorem f180_ok {D:Dyn}(hD:DG D)(n:Nat):FI 180 (f180 D n):=fun_ok X_ok hD (SOk.cons (f80_ok hD n).fs (SOk.cons (f70_ok hD n).fs (SOk.nil))) Tryz.func180 (by kernel_rfl) (f180_eq D n)
def s179 (D:Dyn)(n:Nat):Tb:=⟨X,[(32,f32 D n),(180,f180 D n)]⟩
def f179j0 (D:Dyn)(n:Nat)(vs:List AV)(H:AH):Rs:=
 some (.ret (.tuple []),H)
def f179 (D:Dyn)(n:Nat)(vs:List AV)(H:AH):Option (AV×AH):=
 outR (hd vs fun x0 vs=>hd vs fun x1 vs=>hd vs fun x2 vs=>hd vs fun x3 vs=>hd vs fun x4 vs=>nl vs <|
 bV (ld1 x1 H) fun x7=>
 bV (pNil x7) fun x8=>
 bV (fAd 0 x8) fun x9=>
 bV (ld1 x9 H) fun x10=>
 bR (f32 D n [x10] H) fun x11 H=>
 bA (bxV 72 (.agg [(.int .i64 (.ofNat 0)),(.int .i64 (.ofNat 0)),(.int .u64 (.ofNat 0))])) H fun x6 H=>
 bR (stN 3 x6 x11 H) fun x9999 H=>
 bV (fAd 0 x6) fun x12=>
 bV (ld1 x12 H) fun x13=>
 bV (bInt .neq x13 (.int .i64 (.ofNat 0))) fun x14=>
 jn (wnt x14 true (bV (ld1 x2 H) fun x16=>
 bV (bStr .eql x16 (.str 0 0)) fun x17=>
 some (.norm [x17],H)) (some (.norm [undefA],H))) fun vs H=>hd vs fun x18 vs=>
 jn (wnt x18 false (bV (ld1 x3 H) fun x19=>
 bV (ld1 x2 H) fun x20=>
 bV (bStr .lss x19 x20) fun x21=>
 some (.norm [x21],H)) (some (.norm [undefA],H))) fun vs H=>hd vs fun x21_2 vs=>
 jn (wnt x14 true (bV (pk3 (some x18) (some (.bool true)) (some x21_2)) fun x22=>
 some (.norm [x22],H)) (some (.norm [undefA],H))) fun vs H=>hd vs fun x22_2 vs=>
 bV (pk3 (some x14) (some x22_2) (some (.bool false))) fun x23=>
 jn (cnd x23 (bV (ld1 x1 H) fun x24=>
 bV (ldN 3 x6 H) fun x25=>
 bV (ld1 x3 H) fun x26=>
 bV (ld1 x2 H) fun x27=>
 bV (ld1 x4 H) fun x28=>
 bR (f180 D n [x24,x25,x26,x27,x28,x0] H) fun x30 H=>
 some (.norm [],H))
 (some (.norm [],H))) (f179j0 D n))
def h179:Hint:=(.s .o (.s .o (.c [] .o .o)))
theorem f179_eq (D:Dyn)(n:Nat):f179 D n=funK (s179 D n) D n 179 Tryz.f179 h179:=by kernel_rfl
theorem f179_ok {D:Dyn}(hD:DG D)(n:Nat):FI 179 (f179 D n):=fun_ok X_ok hD (SOk.cons (f32_ok hD n).fs (SOk.cons (f180_ok hD n).fs (SOk.nil))) Tryz.func179 (by kernel_rfl) (f179_eq D n)
def s156 (D:Dyn)(n:Nat):Tb:=⟨X,[]⟩
def f156 (D:Dyn)(n:Nat)(vs:List AV)(H:AH):Option (AV×AH):=
 outR (hd vs fun x0 vs=>hd vs fun x1 vs=>hd vs fun x2 vs=>hd vs fun x3 vs=>nl vs <|
 bA (bxV 233 x0) H fun x4 H=>
 bA (bxV 9 x1) H fun x5 H=>
 bA (bxV 9 x2) H fun x6 H=>
 bA (bxV 224 x3) H fun x7 H=>
 bV (some (.func 179 [] [x4,x6,x5,x7])) fun x8=>some (.ret x8,H))
def h156:Hint:=(.s .o (.s .o .o))
theorem f156_eq (D:Dyn)(n:Nat):f156 D n=funK (s156 D n) D n 156 Tryz.f156 h156:=by kernel_rfl
theorem f156_ok {D:Dyn}(hD:DG D)(n:Nat):FI 156 (f156 D n):=fun_ok X_ok hD (SOk.nil) Tryz.func156 (by kernel_rfl) (f156_eq D n)
def s155 (D:Dyn)(n:Nat):Tb:=⟨X,[(156,f156 D n),(70,f70 D n)]⟩
def f155 (D:Dyn)(n:Nat)(vs:List AV)(H:AH):Option (AV×AH):=
 outR (hd vs fun x0 vs=>hd vs fun x1 vs=>hd vs fun x2 vs=>hd vs fun x3 vs=>hd vs fun x4 vs=>nl vs <|
 bA (bxV 266 x0) H fun x5 H=>
 bV (ld1 x1 H) fun x9=>
 bV (ld1 x2 H) fun x10=>
 bV (ld1 x3 H) fun x11=>
 bV (ld1 x4 H) fun x12=>
 bR (f156 D n [x9,x10,x11,x12] H) fun x13 H=>
 newB H (.loop ⟨.ready,none,155,0,[2,3,5],[x2,x3,x5]⟩) fun A H=>bR (rfC (s155 D n).S D x13 A H) fun _ H=>endLp A H fun j H=>jmpK j (
 some (.ret (.tuple []),H))
 (fun id=>none) (some (.ret (.tuple []),H)))
def h155:Hint:=(.s .o (.s .o (.b0 (.rf 0 [2,3,5]))))
theorem f155_eq (D:Dyn)(n:Nat):f155 D n=funK (s155 D n) D n 155 Tryz.f155 h155:=by kernel_rfl
theorem f155_ok {D:Dyn}(hD:DG D)(n:Nat):FI 155 (f155 D n):=fun_ok X_ok hD (SOk.cons (f156_ok hD n).fs (SOk.cons (f70_ok hD n).fs (SOk.nil))) Tryz.func155 (by kernel_rfl) (f155_eq D n)
def f155l0 (D:Dyn)(n:Nat)(vs:List AV)(H:AH):Rs:=
 hd vs fun x3_2 vs=>hd vs fun x5_2 vs=>hd vs fun x7_2 vs=>hd vs fun x8 vs=>
 bV (fAd 1 x7_2) fun x23=>
 bV (ld1 x23 H) fun x24=>
 bV (lnSl x24) fun x25=>
 bV (bInt .lss x8 x25) fun x26=>
 cnd x26 (bV (ld1 x3_2 H) fun x29=>
 bV (bStr .neq x29 (.str 0 0)) fun x30=>
 jn (wnt x30 true (bV (fAd 1 x7_2) fun x32=>
 bV (ld1 x32 H) fun x33=>
 bV (ixSl 1 x33 x8) fun x35=>
 bV (ld1 x35 H) fun x36=>
 bV (ld1 x3_2 H) fun x37=>
 bV (bStr .geq x36 x37) fun x38=>
 some (.norm [x38],H)) (some (.norm [undefA],H))) fun vs H=>hd vs fun x38_2 vs=>
 bV (pk3 (some x30) (some x38_2) (some (.bool false))) fun x39=>
 jn (wnt x39 false (bV (ld1 x5_2 H) fun x41=>
 bV (fAd 1 x7_2) fun x42=>
 bV (ld1 x42 H) fun x43=>
 bV (ixSl 1 x43 x8) fun x45=>
 bV (ld1 x45 H) fun x46=>
 bV (fAd 2 x7_2) fun x47=>
 bV (ld1 x47 H) fun x48=>
 bV (ixSl 1 x48 x8) fun x50=>
 bV (ld1 x50 H) fun x51=>
 bV (bldS [(0,1),(1,1)] [(.str 0 0),(.str 0 0)] [(0,x46),(1,x51)]) fun x52=>
 bR (callV (s155 D n).S D x41 [x52] H) fun x53 H=>
 bV (aun .not x53) fun x54=>
 some (.norm [x54],H)) (some (.norm [undefA],H))) fun vs H=>hd vs fun x54_2 vs=>
 bV (pk3 (some x39) (some (.bool true)) (some x54_2)) fun x55=>
 cnd x55 (some (.ret (.tuple []),H))
 (bV (bInt .add x8 (.int .i64 (.ofNat 1))) fun x28=>
 some (.norm [x3_2,x5_2,x7_2,x28],H)))
 (some (.exit 2 [],H))
def f155b1 (D:Dyn)(n:Nat)(vs:List AV)(H:AH):Rs:=
 some (.norm [],H)
def f155b2 (D:Dyn)(n:Nat)(vs:List AV)(H:AH):Rs:=
 some (.norm [],H)
def r155_0 (D:Dyn)(n:Nat)(A:Nat)(l:ALoop)(az:List AV)(H:AH):Option (AV×AH):=
 bif eqNL [2,3,5] l.live then endQ A (hd l.vals fun x2 vs=>hd vs fun x3 vs=>hd vs fun x5 vs=>hd az fun x14 az=>hd az fun x15 az=>nl az <|
 bA (bxV 133 (.agg [(.bool false), .nilSlice, .nilSlice, .nilSlice])) H fun x7 H=>
 bR (stN 4 x7 x15 H) fun x9999 H=>
 beginK A H fun H=>
 jb 1 (bV (fAd 0 x7) fun x16=>
 bV (ld1 x16 H) fun x17=>
 bV (aun .not x17) fun x18=>
 cnd x18 (some (.exit 1 [],H))
 (bV (ldN 4 x7 H) fun x19=>
 bV (ld1 x2 H) fun x20=>
 bR (f70 D n [x19,x20] H) fun x21 H=>
 jb 2 (loopK n (f155l0 D n) [x3,x5,x7,x21] H) (f155b1 D n))) (f155b2 D n))else none
def r155_0a:Hint:= .o
def r155_0b:Hint:=(.b [] (.s (.s .o (.cl .o .o)) (.s .o (.b [] (.l [3,5,7,8] (.s (.s .o (.cr .o .o)) (.s (.b0 (.s .o (.cl .o .o))) .o)))))))
theorem r155_0_eq (D:Dyn)(n:Nat):r155_0 D n=rndK (s155 D n) D n 155 0 [2,3,5] [] r155_0a r155_0b:=by kernel_rfl
theorem r155_0_ok {D:Dyn}(hD:DG D)(n:Nat):RS 155 0 (r155_0 D n):=round_ok X_ok hD (SOk.cons (f156_ok hD n).fs (SOk.cons (f70_ok hD n).fs (SOk.nil))) (by kernel_rfl) (r155_0_eq D n)
def s127 (D:Dyn)(n:Nat):Tb:=⟨X,[]⟩
def f127 (D:Dyn)(n:Nat)(vs:List AV)(H:AH):Option (AV×AH):=
 outR (hd vs fun x0 vs=>hd vs fun x1 vs=>hd vs fun x2 vs=>hd vs fun x3 vs=>nl vs <|
 bA (bxV 233 x0) H fun x4 H=>
 bA (bxV 9 x1) H fun x5 H=>
 bA (bxV 9 x2) H fun x6 H=>
 bA (bxV 224 x3) H fun x7 H=>
 bV (some (.func 155 [] [x4,x5,x6,x7])) fun x8=>some (.ret x8,H))
def h127:Hint:=(.s .o (.s .o .o))
theorem f127_eq (D:Dyn)(n:Nat):f127 D n=funK (s127 D n) D n 127 Tryz.f127 h127:=by kernel_rfl
theorem f127_ok {D:Dyn}(hD:DG D)(n:Nat):FI 127 (f127 D n):=fun_ok X_ok hD (SOk.nil) Tryz.func127 (by kernel_rfl) (f127_eq D n)
def s128 (D:Dyn)(n:Nat):Tb:=⟨X,[]⟩
def f128 (D:Dyn)(n:Nat)(vs:List AV)(H:AH):Option (AV×AH):=
 outR (hd vs fun x0 vs=>nl vs <|
 bA (bxV 72 x0) H fun x1 H=>
 bV (some (.bool false)) fun x2=>some (.ret x2,H))
def h128:Hint:=(.s .o (.s .o .o))
theorem f128_eq (D:Dyn)(n:Nat):f128 D n=funK (s128 D n) D n 128 Tryz.f128 h128:=by kernel_rfl
theorem f128_ok {D:Dyn}(hD:DG D)(n:Nat):FI 128 (f128 D n):=fun_ok X_ok hD (SOk.nil) Tryz.func128 (by kernel_rfl) (f128_eq D n)
def s90 (D:Dyn)(n:Nat):Tb:=⟨X,[(126,f126 D n),(127,f127 D n)]⟩
def f90b0 (D:Dyn)(n:Nat)(vs:List AV)(H:AH):Rs:=
 hd vs fun x11 vs=>hd vs fun x12_2 vs=>hd vs fun x13_2 vs=>
 bV (pNil x11) fun x35=>
 bV (fAd 3 x35) fun x36=>
 bV (ld1 x36 H) fun x37=>
 bV (bInt .neq x37 (.int .i64 (.ofNat 0))) fun x38=>
 cnd x38 (bV (pNil x11) fun x40=>
 bV (fAd 3 x40) fun x41=>
 bV (ld1 x41 H) fun x42=>
 bV (some .nilSlice) fun x8_4=>bV (some (.bool false)) fun x9_4=>bV (some x42) fun x10_4=>some (.ret (.tuple [x8_4,x9_4,x10_4]),H))
 (bV (ld1 x12_2 H) fun x43=>
 bV (ld1 x13_2 H) fun x44=>
 bV (some x43) fun x8_5=>bV (some x44) fun x9_5=>bV (some (.int .i64 (.ofNat 0))) fun x10_5=>some (.ret (.tuple [x8_5,x9_5,x10_5]),H))
def f90 (D:Dyn)(n:Nat)(vs:List AV)(H:AH):Option (AV×AH):=
 outR (hd vs fun x0 vs=>hd vs fun x1 vs=>hd vs fun x2 vs=>hd vs fun x3 vs=>nl vs <|
 bA (bxV 3 x3) H fun x7 H=>
 bV (cmpO .eql (eqP x0 .nilPtr)) fun x16=>
 cnd x16 (bV (some .nilSlice) fun x8=>bV (some (.bool false)) fun x9=>bV (some (.int .i64 (.ofNat 2))) fun x10=>some (.ret (.tuple [x8,x9,x10]),H))
 (bV (ld1 x7 H) fun x17=>
 bV (bInt .lss x17 (.int .i64 (.ofNat 0))) fun x18=>
 cnd x18 (bV (some .nilSlice) fun x8_2=>bV (some (.bool false)) fun x9_2=>bV (some (.int .i64 (.ofNat 1))) fun x10_2=>some (.ret (.tuple [x8_2,x9_2,x10_2]),H))
 (bR (f126 D n [x0] H) fun x20 H=>
 bA (bxV 40 .nilSlice) H fun x12 H=>
 bA (bxV 4 (.bool false)) H fun x13 H=>
 bR (stN 1 x13 (.bool false) H) fun x9999 H=>
 bR (f127 D n [x20,x1,x2,(.func 128 [] [])] H) fun x24 H=>
 jb 0 (newB H (.loop ⟨.ready,none,90,0,[7,12,13],[x7,x12,x13]⟩) fun A H=>bR (rfC (s90 D n).S D x24 A H) fun _ H=>endLp A H fun j H=>jmpK j (
 some (.norm [x20,x12,x13],H))
 (fun id=>cond (Nat.beq 0 id) (some (.exit id [x20,x12,x13],H)) (none)) (bV (some .nilSlice) fun x8_3=>bV (some (.bool false)) fun x9_3=>bV (some (.int .i64 (.ofNat 0))) fun x10_3=>some (.ret (.tuple [x8_3,x9_3,x10_3]),H))) (f90b0 D n))))
def h90:Hint:=(.s .o (.s (.s .o (.cl (.s .o .o) .o)) (.s (.s .o (.cl (.s .o .o) .o)) (.s .o (.s .o (.s .o (.s (.s .o (.b [11,12,13] (.rf 0 [7,12,13]))) (.s (.s .o (.cl (.s .o .o) .o)) (.s .o .o)))))))))
theorem f90_eq (D:Dyn)(n:Nat):f90 D n=funK (s90 D n) D n 90 Tryz.f90 h90:=by kernel_rfl
theorem f90_ok {D:Dyn}(hD:DG D)(n:Nat):FI 90 (f90 D n):=fun_ok X_ok hD (SOk.cons (f126_ok hD n).fs (SOk.cons (f127_ok hD n).fs (SOk.nil))) Tryz.func90 (by kernel_rfl) (f90_eq D n)
def r90_0 (D:Dyn)(n:Nat)(A:Nat)(l:ALoop)(az:List AV)(H:AH):Option (AV×AH):=
 bif eqNL [7,12,13] l.live then endQ A (hd l.vals fun x7 vs=>hd vs fun x12 vs=>hd vs fun x13 vs=>hd az fun x25 az=>nl az <|
 bA (bxV 48 (.agg [(.str 0 0),(.str 0 0)])) H fun x14 H=>
 bR (stN 2 x14 x25 H) fun x9999 H=>
 beginK A H fun H=>
 bV (ld1 x12 H) fun x26=>
 bV (lnSl x26) fun x27=>
 bV (ld1 x7 H) fun x28=>
 bV (bInt .eql x27 x28) fun x29=>
 cnd x29 (bR (stN 1 x13 (.bool true) H) fun x9999_2 H=>
 some (.exit 0 [],H))
 (bV (ld1 x12 H) fun x30=>
 bV (ldN 2 x14 H) fun x31=>
 bA (bldL 48 2 1 [(.str 0 0),(.str 0 0)] [(0,x31)]) H fun x32 H=>
 bR (apP 48 2 32 x30 x32 H) fun x33 H=>
 bR (stN 1 x12 x33 H) fun x9999_3 H=>
 some (.norm [],H)))else none
def r90_0a:Hint:= .o
def r90_0b:Hint:=(.b0 (.s (.s .o (.cl (.s .o .o) .o)) .o))
theorem r90_0_eq (D:Dyn)(n:Nat):r90_0 D n=rndK (s90 D n) D n 90 0 [7,12,13] [0] r90_0a r90_0b:=by kernel_rfl
theorem r90_0_ok {D:Dyn}(hD:DG D)(n:Nat):RS 90 0 (r90_0 D n):=round_ok X_ok hD (SOk.cons (f126_ok hD n).fs (SOk.cons (f127_ok hD n).fs (SOk.nil))) (by kernel_rfl) (r90_0_eq D n)
def s131 (D:Dyn)(n:Nat):Tb:=⟨X,[(97,f97 D n),(91,f91 D n),(90,f90 D n)]⟩
def f131l0 (D:Dyn)(n:Nat)(vs:List AV)(H:AH):Rs:=
 hd vs fun x0_2 vs=>hd vs fun x26 vs=>hd vs fun x27_2 vs=>hd vs fun x28 vs=>
 bV (bInt .lss x28 x27_2) fun x29=>
 cnd x29 (bV (ixSl 2 x26 x28) fun x30=>
 bV (ldN 2 x30 H) fun x31=>
 bA (bxV 48 (.agg [(.str 0 0),(.str 0 0)])) H fun x8 H=>
 bR (stN 2 x8 x31 H) fun x9999 H=>
 bV (ldN 2 x8 H) fun x33=>
 bR (callV (s131 D n).S D x0_2 [x33,(.int .i64 (.ofNat 0))] H) fun x34 H=>
 bV (aun .not x34) fun x35=>
 cnd x35 (some (.ret (.tuple []),H))
 (bV (bInt .add x28 (.int .i64 (.ofNat 1))) fun x36=>
 some (.norm [x0_2,x26,x27_2,x36],H)))
 (some (.exit 0 [],H))
def f131b1 (D:Dyn)(n:Nat)(vs:List AV)(H:AH):Rs:=
 some (.ret (.tuple []),H)
def f131 (D:Dyn)(n:Nat)(vs:List AV)(H:AH):Option (AV×AH):=
 outR (hd vs fun x0 vs=>hd vs fun x1 vs=>hd vs fun x2 vs=>nl vs <|
 bV (ld1 x1 H) fun x10=>
 bV (ld1 x2 H) fun x11=>
 bV (ld1 x2 H) fun x13=>
 bR (f97 D n [x11] H) fun x12 H=>chk (ld1 x1 H) x10 <| chk (ld1 x2 H) x13 <|
 bR (f97 D n [x13] H) fun x14 H=>chk (ld1 x1 H) x10 <|
 bR (f91 D n [x14] H) fun x15 H=>chk (ld1 x1 H) x10 <|
 bR (f90 D n [x10,x12,x15,(.int .i64 (.ofNat 2147483647))] H) fun x16 H=>
 bV (pExtract x16 0) fun x17=>
 bV (pExtract x16 1) fun x18=>
 bV (pExtract x16 2) fun x19=>
 bV (bInt .neq x19 (.int .i64 (.ofNat 0))) fun x21=>
 cnd x21 (bV (bldS [(0,1),(1,1)] [(.str 0 0),(.str 0 0)] []) fun x23=>
 bR (callV (s131 D n).S D x0 [x23,x19] H) fun x25 H=>
 some (.ret (.tuple []),H))
 (bV (lnSl x17) fun x27=>
 jb 0 (loopK n (f131l0 D n) [x0,x17,x27,(.int .i64 (.ofNat 0))] H) (f131b1 D n)))
def h131:Hint:=(.s .o (.s (.s .o (.cl (.s .o .o) .o)) (.s .o (.b [] (.l [0,26,27,28] (.s .o (.s (.cr .o .o) (.s (.b0 (.s .o (.s .o (.cl .o .o)))) .o))))))))
theorem f131_eq (D:Dyn)(n:Nat):f131 D n=funK (s131 D n) D n 131 Tryz.f131 h131:=by kernel_rfl
theorem f131_ok {D:Dyn}(hD:DG D)(n:Nat):FI 131 (f131 D n):=fun_ok X_ok hD (SOk.cons (f97_ok hD n).fs (SOk.cons (f91_ok hD n).fs (SOk.cons (f90_ok hD n).fs (SOk.nil)))) Tryz.func131 (by kernel_rfl) (f131_eq D n)
def s95 (D:Dyn)(n:Nat):Tb:=⟨X,[]⟩
def f95 (D:Dyn)(n:Nat)(vs:List AV)(H:AH):Option (AV×AH):=
 outR (hd vs fun x0 vs=>hd vs fun x1 vs=>nl vs <|
 bA (bxV 22 x0) H fun x2 H=>
 bA (bxV 3 x1) H fun x3 H=>
 bV (some (.func 131 [] [x2,x3])) fun x4=>some (.ret x4,H))
def h95:Hint:=(.s .o (.s .o .o))
theorem f95_eq (D:Dyn)(n:Nat):f95 D n=funK (s95 D n) D n 95 Tryz.f95 h95:=by kernel_rfl
theorem f95_ok {D:Dyn}(hD:DG D)(n:Nat):FI 95 (f95 D n):=fun_ok X_ok hD (SOk.nil) Tryz.func95 (by kernel_rfl) (f95_eq D n)
def s132 (D:Dyn)(n:Nat):Tb:=⟨X,[]⟩
def f132l0 (D:Dyn)(n:Nat)(vs:List AV)(H:AH):Rs:=
 hd vs fun x0_2 vs=>hd vs fun x3 vs=>hd vs fun x6_2 vs=>hd vs fun x7 vs=>
 bV (bInt .lss x7 x6_2) fun x8=>
 cnd x8 (bV (bInt .shl x3 (.int .u64 (.ofNat 8))) fun x11=>
 bV (ixStr x0_2 x7) fun x14=>
 bV (cvI .u64 x14) fun x15=>
 bV (bInt .or x11 x15) fun x16=>
 bV (bInt .add x7 (.int .i64 (.ofNat 1))) fun x17=>
 some (.norm [x0_2,x16,x6_2,x17],H))
 (some (.exit 0 [x3],H))
def f132b1 (D:Dyn)(n:Nat)(vs:List AV)(H:AH):Rs:=
 hd vs fun x3_2 vs=>
 bV (some x3_2) fun x2=>some (.ret x2,H)
def f132 (D:Dyn)(n:Nat)(vs:List AV)(H:AH):Option (AV×AH):=
 outR (hd vs fun x0 vs=>nl vs <|
 bV (lnStr x0) fun x6=>
 jb 0 (loopK n (f132l0 D n) [x0,(.int .u64 (.ofNat 0)),x6,(.int .i64 (.ofNat 0))] H) (f132b1 D n))
def h132:Hint:=(.s .o (.s .o (.s (.s .o (.b [3] (.l [0,3,6,7] (.s .o (.s (.cr .o .o) (.s (.b0 (.s .o .o)) .o)))))) (.s .o .o))))
theorem f132_eq (D:Dyn)(n:Nat):f132 D n=funK (s132 D n) D n 132 Tryz.f132 h132:=by kernel_rfl
theorem f132_ok {D:Dyn}(hD:DG D)(n:Nat):FI 132 (f132 D n):=fun_ok X_ok hD (SOk.nil) Tryz.func132 (by kernel_rfl) (f132_eq D n)
def s96 (D:Dyn)(n:Nat):Tb:=⟨X,[(132,f132 D n)]⟩
def f96 (D:Dyn)(n:Nat)(vs:List AV)(H:AH):Option (AV×AH):=
 outR (hd vs fun x0 vs=>nl vs <|
 bA (bxV 48 x0) H fun x1 H=>
 bA (bxV 118 (.agg [(.int .i64 (.ofNat 0)),(.int .u64 (.ofNat 0)),(.str 0 0),(.int .i64 (.ofNat 0))])) H fun x2 H=>
 bV (fAd 0 x1) fun x5=>
 bV (ld1 x5 H) fun x6=>
 bV (lnStr x6) fun x7=>
 bV (bInt .neq x7 (.int .i64 (.ofNat 6))) fun x8=>
 jn (wnt x8 false (bV (fAd 1 x1) fun x10=>
 bV (ld1 x10 H) fun x11=>
 bV (lnStr x11) fun x12=>
 bV (bInt .lss x12 (.int .i64 (.ofNat 12))) fun x13=>
 some (.norm [x13],H)) (some (.norm [undefA],H))) fun vs H=>hd vs fun x13_2 vs=>
 bV (pk3 (some x8) (some (.bool true)) (some x13_2)) fun x14=>
 cnd x14 (bV (bldS [(0,3),(3,1)] [(.int .i64 (.ofNat 0)),(.int .u64 (.ofNat 0)),(.str 0 0),(.int .i64 (.ofNat 0))] []) fun x15=>
 bR (stN 4 x2 x15 H) fun x9999 H=>
 bV (ldN 4 x2 H) fun x9002=>bV (some (.bool false)) fun x3=>some (.ret (.tuple [x9002,x3]),H))
 (bA (bxV 118 (.agg [(.int .i64 (.ofNat 0)),(.int .u64 (.ofNat 0)),(.str 0 0),(.int .i64 (.ofNat 0))])) H fun x4 H=>
 bV (fAd 0 x1) fun x16=>
 bV (ld1 x16 H) fun x17=>
 bV (slStr x17 (some (.int .i64 (.ofNat 2))) none) fun x18=>
 bR (f132 D n [x18] H) fun x19 H=>
 bV (cvI .i64 x19) fun x20=>
 bV (fAd 3 x4) fun x21=>
 bR (stN 1 x21 x20 H) fun x9999_2 H=>
 bV (fAd 1 x1) fun x22=>
 bV (ld1 x22 H) fun x23=>
 bV (slStr x23 none (some (.int .i64 (.ofNat 4)))) fun x24=>
 bR (f132 D n [x24] H) fun x25 H=>
 bV (cvI .i64 x25) fun x26=>
 bV (fAd 0 x4) fun x27=>
 bV (fAd 0 x27) fun x28=>
 bR (stN 1 x28 x26 H) fun x9999_3 H=>
 bV (fAd 1 x1) fun x29=>
 bV (ld1 x29 H) fun x30=>
 bV (slStr x30 (some (.int .i64 (.ofNat 4))) (some (.int .i64 (.ofNat 12)))) fun x31=>
 bR (f132 D n [x31] H) fun x32 H=>
 bV (fAd 0 x4) fun x33=>
 bV (fAd 1 x33) fun x34=>
 bR (stN 1 x34 x32 H) fun x9999_4 H=>
 bV (fAd 1 x1) fun x35=>
 bV (ld1 x35 H) fun x36=>
 bV (slStr x36 (some (.int .i64 (.ofNat 12))) none) fun x37=>
 bV (fAd 0 x4) fun x38=>
 bV (fAd 2 x38) fun x39=>
 bR (stN 1 x39 x37 H) fun x9999_5 H=>
 bV (ldN 4 x4 H) fun x40=>
 bV (fAd 3 x4) fun x41=>
 bV (ld1 x41 H) fun x42=>
 bV (bInt .geq x42 (.int .i64 (.ofNat 1))) fun x43=>
 wnt x43 true (bV (fAd 3 x4) fun x45=>
 bV (ld1 x45 H) fun x46=>
 bV (bInt .leq x46 (.int .i64 (.ofNat 2147483647))) fun x47=>
 bV (pk3 (some x43) (some x47) (some (.bool false))) fun x48=>
 bR (stN 4 x2 x40 H) fun x9999_6 H=>chk (ld1 x45 H) x46 <|
 bV (ldN 4 x2 H) fun x9002_2=>bV (some x48) fun x3_2=>some (.ret (.tuple [x9002_2,x3_2]),H)) (bV (pk3 (some x43) (some undefA) (some (.bool false))) fun x48_2=>
 bR (stN 4 x2 x40 H) fun x9999_7 H=>
 bV (ldN 4 x2 H) fun x9002_3=>bV (some x48_2) fun x3_3=>some (.ret (.tuple [x9002_3,x3_3]),H))))
def h96:Hint:=(.s .o (.s (.s .o (.cl (.s .o .o) .o)) (.s .o (.s .o (.s .o (.s .o (.s .o (.s .o .o))))))))
theorem f96_eq (D:Dyn)(n:Nat):f96 D n=funK (s96 D n) D n 96 Tryz.f96 h96:=by kernel_rfl
theorem f96_ok {D:Dyn}(hD:DG D)(n:Nat):FI 96 (f96 D n):=fun_ok X_ok hD (SOk.cons (f132_ok hD n).fs (SOk.nil)) Tryz.func96 (by kernel_rfl) (f96_eq D n)
def s53 (D:Dyn)(n:Nat):Tb:=⟨X,[(95,f95 D n),(96,f96 D n)]⟩
def f53 (D:Dyn)(n:Nat)(vs:List AV)(H:AH):Option (AV×AH):=
 outR (hd vs fun x0 vs=>hd vs fun x1 vs=>nl vs <|
 bA (bxV 113 .nilSlice) H fun x4 H=>
 bA (bxV 26 (.int .i64 (.ofNat 0))) H fun x5 H=>
 bV (cmpO .eql (eqP x0 .nilPtr)) fun x12=>
 cnd x12 (bR (stN 1 x4 .nilSlice H) fun x9999 H=>
 bR (stN 1 x5 (.int .i64 (.ofNat 2)) H) fun x9999_2 H=>
 bV (ld1 x4 H) fun x9004=>bV (ld1 x5 H) fun x9005=>some (.ret (.tuple [x9004,x9005]),H))
 (bV (bInt .lss x1 (.int .i64 (.ofNat 1))) fun x14=>
 jn (wnt x14 false (bV (bInt .gtr x1 (.int .i64 (.ofNat 16))) fun x17=>
 some (.norm [x17],H)) (some (.norm [undefA],H))) fun vs H=>hd vs fun x17_2 vs=>
 bV (pk3 (some x14) (some (.bool true)) (some x17_2)) fun x18=>
 cnd x18 (bR (stN 1 x4 .nilSlice H) fun x9999_3 H=>
 bR (stN 1 x5 (.int .i64 (.ofNat 1)) H) fun x9999_4 H=>
 bV (ld1 x4 H) fun x9004_2=>bV (ld1 x5 H) fun x9005_2=>some (.ret (.tuple [x9004_2,x9005_2]),H))
 (bA (bxV 113 .nilSlice) H fun x6 H=>
 bR (f95 D n [x0,x1] H) fun x21 H=>
 newB H (.loop ⟨.ready,none,53,0,[4,5,6],[x4,x5,x6]⟩) fun A H=>bR (rfC (s53 D n).S D x21 A H) fun _ H=>endLp A H fun j H=>jmpK j (
 bV (ld1 x6 H) fun x38=>
 bR (stN 1 x4 x38 H) fun x9999_5 H=>
 bR (stN 1 x5 (.int .i64 (.ofNat 0)) H) fun x9999_6 H=>
 bV (ld1 x4 H) fun x9004_4=>bV (ld1 x5 H) fun x9005_4=>some (.ret (.tuple [x9004_4,x9005_4]),H))
 (fun id=>none) (bV (ld1 x4 H) fun x9004_3=>bV (ld1 x5 H) fun x9005_3=>some (.ret (.tuple [x9004_3,x9005_3]),H)))))
def h53:Hint:=(.s .o (.s (.s .o (.cl (.s .o .o) .o)) (.s (.s .o (.cl (.s .o .o) .o)) (.s .o (.s (.s .o (.b0 (.rf 0 [4,5,6]))) (.s .o .o))))))
theorem f53_eq (D:Dyn)(n:Nat):f53 D n=funK (s53 D n) D n 53 Tryz.f53 h53:=by kernel_rfl
theorem f53_ok {D:Dyn}(hD:DG D)(n:Nat):FI 53 (f53 D n):=fun_ok X_ok hD (SOk.cons (f95_ok hD n).fs (SOk.cons (f96_ok hD n).fs (SOk.nil))) Tryz.func53 (by kernel_rfl) (f53_eq D n)
def r53_0 (D:Dyn)(n:Nat)(A:Nat)(l:ALoop)(az:List AV)(H:AH):Option (AV×AH):=
 bif eqNL [4,5,6] l.live then endQ A (hd l.vals fun x4 vs=>hd vs fun x5 vs=>hd vs fun x6 vs=>hd az fun x22 az=>hd az fun x23 az=>nl az <|
 bA (bxV 48 (.agg [(.str 0 0),(.str 0 0)])) H fun x7 H=>
 bR (stN 2 x7 x22 H) fun x9999 H=>
 beginK A H fun H=>
 bV (bInt .neq x23 (.int .i64 (.ofNat 0))) fun x25=>
 cnd x25 (bR (stN 1 x4 .nilSlice H) fun x9999_2 H=>
 bR (stN 1 x5 x23 H) fun x9999_3 H=>
 some (.ret (.tuple []),H))
 (bV (ldN 2 x7 H) fun x28=>
 bR (f96 D n [x28] H) fun x29 H=>
 bV (pExtract x29 0) fun x30=>
 bV (pExtract x29 1) fun x31=>
 bA (bxV 118 (.agg [(.int .i64 (.ofNat 0)),(.int .u64 (.ofNat 0)),(.str 0 0),(.int .i64 (.ofNat 0))])) H fun x9 H=>
 bR (stN 4 x9 x30 H) fun x9999_4 H=>
 bV (aun .not x31) fun x33=>
 cnd x33 (bR (stN 1 x4 .nilSlice H) fun x9999_5 H=>
 bR (stN 1 x5 (.int .i64 (.ofNat 4)) H) fun x9999_6 H=>
 some (.ret (.tuple []),H))
 (bV (ld1 x6 H) fun x34=>
 bV (ldN 4 x9 H) fun x35=>
 bA (bldL 118 4 1 [(.int .i64 (.ofNat 0)),(.int .u64 (.ofNat 0)),(.str 0 0),(.int .i64 (.ofNat 0))] [(0,x35)]) H fun x36 H=>
 bR (apP 118 4 40 x34 x36 H) fun x37 H=>
 bR (stN 1 x6 x37 H) fun x9999_7 H=>
 some (.norm [],H))))else none
def r53_0a:Hint:=(.s .o .o)
def r53_0b:Hint:=(.b0 (.s (.s .o (.cl (.s .o .o) .o)) (.s .o (.s (.s .o (.cl (.s .o .o) .o)) .o))))
theorem r53_0_eq (D:Dyn)(n:Nat):r53_0 D n=rndK (s53 D n) D n 53 0 [4,5,6] [] r53_0a r53_0b:=by kernel_rfl
theorem r53_0_ok {D:Dyn}(hD:DG D)(n:Nat):RS 53 0 (r53_0 D n):=round_ok X_ok hD (SOk.cons (f95_ok hD n).fs (SOk.cons (f96_ok hD n).fs (SOk.nil))) (by kernel_rfl) (r53_0_eq D n)
def s54 (D:Dyn)(n:Nat):Tb:=⟨X,[]⟩
def f54 (D:Dyn)(n:Nat)(vs:List AV)(H:AH):Option (AV×AH):=
 outR (hd vs fun x0 vs=>nl vs <|
 bV (bInt .geq x0 (.int .i64 (.ofNat 0))) fun x4=>
 jn (wnt x4 true (bV (bInt .leq x0 (.int .i64 (.ofNat 4294967295))) fun x7=>
 some (.norm [x7],H)) (some (.norm [undefA],H))) fun vs H=>hd vs fun x7_2 vs=>
 bV (pk3 (some x4) (some x7_2) (some (.bool false))) fun x8=>
 bV (some x8) fun x2=>some (.ret x2,H))
def h54:Hint:=(.s .o (.s .o .o))
theorem f54_eq (D:Dyn)(n:Nat):f54 D n=funK (s54 D n) D n 54 Tryz.f54 h54:=by kernel_rfl
theorem f54_ok {D:Dyn}(hD:DG D)(n:Nat):FI 54 (f54 D n):=fun_ok X_ok hD (SOk.nil) Tryz.func54 (by kernel_rfl) (f54_eq D n)
def s56 (D:Dyn)(n:Nat):Tb:=⟨X,[]⟩
def f56l0 (D:Dyn)(n:Nat)(vs:List AV)(H:AH):Rs:=
 hd vs fun x0_2 vs=>hd vs fun x1_2 vs=>hd vs fun x5 vs=>hd vs fun x10_2 vs=>hd vs fun x11 vs=>
 bV (bInt .lss x11 x10_2) fun x12=>
 cnd x12 (bV (bInt .sub x1_2 (.int .i64 (.ofNat 1))) fun x18=>
 bV (bInt .sub x18 x11) fun x20=>
 bV (bInt .mul (.int .i64 (.ofNat 8)) x20) fun x21=>
 bV (bInt .shr x0_2 x21) fun x22=>
 bV (cvI .u8 x22) fun x23=>
 bV (ixSl 1 x5 x11) fun x24=>
 bR (stN 1 x24 x23 H) fun x9999 H=>
 bV (bInt .add x11 (.int .i64 (.ofNat 1))) fun x25=>
 some (.norm [x0_2,x1_2,x5,x10_2,x25],H))
 (some (.exit 0 [x5],H))
def f56b1 (D:Dyn)(n:Nat)(vs:List AV)(H:AH):Rs:=
 hd vs fun x5_2 vs=>
 bV (cvBS x5_2 H) fun x27=>
 bV (some x27) fun x4=>some (.ret x4,H)
def f56 (D:Dyn)(n:Nat)(vs:List AV)(H:AH):Option (AV×AH):=
 outR (hd vs fun x0 vs=>hd vs fun x1 vs=>nl vs <|
 bA (mkSl 5 1 1 [(.int .u8 (.ofNat 0))] x1 x1) H fun x8 H=>
 bV (lnSl x8) fun x10=>
 jb 0 (loopK n (f56l0 D n) [x0,x1,x8,x10,(.int .i64 (.ofNat 0))] H) (f56b1 D n))
def h56:Hint:=(.s .o (.s .o (.s (.s .o (.b [5] (.l [0,1,5,10,11] (.s .o (.s (.cr .o .o) (.s (.b0 (.s .o .o)) .o)))))) (.s .o .o))))
theorem f56_eq (D:Dyn)(n:Nat):f56 D n=funK (s56 D n) D n 56 Tryz.f56 h56:=by kernel_rfl
theorem f56_ok {D:Dyn}(hD:DG D)(n:Nat):FI 56 (f56 D n):=fun_ok X_ok hD (SOk.nil) Tryz.func56 (by kernel_rfl) (f56_eq D n)
def s55 (D:Dyn)(n:Nat):Tb:=⟨X,[(97,f97 D n),(56,f56 D n)]⟩
def f55 (D:Dyn)(n:Nat)(vs:List AV)(H:AH):Option (AV×AH):=
 outR (hd vs fun x0 vs=>hd vs fun x1 vs=>nl vs <|
 bR (f97 D n [x0] H) fun x6 H=>
 bV (cvI .u64 x1) fun x8=>
 bR (f56 D n [x8,(.int .i64 (.ofNat 4))] H) fun x9 H=>
 bV (bStr .add x6 x9) fun x10=>
 bV (some x10) fun x4=>some (.ret x4,H))
def h55:Hint:=(.s .o (.s .o .o))
theorem f55_eq (D:Dyn)(n:Nat):f55 D n=funK (s55 D n) D n 55 Tryz.f55 h55:=by kernel_rfl
theorem f55_ok {D:Dyn}(hD:DG D)(n:Nat):FI 55 (f55 D n):=fun_ok X_ok hD (SOk.cons (f97_ok hD n).fs (SOk.cons (f56_ok hD n).fs (SOk.nil))) Tryz.func55 (by kernel_rfl) (f55_eq D n)
def s102 (D:Dyn)(n:Nat):Tb:=⟨X,[]⟩
def f102 (D:Dyn)(n:Nat)(vs:List AV)(H:AH):Option (AV×AH):=
 outR (hd vs fun x0 vs=>hd vs fun x1 vs=>nl vs <|
 bA (bxV 133 x1) H fun x3 H=>
 bA (bxV 72 (.agg [(.int .i64 (.ofNat 0)),(.int .i64 (.ofNat 0)),(.int .u64 (.ofNat 0))])) H fun x4 H=>
 bV (pNil x0) fun x6=>
 bV (fAd 1 x6) fun x7=>
 bV (ld1 x7 H) fun x8=>
 bV (bInt .add x8 (.int .u64 (.ofNat 1))) fun x9=>
 bV (pNil x0) fun x10=>
 bV (fAd 1 x10) fun x11=>
 bR (stN 1 x11 x9 H) fun x9999 H=>
 bV (pNil x0) fun x13=>
 bV (fAd 2 x13) fun x14=>
 bV (ld1 x14 H) fun x15=>
 bV (pNil x0) fun x17=>
 bV (fAd 1 x17) fun x18=>
 bV (ld1 x18 H) fun x19=>
 bV (ldN 4 x3 H) fun x20=>
 bR (upM [10] x15 x19 x20 H) fun x9999_2 H=>
 bV (pNil x0) fun x22=>
 bV (fAd 1 x22) fun x23=>
 bV (ld1 x23 H) fun x24=>
 bV (bldS [(0,1),(1,1),(2,1)] [(.int .i64 (.ofNat 0)),(.int .i64 (.ofNat 0)),(.int .u64 (.ofNat 0))] [(0,(.int .i64 (.ofNat 1))),(2,x24)]) fun x25=>
 bR (stN 3 x4 x25 H) fun x9999_3 H=>
 bV (ldN 3 x4 H) fun x9004=>some (.ret x9004,H))
def h102:Hint:=(.s .o (.s .o (.s .o (.s .o .o))))
theorem f102_eq (D:Dyn)(n:Nat):f102 D n=funK (s102 D n) D n 102 Tryz.f102 h102:=by kernel_rfl
theorem f102_ok {D:Dyn}(hD:DG D)(n:Nat):FI 102 (f102 D n):=fun_ok X_ok hD (SOk.nil) Tryz.func102 (by kernel_rfl) (f102_eq D n)
end Go.Eng.Sh
end
end
section
noncomputable section
namespace Go.Eng.Sh
open Go.Proofs
set_option maxRecDepth 100000
def s101 (D:Dyn)(n:Nat):Tb:=⟨X,[]⟩
def f101j0 (D:Dyn)(n:Nat)(vs:List AV)(H:AH):Rs:=
 hd vs fun x0_3 vs=>hd vs fun x3_3 vs=>hd vs fun x4_2 vs=>hd vs fun x16_3 vs=>hd vs fun x17_3 vs=>hd vs fun x18_2 vs=>
 bV (bInt .add x18_2 (.int .i64 (.ofNat 1))) fun x41=>
 some (.norm [x0_3,x3_3,x4_2,x16_3,x17_3,x41],H)
def f101l1 (D:Dyn)(n:Nat)(vs:List AV)(H:AH):Rs:=
 hd vs fun x0_2 vs=>hd vs fun x3_2 vs=>hd vs fun x4 vs=>hd vs fun x16_2 vs=>hd vs fun x17_2 vs=>hd vs fun x18 vs=>
 bV (bInt .lss x18 x17_2) fun x19=>
 cnd x19 (bV (ixSl 3 x16_2 x18) fun x20=>
 bV (ldN 3 x20 H) fun x21=>
 bA (bxV 72 (.agg [(.int .i64 (.ofNat 0)),(.int .i64 (.ofNat 0)),(.int .u64 (.ofNat 0))])) H fun x6 H=>
 bR (stN 3 x6 x21 H) fun x9999 H=>
 bV (fAd 0 x6) fun x22=>
 bV (ld1 x22 H) fun x23=>
 bV (bInt .eql x23 (.int .i64 (.ofNat 1))) fun x24=>
 jn (cnd x24 (bV (pNil x4) fun x26=>
 bV (fAd 5 x26) fun x27=>
 bV (ld1 x27 H) fun x28=>
 bV (fAd 2 x6) fun x29=>
 bV (ld1 x29 H) fun x30=>
 bR (dlM [10] x28 x30 H) fun x9999_2 H=>
 some (.norm [x0_2,x3_2,x4,x16_2,x17_2,x18],H))
 (bV (pNil x4) fun x33=>
 bV (fAd 7 x33) fun x34=>
 bV (ld1 x34 H) fun x35=>
 bV (ldN 3 x6 H) fun x36=>
 bA (bldL 72 3 1 [(.int .i64 (.ofNat 0)),(.int .i64 (.ofNat 0)),(.int .u64 (.ofNat 0))] [(0,x36)]) H fun x37 H=>
 bR (apP 72 3 24 x35 x37 H) fun x38 H=>
 bV (pNil x4) fun x39=>
 bV (fAd 7 x39) fun x40=>
 bR (stN 1 x40 x38 H) fun x9999_3 H=>
 some (.norm [x0_2,x3_2,x4,x16_2,x17_2,x18],H))) (f101j0 D n))
 (some (.exit 0 [x0_2,x3_2,x4],H))
def f101b2 (D:Dyn)(n:Nat)(vs:List AV)(H:AH):Rs:=
 hd vs fun x0_4 vs=>hd vs fun x3_4 vs=>hd vs fun x4_3 vs=>
 tld (mt101_0 [x0_4,x3_4,x4_3] H) H.next fun H=>
 bV (pNil x0_4) fun x60=>
 bV (fAd 1 x60) fun x61=>
 bV (ld1 x61 H) fun x62=>
 bV (pNil x4_3) fun x63=>
 bV (fAd 6 x63) fun x64=>
 bR (stN 1 x64 x62 H) fun x9999_4 H=>
 bV (ldN 3 x3_4 H) fun x66=>
 bV (pNil x4_3) fun x67=>
 bV (fAd 2 x67) fun x68=>
 bR (stN 3 x68 x66 H) fun x9999_5 H=>
 some (.ret (.tuple []),H)
def f101 (D:Dyn)(n:Nat)(vs:List AV)(H:AH):Option (AV×AH):=
 outR (hd vs fun x0 vs=>hd vs fun x1 vs=>nl vs <|
 bA (bxV 72 x1) H fun x3 H=>
 bV (pNil x0) fun x10=>
 bV (fAd 0 x10) fun x11=>
 bV (ld1 x11 H) fun x12=>
 bV (pNil x0) fun x14=>
 bV (fAd 3 x14) fun x15=>
 bV (ld1 x15 H) fun x16=>
 bV (lnSl x16) fun x17=>
 jb 0 (loopK n (f101l1 D n) [x0,x3,x12,x16,x17,(.int .i64 (.ofNat 0))] H) (f101b2 D n))
def h101:Hint:=(.s .o (.s .o (.s (.s .o (.b [0,3,4] (.l [0,3,4,16,17,18] (.s .o (.s (.cr .o .o) (.s (.b0 (.s .o (.s .o (.c [0,3,4,16,17,18] .o .o)))) .o)))))) (.s (.t [0,3,4] mt101_0) (.s .o .o)))))
theorem f101_eq (D:Dyn)(n:Nat):f101 D n=funK (s101 D n) D n 101 Tryz.f101 h101:=by kernel_rfl
theorem f101_tolds:toldsF Tryz.f101 h101=[(q101_0.code,[0,3,4],mt101_0)]:=by kernel_rfl
theorem f101_told: ∀x∈toldsF Tryz.f101 h101,ToldOk PP Tryz.f101.ntmps 101 x.1 x.2.1 x.2.2:=by
 rw[f101_tolds];intro x hx
 simp only[List.mem_cons,List.not_mem_nil,or_false]at hx
 subst hx;exact told101_0
theorem f101_ok {D:Dyn}(hD:DG D)(n:Nat):FI 101 (f101 D n):=fun_okT X_ok hD (SOk.nil) Tryz.func101 (sitesT_ok (by kernel_rfl) f101_told) (f101_eq D n)
def s123 (D:Dyn)(n:Nat):Tb:=⟨X,[]⟩
def f123l0 (D:Dyn)(n:Nat)(vs:List AV)(H:AH):Rs:=
 hd vs fun x1_2 vs=>hd vs fun x3 vs=>hd vs fun x14_2 vs=>hd vs fun x15_2 vs=>hd vs fun x16 vs=>
 bV (bInt .lss x16 x15_2) fun x17=>
 cnd x17 (bV (ixSl 1 x14_2 x16) fun x18=>
 bV (ld1 x18 H) fun x19=>
 bV (lnStr x19) fun x22=>
 bV (bInt .add (.int .i64 (.ofNat 1)) x22) fun x23=>
 bV (bInt .add x3 x23) fun x24=>
 bV (bInt .add x16 (.int .i64 (.ofNat 1))) fun x25=>
 some (.norm [x1_2,x24,x14_2,x15_2,x25],H))
 (some (.exit 0 [x1_2,x3],H))
def f123l1 (D:Dyn)(n:Nat)(vs:List AV)(H:AH):Rs:=
 hd vs fun x3_3 vs=>hd vs fun x27_2 vs=>hd vs fun x28_2 vs=>hd vs fun x29 vs=>
 bV (bInt .lss x29 x28_2) fun x30=>
 cnd x30 (bV (ixSl 1 x27_2 x29) fun x31=>
 bV (ld1 x31 H) fun x32=>
 bV (lnStr x32) fun x35=>
 bV (bInt .add (.int .i64 (.ofNat 1)) x35) fun x36=>
 bV (bInt .add x3_3 x36) fun x37=>
 bV (bInt .add x29 (.int .i64 (.ofNat 1))) fun x38=>
 some (.norm [x37,x27_2,x28_2,x38],H))
 (some (.exit 2 [x3_3],H))
def f123b2 (D:Dyn)(n:Nat)(vs:List AV)(H:AH):Rs:=
 hd vs fun x3_4 vs=>
 bV (some x3_4) fun x2=>some (.ret x2,H)
def f123b3 (D:Dyn)(n:Nat)(vs:List AV)(H:AH):Rs:=
 hd vs fun x1_3 vs=>hd vs fun x3_2 vs=>
 bV (fAd 2 x1_3) fun x26=>
 bV (ld1 x26 H) fun x27=>
 bV (lnSl x27) fun x28=>
 jb 2 (loopK n (f123l1 D n) [x3_2,x27,x28,(.int .i64 (.ofNat 0))] H) (f123b2 D n)
def f123 (D:Dyn)(n:Nat)(vs:List AV)(H:AH):Option (AV×AH):=
 outR (hd vs fun x0 vs=>nl vs <|
 bA (bxV 133 x0) H fun x1 H=>
 bV (fAd 3 x1) fun x8=>
 bV (ld1 x8 H) fun x9=>
 bV (lnSl x9) fun x10=>
 bV (bInt .mul (.int .i64 (.ofNat 16)) x10) fun x11=>
 bV (bInt .add (.int .i64 (.ofNat 2)) x11) fun x12=>
 bV (fAd 1 x1) fun x13=>
 bV (ld1 x13 H) fun x14=>
 bV (lnSl x14) fun x15=>
 jb 0 (loopK n (f123l0 D n) [x1,x12,x14,x15,(.int .i64 (.ofNat 0))] H) (f123b3 D n))
def h123:Hint:=(.s .o (.s .o (.s (.s .o (.b [1,3] (.l [1,3,14,15,16] (.s .o (.s (.cr .o .o) (.s (.b0 (.s .o .o)) .o)))))) (.s (.s .o (.b [3] (.l [3,27,28,29] (.s .o (.s (.cr .o .o) (.s (.b0 (.s .o .o)) .o)))))) (.s .o .o)))))
theorem f123_eq (D:Dyn)(n:Nat):f123 D n=funK (s123 D n) D n 123 Tryz.f123 h123:=by kernel_rfl
theorem f123_ok {D:Dyn}(hD:DG D)(n:Nat):FI 123 (f123 D n):=fun_ok X_ok hD (SOk.nil) Tryz.func123 (by kernel_rfl) (f123_eq D n)
def s108 (D:Dyn)(n:Nat):Tb:=⟨X,[]⟩
def f108 (D:Dyn)(n:Nat)(vs:List AV)(H:AH):Option (AV×AH):=
 outR (hd vs fun x0 vs=>nl vs <|
 bV (lnStr x0) fun x4=>
 bV (bInt .geq x4 (.int .i64 (.ofNat 1))) fun x5=>
 jn (wnt x5 true (bV (lnStr x0) fun x8=>
 bV (bInt .leq x8 (.int .i64 (.ofNat 40))) fun x9=>
 some (.norm [x9],H)) (some (.norm [undefA],H))) fun vs H=>hd vs fun x9_2 vs=>
 bV (pk3 (some x5) (some x9_2) (some (.bool false))) fun x10=>
 bV (some x10) fun x2=>some (.ret x2,H))
def h108:Hint:=(.s .o (.s .o .o))
theorem f108_eq (D:Dyn)(n:Nat):f108 D n=funK (s108 D n) D n 108 Tryz.f108 h108:=by kernel_rfl
theorem f108_ok {D:Dyn}(hD:DG D)(n:Nat):FI 108 (f108 D n):=fun_ok X_ok hD (SOk.nil) Tryz.func108 (by kernel_rfl) (f108_eq D n)
def s107 (D:Dyn)(n:Nat):Tb:=⟨X,[(108,f108 D n)]⟩
def f107l0 (D:Dyn)(n:Nat)(vs:List AV)(H:AH):Rs:=
 hd vs fun x1_2 vs=>hd vs fun x10_2 vs=>hd vs fun x11_2 vs=>hd vs fun x12 vs=>
 bV (bInt .lss x12 x11_2) fun x13=>
 cnd x13 (bV (ixSl 1 x10_2 x12) fun x15=>
 bV (ld1 x15 H) fun x16=>
 bR (f108 D n [x16] H) fun x18 H=>
 bV (aun .not x18) fun x19=>
 jn (wnt x19 false (bV (bInt .gtr x12 (.int .i64 (.ofNat 0))) fun x22=>
 some (.norm [x22],H)) (some (.norm [undefA],H))) fun vs H=>hd vs fun x23 vs=>
 jn (wnt x23 true (bV (fAd 1 x1_2) fun x24=>
 bV (ld1 x24 H) fun x25=>
 bV (bInt .sub x12 (.int .i64 (.ofNat 1))) fun x27=>
 bV (ixSl 1 x25 x27) fun x28=>
 bV (ld1 x28 H) fun x29=>
 bV (bStr .geq x29 x16) fun x31=>
 some (.norm [x31],H)) (some (.norm [undefA],H))) fun vs H=>hd vs fun x31_2 vs=>
 jn (wnt x19 false (bV (pk3 (some x23) (some x31_2) (some (.bool false))) fun x32=>
 some (.norm [x32],H)) (some (.norm [undefA],H))) fun vs H=>hd vs fun x32_2 vs=>
 bV (pk3 (some x19) (some (.bool true)) (some x32_2)) fun x33=>
 cnd x33 (bV (some (.bool false)) fun x2=>some (.ret x2,H))
 (bV (bInt .add x12 (.int .i64 (.ofNat 1))) fun x34=>
 some (.norm [x1_2,x10_2,x11_2,x34],H)))
 (some (.exit 0 [x1_2],H))
def f107l1 (D:Dyn)(n:Nat)(vs:List AV)(H:AH):Rs:=
 hd vs fun x51_2 vs=>hd vs fun x52_2 vs=>hd vs fun x53 vs=>
 bV (bInt .lss x53 x52_2) fun x54=>
 cnd x54 (bV (ixSl 1 x51_2 x53) fun x55=>
 bV (ld1 x55 H) fun x56=>
 bV (lnStr x56) fun x58=>
 bV (bInt .gtr x58 (.int .i64 (.ofNat 200))) fun x59=>
 cnd x59 (bV (some (.bool false)) fun x2_3=>some (.ret x2_3,H))
 (bV (bInt .add x53 (.int .i64 (.ofNat 1))) fun x60=>
 some (.norm [x51_2,x52_2,x60],H)))
 (some (.exit 2 [],H))
def f107b2 (D:Dyn)(n:Nat)(vs:List AV)(H:AH):Rs:=
 bV (some (.bool true)) fun x2_4=>some (.ret x2_4,H)
def f107l3 (D:Dyn)(n:Nat)(vs:List AV)(H:AH):Rs:=
 hd vs fun x82_2 vs=>hd vs fun x83_2 vs=>hd vs fun x84 vs=>
 bV (bInt .lss x84 x83_2) fun x85=>
 cnd x85 (bV (ixSl 3 x82_2 x84) fun x86=>
 bV (ldN 3 x86 H) fun x87=>
 bA (bxV 72 (.agg [(.int .i64 (.ofNat 0)),(.int .i64 (.ofNat 0)),(.int .u64 (.ofNat 0))])) H fun x8 H=>
 bR (stN 3 x8 x87 H) fun x9999 H=>
 bV (fAd 0 x8) fun x88=>
 bV (ld1 x88 H) fun x89=>
 bV (bInt .lss x89 (.int .i64 (.ofNat 1))) fun x90=>
 jn (wnt x90 false (bV (fAd 0 x8) fun x92=>
 bV (ld1 x92 H) fun x93=>
 bV (bInt .geq x93 (.int .i64 (.ofNat 8192))) fun x94=>
 some (.norm [x94],H)) (some (.norm [undefA],H))) fun vs H=>hd vs fun x94_2 vs=>
 bV (pk3 (some x90) (some (.bool true)) (some x94_2)) fun x95=>
 jn (wnt x95 false (bV (fAd 1 x8) fun x97=>
 bV (ld1 x97 H) fun x98=>
 bV (bInt .lss x98 (.int .i64 (.ofNat 0))) fun x99=>
 some (.norm [x99],H)) (some (.norm [undefA],H))) fun vs H=>hd vs fun x99_2 vs=>
 bV (pk3 (some x95) (some (.bool true)) (some x99_2)) fun x100=>
 jn (wnt x100 false (bV (fAd 1 x8) fun x102=>
 bV (ld1 x102 H) fun x103=>
 bV (bInt .gtr x103 (.int .i64 (.ofNat 2147483647))) fun x104=>
 some (.norm [x104],H)) (some (.norm [undefA],H))) fun vs H=>hd vs fun x104_2 vs=>
 bV (pk3 (some x100) (some (.bool true)) (some x104_2)) fun x105=>
 cnd x105 (bV (some (.bool false)) fun x2_6=>some (.ret x2_6,H))
 (bV (bInt .add x84 (.int .i64 (.ofNat 1))) fun x106=>
 some (.norm [x82_2,x83_2,x106],H)))
 (some (.exit 4 [],H))
def f107b4 (D:Dyn)(n:Nat)(vs:List AV)(H:AH):Rs:=
 bV (some (.bool true)) fun x2_7=>some (.ret x2_7,H)
def f107b5 (D:Dyn)(n:Nat)(vs:List AV)(H:AH):Rs:=
 hd vs fun x1_3 vs=>
 bV (fAd 0 x1_3) fun x35=>
 bV (ld1 x35 H) fun x36=>
 cnd x36 (bV (fAd 2 x1_3) fun x37=>
 bV (ld1 x37 H) fun x38=>
 bV (lnSl x38) fun x39=>
 bV (fAd 1 x1_3) fun x40=>
 bV (ld1 x40 H) fun x41=>
 bV (lnSl x41) fun x42=>
 bV (bInt .neq x39 x42) fun x43=>
 jn (wnt x43 false (bV (fAd 3 x1_3) fun x45=>
 bV (ld1 x45 H) fun x46=>
 bV (lnSl x46) fun x47=>
 bV (bInt .neq x47 (.int .i64 (.ofNat 0))) fun x48=>
 some (.norm [x48],H)) (some (.norm [undefA],H))) fun vs H=>hd vs fun x48_2 vs=>
 bV (pk3 (some x43) (some (.bool true)) (some x48_2)) fun x49=>
 cnd x49 (bV (some (.bool false)) fun x2_2=>some (.ret x2_2,H))
 (bV (fAd 2 x1_3) fun x50=>
 bV (ld1 x50 H) fun x51=>
 bV (lnSl x51) fun x52=>
 jb 2 (loopK n (f107l1 D n) [x51,x52,(.int .i64 (.ofNat 0))] H) (f107b2 D n)))
 (bV (fAd 1 x1_3) fun x61=>
 bV (ld1 x61 H) fun x62=>
 bV (lnSl x62) fun x63=>
 bV (bInt .eql x63 (.int .i64 (.ofNat 0))) fun x64=>
 jn (wnt x64 false (bV (fAd 2 x1_3) fun x66=>
 bV (ld1 x66 H) fun x67=>
 bV (lnSl x67) fun x68=>
 bV (bInt .neq x68 (.int .i64 (.ofNat 0))) fun x69=>
 some (.norm [x69],H)) (some (.norm [undefA],H))) fun vs H=>hd vs fun x69_2 vs=>
 bV (pk3 (some x64) (some (.bool true)) (some x69_2)) fun x70=>
 jn (wnt x70 false (bV (fAd 3 x1_3) fun x72=>
 bV (ld1 x72 H) fun x73=>
 bV (lnSl x73) fun x74=>
 bV (fAd 1 x1_3) fun x75=>
 bV (ld1 x75 H) fun x76=>
 bV (lnSl x76) fun x77=>
 bV (bInt .add x77 (.int .i64 (.ofNat 1))) fun x78=>
 bV (bInt .neq x74 x78) fun x79=>
 some (.norm [x79],H)) (some (.norm [undefA],H))) fun vs H=>hd vs fun x79_2 vs=>
 bV (pk3 (some x70) (some (.bool true)) (some x79_2)) fun x80=>
 cnd x80 (bV (some (.bool false)) fun x2_5=>some (.ret x2_5,H))
 (bV (fAd 3 x1_3) fun x81=>
 bV (ld1 x81 H) fun x82=>
 bV (lnSl x82) fun x83=>
 jb 4 (loopK n (f107l3 D n) [x82,x83,(.int .i64 (.ofNat 0))] H) (f107b4 D n)))
def f107 (D:Dyn)(n:Nat)(vs:List AV)(H:AH):Option (AV×AH):=
 outR (hd vs fun x0 vs=>nl vs <|
 bA (bxV 133 x0) H fun x1 H=>
 bV (fAd 1 x1) fun x9=>
 bV (ld1 x9 H) fun x10=>
 bV (lnSl x10) fun x11=>
 jb 0 (loopK n (f107l0 D n) [x1,x10,x11,(.int .i64 (.ofNat 0))] H) (f107b5 D n))
def h107:Hint:=(.s .o (.s (.s .o (.b [1] (.l [1,10,11,12] (.s .o (.s (.cr .o .o) (.s (.b0 (.s .o (.s .o (.cl (.s .o .o) .o)))) .o)))))) (.s (.s .o (.cl (.s (.s .o (.cl (.s .o .o) .o)) (.s (.s .o (.b [] (.l [51,52,53] (.s .o (.s (.cr .o .o) (.s (.b0 (.s .o (.s .o (.cl (.s .o .o) .o)))) .o)))))) (.s .o .o))) .o)) (.s (.s .o (.cl (.s .o .o) .o)) (.s (.s .o (.b [] (.l [82,83,84] (.s .o (.s (.cr .o .o) (.s (.b0 (.s .o (.s .o (.cl (.s .o .o) .o)))) .o)))))) (.s .o .o))))))
theorem f107_eq (D:Dyn)(n:Nat):f107 D n=funK (s107 D n) D n 107 Tryz.f107 h107:=by kernel_rfl
theorem f107_ok {D:Dyn}(hD:DG D)(n:Nat):FI 107 (f107 D n):=fun_ok X_ok hD (SOk.cons (f108_ok hD n).fs (SOk.nil)) Tryz.func107 (by kernel_rfl) (f107_eq D n)
def s183 (D:Dyn)(n:Nat):Tb:=⟨X,[(123,f123 D n)]⟩
def f183j0 (D:Dyn)(n:Nat)(vs:List AV)(H:AH):Rs:=
 hd vs fun x1_4 vs=>hd vs fun x3_3 vs=>hd vs fun x4_3 vs=>hd vs fun x5_3 vs=>hd vs fun x6 vs=>hd vs fun x20_2 vs=>hd vs fun x21_2 vs=>
 bV (bInt .gtr x6 (.int .i64 (.ofNat 0))) fun x47=>
 jn (wnt x47 true (bV (bInt .gtr x5_3 x3_3) fun x51=>
 some (.norm [x51],H)) (some (.norm [undefA],H))) fun vs H=>hd vs fun x51_2 vs=>
 bV (pk3 (some x47) (some x51_2) (some (.bool false))) fun x52=>
 cnd x52 (bV (some x6) fun x2=>some (.ret x2,H))
 (bV (bInt .add x21_2 (.int .i64 (.ofNat 1))) fun x54=>
 some (.norm [x1_4,x3_3,x4_3,x5_3,x20_2,x54],H))
def f183l1 (D:Dyn)(n:Nat)(vs:List AV)(H:AH):Rs:=
 hd vs fun x1_3 vs=>hd vs fun x3_2 vs=>hd vs fun x4_2 vs=>hd vs fun x5_2 vs=>hd vs fun x20 vs=>hd vs fun x21 vs=>
 bV (bInt .lss x21 x20) fun x22=>
 cnd x22 (bV (fAd 1 x1_3) fun x25=>
 bV (ld1 x25 H) fun x26=>
 bV (ixSl 1 x26 x21) fun x28=>
 bV (ld1 x28 H) fun x29=>
 bV (lnStr x29) fun x30=>
 bV (bInt .add (.int .i64 (.ofNat 1)) x30) fun x31=>
 bV (bInt .add x5_2 x31) fun x32=>
 bV (fAd 0 x1_3) fun x33=>
 bV (ld1 x33 H) fun x34=>
 jn (cnd x34 (bV (fAd 2 x1_3) fun x36=>
 bV (ld1 x36 H) fun x37=>
 bV (ixSl 1 x37 x21) fun x39=>
 bV (ld1 x39 H) fun x40=>
 bV (lnStr x40) fun x41=>
 bV (bInt .add (.int .i64 (.ofNat 1)) x41) fun x42=>
 bV (bInt .add x32 x42) fun x43=>
 some (.norm [x1_3,x3_2,x4_2,x43,x21,x20,x21],H))
 (bV (bInt .add x32 (.int .i64 (.ofNat 16))) fun x45=>
 some (.norm [x1_3,x3_2,x4_2,x45,x21,x20,x21],H))) (f183j0 D n))
 (some (.exit 0 [x4_2],H))
def f183b2 (D:Dyn)(n:Nat)(vs:List AV)(H:AH):Rs:=
 hd vs fun x4_4 vs=>
 bV (some x4_4) fun x2_2=>some (.ret x2_2,H)
def f183j3 (D:Dyn)(n:Nat)(vs:List AV)(H:AH):Rs:=
 hd vs fun x1_2 vs=>hd vs fun x3 vs=>hd vs fun x4 vs=>hd vs fun x5 vs=>
 jb 0 (loopK n (f183l1 D n) [x1_2,x3,x4,x5,x4,(.int .i64 (.ofNat 0))] H) (f183b2 D n)
def f183 (D:Dyn)(n:Nat)(vs:List AV)(H:AH):Option (AV×AH):=
 outR (hd vs fun x0 vs=>nl vs <|
 bA (bxV 133 x0) H fun x1 H=>
 bV (ldN 4 x1 H) fun x7=>
 bR (f123 D n [x7] H) fun x8 H=>
 bV (bInt .sub x8 (.int .i64 (.ofNat 2))) fun x9=>
 bV (bInt .quo x9 (.int .i64 (.ofNat 2))) fun x10=>
 bV (fAd 1 x1) fun x11=>
 bV (ld1 x11 H) fun x12=>
 bV (lnSl x12) fun x13=>
 bV (bInt .sub x13 (.int .i64 (.ofNat 1))) fun x14=>
 bV (fAd 0 x1) fun x15=>
 bV (ld1 x15 H) fun x16=>
 bV (aun .not x16) fun x17=>
 jn (cnd x17 (bV (bInt .sub x14 (.int .i64 (.ofNat 1))) fun x19=>
 some (.norm [x1,x10,x19,(.int .i64 (.ofNat 16))],H))
 (some (.norm [x1,x10,x14,(.int .i64 (.ofNat 0))],H))) (f183j3 D n))
def h183:Hint:=(.s .o (.s .o (.s .o (.s .o (.s (.s .o (.c [1,3,4,5] (.s .o .o) .o)) (.s (.s .o (.b [4] (.l [1,3,4,5,20,21] (.s .o (.s (.cr .o .o) (.s (.b0 (.s .o (.s .o (.s (.s .o (.c [1,3,4,5,6,20,21] .o .o)) (.s .o (.cl (.s .o .o) .o)))))) .o)))))) (.s .o .o)))))))
theorem f183_eq (D:Dyn)(n:Nat):f183 D n=funK (s183 D n) D n 183 Tryz.f183 h183:=by kernel_rfl
theorem f183_ok {D:Dyn}(hD:DG D)(n:Nat):FI 183 (f183 D n):=fun_ok X_ok hD (SOk.cons (f123_ok hD n).fs (SOk.nil)) Tryz.func183 (by kernel_rfl) (f183_eq D n)
def s167 (D:Dyn)(n:Nat):Tb:=⟨X,[(107,f107 D n),(183,f183 D n),(109,f109 D n),(77,f77 D n)]⟩
def f167j0 (D:Dyn)(n:Nat)(vs:List AV)(H:AH):Rs:=
 hd vs fun x1_2 vs=>hd vs fun x2_2 vs=>hd vs fun x4_2 vs=>hd vs fun x6 vs=>
 bV (ldN 4 x2_2 H) fun x88=>
 bV (fAd 1 x1_2) fun x89=>
 bV (ld1 x89 H) fun x90=>
 bV (ixSl 1 x90 x6) fun x92=>
 bV (ld1 x92 H) fun x93=>
 bV (ldN 4 x4_2 H) fun x94=>
 bR (stN 4 x2_2 x88 H) fun x9999_12 H=>chk (ld1 x89 H) x90 <| chk (ld1 x92 H) x93 <| chk (ldN 4 x4_2 H) x94 <|
 bR (stN 4 x4_2 x94 H) fun x9999_13 H=>
 bV (ldN 4 x2_2 H) fun x9002_2=>bV (some x93) fun x3_2=>bV (ldN 4 x4_2 H) fun x9004_2=>bV (some (.int .i64 (.ofNat 0))) fun x5_2=>some (.ret (.tuple [x9002_2,x3_2,x9004_2,x5_2]),H)
def f167 (D:Dyn)(n:Nat)(vs:List AV)(H:AH):Option (AV×AH):=
 outR (hd vs fun x0 vs=>nl vs <|
 bA (bxV 133 x0) H fun x1 H=>
 bA (bxV 133 (.agg [(.bool false), .nilSlice, .nilSlice, .nilSlice])) H fun x2 H=>
 bA (bxV 133 (.agg [(.bool false), .nilSlice, .nilSlice, .nilSlice])) H fun x4 H=>
 bV (ldN 4 x1 H) fun x7=>
 bR (f107 D n [x7] H) fun x8 H=>
 bV (aun .not x8) fun x9=>
 jn (wnt x9 false (bV (fAd 1 x1) fun x11=>
 bV (ld1 x11 H) fun x12=>
 bV (lnSl x12) fun x13=>
 bV (bInt .lss x13 (.int .i64 (.ofNat 2))) fun x14=>
 some (.norm [x14],H)) (some (.norm [undefA],H))) fun vs H=>hd vs fun x14_2 vs=>
 bV (pk3 (some x9) (some (.bool true)) (some x14_2)) fun x15=>
 jn (wnt x15 false (bV (fAd 0 x1) fun x17=>
 bV (ld1 x17 H) fun x18=>
 bV (aun .not x18) fun x19=>
 some (.norm [x19],H)) (some (.norm [undefA],H))) fun vs H=>hd vs fun x20 vs=>
 jn (wnt x20 true (bV (fAd 1 x1) fun x21=>
 bV (ld1 x21 H) fun x22=>
 bV (lnSl x22) fun x23=>
 bV (bInt .lss x23 (.int .i64 (.ofNat 3))) fun x24=>
 some (.norm [x24],H)) (some (.norm [undefA],H))) fun vs H=>hd vs fun x24_2 vs=>
 jn (wnt x15 false (bV (pk3 (some x20) (some x24_2) (some (.bool false))) fun x25=>
 some (.norm [x25],H)) (some (.norm [undefA],H))) fun vs H=>hd vs fun x25_2 vs=>
 bV (pk3 (some x15) (some (.bool true)) (some x25_2)) fun x26=>
 cnd x26 (bV (bldS [(0,1),(1,1),(2,1),(3,1)] [(.bool false), .nilSlice, .nilSlice, .nilSlice] []) fun x27=>
 bV (bldS [(0,1),(1,1),(2,1),(3,1)] [(.bool false), .nilSlice, .nilSlice, .nilSlice] []) fun x28=>
 bR (stN 4 x2 x27 H) fun x9999 H=>
 bR (stN 4 x4 x28 H) fun x9999_2 H=>
 bV (ldN 4 x2 H) fun x9002=>bV (some (.str 0 0)) fun x3=>bV (ldN 4 x4 H) fun x9004=>bV (some (.int .i64 (.ofNat 1))) fun x5=>some (.ret (.tuple [x9002,x3,x9004,x5]),H))
 (bV (ldN 4 x1 H) fun x29=>
 bR (f183 D n [x29] H) fun x30 H=>
 bV (fAd 0 x1) fun x31=>
 bV (ld1 x31 H) fun x32=>
 bV (fAd 0 x1) fun x33=>
 bV (ld1 x33 H) fun x34=>
 bV (fAd 0 x2) fun x35=>
 bR (stN 1 x35 x32 H) fun x9999_3 H=>chk (ld1 x33 H) x34 <|
 bV (fAd 0 x4) fun x36=>
 bR (stN 1 x36 x34 H) fun x9999_4 H=>
 bV (fAd 1 x1) fun x37=>
 bV (ld1 x37 H) fun x38=>
 bV (slSl 1 x38 none (some x30) (some x30) H) fun x41=>
 bR (f109 D n [x41] H) fun x42 H=>
 bV (fAd 1 x2) fun x43=>
 bR (stN 1 x43 x42 H) fun x9999_5 H=>
 bV (fAd 0 x1) fun x44=>
 bV (ld1 x44 H) fun x45=>
 jn (cnd x45 (bV (fAd 1 x1) fun x46=>
 bV (ld1 x46 H) fun x47=>
 bV (slSl 1 x47 (some x30) none none H) fun x49=>
 bR (f109 D n [x49] H) fun x50 H=>
 bV (fAd 1 x4) fun x51=>
 bR (stN 1 x51 x50 H) fun x9999_6 H=>
 bV (fAd 2 x1) fun x52=>
 bV (ld1 x52 H) fun x53=>
 bV (slSl 1 x53 none (some x30) (some x30) H) fun x56=>
 bV (fAd 2 x1) fun x58=>
 bV (ld1 x58 H) fun x59=>
 bV (slSl 1 x59 (some x30) none none H) fun x61=>
 bR (f109 D n [x56] H) fun x57 H=>chk (ld1 x58 H) x59 <| chk (slSl 1 x59 (some x30) none none H) x61 <|
 bV (fAd 2 x2) fun x63=>
 bR (f109 D n [x61] H) fun x62 H=>
 bR (stN 1 x63 x57 H) fun x9999_7 H=>
 bV (fAd 2 x4) fun x64=>
 bR (stN 1 x64 x62 H) fun x9999_8 H=>
 some (.norm [x1,x2,x4,x30],H))
 (bV (fAd 1 x1) fun x65=>
 bV (ld1 x65 H) fun x66=>
 bV (bInt .add x30 (.int .i64 (.ofNat 1))) fun x68=>
 bV (slSl 1 x66 (some x68) none none H) fun x69=>
 bR (f109 D n [x69] H) fun x70 H=>
 bV (fAd 1 x4) fun x71=>
 bR (stN 1 x71 x70 H) fun x9999_9 H=>
 bV (fAd 3 x1) fun x72=>
 bV (ld1 x72 H) fun x73=>
 bV (bInt .add x30 (.int .i64 (.ofNat 1))) fun x75=>
 bV (bInt .add x30 (.int .i64 (.ofNat 1))) fun x77=>
 bV (slSl 3 x73 none (some x75) (some x77) H) fun x78=>
 bV (fAd 3 x1) fun x80=>
 bV (ld1 x80 H) fun x81=>
 bV (bInt .add x30 (.int .i64 (.ofNat 1))) fun x83=>
 bV (slSl 3 x81 (some x83) none none H) fun x84=>
 bR (f77 D n [x78] H) fun x79 H=>chk (ld1 x80 H) x81 <| chk (slSl 3 x81 (some x83) none none H) x84 <|
 bV (fAd 3 x2) fun x86=>
 bR (f77 D n [x84] H) fun x85 H=>
 bR (stN 1 x86 x79 H) fun x9999_10 H=>
 bV (fAd 3 x4) fun x87=>
 bR (stN 1 x87 x85 H) fun x9999_11 H=>
 some (.norm [x1,x2,x4,x30],H))) (f167j0 D n)))
def h167:Hint:=(.s .o (.s (.s .o (.cl (.s .o .o) .o)) (.s .o (.s .o (.s .o (.s (.s .o (.c [1,2,4,6] (.s .o .o) (.s .o .o))) (.s .o .o)))))))
theorem f167_eq (D:Dyn)(n:Nat):f167 D n=funK (s167 D n) D n 167 Tryz.f167 h167:=by kernel_rfl
theorem f167_ok {D:Dyn}(hD:DG D)(n:Nat):FI 167 (f167 D n):=fun_ok X_ok hD (SOk.cons (f107_ok hD n).fs (SOk.cons (f183_ok hD n).fs (SOk.cons (f109_ok hD n).fs (SOk.cons (f77_ok hD n).fs (SOk.nil))))) Tryz.func167 (by kernel_rfl) (f167_eq D n)
def s139 (D:Dyn)(n:Nat):Tb:=⟨X,[(123,f123 D n),(167,f167 D n)]⟩
def f139l0 (D:Dyn)(n:Nat)(vs:List AV)(H:AH):Rs:=
 hd vs fun x1_2 vs=>hd vs fun x5 vs=>hd vs fun x6 vs=>
 bV (ldN 4 x1_2 H) fun x11=>
 bR (f123 D n [x11] H) fun x12 H=>
 bV (bInt .gtr x12 (.int .i64 (.ofNat 500))) fun x13=>
 cnd x13 (bV (ldN 4 x1_2 H) fun x15=>
 bR (f167 D n [x15] H) fun x16 H=>
 bV (pExtract x16 0) fun x17=>
 bV (pExtract x16 1) fun x18=>
 bV (pExtract x16 2) fun x19=>
 bV (pExtract x16 3) fun x20=>
 bA (bxV 133 (.agg [(.bool false), .nilSlice, .nilSlice, .nilSlice])) H fun x7 H=>
 bA (bxV 133 (.agg [(.bool false), .nilSlice, .nilSlice, .nilSlice])) H fun x9 H=>
 bR (stN 4 x7 x17 H) fun x9999 H=>
 bR (stN 4 x9 x19 H) fun x9999_2 H=>
 bV (bInt .neq x20 (.int .i64 (.ofNat 0))) fun x22=>
 cnd x22 (bV (some .nilSlice) fun x2=>bV (some .nilSlice) fun x3=>bV (some (.int .i64 (.ofNat 4))) fun x4=>some (.ret (.tuple [x2,x3,x4]),H))
 (bV (ldN 4 x7 H) fun x24=>
 bA (bldL 133 4 1 [(.bool false), .nilSlice, .nilSlice, .nilSlice] [(0,x24)]) H fun x25 H=>
 bR (apP 133 4 80 x5 x25 H) fun x26 H=>
 bA (bldL 9 1 1 [(.str 0 0)] [(0,x18)]) H fun x29 H=>
 bR (apP 9 1 16 x6 x29 H) fun x30 H=>
 bV (ldN 4 x9 H) fun x31=>
 bR (stN 4 x1_2 x31 H) fun x9999_3 H=>
 some (.norm [x1_2,x26,x30],H)))
 (some (.exit 0 [x1_2,x5,x6],H))
def f139b1 (D:Dyn)(n:Nat)(vs:List AV)(H:AH):Rs:=
 hd vs fun x1_3 vs=>hd vs fun x5_2 vs=>hd vs fun x6_2 vs=>
 bV (ldN 4 x1_3 H) fun x33=>
 bA (bldL 133 4 1 [(.bool false), .nilSlice, .nilSlice, .nilSlice] [(0,x33)]) H fun x34 H=>
 bR (apP 133 4 80 x5_2 x34 H) fun x35 H=>
 bV (some x35) fun x2_2=>bV (some x6_2) fun x3_2=>bV (some (.int .i64 (.ofNat 0))) fun x4_2=>some (.ret (.tuple [x2_2,x3_2,x4_2]),H)
def f139 (D:Dyn)(n:Nat)(vs:List AV)(H:AH):Option (AV×AH):=
 outR (hd vs fun x0 vs=>nl vs <|
 bA (bxV 133 x0) H fun x1 H=>
 jb 0 (loopK n (f139l0 D n) [x1, .nilSlice, .nilSlice] H) (f139b1 D n))
def h139:Hint:=(.s .o (.s .o (.s .o (.s (.b [1,5,6] (.l [1,5,6] (.s (.s .o (.cr .o .o)) (.b0 (.s .o (.s (.s .o (.cl (.s .o .o) .o)) (.s .o (.s .o .o)))))))) (.s .o .o)))))
theorem f139_eq (D:Dyn)(n:Nat):f139 D n=funK (s139 D n) D n 139 Tryz.f139 h139:=by kernel_rfl
theorem f139_ok {D:Dyn}(hD:DG D)(n:Nat):FI 139 (f139 D n):=fun_ok X_ok hD (SOk.cons (f123_ok hD n).fs (SOk.cons (f167_ok hD n).fs (SOk.nil))) Tryz.func139 (by kernel_rfl) (f139_eq D n)
def s141 (D:Dyn)(n:Nat):Tb:=⟨X,[(102,f102 D n)]⟩
def f141l0 (D:Dyn)(n:Nat)(vs:List AV)(H:AH):Rs:=
 hd vs fun x0_2 vs=>hd vs fun x5 vs=>hd vs fun x8 vs=>hd vs fun x9_2 vs=>hd vs fun x10 vs=>
 bV (bInt .lss x10 x9_2) fun x11=>
 cnd x11 (bV (ixSl 4 x8 x10) fun x12=>
 bV (ldN 4 x12 H) fun x13=>
 bA (bxV 133 (.agg [(.bool false), .nilSlice, .nilSlice, .nilSlice])) H fun x7 H=>
 bR (stN 4 x7 x13 H) fun x9999 H=>
 bV (ldN 4 x7 H) fun x16=>
 bR (f102 D n [x0_2,x16] H) fun x17 H=>
 bA (bldL 72 3 1 [(.int .i64 (.ofNat 0)),(.int .i64 (.ofNat 0)),(.int .u64 (.ofNat 0))] [(0,x17)]) H fun x18 H=>
 bR (apP 72 3 24 x5 x18 H) fun x19 H=>
 bV (bInt .add x10 (.int .i64 (.ofNat 1))) fun x20=>
 some (.norm [x0_2,x19,x8,x9_2,x20],H))
 (some (.exit 0 [x5],H))
def f141b1 (D:Dyn)(n:Nat)(vs:List AV)(H:AH):Rs:=
 hd vs fun x5_2 vs=>
 bV (some x5_2) fun x4=>some (.ret x4,H)
def f141 (D:Dyn)(n:Nat)(vs:List AV)(H:AH):Option (AV×AH):=
 outR (hd vs fun x0 vs=>hd vs fun x1 vs=>nl vs <|
 bV (lnSl x1) fun x9=>
 jb 0 (loopK n (f141l0 D n) [x0, .nilSlice,x1,x9,(.int .i64 (.ofNat 0))] H) (f141b1 D n))
def h141:Hint:=(.s .o (.s .o (.s (.s .o (.b [5] (.l [0,5,8,9,10] (.s .o (.s (.cr .o .o) (.s (.b0 (.s .o .o)) .o)))))) (.s .o .o))))
theorem f141_eq (D:Dyn)(n:Nat):f141 D n=funK (s141 D n) D n 141 Tryz.f141 h141:=by kernel_rfl
theorem f141_ok {D:Dyn}(hD:DG D)(n:Nat):FI 141 (f141 D n):=fun_ok X_ok hD (SOk.cons (f102_ok hD n).fs (SOk.nil)) Tryz.func141 (by kernel_rfl) (f141_eq D n)
def s106 (D:Dyn)(n:Nat):Tb:=⟨X,[(101,f101 D n),(139,f139 D n),(141,f141 D n),(102,f102 D n)]⟩
def f106j0 (D:Dyn)(n:Nat)(vs:List AV)(H:AH):Rs:=
 bV (some (.int .i64 (.ofNat 0))) fun x4=>some (.ret x4,H)
def f106j1 (D:Dyn)(n:Nat)(vs:List AV)(H:AH):Rs:=
 bV (some (.int .i64 (.ofNat 0))) fun x4_3=>some (.ret x4_3,H)
def f106 (D:Dyn)(n:Nat)(vs:List AV)(H:AH):Option (AV×AH):=
 outR (hd vs fun x0 vs=>hd vs fun x1 vs=>nl vs <|
 bA (bxV 133 x1) H fun x3 H=>
 bV (fAd 1 x3) fun x9=>
 bV (ld1 x9 H) fun x10=>
 bV (lnSl x10) fun x11=>
 bV (bInt .eql x11 (.int .i64 (.ofNat 0))) fun x12=>
 cnd x12 (bV (fAd 0 x3) fun x13=>
 bV (ld1 x13 H) fun x14=>
 jn (cnd x14 (bV (bldS [(0,1),(1,1),(2,1)] [(.int .i64 (.ofNat 0)),(.int .i64 (.ofNat 0)),(.int .u64 (.ofNat 0))] []) fun x16=>
 bR (f101 D n [x0,x16] H) fun x17 H=>
 some (.norm [],H))
 (bV (fAd 3 x3) fun x19=>
 bV (ld1 x19 H) fun x20=>
 bV (ixSl 3 x20 (.int .i64 (.ofNat 0))) fun x21=>
 bV (ldN 3 x21 H) fun x22=>
 bR (f101 D n [x0,x22] H) fun x23 H=>
 some (.norm [],H))) (f106j0 D n))
 (bV (ldN 4 x3 H) fun x25=>
 bR (f139 D n [x25] H) fun x26 H=>
 bV (pExtract x26 0) fun x27=>
 bV (pExtract x26 1) fun x28=>
 bV (pExtract x26 2) fun x29=>
 bV (bInt .neq x29 (.int .i64 (.ofNat 0))) fun x31=>
 cnd x31 (bV (some x29) fun x4_2=>some (.ret x4_2,H))
 (bR (f141 D n [x0,x27] H) fun x35 H=>
 bV (lnSl x35) fun x37=>
 bV (bInt .eql x37 (.int .i64 (.ofNat 1))) fun x38=>
 jn (cnd x38 (bV (ixSl 3 x35 (.int .i64 (.ofNat 0))) fun x41=>
 bV (ldN 3 x41 H) fun x42=>
 bR (f101 D n [x0,x42] H) fun x43 H=>
 some (.norm [],H))
 (bV (bldS [(0,1),(1,1),(2,1),(3,1)] [(.bool false), .nilSlice, .nilSlice, .nilSlice] [(1,x28),(3,x35)]) fun x48=>
 bR (f102 D n [x0,x48] H) fun x49 H=>
 bR (f101 D n [x0,x49] H) fun x50 H=>
 some (.norm [],H))) (f106j1 D n))))
def h106:Hint:=(.s .o (.s (.s .o (.cl (.s (.s .o (.c [] .o .o)) (.s .o .o)) .o)) (.s .o (.s (.s .o (.cl (.s .o .o) .o)) (.s .o (.s (.s .o (.c [] .o .o)) (.s .o .o)))))))
theorem f106_eq (D:Dyn)(n:Nat):f106 D n=funK (s106 D n) D n 106 Tryz.f106 h106:=by kernel_rfl
theorem f106_ok {D:Dyn}(hD:DG D)(n:Nat):FI 106 (f106 D n):=fun_ok X_ok hD (SOk.cons (f101_ok hD n).fs (SOk.cons (f139_ok hD n).fs (SOk.cons (f141_ok hD n).fs (SOk.cons (f102_ok hD n).fs (SOk.nil))))) Tryz.func106 (by kernel_rfl) (f106_eq D n)
def s68 (D:Dyn)(n:Nat):Tb:=⟨X,[]⟩
def f68 (D:Dyn)(n:Nat)(vs:List AV)(H:AH):Option (AV×AH):=
 outR (hd vs fun x0 vs=>nl vs <|
 bV (pNil x0) fun x4=>
 bV (fAd 5 x4) fun x5=>
 bV (ld1 x5 H) fun x6=>
 bV (lnMap x6 H) fun x7=>
 bV (bInt .add (.int .i64 (.ofNat 8192)) x7) fun x8=>
 bV (some x8) fun x2=>some (.ret x2,H))
def h68:Hint:=(.s .o (.s .o .o))
theorem f68_eq (D:Dyn)(n:Nat):f68 D n=funK (s68 D n) D n 68 Tryz.f68 h68:=by kernel_rfl
theorem f68_ok {D:Dyn}(hD:DG D)(n:Nat):FI 68 (f68 D n):=fun_ok X_ok hD (SOk.nil) Tryz.func68 (by kernel_rfl) (f68_eq D n)
def s105 (D:Dyn)(n:Nat):Tb:=⟨X,[]⟩
def f105 (D:Dyn)(n:Nat)(vs:List AV)(H:AH):Option (AV×AH):=
 outR (hd vs fun x0 vs=>hd vs fun x1 vs=>nl vs <|
 bA (bxV 72 x1) H fun x3 H=>
 bV (pNil x0) fun x6=>
 bV (fAd 3 x6) fun x7=>
 bV (ld1 x7 H) fun x8=>
 bV (ldN 3 x3 H) fun x9=>
 bA (bldL 72 3 1 [(.int .i64 (.ofNat 0)),(.int .i64 (.ofNat 0)),(.int .u64 (.ofNat 0))] [(0,x9)]) H fun x10 H=>
 bR (apP 72 3 24 x8 x10 H) fun x11 H=>
 bV (pNil x0) fun x12=>
 bV (fAd 3 x12) fun x13=>
 bR (stN 1 x13 x11 H) fun x9999 H=>
 some (.ret (.tuple []),H))
def h105:Hint:=(.s .o .o)
theorem f105_eq (D:Dyn)(n:Nat):f105 D n=funK (s105 D n) D n 105 Tryz.f105 h105:=by kernel_rfl
theorem f105_ok {D:Dyn}(hD:DG D)(n:Nat):FI 105 (f105 D n):=fun_ok X_ok hD (SOk.nil) Tryz.func105 (by kernel_rfl) (f105_eq D n)
def s166 (D:Dyn)(n:Nat):Tb:=⟨X,[(108,f108 D n)]⟩
def f166 (D:Dyn)(n:Nat)(vs:List AV)(H:AH):Option (AV×AH):=
 outR (hd vs fun x0 vs=>hd vs fun x1 vs=>hd vs fun x2 vs=>nl vs <|
 bA (bxV 133 x0) H fun x3 H=>
 bA (bxV 133 x2) H fun x5 H=>
 bR (f108 D n [x1] H) fun x9 H=>
 bV (aun .not x9) fun x10=>
 jn (wnt x10 false (bV (fAd 0 x3) fun x12=>
 bV (ld1 x12 H) fun x13=>
 bV (fAd 0 x5) fun x14=>
 bV (ld1 x14 H) fun x15=>
 bV (bBool .neq x13 x15) fun x16=>
 some (.norm [x16],H)) (some (.norm [undefA],H))) fun vs H=>hd vs fun x16_2 vs=>
 bV (pk3 (some x10) (some (.bool true)) (some x16_2)) fun x17=>
 cnd x17 (bV (some (.bool false)) fun x6=>some (.ret x6,H))
 (bV (fAd 1 x3) fun x18=>
 bV (ld1 x18 H) fun x19=>
 bV (lnSl x19) fun x20=>
 bV (bInt .gtr x20 (.int .i64 (.ofNat 0))) fun x22=>
 jn (wnt x22 true (bV (fAd 1 x3) fun x24=>
 bV (ld1 x24 H) fun x25=>
 bV (bInt .sub x20 (.int .i64 (.ofNat 1))) fun x27=>
 bV (ixSl 1 x25 x27) fun x28=>
 bV (ld1 x28 H) fun x29=>
 bV (bStr .geq x29 x1) fun x31=>
 some (.norm [x31],H)) (some (.norm [undefA],H))) fun vs H=>hd vs fun x31_2 vs=>
 bV (pk3 (some x22) (some x31_2) (some (.bool false))) fun x32=>
 cnd x32 (bV (some (.bool false)) fun x6_2=>some (.ret x6_2,H))
 (bV (fAd 1 x5) fun x33=>
 bV (ld1 x33 H) fun x34=>
 bV (lnSl x34) fun x35=>
 bV (bInt .eql x35 (.int .i64 (.ofNat 0))) fun x36=>
 cnd x36 (bV (some (.bool true)) fun x6_3=>some (.ret x6_3,H))
 (bV (fAd 1 x5) fun x38=>
 bV (ld1 x38 H) fun x39=>
 bV (ixSl 1 x39 (.int .i64 (.ofNat 0))) fun x40=>
 bV (ld1 x40 H) fun x41=>
 bV (bStr .lss x1 x41) fun x42=>
 jn (wnt x42 false (bV (fAd 0 x3) fun x44=>
 bV (ld1 x44 H) fun x45=>
 some (.norm [x45],H)) (some (.norm [undefA],H))) fun vs H=>hd vs fun x46 vs=>
 jn (wnt x46 true (bV (fAd 1 x5) fun x48=>
 bV (ld1 x48 H) fun x49=>
 bV (ixSl 1 x49 (.int .i64 (.ofNat 0))) fun x50=>
 bV (ld1 x50 H) fun x51=>
 bV (bStr .eql x1 x51) fun x52=>
 some (.norm [x52],H)) (some (.norm [undefA],H))) fun vs H=>hd vs fun x52_2 vs=>
 jn (wnt x42 false (bV (pk3 (some x46) (some x52_2) (some (.bool false))) fun x53=>
 some (.norm [x53],H)) (some (.norm [undefA],H))) fun vs H=>hd vs fun x53_2 vs=>
 bV (pk3 (some x42) (some (.bool true)) (some x53_2)) fun x54=>
 bV (some x54) fun x6_4=>some (.ret x6_4,H)))))
def h166:Hint:=(.s .o (.s (.s .o (.cl (.s .o .o) .o)) (.s (.s .o (.s .o (.cl (.s .o .o) .o))) (.s (.s .o (.cl (.s .o .o) .o)) (.s .o .o)))))
theorem f166_eq (D:Dyn)(n:Nat):f166 D n=funK (s166 D n) D n 166 Tryz.f166 h166:=by kernel_rfl
theorem f166_ok {D:Dyn}(hD:DG D)(n:Nat):FI 166 (f166 D n):=fun_ok X_ok hD (SOk.cons (f108_ok hD n).fs (SOk.nil)) Tryz.func166 (by kernel_rfl) (f166_eq D n)
def s144 (D:Dyn)(n:Nat):Tb:=⟨X,[]⟩
def f144j0 (D:Dyn)(n:Nat)(vs:List AV)(H:AH):Rs:=
 hd vs fun x0_3 vs=>
 bV (some x0_3) fun x4=>some (.ret x4,H)
def f144j1 (D:Dyn)(n:Nat)(vs:List AV)(H:AH):Rs:=
 hd vs fun x0_2 vs=>hd vs fun x1_2 vs=>
 bV (acap X 37 x0_2) fun x10=>
 bV (lnSl x0_2) fun x12=>
 bV (bInt .sub x10 x12) fun x13=>
 bV (bInt .sub x1_2 x13) fun x14=>
 bV (bInt .gtr x14 (.int .i64 (.ofNat 0))) fun x16=>
 jn (cnd x16 (bV (acap X 37 x0_2) fun x19=>
 bV (slSl 1 x0_2 none (some x19) none H) fun x20=>
 bR (apZ 9 1 16 [(.str 0 0)] x20 x14 H) fun x22 H=>
 bV (lnSl x0_2) fun x24=>
 bV (slSl 1 x22 none (some x24) none H) fun x25=>
 some (.norm [x25],H))
 (some (.norm [x0_2],H))) (f144j0 D n)
def f144 (D:Dyn)(n:Nat)(vs:List AV)(H:AH):Option (AV×AH):=
 outR (hd vs fun x0 vs=>hd vs fun x1 vs=>nl vs <|
 bV (bInt .lss x1 (.int .i64 (.ofNat 0))) fun x6=>
 jn (cnd x6 (none)
 (some (.norm [x0,x1],H))) (f144j1 D n))
def h144:Hint:=(.s .o (.s (.s .o (.c [0,1] .o .o)) (.s (.s .o (.s .o (.c [0] .o .o))) (.s .o .o))))
theorem f144_eq (D:Dyn)(n:Nat):f144 D n=funK (s144 D n) D n 144 Tryz.f144 h144:=by kernel_rfl
theorem f144_ok {D:Dyn}(hD:DG D)(n:Nat):FI 144 (f144 D n):=fun_ok X_ok hD (SOk.nil) Tryz.func144 (by kernel_rfl) (f144_eq D n)
def s111 (D:Dyn)(n:Nat):Tb:=⟨X,[(144,f144 D n)]⟩
def f111j0 (D:Dyn)(n:Nat)(vs:List AV)(H:AH):Rs:=
 hd vs fun x0_3 vs=>hd vs fun x3_2 vs=>hd vs fun x9_2 vs=>hd vs fun x10_3 vs=>hd vs fun x11_2 vs=>
 bV (bInt .add x11_2 (.int .i64 (.ofNat 1))) fun x22=>
 some (.norm [x0_3,x3_2,x9_2,x10_3,x22],H)
def f111l1 (D:Dyn)(n:Nat)(vs:List AV)(H:AH):Rs:=
 hd vs fun x0_2 vs=>hd vs fun x3 vs=>hd vs fun x9 vs=>hd vs fun x10_2 vs=>hd vs fun x11 vs=>
 bV (bInt .lss x11 x10_2) fun x12=>
 cnd x12 (bV (ixSl 1 x9 x11) fun x13=>
 bV (ld1 x13 H) fun x14=>
 bV (lnSl x14) fun x17=>
 bV (bInt .add x3 x17) fun x18=>
 bV (bInt .lss x18 (.int .i64 (.ofNat 0))) fun x20=>
 jn (cnd x20 (none)
 (some (.norm [x0_2,x18,x9,x10_2,x11],H))) (f111j0 D n))
 (some (.exit 0 [x0_2,x3],H))
def f111l2 (D:Dyn)(n:Nat)(vs:List AV)(H:AH):Rs:=
 hd vs fun x6 vs=>hd vs fun x25 vs=>hd vs fun x26_2 vs=>hd vs fun x27 vs=>
 bV (bInt .lss x27 x26_2) fun x28=>
 cnd x28 (bV (ixSl 1 x25 x27) fun x29=>
 bV (ld1 x29 H) fun x30=>
 bR (apP 9 1 16 x6 x30 H) fun x33 H=>
 bV (bInt .add x27 (.int .i64 (.ofNat 1))) fun x34=>
 some (.norm [x33,x25,x26_2,x34],H))
 (some (.exit 2 [x6],H))
def f111b3 (D:Dyn)(n:Nat)(vs:List AV)(H:AH):Rs:=
 hd vs fun x6_2 vs=>
 bV (some x6_2) fun x2=>some (.ret x2,H)
def f111b4 (D:Dyn)(n:Nat)(vs:List AV)(H:AH):Rs:=
 hd vs fun x0_4 vs=>hd vs fun x3_3 vs=>
 bR (f144 D n [.nilSlice,x3_3] H) fun x24 H=>
 bV (lnSl x0_4) fun x26=>
 jb 2 (loopK n (f111l2 D n) [x24,x0_4,x26,(.int .i64 (.ofNat 0))] H) (f111b3 D n)
def f111 (D:Dyn)(n:Nat)(vs:List AV)(H:AH):Option (AV×AH):=
 outR (hd vs fun x0 vs=>nl vs <|
 bV (lnSl x0) fun x10=>
 jb 0 (loopK n (f111l1 D n) [x0,(.int .i64 (.ofNat 0)),x0,x10,(.int .i64 (.ofNat 0))] H) (f111b4 D n))
def h111:Hint:=(.s .o (.s .o (.s (.s .o (.b [0,3] (.l [0,3,9,10,11] (.s .o (.s (.cr .o .o) (.s (.b0 (.s .o (.s .o (.s .o (.c [0,3,9,10,11] .o .o))))) .o)))))) (.s .o (.s (.s .o (.b [6] (.l [6,25,26,27] (.s .o (.s (.cr .o .o) (.s (.b0 (.s .o .o)) .o)))))) (.s .o .o))))))
theorem f111_eq (D:Dyn)(n:Nat):f111 D n=funK (s111 D n) D n 111 Tryz.f111 h111:=by kernel_rfl
theorem f111_ok {D:Dyn}(hD:DG D)(n:Nat):FI 111 (f111 D n):=fun_ok X_ok hD (SOk.cons (f144_ok hD n).fs (SOk.nil)) Tryz.func111 (by kernel_rfl) (f111_eq D n)
def s168 (D:Dyn)(n:Nat):Tb:=⟨X,[]⟩
def f168j0 (D:Dyn)(n:Nat)(vs:List AV)(H:AH):Rs:=
 hd vs fun x0_3 vs=>
 bV (some x0_3) fun x4=>some (.ret x4,H)
def f168j1 (D:Dyn)(n:Nat)(vs:List AV)(H:AH):Rs:=
 hd vs fun x0_2 vs=>hd vs fun x1_2 vs=>
 bV (acap X 77 x0_2) fun x10=>
 bV (lnSl x0_2) fun x12=>
 bV (bInt .sub x10 x12) fun x13=>
 bV (bInt .sub x1_2 x13) fun x14=>
 bV (bInt .gtr x14 (.int .i64 (.ofNat 0))) fun x16=>
 jn (cnd x16 (bV (acap X 77 x0_2) fun x19=>
 bV (slSl 3 x0_2 none (some x19) none H) fun x20=>
 bR (apZ 72 3 24 [(.int .i64 (.ofNat 0)),(.int .i64 (.ofNat 0)),(.int .u64 (.ofNat 0))] x20 x14 H) fun x22 H=>
 bV (lnSl x0_2) fun x24=>
 bV (slSl 3 x22 none (some x24) none H) fun x25=>
 some (.norm [x25],H))
 (some (.norm [x0_2],H))) (f168j0 D n)
def f168 (D:Dyn)(n:Nat)(vs:List AV)(H:AH):Option (AV×AH):=
 outR (hd vs fun x0 vs=>hd vs fun x1 vs=>nl vs <|
 bV (bInt .lss x1 (.int .i64 (.ofNat 0))) fun x6=>
 jn (cnd x6 (none)
 (some (.norm [x0,x1],H))) (f168j1 D n))
def h168:Hint:=(.s .o (.s (.s .o (.c [0,1] .o .o)) (.s (.s .o (.s .o (.c [0] .o .o))) (.s .o .o))))
theorem f168_eq (D:Dyn)(n:Nat):f168 D n=funK (s168 D n) D n 168 Tryz.f168 h168:=by kernel_rfl
theorem f168_ok {D:Dyn}(hD:DG D)(n:Nat):FI 168 (f168 D n):=fun_ok X_ok hD (SOk.nil) Tryz.func168 (by kernel_rfl) (f168_eq D n)
def s140 (D:Dyn)(n:Nat):Tb:=⟨X,[(168,f168 D n)]⟩
def f140j0 (D:Dyn)(n:Nat)(vs:List AV)(H:AH):Rs:=
 hd vs fun x0_3 vs=>hd vs fun x3_2 vs=>hd vs fun x9_2 vs=>hd vs fun x10_3 vs=>hd vs fun x11_2 vs=>
 bV (bInt .add x11_2 (.int .i64 (.ofNat 1))) fun x22=>
 some (.norm [x0_3,x3_2,x9_2,x10_3,x22],H)
def f140l1 (D:Dyn)(n:Nat)(vs:List AV)(H:AH):Rs:=
 hd vs fun x0_2 vs=>hd vs fun x3 vs=>hd vs fun x9 vs=>hd vs fun x10_2 vs=>hd vs fun x11 vs=>
 bV (bInt .lss x11 x10_2) fun x12=>
 cnd x12 (bV (ixSl 1 x9 x11) fun x13=>
 bV (ld1 x13 H) fun x14=>
 bV (lnSl x14) fun x17=>
 bV (bInt .add x3 x17) fun x18=>
 bV (bInt .lss x18 (.int .i64 (.ofNat 0))) fun x20=>
 jn (cnd x20 (none)
 (some (.norm [x0_2,x18,x9,x10_2,x11],H))) (f140j0 D n))
 (some (.exit 0 [x0_2,x3],H))
def f140l2 (D:Dyn)(n:Nat)(vs:List AV)(H:AH):Rs:=
 hd vs fun x6 vs=>hd vs fun x25 vs=>hd vs fun x26_2 vs=>hd vs fun x27 vs=>
 bV (bInt .lss x27 x26_2) fun x28=>
 cnd x28 (bV (ixSl 1 x25 x27) fun x29=>
 bV (ld1 x29 H) fun x30=>
 bR (apP 72 3 24 x6 x30 H) fun x33 H=>
 bV (bInt .add x27 (.int .i64 (.ofNat 1))) fun x34=>
 some (.norm [x33,x25,x26_2,x34],H))
 (some (.exit 2 [x6],H))
def f140b3 (D:Dyn)(n:Nat)(vs:List AV)(H:AH):Rs:=
 hd vs fun x6_2 vs=>
 bV (some x6_2) fun x2=>some (.ret x2,H)
def f140b4 (D:Dyn)(n:Nat)(vs:List AV)(H:AH):Rs:=
 hd vs fun x0_4 vs=>hd vs fun x3_3 vs=>
 bR (f168 D n [.nilSlice,x3_3] H) fun x24 H=>
 bV (lnSl x0_4) fun x26=>
 jb 2 (loopK n (f140l2 D n) [x24,x0_4,x26,(.int .i64 (.ofNat 0))] H) (f140b3 D n)
def f140 (D:Dyn)(n:Nat)(vs:List AV)(H:AH):Option (AV×AH):=
 outR (hd vs fun x0 vs=>nl vs <|
 bV (lnSl x0) fun x10=>
 jb 0 (loopK n (f140l1 D n) [x0,(.int .i64 (.ofNat 0)),x0,x10,(.int .i64 (.ofNat 0))] H) (f140b4 D n))
def h140:Hint:=(.s .o (.s .o (.s (.s .o (.b [0,3] (.l [0,3,9,10,11] (.s .o (.s (.cr .o .o) (.s (.b0 (.s .o (.s .o (.s .o (.c [0,3,9,10,11] .o .o))))) .o)))))) (.s .o (.s (.s .o (.b [6] (.l [6,25,26,27] (.s .o (.s (.cr .o .o) (.s (.b0 (.s .o .o)) .o)))))) (.s .o .o))))))
theorem f140_eq (D:Dyn)(n:Nat):f140 D n=funK (s140 D n) D n 140 Tryz.f140 h140:=by kernel_rfl
theorem f140_ok {D:Dyn}(hD:DG D)(n:Nat):FI 140 (f140 D n):=fun_ok X_ok hD (SOk.cons (f168_ok hD n).fs (SOk.nil)) Tryz.func140 (by kernel_rfl) (f140_eq D n)
def s138 (D:Dyn)(n:Nat):Tb:=⟨X,[(107,f107 D n),(166,f166 D n),(111,f111 D n),(140,f140 D n)]⟩
def f138 (D:Dyn)(n:Nat)(vs:List AV)(H:AH):Option (AV×AH):=
 outR (hd vs fun x0 vs=>hd vs fun x1 vs=>hd vs fun x2 vs=>nl vs <|
 bA (bxV 133 x0) H fun x3 H=>
 bA (bxV 133 x2) H fun x5 H=>
 bA (bxV 133 (.agg [(.bool false), .nilSlice, .nilSlice, .nilSlice])) H fun x6 H=>
 bV (ldN 4 x3 H) fun x8=>
 bR (f107 D n [x8] H) fun x9 H=>
 bV (aun .not x9) fun x10=>
 jn (wnt x10 false (bV (ldN 4 x5 H) fun x12=>
 bR (f107 D n [x12] H) fun x13 H=>
 bV (aun .not x13) fun x14=>
 some (.norm [x14],H)) (some (.norm [undefA],H))) fun vs H=>hd vs fun x14_2 vs=>
 bV (pk3 (some x10) (some (.bool true)) (some x14_2)) fun x15=>
 jn (wnt x15 false (bV (ldN 4 x3 H) fun x17=>
 bV (ldN 4 x5 H) fun x19=>
 bR (f166 D n [x17,x1,x19] H) fun x20 H=>
 bV (aun .not x20) fun x21=>
 some (.norm [x21],H)) (some (.norm [undefA],H))) fun vs H=>hd vs fun x21_2 vs=>
 bV (pk3 (some x15) (some (.bool true)) (some x21_2)) fun x22=>
 cnd x22 (bV (bldS [(0,1),(1,1),(2,1),(3,1)] [(.bool false), .nilSlice, .nilSlice, .nilSlice] []) fun x23=>
 bR (stN 4 x6 x23 H) fun x9999 H=>
 bV (ldN 4 x6 H) fun x9006=>bV (some (.int .i64 (.ofNat 1))) fun x7=>some (.ret (.tuple [x9006,x7]),H))
 (bV (fAd 0 x3) fun x24=>
 bV (ld1 x24 H) fun x25=>
 cnd x25 (bV (fAd 1 x3) fun x26=>
 bV (ld1 x26 H) fun x27=>
 bV (fAd 1 x5) fun x28=>
 bV (ld1 x28 H) fun x29=>
 bA (bldL 37 1 2 [.nilSlice] [(0,x27),(1,x29)]) H fun x30 H=>
 bV (fAd 2 x3) fun x32=>
 bV (ld1 x32 H) fun x33=>
 bV (fAd 2 x5) fun x34=>
 bV (ld1 x34 H) fun x35=>
 bA (bldL 37 1 2 [.nilSlice] [(0,x33),(1,x35)]) H fun x36 H=>
 bR (f111 D n [x30] H) fun x31 H=>chk (ld1 x32 H) x33 <| chk (ld1 x34 H) x35 <|
 bR (f111 D n [x36] H) fun x37 H=>
 bV (bldS [(0,1),(1,1),(2,1),(3,1)] [(.bool false), .nilSlice, .nilSlice, .nilSlice] [(0,(.bool true)),(1,x31),(2,x37)]) fun x38=>
 bR (stN 4 x6 x38 H) fun x9999_2 H=>
 bV (ldN 4 x6 H) fun x9006_2=>bV (some (.int .i64 (.ofNat 0))) fun x7_2=>some (.ret (.tuple [x9006_2,x7_2]),H))
 (bV (fAd 1 x3) fun x39=>
 bV (ld1 x39 H) fun x40=>
 bA (bldL 9 1 1 [(.str 0 0)] [(0,x1)]) H fun x42 H=>
 bV (fAd 1 x5) fun x43=>
 bV (ld1 x43 H) fun x44=>
 bA (bldL 37 1 3 [.nilSlice] [(0,x40),(1,x42),(2,x44)]) H fun x45 H=>
 bV (fAd 3 x3) fun x47=>
 bV (ld1 x47 H) fun x48=>
 bV (fAd 3 x5) fun x49=>
 bV (ld1 x49 H) fun x50=>
 bA (bldL 77 1 2 [.nilSlice] [(0,x48),(1,x50)]) H fun x51 H=>
 bR (f111 D n [x45] H) fun x46 H=>chk (ld1 x47 H) x48 <| chk (ld1 x49 H) x50 <|
 bR (f140 D n [x51] H) fun x52 H=>
 bV (bldS [(0,1),(1,1),(2,1),(3,1)] [(.bool false), .nilSlice, .nilSlice, .nilSlice] [(1,x46),(3,x52)]) fun x53=>
 bR (stN 4 x6 x53 H) fun x9999_3 H=>
 bV (ldN 4 x6 H) fun x9006_3=>bV (some (.int .i64 (.ofNat 0))) fun x7_3=>some (.ret (.tuple [x9006_3,x7_3]),H))))
def h138:Hint:=(.s .o (.s (.s .o (.cl (.s .o .o) .o)) (.s (.s .o (.cl (.s .o .o) .o)) (.s .o .o))))
theorem f138_eq (D:Dyn)(n:Nat):f138 D n=funK (s138 D n) D n 138 Tryz.f138 h138:=by kernel_rfl
theorem f138_ok {D:Dyn}(hD:DG D)(n:Nat):FI 138 (f138 D n):=fun_ok X_ok hD (SOk.cons (f107_ok hD n).fs (SOk.cons (f166_ok hD n).fs (SOk.cons (f111_ok hD n).fs (SOk.cons (f140_ok hD n).fs (SOk.nil))))) Tryz.func138 (by kernel_rfl) (f138_eq D n)
def s104 (D:Dyn)(n:Nat):Tb:=⟨X,[(123,f123 D n),(69,f69 D n),(105,f105 D n),(138,f138 D n),(139,f139 D n),(111,f111 D n),(141,f141 D n),(140,f140 D n)]⟩
def f104j0 (D:Dyn)(n:Nat)(vs:List AV)(H:AH):Rs:=
 hd vs fun x0_3 vs=>hd vs fun x5_3 vs=>hd vs fun x7_3 vs=>hd vs fun x8_3 vs=>hd vs fun x10 vs=>hd vs fun x11 vs=>hd vs fun x14 vs=>
 bV (bInt .neq x14 (.int .i64 (.ofNat 0))) fun x85=>
 cnd x85 (bV (bldS [(0,1),(1,1),(2,1),(3,1)] [(.bool false), .nilSlice, .nilSlice, .nilSlice] []) fun x86=>
 bR (stN 4 x8_3 x86 H) fun x9999_5 H=>
 bV (ldN 4 x8_3 H) fun x9008_2=>bV (some (.int .i64 (.ofNat 4))) fun x9_2=>some (.ret (.tuple [x9008_2,x9_2]),H))
 (some (.norm [x0_3,x5_3,x7_3,x8_3,x10,x11],H))
def f104j1 (D:Dyn)(n:Nat)(vs:List AV)(H:AH):Rs:=
 hd vs fun x0_2 vs=>hd vs fun x2_2 vs=>hd vs fun x5_2 vs=>hd vs fun x7_2 vs=>hd vs fun x8_2 vs=>hd vs fun x12 vs=>
 bV (pNil x0_2) fun x30=>
 bV (fAd 0 x30) fun x31=>
 bV (ld1 x31 H) fun x32=>
 bV (fAd 3 x5_2) fun x33=>
 bV (ld1 x33 H) fun x34=>
 bV (ixSl 3 x34 x12) fun x36=>
 bV (ldN 3 x36 H) fun x37=>
 bA (bxV 133 (.agg [(.bool false), .nilSlice, .nilSlice, .nilSlice])) H fun x13 H=>
 bR (f69 D n [x32,x37] H) fun x38 H=>
 bV (pExtract x38 0) fun x39=>
 bV (pExtract x38 1) fun x40=>
 bR (stN 4 x13 x39 H) fun x9999 H=>
 bV (bInt .neq x40 (.int .i64 (.ofNat 0))) fun x42=>
 cnd x42 (bV (bldS [(0,1),(1,1),(2,1),(3,1)] [(.bool false), .nilSlice, .nilSlice, .nilSlice] []) fun x43=>
 bR (stN 4 x8_2 x43 H) fun x9999_2 H=>
 bV (ldN 4 x8_2 H) fun x9008=>bV (some x40) fun x9=>some (.ret (.tuple [x9008,x9]),H))
 (bV (fAd 3 x5_2) fun x46=>
 bV (ld1 x46 H) fun x47=>
 bV (ixSl 3 x47 x12) fun x49=>
 bV (ldN 3 x49 H) fun x50=>
 bR (f105 D n [x0_2,x50] H) fun x51 H=>
 bV (mn2 x2_2 x12) fun x54=>
 bV (mx2 x2_2 x12) fun x57=>
 bV (bInt .add x57 (.int .i64 (.ofNat 1))) fun x58=>
 bV (bInt .lss x12 x2_2) fun x61=>
 jn (cnd x61 (bV (ldN 4 x13 H) fun x63=>
 bV (fAd 1 x5_2) fun x64=>
 bV (ld1 x64 H) fun x65=>
 bV (ixSl 1 x65 x54) fun x67=>
 bV (ld1 x67 H) fun x68=>
 bV (ldN 4 x7_2 H) fun x69=>
 bR (f138 D n [x63,x68,x69] H) fun x70 H=>
 bV (pExtract x70 0) fun x71=>
 bV (pExtract x70 1) fun x72=>
 bR (stN 4 x7_2 x71 H) fun x9999_3 H=>
 some (.norm [x0_2,x5_2,x7_2,x8_2,x54,x58,x72],H))
 (bV (ldN 4 x7_2 H) fun x74=>
 bV (fAd 1 x5_2) fun x75=>
 bV (ld1 x75 H) fun x76=>
 bV (ixSl 1 x76 x54) fun x78=>
 bV (ld1 x78 H) fun x79=>
 bV (ldN 4 x13 H) fun x80=>
 bR (f138 D n [x74,x79,x80] H) fun x81 H=>
 bV (pExtract x81 0) fun x82=>
 bV (pExtract x81 1) fun x83=>
 bR (stN 4 x7_2 x82 H) fun x9999_4 H=>
 some (.norm [x0_2,x5_2,x7_2,x8_2,x54,x58,x83],H))) (f104j0 D n))
def f104j2 (D:Dyn)(n:Nat)(vs:List AV)(H:AH):Rs:=
 hd vs fun x0_4 vs=>hd vs fun x5_4 vs=>hd vs fun x7_4 vs=>hd vs fun x8_4 vs=>hd vs fun x10_2 vs=>hd vs fun x11_2 vs=>
 bV (ldN 4 x7_4 H) fun x88=>
 bR (f139 D n [x88] H) fun x89 H=>
 bV (pExtract x89 0) fun x90=>
 bV (pExtract x89 1) fun x91=>
 bV (pExtract x89 2) fun x92=>
 bV (bInt .neq x92 (.int .i64 (.ofNat 0))) fun x94=>
 cnd x94 (bV (bldS [(0,1),(1,1),(2,1),(3,1)] [(.bool false), .nilSlice, .nilSlice, .nilSlice] []) fun x95=>
 bR (stN 4 x8_4 x95 H) fun x9999_6 H=>
 bV (ldN 4 x8_4 H) fun x9008_3=>bV (some x92) fun x9_3=>some (.ret (.tuple [x9008_3,x9_3]),H))
 (bV (fAd 1 x5_4) fun x97=>
 bV (ld1 x97 H) fun x98=>
 bV (slSl 1 x98 none (some x10_2) (some x10_2) H) fun x101=>
 bV (fAd 1 x5_4) fun x103=>
 bV (ld1 x103 H) fun x104=>
 bV (bInt .sub x11_2 (.int .i64 (.ofNat 1))) fun x106=>
 bV (slSl 1 x104 (some x106) none none H) fun x107=>
 bA (bldL 37 1 3 [.nilSlice] [(0,x101),(1,x91),(2,x107)]) H fun x108 H=>
 bV (fAd 3 x5_4) fun x110=>
 bV (ld1 x110 H) fun x111=>
 bV (slSl 3 x111 none (some x10_2) (some x10_2) H) fun x114=>
 bV (fAd 3 x5_4) fun x118=>
 bV (ld1 x118 H) fun x119=>
 bV (slSl 3 x119 (some x11_2) none none H) fun x121=>
 bR (f111 D n [x108] H) fun x109 H=>chk (ld1 x110 H) x111 <| chk (slSl 3 x111 none (some x10_2) (some x10_2) H) x114 <| chk (ld1 x118 H) x119 <| chk (slSl 3 x119 (some x11_2) none none H) x121 <|
 bR (f141 D n [x0_4,x90] H) fun x117 H=>chk (ld1 x110 H) x111 <| chk (slSl 3 x111 none (some x10_2) (some x10_2) H) x114 <| chk (ld1 x118 H) x119 <| chk (slSl 3 x119 (some x11_2) none none H) x121 <|
 bA (bldL 77 1 3 [.nilSlice] [(0,x114),(1,x117),(2,x121)]) H fun x122 H=>
 bR (f140 D n [x122] H) fun x123 H=>
 bV (bldS [(0,1),(1,1),(2,1),(3,1)] [(.bool false), .nilSlice, .nilSlice, .nilSlice] [(1,x109),(3,x123)]) fun x124=>
 bR (stN 4 x8_4 x124 H) fun x9999_7 H=>
 bV (ldN 4 x8_4 H) fun x9008_4=>bV (some (.int .i64 (.ofNat 0))) fun x9_4=>some (.ret (.tuple [x9008_4,x9_4]),H))
def f104 (D:Dyn)(n:Nat)(vs:List AV)(H:AH):Option (AV×AH):=
 outR (hd vs fun x0 vs=>hd vs fun x1 vs=>hd vs fun x2 vs=>hd vs fun x3 vs=>nl vs <|
 bA (bxV 133 x1) H fun x5 H=>
 bA (bxV 133 x3) H fun x7 H=>
 bA (bxV 133 (.agg [(.bool false), .nilSlice, .nilSlice, .nilSlice])) H fun x8 H=>
 bV (bInt .add x2 (.int .i64 (.ofNat 1))) fun x20=>
 bV (ldN 4 x7 H) fun x21=>
 bR (f123 D n [x21] H) fun x22 H=>
 bV (bInt .lss x22 (.int .i64 (.ofNat 160))) fun x23=>
 jn (cnd x23 (bV (bInt .sub x2 (.int .i64 (.ofNat 1))) fun x25=>
 bV (bInt .eql x2 (.int .i64 (.ofNat 0))) fun x27=>
 jn (cnd x27 (some (.norm [x0,x2,x5,x7,x8,(.int .i64 (.ofNat 1))],H))
 (some (.norm [x0,x2,x5,x7,x8,x25],H))) (f104j1 D n))
 (some (.norm [x0,x5,x7,x8,x2,x20],H))) (f104j2 D n))
def h104:Hint:=(.s .o (.s .o (.s (.s .o (.c [0,5,7,8,10,11] (.s .o (.s (.s .o (.c [0,2,5,7,8,12] .o .o)) (.s .o (.s (.s .o (.cl (.s .o .o) .o)) (.s .o (.s .o (.s (.s .o (.c [0,5,7,8,10,11,14] .o .o)) (.s .o (.cl (.s .o .o) .o))))))))) .o)) (.s .o (.s (.s .o (.cl (.s .o .o) .o)) (.s .o .o))))))
theorem f104_eq (D:Dyn)(n:Nat):f104 D n=funK (s104 D n) D n 104 Tryz.f104 h104:=by kernel_rfl
theorem f104_ok {D:Dyn}(hD:DG D)(n:Nat):FI 104 (f104 D n):=fun_ok X_ok hD (SOk.cons (f123_ok hD n).fs (SOk.cons (f69_ok hD n).fs (SOk.cons (f105_ok hD n).fs (SOk.cons (f138_ok hD n).fs (SOk.cons (f139_ok hD n).fs (SOk.cons (f111_ok hD n).fs (SOk.cons (f141_ok hD n).fs (SOk.cons (f140_ok hD n).fs (SOk.nil))))))))) Tryz.func104 (by kernel_rfl) (f104_eq D n)
def s103 (D:Dyn)(n:Nat):Tb:=⟨X,[(68,f68 D n),(69,f69 D n),(70,f70 D n),(104,f104 D n),(105,f105 D n)]⟩
def f103j0 (D:Dyn)(n:Nat)(vs:List AV)(H:AH):Rs:=
 hd vs fun x6_2 vs=>hd vs fun x7_2 vs=>hd vs fun x8_2 vs=>hd vs fun x10_2 vs=>hd vs fun x11 vs=>
 some (.norm [x6_2,x7_2,x8_2,x10_2,x11],H)
def f103j1 (D:Dyn)(n:Nat)(vs:List AV)(H:AH):Rs:=
 hd vs fun x6_3 vs=>hd vs fun x7_3 vs=>hd vs fun x8_3 vs=>hd vs fun x10_3 vs=>hd vs fun x11_2 vs=>
 bV (bInt .neq x11_2 (.int .i64 (.ofNat 0))) fun x63=>
 cnd x63 (bV (bldS [(0,1),(1,1),(2,1),(3,1)] [(.bool false), .nilSlice, .nilSlice, .nilSlice] []) fun x64=>
 bR (stN 4 x8_3 x64 H) fun x9999_8 H=>
 bV (ldN 4 x8_3 H) fun x9008_3=>bV (some x11_2) fun x9_3=>some (.ret (.tuple [x9008_3,x9_3]),H))
 (bV (ld1 x6_3 H) fun x66=>
 bV (ldN 3 x7_3 H) fun x67=>
 bR (f105 D n [x66,x67] H) fun x68 H=>
 bV (ldN 4 x10_3 H) fun x69=>
 bR (stN 4 x8_3 x69 H) fun x9999_9 H=>
 bV (ldN 4 x8_3 H) fun x9008_4=>bV (some (.int .i64 (.ofNat 0))) fun x9_4=>some (.ret (.tuple [x9008_4,x9_4]),H))
def f103 (D:Dyn)(n:Nat)(vs:List AV)(H:AH):Option (AV×AH):=
 outR (hd vs fun x0 vs=>hd vs fun x1 vs=>hd vs fun x2 vs=>hd vs fun x3 vs=>hd vs fun x4 vs=>hd vs fun x5 vs=>hd vs fun x6 vs=>nl vs <|
 bA (bxV 72 x0) H fun x7 H=>
 bA (bxV 133 (.agg [(.bool false), .nilSlice, .nilSlice, .nilSlice])) H fun x8 H=>
 bV (ld1 x1 H) fun x14=>
 bV (bInt .add x14 (.int .i64 (.ofNat 1))) fun x15=>
 bR (stN 1 x1 x15 H) fun x9999 H=>
 bV (ld1 x1 H) fun x16=>
 bV (ld1 x2 H) fun x17=>
 bR (f68 D n [x17] H) fun x18 H=>chk (ld1 x1 H) x16 <|
 bV (bInt .gtr x16 x18) fun x19=>
 cnd x19 (bV (bldS [(0,1),(1,1),(2,1),(3,1)] [(.bool false), .nilSlice, .nilSlice, .nilSlice] []) fun x20=>
 bR (stN 4 x8 x20 H) fun x9999_2 H=>
 bV (ldN 4 x8 H) fun x9008=>bV (some (.int .i64 (.ofNat 4))) fun x9=>some (.ret (.tuple [x9008,x9]),H))
 (bV (ld1 x2 H) fun x22=>
 bV (ldN 3 x7 H) fun x23=>
 bR (f69 D n [x22,x23] H) fun x24 H=>
 bV (pExtract x24 0) fun x25=>
 bV (pExtract x24 1) fun x26=>
 bA (bxV 133 (.agg [(.bool false), .nilSlice, .nilSlice, .nilSlice])) H fun x10 H=>
 bR (stN 4 x10 x25 H) fun x9999_3 H=>
 bV (bInt .neq x26 (.int .i64 (.ofNat 0))) fun x28=>
 cnd x28 (bV (bldS [(0,1),(1,1),(2,1),(3,1)] [(.bool false), .nilSlice, .nilSlice, .nilSlice] []) fun x29=>
 bR (stN 4 x8 x29 H) fun x9999_4 H=>
 bV (ldN 4 x8 H) fun x9008_2=>bV (some x26) fun x9_2=>some (.ret (.tuple [x9008_2,x9_2]),H))
 (bV (fAd 0 x10) fun x31=>
 bV (ld1 x31 H) fun x32=>
 jn (cnd x32 (bV (ld1 x3 H) fun x34=>
 bV (ldN 4 x10 H) fun x35=>
 bR (callV (s103 D n).S D x34 [x35] H) fun x36 H=>
 bV (pExtract x36 0) fun x37=>
 bV (pExtract x36 1) fun x38=>
 bR (stN 4 x10 x37 H) fun x9999_5 H=>
 some (.norm [x6,x7,x8,x10,x38],H))
 (bV (ldN 4 x10 H) fun x39=>
 bV (ld1 x4 H) fun x40=>
 bR (f70 D n [x39,x40] H) fun x41 H=>
 bA (bxV 133 (.agg [(.bool false), .nilSlice, .nilSlice, .nilSlice])) H fun x13 H=>
 bV (ld1 x5 H) fun x43=>
 bV (fAd 3 x10) fun x44=>
 bV (ld1 x44 H) fun x45=>
 bV (ixSl 3 x45 x41) fun x47=>
 bV (ldN 3 x47 H) fun x48=>
 bR (callV (s103 D n).S D x43 [x48] H) fun x49 H=>
 bV (pExtract x49 0) fun x50=>
 bV (pExtract x49 1) fun x51=>
 bR (stN 4 x13 x50 H) fun x9999_6 H=>
 bV (bInt .eql x51 (.int .i64 (.ofNat 0))) fun x53=>
 jn (cnd x53 (bV (ld1 x6 H) fun x55=>
 bV (ldN 4 x10 H) fun x56=>
 bV (ldN 4 x13 H) fun x58=>
 bR (f104 D n [x55,x56,x41,x58] H) fun x59 H=>
 bV (pExtract x59 0) fun x60=>
 bV (pExtract x59 1) fun x61=>
 bR (stN 4 x10 x60 H) fun x9999_7 H=>
 some (.norm [x6,x7,x8,x10,x61],H))
 (some (.norm [x6,x7,x8,x10,x51],H))) (f103j0 D n))) (f103j1 D n))))
def h103:Hint:=(.s .o (.s (.s .o (.s .o (.cl (.s .o .o) .o))) (.s .o (.s (.s .o (.cl (.s .o .o) .o)) (.s (.s .o (.c [6,7,8,10,11] .o (.s .o (.s .o (.s .o (.s .o (.c [6,7,8,10,11] .o .o))))))) (.s (.s .o (.cl (.s .o .o) .o)) (.s .o (.s .o .o))))))))
theorem f103_eq (D:Dyn)(n:Nat):f103 D n=funK (s103 D n) D n 103 Tryz.f103 h103:=by kernel_rfl
theorem f103_ok {D:Dyn}(hD:DG D)(n:Nat):FI 103 (f103 D n):=fun_ok X_ok hD (SOk.cons (f68_ok hD n).fs (SOk.cons (f69_ok hD n).fs (SOk.cons (f70_ok hD n).fs (SOk.cons (f104_ok hD n).fs (SOk.cons (f105_ok hD n).fs (SOk.nil)))))) Tryz.func103 (by kernel_rfl) (f103_eq D n)
def s63 (D:Dyn)(n:Nat):Tb:=⟨X,[(102,f102 D n),(101,f101 D n),(106,f106 D n)]⟩
def f63 (D:Dyn)(n:Nat)(vs:List AV)(H:AH):Option (AV×AH):=
 outR (hd vs fun x0 vs=>hd vs fun x1 vs=>hd vs fun x2 vs=>nl vs <|
 bA (bxV 22 x0) H fun x3 H=>
 bA (bxV 9 x1) H fun x4 H=>
 bA (bxV 136 x2) H fun x5 H=>
 bV (ld1 x3 H) fun x14=>
 bV (ld1 x3 H) fun x15=>
 bV (pNil x15) fun x16=>
 bV (fAd 6 x16) fun x17=>
 bV (ld1 x17 H) fun x18=>
 bA (mkM [10]) H fun x19 H=>
 bV (bldS [(0,1),(1,1),(2,1),(3,1)] [.nilPtr,(.int .u64 (.ofNat 0)), .nilMap, .nilSlice] [(0,x14),(1,x18),(2,x19)]) fun x20=>
 bA (bxV 209 x20) H fun x21 H=>
 bA (bxV 207 .nilPtr) H fun x7 H=>
 bR (stN 1 x7 x21 H) fun x9999 H=>
 bV (ld1 x3 H) fun x22=>
 bV (pNil x22) fun x23=>
 bV (fAd 2 x23) fun x24=>
 bV (fAd 0 x24) fun x25=>
 bV (ld1 x25 H) fun x26=>
 bV (bInt .eql x26 (.int .i64 (.ofNat 0))) fun x27=>
 cnd x27 (bV (ld1 x5 H) fun x29=>
 bV (bldS [(0,1),(1,1),(2,1),(3,1)] [(.bool false), .nilSlice, .nilSlice, .nilSlice] [(0,(.bool true))]) fun x30=>
 bR (callV (s63 D n).S D x29 [x30] H) fun x31 H=>
 bV (pExtract x31 0) fun x32=>
 bV (pExtract x31 1) fun x33=>
 bA (bxV 133 (.agg [(.bool false), .nilSlice, .nilSlice, .nilSlice])) H fun x8 H=>
 bR (stN 4 x8 x32 H) fun x9999_2 H=>
 bV (bInt .neq x33 (.int .i64 (.ofNat 0))) fun x35=>
 cnd x35 (bV (some x33) fun x6=>some (.ret x6,H))
 (bV (ld1 x7 H) fun x37=>
 bV (ld1 x7 H) fun x38=>
 bV (ldN 4 x8 H) fun x39=>
 bR (f102 D n [x38,x39] H) fun x40 H=>chk (ld1 x7 H) x37 <|
 bR (f101 D n [x37,x40] H) fun x41 H=>
 bV (some (.int .i64 (.ofNat 0))) fun x6_2=>some (.ret x6_2,H)))
 (bA (bxV 3 (.int .i64 (.ofNat 0))) H fun x10 H=>
 bR (stN 1 x10 (.int .i64 (.ofNat 0)) H) fun x9999_3 H=>
 bA (bxV 142 .nilFunc) H fun x11 H=>
 bR (stN 1 x11 (.func 103 [] [x10,x3,x5,x4,x11,x7]) H) fun x9999_4 H=>
 bV (ld1 x11 H) fun x44=>
 bV (ld1 x3 H) fun x45=>
 bV (pNil x45) fun x46=>
 bV (fAd 2 x46) fun x47=>
 bV (ldN 3 x47 H) fun x48=>
 bA (bxV 133 (.agg [(.bool false), .nilSlice, .nilSlice, .nilSlice])) H fun x12 H=>
 bR (callV (s63 D n).S D x44 [x48] H) fun x49 H=>
 bV (pExtract x49 0) fun x50=>
 bV (pExtract x49 1) fun x51=>
 bR (stN 4 x12 x50 H) fun x9999_5 H=>
 bV (bInt .neq x51 (.int .i64 (.ofNat 0))) fun x53=>
 cnd x53 (bV (some x51) fun x6_3=>some (.ret x6_3,H))
 (bV (ld1 x7 H) fun x55=>
 bV (ldN 4 x12 H) fun x56=>
 bR (f106 D n [x55,x56] H) fun x57 H=>
 bV (some x57) fun x6_4=>some (.ret x6_4,H))))
def h63:Hint:=(.s .o (.s .o (.s (.s .o (.cl (.s .o (.s (.s .o (.cl (.s .o .o) .o)) (.s .o (.s .o .o)))) .o)) (.s .o (.s .o (.s .o (.s .o (.s (.s .o (.cl (.s .o .o) .o)) (.s .o .o)))))))))
theorem f63_eq (D:Dyn)(n:Nat):f63 D n=funK (s63 D n) D n 63 Tryz.f63 h63:=by kernel_rfl
theorem f63_ok {D:Dyn}(hD:DG D)(n:Nat):FI 63 (f63 D n):=fun_ok X_ok hD (SOk.cons (f102_ok hD n).fs (SOk.cons (f101_ok hD n).fs (SOk.cons (f106_ok hD n).fs (SOk.nil)))) Tryz.func63 (by kernel_rfl) (f63_eq D n)
end Go.Eng.Sh
end
end
section
noncomputable section
namespace Go.Eng.Sh
open Go.Proofs
set_option maxRecDepth 100000
def s67 (D:Dyn)(n:Nat):Tb:=⟨X,[(107,f107 D n),(70,f70 D n),(111,f111 D n)]⟩
def f67 (D:Dyn)(n:Nat)(vs:List AV)(H:AH):Option (AV×AH):=
 outR (hd vs fun x0 vs=>hd vs fun x1 vs=>nl vs <|
 bA (bxV 133 x0) H fun x2 H=>
 bA (bxV 133 (.agg [(.bool false), .nilSlice, .nilSlice, .nilSlice])) H fun x4 H=>
 bV (ldN 4 x2 H) fun x7=>
 bR (f107 D n [x7] H) fun x8 H=>
 bV (aun .not x8) fun x9=>
 jn (wnt x9 false (bV (fAd 0 x2) fun x11=>
 bV (ld1 x11 H) fun x12=>
 bV (aun .not x12) fun x13=>
 some (.norm [x13],H)) (some (.norm [undefA],H))) fun vs H=>hd vs fun x13_2 vs=>
 bV (pk3 (some x9) (some (.bool true)) (some x13_2)) fun x14=>
 cnd x14 (bV (bldS [(0,1),(1,1),(2,1),(3,1)] [(.bool false), .nilSlice, .nilSlice, .nilSlice] []) fun x15=>
 bR (stN 4 x4 x15 H) fun x9999 H=>
 bV (ldN 4 x4 H) fun x9004=>bV (some (.int .i64 (.ofNat 1))) fun x5=>some (.ret (.tuple [x9004,x5]),H))
 (bV (ldN 4 x2 H) fun x16=>
 bR (f70 D n [x16,x1] H) fun x18 H=>
 bV (fAd 1 x2) fun x20=>
 bV (ld1 x20 H) fun x21=>
 bV (lnSl x21) fun x22=>
 bV (bInt .geq x18 x22) fun x23=>
 jn (wnt x23 false (bV (fAd 1 x2) fun x25=>
 bV (ld1 x25 H) fun x26=>
 bV (ixSl 1 x26 x18) fun x28=>
 bV (ld1 x28 H) fun x29=>
 bV (bStr .neq x29 x1) fun x31=>
 some (.norm [x31],H)) (some (.norm [undefA],H))) fun vs H=>hd vs fun x31_2 vs=>
 bV (pk3 (some x23) (some (.bool true)) (some x31_2)) fun x32=>
 cnd x32 (bV (bldS [(0,1),(1,1),(2,1),(3,1)] [(.bool false), .nilSlice, .nilSlice, .nilSlice] []) fun x33=>
 bR (stN 4 x4 x33 H) fun x9999_2 H=>
 bV (ldN 4 x4 H) fun x9004_2=>bV (some (.int .i64 (.ofNat 5))) fun x5_2=>some (.ret (.tuple [x9004_2,x5_2]),H))
 (bV (fAd 1 x2) fun x34=>
 bV (ld1 x34 H) fun x35=>
 bV (slSl 1 x35 none (some x18) (some x18) H) fun x38=>
 bV (fAd 1 x2) fun x39=>
 bV (ld1 x39 H) fun x40=>
 bV (bInt .add x18 (.int .i64 (.ofNat 1))) fun x42=>
 bV (slSl 1 x40 (some x42) none none H) fun x43=>
 bA (bldL 37 1 2 [.nilSlice] [(0,x38),(1,x43)]) H fun x44 H=>
 bV (fAd 2 x2) fun x46=>
 bV (ld1 x46 H) fun x47=>
 bV (slSl 1 x47 none (some x18) (some x18) H) fun x50=>
 bV (fAd 2 x2) fun x51=>
 bV (ld1 x51 H) fun x52=>
 bV (bInt .add x18 (.int .i64 (.ofNat 1))) fun x54=>
 bV (slSl 1 x52 (some x54) none none H) fun x55=>
 bA (bldL 37 1 2 [.nilSlice] [(0,x50),(1,x55)]) H fun x56 H=>
 bR (f111 D n [x44] H) fun x45 H=>chk (ld1 x46 H) x47 <| chk (slSl 1 x47 none (some x18) (some x18) H) x50 <| chk (ld1 x51 H) x52 <| chk (slSl 1 x52 (some x54) none none H) x55 <|
 bR (f111 D n [x56] H) fun x57 H=>
 bV (bldS [(0,1),(1,1),(2,1),(3,1)] [(.bool false), .nilSlice, .nilSlice, .nilSlice] [(0,(.bool true)),(1,x45),(2,x57)]) fun x58=>
 bR (stN 4 x4 x58 H) fun x9999_3 H=>
 bV (ldN 4 x4 H) fun x9004_3=>bV (some (.int .i64 (.ofNat 0))) fun x5_3=>some (.ret (.tuple [x9004_3,x5_3]),H))))
def h67:Hint:=(.s .o (.s (.s .o (.cl (.s .o .o) .o)) (.s .o (.s (.s .o (.cl (.s .o .o) .o)) (.s .o .o)))))
theorem f67_eq (D:Dyn)(n:Nat):f67 D n=funK (s67 D n) D n 67 Tryz.f67 h67:=by kernel_rfl
theorem f67_ok {D:Dyn}(hD:DG D)(n:Nat):FI 67 (f67 D n):=fun_ok X_ok hD (SOk.cons (f107_ok hD n).fs (SOk.cons (f70_ok hD n).fs (SOk.cons (f111_ok hD n).fs (SOk.nil)))) Tryz.func67 (by kernel_rfl) (f67_eq D n)
def s66 (D:Dyn)(n:Nat):Tb:=⟨X,[(67,f67 D n)]⟩
def f66 (D:Dyn)(n:Nat)(vs:List AV)(H:AH):Option (AV×AH):=
 outR (hd vs fun x0 vs=>hd vs fun x1 vs=>nl vs <|
 bA (bxV 133 x0) H fun x2 H=>
 bA (bxV 133 (.agg [(.bool false), .nilSlice, .nilSlice, .nilSlice])) H fun x3 H=>
 bV (ldN 4 x2 H) fun x5=>
 bV (ld1 x1 H) fun x6=>
 bR (f67 D n [x5,x6] H) fun x7 H=>
 bV (pExtract x7 0) fun x8=>
 bV (pExtract x7 1) fun x9=>
 bR (stN 4 x3 x8 H) fun x9999 H=>
 bV (ldN 4 x3 H) fun x9003=>bV (some x9) fun x4=>some (.ret (.tuple [x9003,x4]),H))
def h66:Hint:=(.s .o (.s .o .o))
theorem f66_eq (D:Dyn)(n:Nat):f66 D n=funK (s66 D n) D n 66 Tryz.f66 h66:=by kernel_rfl
theorem f66_ok {D:Dyn}(hD:DG D)(n:Nat):FI 66 (f66 D n):=fun_ok X_ok hD (SOk.cons (f67_ok hD n).fs (SOk.nil)) Tryz.func66 (by kernel_rfl) (f66_eq D n)
def s23 (D:Dyn)(n:Nat):Tb:=⟨X,[(62,f62 D n),(63,f63 D n)]⟩
def f23 (D:Dyn)(n:Nat)(vs:List AV)(H:AH):Option (AV×AH):=
 outR (hd vs fun x0 vs=>hd vs fun x1 vs=>nl vs <|
 bA (bxV 9 x1) H fun x3 H=>
 bR (f62 D n [x0] H) fun x6 H=>
 cnd x6 (bV (some (.int .i64 (.ofNat 2))) fun x4=>some (.ret x4,H))
 (bV (ld1 x3 H) fun x7=>
 bV (lnStr x7) fun x8=>
 bV (bInt .lss x8 (.int .i64 (.ofNat 1))) fun x9=>
 jn (wnt x9 false (bV (ld1 x3 H) fun x11=>
 bV (lnStr x11) fun x12=>
 bV (bInt .gtr x12 (.int .i64 (.ofNat 40))) fun x13=>
 some (.norm [x13],H)) (some (.norm [undefA],H))) fun vs H=>hd vs fun x13_2 vs=>
 bV (pk3 (some x9) (some (.bool true)) (some x13_2)) fun x14=>
 cnd x14 (bV (some (.int .i64 (.ofNat 1))) fun x4_2=>some (.ret x4_2,H))
 (bV (ld1 x3 H) fun x16=>
 bR (f63 D n [x0,x16,(.func 66 [] [x3])] H) fun x18 H=>
 bV (some x18) fun x4_3=>some (.ret x4_3,H))))
def h23:Hint:=(.s .o (.s (.s .o (.cl (.s .o .o) .o)) (.s (.s .o (.cl (.s .o .o) .o)) (.s .o .o))))
theorem f23_eq (D:Dyn)(n:Nat):f23 D n=funK (s23 D n) D n 23 Tryz.f23 h23:=by kernel_rfl
theorem f23_ok {D:Dyn}(hD:DG D)(n:Nat):FI 23 (f23 D n):=fun_ok X_ok hD (SOk.cons (f62_ok hD n).fs (SOk.cons (f63_ok hD n).fs (SOk.nil))) Tryz.func23 (by kernel_rfl) (f23_eq D n)
def s110 (D:Dyn)(n:Nat):Tb:=⟨X,[]⟩
def f110 (D:Dyn)(n:Nat)(vs:List AV)(H:AH):Option (AV×AH):=
 outR (hd vs fun x0 vs=>hd vs fun x1 vs=>hd vs fun x2 vs=>nl vs <|
 bV (slSl 1 x0 (some x1) none none H) fun x12=>
 bV (lnSl x2) fun x14=>
 bV (bInt .eql x14 (.int .i64 (.ofNat 0))) fun x16=>
 cnd x16 (bV (some x0) fun x6=>some (.ret x6,H))
 (bV (lnSl x0) fun x19=>
 bV (bInt .eql x1 x19) fun x22=>
 cnd x22 (bR (apP 9 1 16 x0 x2 H) fun x25 H=>
 bV (some x25) fun x6_2=>some (.ret x6_2,H))
 (bV (bInt .add x19 x14) fun x28=>
 bV (acap X 37 x0) fun x30=>
 bV (bInt .gtr x28 x30) fun x31=>
 cnd x31 (bV (slSl 1 x0 none (some x1) none H) fun x34=>
 bV (bInt .add x19 x14) fun x37=>
 bV (bInt .sub x37 x1) fun x39=>
 bR (apZ 9 1 16 [(.str 0 0)] x34 x39 H) fun x40 H=>
 bV (slSl 1 x40 (some x1) none none H) fun x43=>
 bR (cpy 1 x43 x2 H) fun x45 H=>
 bV (bInt .add x1 x14) fun x49=>
 bV (slSl 1 x40 (some x49) none none H) fun x50=>
 bV (slSl 1 x0 (some x1) none none H) fun x53=>
 bR (cpy 1 x50 x53 H) fun x54 H=>
 bV (some x40) fun x6_3=>some (.ret x6_3,H))
 (bV (bInt .add x19 x14) fun x59=>
 bV (slSl 1 x0 none (some x59) none H) fun x60=>
 bV (bInt .add x1 x14) fun x65=>
 bV (slSl 1 x60 (some x65) none none H) fun x66=>
 bR (D.fn 142 [x2,x66] H) fun x67 H=>
 bV (aun .not x67) fun x68=>
 cnd x68 (bV (bInt .add x1 x14) fun x72=>
 bV (slSl 1 x60 (some x72) none none H) fun x73=>
 bV (slSl 1 x60 (some x1) none none H) fun x76=>
 bR (cpy 1 x73 x76 H) fun x77 H=>
 bV (slSl 1 x60 (some x1) none none H) fun x80=>
 bR (cpy 1 x80 x2 H) fun x82 H=>
 bV (some x60) fun x6_4=>some (.ret x6_4,H))
 (bV (slSl 1 x60 (some x19) none none H) fun x86=>
 bR (cpy 1 x86 x2 H) fun x88 H=>
 bV (slSl 1 x60 (some x1) none none H) fun x91=>
 bR (D.fn 143 [x91,x14] H) fun x93 H=>
 bV (some x60) fun x6_5=>some (.ret x6_5,H))))))
def h110:Hint:=(.s .o (.s .o (.s .o (.s (.s .o (.cl (.s .o .o) .o)) (.s .o (.s (.s .o (.cl (.s .o .o) .o)) (.s (.s .o (.cl (.s .o (.s .o (.s .o (.s .o .o)))) .o)) (.s .o (.s (.s .o (.cl (.s .o (.s .o (.s .o .o))) .o)) (.s .o (.s .o (.s .o .o))))))))))))
theorem f110_eq (D:Dyn)(n:Nat):f110 D n=funK (s110 D n) D n 110 Tryz.f110 h110:=by kernel_rfl
theorem f110_ok {D:Dyn}(hD:DG D)(n:Nat):FI 110 (f110 D n):=fun_ok X_ok hD (SOk.nil) Tryz.func110 (by kernel_rfl) (f110_eq D n)
def m110 (D:Dyn)(n:Nat)(vs:List AV)(H:AH):Option (AV×AH):=insK (f110 D n) vs H
theorem m110_ok {D:Dyn}(hD:DG D)(n:Nat):FI 110 (m110 D n):=insK_ok (by kernel_rfl) (f110_ok hD n)
def s65 (D:Dyn)(n:Nat):Tb:=⟨X,[(107,f107 D n),(108,f108 D n),(109,f109 D n),(70,f70 D n),(110,m110 D n)]⟩
def f65 (D:Dyn)(n:Nat)(vs:List AV)(H:AH):Option (AV×AH):=
 outR (hd vs fun x0 vs=>hd vs fun x1 vs=>hd vs fun x2 vs=>nl vs <|
 bA (bxV 133 x0) H fun x3 H=>
 bA (bxV 133 (.agg [(.bool false), .nilSlice, .nilSlice, .nilSlice])) H fun x6 H=>
 bV (ldN 4 x3 H) fun x10=>
 bR (f107 D n [x10] H) fun x11 H=>
 bV (aun .not x11) fun x12=>
 jn (wnt x12 false (bV (fAd 0 x3) fun x14=>
 bV (ld1 x14 H) fun x15=>
 bV (aun .not x15) fun x16=>
 some (.norm [x16],H)) (some (.norm [undefA],H))) fun vs H=>hd vs fun x16_2 vs=>
 bV (pk3 (some x12) (some (.bool true)) (some x16_2)) fun x17=>
 jn (wnt x17 false (bR (f108 D n [x1] H) fun x20 H=>
 bV (aun .not x20) fun x21=>
 some (.norm [x21],H)) (some (.norm [undefA],H))) fun vs H=>hd vs fun x21_2 vs=>
 bV (pk3 (some x17) (some (.bool true)) (some x21_2)) fun x22=>
 jn (wnt x22 false (bV (lnStr x2) fun x25=>
 bV (bInt .gtr x25 (.int .i64 (.ofNat 200))) fun x26=>
 some (.norm [x26],H)) (some (.norm [undefA],H))) fun vs H=>hd vs fun x26_2 vs=>
 bV (pk3 (some x22) (some (.bool true)) (some x26_2)) fun x27=>
 cnd x27 (bV (bldS [(0,1),(1,1),(2,1),(3,1)] [(.bool false), .nilSlice, .nilSlice, .nilSlice] []) fun x28=>
 bR (stN 4 x6 x28 H) fun x9999 H=>
 bV (ldN 4 x6 H) fun x9006=>bV (some (.int .i64 (.ofNat 1))) fun x7=>some (.ret (.tuple [x9006,x7]),H))
 (bV (fAd 1 x3) fun x29=>
 bV (ld1 x29 H) fun x30=>
 bV (fAd 2 x3) fun x32=>
 bV (ld1 x32 H) fun x33=>
 bA (bxV 133 (.agg [(.bool false), .nilSlice, .nilSlice, .nilSlice])) H fun x8 H=>
 bR (f109 D n [x30] H) fun x31 H=>chk (ld1 x32 H) x33 <|
 bR (f109 D n [x33] H) fun x34 H=>
 bV (bldS [(0,1),(1,1),(2,1),(3,1)] [(.bool false), .nilSlice, .nilSlice, .nilSlice] [(0,(.bool true)),(1,x31),(2,x34)]) fun x35=>
 bR (stN 4 x8 x35 H) fun x9999_2 H=>
 bV (ldN 4 x3 H) fun x36=>
 bR (f70 D n [x36,x1] H) fun x38 H=>
 bV (fAd 1 x3) fun x40=>
 bV (ld1 x40 H) fun x41=>
 bV (lnSl x41) fun x42=>
 bV (bInt .lss x38 x42) fun x43=>
 jn (wnt x43 true (bV (fAd 1 x3) fun x45=>
 bV (ld1 x45 H) fun x46=>
 bV (ixSl 1 x46 x38) fun x48=>
 bV (ld1 x48 H) fun x49=>
 bV (bStr .eql x49 x1) fun x51=>
 some (.norm [x51],H)) (some (.norm [undefA],H))) fun vs H=>hd vs fun x51_2 vs=>
 bV (pk3 (some x43) (some x51_2) (some (.bool false))) fun x52=>
 cnd x52 (bV (fAd 2 x8) fun x53=>
 bV (ld1 x53 H) fun x54=>
 bV (ixSl 1 x54 x38) fun x57=>
 bR (stN 1 x57 x2 H) fun x9999_3 H=>
 bV (ldN 4 x8 H) fun x58=>
 bR (stN 4 x6 x58 H) fun x9999_4 H=>
 bV (ldN 4 x6 H) fun x9006_2=>bV (some (.int .i64 (.ofNat 0))) fun x7_2=>some (.ret (.tuple [x9006_2,x7_2]),H))
 (bV (fAd 1 x8) fun x59=>
 bV (ld1 x59 H) fun x60=>
 bA (bldL 9 1 1 [(.str 0 0)] [(0,x1)]) H fun x63 H=>
 bR (m110 D n [x60,x38,x63] H) fun x64 H=>
 bV (fAd 1 x8) fun x65=>
 bR (stN 1 x65 x64 H) fun x9999_5 H=>
 bV (fAd 2 x8) fun x66=>
 bV (ld1 x66 H) fun x67=>
 bA (bldL 9 1 1 [(.str 0 0)] [(0,x2)]) H fun x70 H=>
 bR (m110 D n [x67,x38,x70] H) fun x71 H=>
 bV (fAd 2 x8) fun x72=>
 bR (stN 1 x72 x71 H) fun x9999_6 H=>
 bV (ldN 4 x8 H) fun x73=>
 bR (stN 4 x6 x73 H) fun x9999_7 H=>
 bV (ldN 4 x6 H) fun x9006_3=>bV (some (.int .i64 (.ofNat 0))) fun x7_3=>some (.ret (.tuple [x9006_3,x7_3]),H))))
def h65:Hint:=(.s .o (.s (.s .o (.cl (.s .o .o) .o)) (.s .o (.s .o (.s (.s .o (.cl (.s .o (.s .o .o)) .o)) (.s .o (.s .o (.s .o .o))))))))
theorem f65_eq (D:Dyn)(n:Nat):f65 D n=funK (s65 D n) D n 65 Tryz.f65 h65:=by kernel_rfl
theorem f65_ok {D:Dyn}(hD:DG D)(n:Nat):FI 65 (f65 D n):=fun_ok X_ok hD (SOk.cons (f107_ok hD n).fs (SOk.cons (f108_ok hD n).fs (SOk.cons (f109_ok hD n).fs (SOk.cons (f70_ok hD n).fs (SOk.cons (m110_ok hD n).fs (SOk.nil)))))) Tryz.func65 (by kernel_rfl) (f65_eq D n)
def s64 (D:Dyn)(n:Nat):Tb:=⟨X,[(65,f65 D n)]⟩
def f64 (D:Dyn)(n:Nat)(vs:List AV)(H:AH):Option (AV×AH):=
 outR (hd vs fun x0 vs=>hd vs fun x1 vs=>hd vs fun x2 vs=>nl vs <|
 bA (bxV 133 x0) H fun x3 H=>
 bA (bxV 133 (.agg [(.bool false), .nilSlice, .nilSlice, .nilSlice])) H fun x4 H=>
 bV (ldN 4 x3 H) fun x6=>
 bV (ld1 x1 H) fun x7=>
 bV (ld1 x2 H) fun x8=>
 bR (f65 D n [x6,x7,x8] H) fun x9 H=>
 bV (pExtract x9 0) fun x10=>
 bV (pExtract x9 1) fun x11=>
 bR (stN 4 x4 x10 H) fun x9999 H=>
 bV (ldN 4 x4 H) fun x9004=>bV (some x11) fun x5=>some (.ret (.tuple [x9004,x5]),H))
def h64:Hint:=(.s .o (.s .o .o))
theorem f64_eq (D:Dyn)(n:Nat):f64 D n=funK (s64 D n) D n 64 Tryz.f64 h64:=by kernel_rfl
theorem f64_ok {D:Dyn}(hD:DG D)(n:Nat):FI 64 (f64 D n):=fun_ok X_ok hD (SOk.cons (f65_ok hD n).fs (SOk.nil)) Tryz.func64 (by kernel_rfl) (f64_eq D n)
def s20 (D:Dyn)(n:Nat):Tb:=⟨X,[(62,f62 D n),(63,f63 D n)]⟩
def f20 (D:Dyn)(n:Nat)(vs:List AV)(H:AH):Option (AV×AH):=
 outR (hd vs fun x0 vs=>hd vs fun x1 vs=>hd vs fun x2 vs=>nl vs <|
 bA (bxV 9 x1) H fun x4 H=>
 bA (bxV 9 x2) H fun x5 H=>
 bR (f62 D n [x0] H) fun x8 H=>
 cnd x8 (bV (some (.int .i64 (.ofNat 2))) fun x6=>some (.ret x6,H))
 (bV (ld1 x4 H) fun x9=>
 bV (lnStr x9) fun x10=>
 bV (bInt .lss x10 (.int .i64 (.ofNat 1))) fun x11=>
 jn (wnt x11 false (bV (ld1 x4 H) fun x13=>
 bV (lnStr x13) fun x14=>
 bV (bInt .gtr x14 (.int .i64 (.ofNat 40))) fun x15=>
 some (.norm [x15],H)) (some (.norm [undefA],H))) fun vs H=>hd vs fun x15_2 vs=>
 bV (pk3 (some x11) (some (.bool true)) (some x15_2)) fun x16=>
 jn (wnt x16 false (bV (ld1 x5 H) fun x18=>
 bV (lnStr x18) fun x19=>
 bV (bInt .gtr x19 (.int .i64 (.ofNat 200))) fun x20=>
 some (.norm [x20],H)) (some (.norm [undefA],H))) fun vs H=>hd vs fun x20_2 vs=>
 bV (pk3 (some x16) (some (.bool true)) (some x20_2)) fun x21=>
 cnd x21 (bV (some (.int .i64 (.ofNat 1))) fun x6_2=>some (.ret x6_2,H))
 (bV (ld1 x4 H) fun x23=>
 bR (f63 D n [x0,x23,(.func 64 [] [x4,x5])] H) fun x25 H=>
 bV (some x25) fun x6_3=>some (.ret x6_3,H))))
def h20:Hint:=(.s .o (.s (.s .o (.cl (.s .o .o) .o)) (.s (.s .o (.cl (.s .o .o) .o)) (.s .o .o))))
theorem f20_eq (D:Dyn)(n:Nat):f20 D n=funK (s20 D n) D n 20 Tryz.f20 h20:=by kernel_rfl
theorem f20_ok {D:Dyn}(hD:DG D)(n:Nat):FI 20 (f20 D n):=fun_ok X_ok hD (SOk.cons (f62_ok hD n).fs (SOk.cons (f63_ok hD n).fs (SOk.nil))) Tryz.func20 (by kernel_rfl) (f20_eq D n)
def s15 (D:Dyn)(n:Nat):Tb:=⟨X,[(53,f53 D n),(54,f54 D n),(55,f55 D n),(23,f23 D n),(56,f56 D n),(20,f20 D n)]⟩
def f15j0 (D:Dyn)(n:Nat)(vs:List AV)(H:AH):Rs:=
 hd vs fun x0_4 vs=>hd vs fun x1_4 vs=>hd vs fun x2_4 vs=>hd vs fun x3_4 vs=>hd vs fun x4_4 vs=>hd vs fun x13_3 vs=>hd vs fun x15_2 vs=>hd vs fun x16_2 vs=>hd vs fun x52_2 vs=>hd vs fun x53_3 vs=>hd vs fun x54_2 vs=>
 bV (bInt .add x54_2 (.int .i64 (.ofNat 1))) fun x71=>
 some (.norm [x0_4,x1_4,x2_4,x3_4,x4_4,x13_3,x15_2,x16_2,x52_2,x53_3,x71],H)
def f15l1 (D:Dyn)(n:Nat)(vs:List AV)(H:AH):Rs:=
 hd vs fun x0_3 vs=>hd vs fun x1_3 vs=>hd vs fun x2_3 vs=>hd vs fun x3_3 vs=>hd vs fun x4_3 vs=>hd vs fun x13_2 vs=>hd vs fun x15 vs=>hd vs fun x16 vs=>hd vs fun x52 vs=>hd vs fun x53_2 vs=>hd vs fun x54 vs=>
 bV (bInt .lss x54 x53_2) fun x55=>
 cnd x55 (bV (ixSl 4 x52 x54) fun x56=>
 bV (ldN 4 x56 H) fun x57=>
 bA (bxV 118 (.agg [(.int .i64 (.ofNat 0)),(.int .u64 (.ofNat 0)),(.str 0 0),(.int .i64 (.ofNat 0))])) H fun x18 H=>
 bR (stN 4 x18 x57 H) fun x9999 H=>
 bV (fAd 0 x18) fun x58=>
 bV (fAd 0 x58) fun x59=>
 bV (ld1 x59 H) fun x60=>
 bV (bInt .eql x60 x2_3) fun x62=>
 jn (cnd x62 (bV (ldN 4 x18 H) fun x64=>
 bA (bldL 118 4 1 [(.int .i64 (.ofNat 0)),(.int .u64 (.ofNat 0)),(.str 0 0),(.int .i64 (.ofNat 0))] [(0,x64)]) H fun x65 H=>
 bR (apP 118 4 40 x15 x65 H) fun x66 H=>
 some (.norm [x0_3,x1_3,x2_3,x3_3,x4_3,x13_2,x66,x16,x52,x53_2,x54],H))
 (bV (ldN 4 x18 H) fun x68=>
 bA (bldL 118 4 1 [(.int .i64 (.ofNat 0)),(.int .u64 (.ofNat 0)),(.str 0 0),(.int .i64 (.ofNat 0))] [(0,x68)]) H fun x69 H=>
 bR (apP 118 4 40 x16 x69 H) fun x70 H=>
 some (.norm [x0_3,x1_3,x2_3,x3_3,x4_3,x13_2,x15,x70,x52,x53_2,x54],H))) (f15j0 D n))
 (some (.exit 0 [x0_3,x1_3,x2_3,x3_3,x4_3,x13_2,x15,x16],H))
def f15l2 (D:Dyn)(n:Nat)(vs:List AV)(H:AH):Rs:=
 hd vs fun x0_7 vs=>hd vs fun x1_7 vs=>hd vs fun x2_7 vs=>hd vs fun x3_7 vs=>hd vs fun x4_7 vs=>hd vs fun x13_6 vs=>hd vs fun x82 vs=>hd vs fun x83_2 vs=>hd vs fun x84 vs=>
 bV (bInt .lss x84 x83_2) fun x85=>
 cnd x85 (bV (ixSl 4 x82 x84) fun x86=>
 bV (ldN 4 x86 H) fun x87=>
 bA (bxV 118 (.agg [(.int .i64 (.ofNat 0)),(.int .u64 (.ofNat 0)),(.str 0 0),(.int .i64 (.ofNat 0))])) H fun x21 H=>
 bR (stN 4 x21 x87 H) fun x9999_2 H=>
 bV (fAd 3 x21) fun x90=>
 bV (ld1 x90 H) fun x91=>
 bR (f55 D n [x1_7,x91] H) fun x92 H=>
 bR (f23 D n [x0_7,x92] H) fun x93 H=>
 bV (bInt .neq x93 (.int .i64 (.ofNat 0))) fun x95=>
 cnd x95 (bV (some x93) fun x10_5=>some (.ret x10_5,H))
 (bV (bInt .add x84 (.int .i64 (.ofNat 1))) fun x97=>
 some (.norm [x0_7,x1_7,x2_7,x3_7,x4_7,x13_6,x82,x83_2,x97],H)))
 (some (.exit 2 [x0_7,x1_7,x2_7,x3_7,x4_7,x13_6],H))
def f15b3 (D:Dyn)(n:Nat)(vs:List AV)(H:AH):Rs:=
 hd vs fun x0_8 vs=>hd vs fun x1_8 vs=>hd vs fun x2_8 vs=>hd vs fun x3_8 vs=>hd vs fun x4_8 vs=>hd vs fun x13_7 vs=>
 bR (f55 D n [x1_8,x13_7] H) fun x101 H=>
 bV (cvI .u64 x2_8) fun x103=>
 bR (f56 D n [x103,(.int .i64 (.ofNat 4))] H) fun x104 H=>
 bR (f56 D n [x3_8,(.int .i64 (.ofNat 8))] H) fun x106 H=>
 bV (bStr .add x104 x106) fun x107=>
 bV (bStr .add x107 x4_8) fun x109=>
 bR (f20 D n [x0_8,x101,x109] H) fun x110 H=>
 bV (some x110) fun x10_6=>some (.ret x10_6,H)
def f15j4 (D:Dyn)(n:Nat)(vs:List AV)(H:AH):Rs:=
 hd vs fun x0_6 vs=>hd vs fun x1_6 vs=>hd vs fun x2_6 vs=>hd vs fun x3_6 vs=>hd vs fun x4_6 vs=>hd vs fun x13_5 vs=>hd vs fun x15_4 vs=>
 bV (lnSl x15_4) fun x83=>
 jb 2 (loopK n (f15l2 D n) [x0_6,x1_6,x2_6,x3_6,x4_6,x13_5,x15_4,x83,(.int .i64 (.ofNat 0))] H) (f15b3 D n)
def f15b5 (D:Dyn)(n:Nat)(vs:List AV)(H:AH):Rs:=
 hd vs fun x0_5 vs=>hd vs fun x1_5 vs=>hd vs fun x2_5 vs=>hd vs fun x3_5 vs=>hd vs fun x4_5 vs=>hd vs fun x13_4 vs=>hd vs fun x15_3 vs=>hd vs fun x16_3 vs=>
 bV (lnSl x16_3) fun x73=>
 bV (bInt .sub x73 (.int .i64 (.ofNat 7))) fun x74=>
 bV (bInt .gtr x74 (.int .i64 (.ofNat 0))) fun x76=>
 jn (cnd x76 (bV (slSl 4 x16_3 none (some x74) none H) fun x80=>
 bR (apP 118 4 40 x15_3 x80 H) fun x81 H=>
 some (.norm [x0_5,x1_5,x2_5,x3_5,x4_5,x13_4,x81],H))
 (some (.norm [x0_5,x1_5,x2_5,x3_5,x4_5,x13_4,x15_3],H))) (f15j4 D n)
def f15j6 (D:Dyn)(n:Nat)(vs:List AV)(H:AH):Rs:=
 hd vs fun x0_2 vs=>hd vs fun x1_2 vs=>hd vs fun x2_2 vs=>hd vs fun x3_2 vs=>hd vs fun x4_2 vs=>hd vs fun x11 vs=>hd vs fun x13 vs=>
 bV (lnSl x11) fun x53=>
 jb 0 (loopK n (f15l1 D n) [x0_2,x1_2,x2_2,x3_2,x4_2,x13, .nilSlice, .nilSlice,x11,x53,(.int .i64 (.ofNat 0))] H) (f15b5 D n)
def f15 (D:Dyn)(n:Nat)(vs:List AV)(H:AH):Option (AV×AH):=
 outR (hd vs fun x0 vs=>hd vs fun x1 vs=>hd vs fun x2 vs=>hd vs fun x3 vs=>hd vs fun x4 vs=>nl vs <|
 bR (f53 D n [x0,x1] H) fun x26 H=>
 bV (pExtract x26 0) fun x27=>
 bV (pExtract x26 1) fun x28=>
 bV (bInt .neq x28 (.int .i64 (.ofNat 0))) fun x30=>
 cnd x30 (bV (some x28) fun x10=>some (.ret x10,H))
 (bR (f54 D n [x2] H) fun x33 H=>
 bV (aun .not x33) fun x34=>
 cnd x34 (bV (some (.int .i64 (.ofNat 1))) fun x10_2=>some (.ret x10_2,H))
 (bV (lnStr x4) fun x36=>
 bV (bInt .gtr x36 (.int .i64 (.ofNat 188))) fun x37=>
 cnd x37 (bV (some (.int .i64 (.ofNat 40))) fun x10_3=>some (.ret x10_3,H))
 (bV (lnSl x27) fun x39=>
 bV (bInt .gtr x39 (.int .i64 (.ofNat 0))) fun x40=>
 jn (cnd x40 (bV (lnSl x27) fun x43=>
 bV (bInt .sub x43 (.int .i64 (.ofNat 1))) fun x44=>
 bV (ixSl 4 x27 x44) fun x45=>
 bV (fAd 3 x45) fun x46=>
 bV (ld1 x46 H) fun x47=>
 bV (bInt .geq x47 (.int .i64 (.ofNat 2147483647))) fun x49=>
 cnd x49 (bV (some (.int .i64 (.ofNat 3))) fun x10_4=>some (.ret x10_4,H))
 (bV (bInt .add x47 (.int .i64 (.ofNat 1))) fun x51=>
 some (.norm [x0,x1,x2,x3,x4,x27,x51],H)))
 (some (.norm [x0,x1,x2,x3,x4,x27,(.int .i64 (.ofNat 1))],H))) (f15j6 D n)))))
def h15:Hint:=(.s .o (.s .o (.s (.s .o (.cl (.s .o .o) .o)) (.s (.s .o (.cl (.s .o .o) .o)) (.s (.s .o (.cl (.s .o .o) .o)) (.s .o (.s (.s .o (.c [0,1,2,3,4,11,13] (.s .o (.s (.s .o (.cl (.s .o .o) .o)) .o)) .o)) (.s .o (.s (.s .o (.b [0,1,2,3,4,13,15,16] (.l [0,1,2,3,4,13,15,16,52,53,54] (.s .o (.s (.cr .o .o) (.s (.b0 (.s .o (.s .o (.c [0,1,2,3,4,13,15,16,52,53,54] .o .o)))) .o)))))) (.s (.s .o (.s .o (.c [0,1,2,3,4,13,15] .o .o))) (.s (.s .o (.b [0,1,2,3,4,13] (.l [0,1,2,3,4,13,82,83,84] (.s .o (.s (.cr .o .o) (.s (.b0 (.s .o (.s .o (.s .o (.cl (.s .o .o) .o))))) .o)))))) (.s .o .o))))))))))))
theorem f15_eq (D:Dyn)(n:Nat):f15 D n=funK (s15 D n) D n 15 Tryz.f15 h15:=by kernel_rfl
theorem f15_ok {D:Dyn}(hD:DG D)(n:Nat):FI 15 (f15 D n):=fun_ok X_ok hD (SOk.cons (f53_ok hD n).fs (SOk.cons (f54_ok hD n).fs (SOk.cons (f55_ok hD n).fs (SOk.cons (f23_ok hD n).fs (SOk.cons (f56_ok hD n).fs (SOk.cons (f20_ok hD n).fs (SOk.nil))))))) Tryz.func15 (by kernel_rfl) (f15_eq D n)
def s57 (D:Dyn)(n:Nat):Tb:=⟨X,[]⟩
def f57l0 (D:Dyn)(n:Nat)(vs:List AV)(H:AH):Rs:=
 hd vs fun x1_2 vs=>hd vs fun x4_2 vs=>hd vs fun x8 vs=>hd vs fun x9_2 vs=>hd vs fun x10 vs=>
 bV (bInt .lss x10 x9_2) fun x11=>
 cnd x11 (bV (ixSl 4 x8 x10) fun x12=>
 bV (ldN 4 x12 H) fun x13=>
 bA (bxV 118 (.agg [(.int .i64 (.ofNat 0)),(.int .u64 (.ofNat 0)),(.str 0 0),(.int .i64 (.ofNat 0))])) H fun x7 H=>
 bR (stN 4 x7 x13 H) fun x9999 H=>
 bV (ldN 4 x7 H) fun x15=>
 bR (callV (s57 D n).S D x1_2 [x15] H) fun x16 H=>
 cnd x16 (bV (ldN 4 x7 H) fun x17=>
 bR (stN 4 x4_2 x17 H) fun x9999_2 H=>
 bV (ldN 4 x4_2 H) fun x9004=>bV (some (.bool true)) fun x5=>some (.ret (.tuple [x9004,x5]),H))
 (bV (bInt .add x10 (.int .i64 (.ofNat 1))) fun x18=>
 some (.norm [x1_2,x4_2,x8,x9_2,x18],H)))
 (some (.exit 0 [x4_2],H))
def f57b1 (D:Dyn)(n:Nat)(vs:List AV)(H:AH):Rs:=
 hd vs fun x4_3 vs=>
 bV (bldS [(0,3),(3,1)] [(.int .i64 (.ofNat 0)),(.int .u64 (.ofNat 0)),(.str 0 0),(.int .i64 (.ofNat 0))] []) fun x19=>
 bR (stN 4 x4_3 x19 H) fun x9999_3 H=>
 bV (ldN 4 x4_3 H) fun x9004_2=>bV (some (.bool false)) fun x5_2=>some (.ret (.tuple [x9004_2,x5_2]),H)
def f57 (D:Dyn)(n:Nat)(vs:List AV)(H:AH):Option (AV×AH):=
 outR (hd vs fun x0 vs=>hd vs fun x1 vs=>nl vs <|
 bA (bxV 118 (.agg [(.int .i64 (.ofNat 0)),(.int .u64 (.ofNat 0)),(.str 0 0),(.int .i64 (.ofNat 0))])) H fun x4 H=>
 bV (lnSl x0) fun x9=>
 jb 0 (loopK n (f57l0 D n) [x1,x4,x0,x9,(.int .i64 (.ofNat 0))] H) (f57b1 D n))
def h57:Hint:=(.s .o (.s (.s .o (.b [4] (.l [1,4,8,9,10] (.s .o (.s (.cr .o .o) (.s (.b0 (.s .o (.s .o (.cl (.s .o .o) .o)))) .o)))))) (.s .o .o)))
theorem f57_eq (D:Dyn)(n:Nat):f57 D n=funK (s57 D n) D n 57 Tryz.f57 h57:=by kernel_rfl
theorem f57_ok {D:Dyn}(hD:DG D)(n:Nat):FI 57 (f57 D n):=fun_ok X_ok hD (SOk.nil) Tryz.func57 (by kernel_rfl) (f57_eq D n)
def s58 (D:Dyn)(n:Nat):Tb:=⟨X,[]⟩
def f58 (D:Dyn)(n:Nat)(vs:List AV)(H:AH):Option (AV×AH):=
 outR (hd vs fun x0 vs=>hd vs fun x1 vs=>hd vs fun x2 vs=>nl vs <|
 bA (bxV 118 x0) H fun x3 H=>
 bV (fAd 0 x3) fun x5=>
 bV (fAd 0 x5) fun x6=>
 bV (ld1 x6 H) fun x7=>
 bV (ld1 x1 H) fun x8=>
 bV (bInt .eql x7 x8) fun x9=>
 jn (wnt x9 true (bV (fAd 0 x3) fun x11=>
 bV (fAd 1 x11) fun x12=>
 bV (ld1 x12 H) fun x13=>
 bV (ld1 x2 H) fun x14=>
 bV (bInt .eql x13 x14) fun x15=>
 some (.norm [x15],H)) (some (.norm [undefA],H))) fun vs H=>hd vs fun x15_2 vs=>
 bV (pk3 (some x9) (some x15_2) (some (.bool false))) fun x16=>
 bV (some x16) fun x4=>some (.ret x4,H))
def h58:Hint:=(.s .o (.s .o .o))
theorem f58_eq (D:Dyn)(n:Nat):f58 D n=funK (s58 D n) D n 58 Tryz.f58 h58:=by kernel_rfl
theorem f58_ok {D:Dyn}(hD:DG D)(n:Nat):FI 58 (f58 D n):=fun_ok X_ok hD (SOk.nil) Tryz.func58 (by kernel_rfl) (f58_eq D n)
def s17 (D:Dyn)(n:Nat):Tb:=⟨X,[(53,f53 D n),(54,f54 D n),(57,f57 D n)]⟩
def f17 (D:Dyn)(n:Nat)(vs:List AV)(H:AH):Option (AV×AH):=
 outR (hd vs fun x0 vs=>hd vs fun x1 vs=>hd vs fun x2 vs=>hd vs fun x3 vs=>nl vs <|
 bA (bxV 3 x2) H fun x6 H=>
 bA (bxV 28 x3) H fun x7 H=>
 bR (f53 D n [x0,x1] H) fun x17 H=>
 bV (pExtract x17 0) fun x18=>
 bV (pExtract x17 1) fun x19=>
 bV (bInt .neq x19 (.int .i64 (.ofNat 0))) fun x21=>
 cnd x21 (bV (some (.str 0 0)) fun x8=>bV (some x19) fun x9=>some (.ret (.tuple [x8,x9]),H))
 (bV (ld1 x6 H) fun x23=>
 bR (f54 D n [x23] H) fun x24 H=>
 bV (aun .not x24) fun x25=>
 cnd x25 (bV (some (.str 0 0)) fun x8_2=>bV (some (.int .i64 (.ofNat 1))) fun x9_2=>some (.ret (.tuple [x8_2,x9_2]),H))
 (bR (f57 D n [x18,(.func 58 [] [x6,x7])] H) fun x29 H=>
 bV (pExtract x29 0) fun x30=>
 bV (pExtract x29 1) fun x31=>
 bA (bxV 118 (.agg [(.int .i64 (.ofNat 0)),(.int .u64 (.ofNat 0)),(.str 0 0),(.int .i64 (.ofNat 0))])) H fun x12 H=>
 bR (stN 4 x12 x30 H) fun x9999 H=>
 bV (aun .not x31) fun x33=>
 cnd x33 (bV (some (.str 0 0)) fun x8_3=>bV (some (.int .i64 (.ofNat 5))) fun x9_3=>some (.ret (.tuple [x8_3,x9_3]),H))
 (bV (fAd 0 x12) fun x34=>
 bV (fAd 2 x34) fun x35=>
 bV (ld1 x35 H) fun x36=>
 bV (some x36) fun x8_4=>bV (some (.int .i64 (.ofNat 0))) fun x9_4=>some (.ret (.tuple [x8_4,x9_4]),H)))))
def h17:Hint:=(.s .o (.s .o (.s (.s .o (.cl (.s .o .o) .o)) (.s (.s .o (.cl (.s .o .o) .o)) (.s .o (.s (.s .o (.cl (.s .o .o) .o)) (.s .o .o)))))))
theorem f17_eq (D:Dyn)(n:Nat):f17 D n=funK (s17 D n) D n 17 Tryz.f17 h17:=by kernel_rfl
theorem f17_ok {D:Dyn}(hD:DG D)(n:Nat):FI 17 (f17 D n):=fun_ok X_ok hD (SOk.cons (f53_ok hD n).fs (SOk.cons (f54_ok hD n).fs (SOk.cons (f57_ok hD n).fs (SOk.nil)))) Tryz.func17 (by kernel_rfl) (f17_eq D n)
def s50 (D:Dyn)(n:Nat):Tb:=⟨X,[(17,f17 D n)]⟩
def f50 (D:Dyn)(n:Nat)(vs:List AV)(H:AH):Option (AV×AH):=
 outR (hd vs fun x0 vs=>hd vs fun x1 vs=>hd vs fun x2 vs=>hd vs fun x3 vs=>hd vs fun x4 vs=>nl vs <|
 bR (f17 D n [x0,x1,x2,x3] H) fun x18 H=>
 bV (pExtract x18 0) fun x19=>
 bV (pExtract x18 1) fun x20=>
 bV (bInt .eql x20 (.int .i64 (.ofNat 0))) fun x22=>
 jn (wnt x22 true (bV (bStr .eql x19 x4) fun x26=>
 some (.norm [x26],H)) (some (.norm [undefA],H))) fun vs H=>hd vs fun x26_2 vs=>
 bV (pk3 (some x22) (some x26_2) (some (.bool false))) fun x27=>
 bV (some x27) fun x10=>some (.ret x10,H))
def h50:Hint:=(.s .o (.s .o (.s .o .o)))
theorem f50_eq (D:Dyn)(n:Nat):f50 D n=funK (s50 D n) D n 50 Tryz.f50 h50:=by kernel_rfl
theorem f50_ok {D:Dyn}(hD:DG D)(n:Nat):FI 50 (f50 D n):=fun_ok X_ok hD (SOk.cons (f17_ok hD n).fs (SOk.nil)) Tryz.func50 (by kernel_rfl) (f50_eq D n)
def s51 (D:Dyn)(n:Nat):Tb:=⟨X,[(17,f17 D n)]⟩
def f51 (D:Dyn)(n:Nat)(vs:List AV)(H:AH):Option (AV×AH):=
 outR (hd vs fun x0 vs=>hd vs fun x1 vs=>hd vs fun x2 vs=>hd vs fun x3 vs=>nl vs <|
 bR (f17 D n [x0,x1,x2,x3] H) fun x16 H=>
 bV (pExtract x16 0) fun x17=>
 bV (pExtract x16 1) fun x18=>
 bV (bInt .eql x18 (.int .i64 (.ofNat 5))) fun x20=>
 jn (wnt x20 true (bV (bStr .eql x17 (.str 0 0)) fun x23=>
 some (.norm [x23],H)) (some (.norm [undefA],H))) fun vs H=>hd vs fun x23_2 vs=>
 bV (pk3 (some x20) (some x23_2) (some (.bool false))) fun x24=>
 bV (some x24) fun x8=>some (.ret x8,H))
def h51:Hint:=(.s .o (.s .o (.s .o .o)))
theorem f51_eq (D:Dyn)(n:Nat):f51 D n=funK (s51 D n) D n 51 Tryz.f51 h51:=by kernel_rfl
theorem f51_ok {D:Dyn}(hD:DG D)(n:Nat):FI 51 (f51 D n):=fun_ok X_ok hD (SOk.cons (f17_ok hD n).fs (SOk.nil)) Tryz.func51 (by kernel_rfl) (f51_eq D n)
def s16 (D:Dyn)(n:Nat):Tb:=⟨X,[(53,f53 D n)]⟩
def f16l0 (D:Dyn)(n:Nat)(vs:List AV)(H:AH):Rs:=
 hd vs fun x7 vs=>hd vs fun x8 vs=>hd vs fun x17 vs=>hd vs fun x18_2 vs=>hd vs fun x19 vs=>
 bV (bInt .lss x19 x18_2) fun x20=>
 cnd x20 (bV (ixSl 4 x17 x19) fun x21=>
 bV (ldN 4 x21 H) fun x22=>
 bA (bxV 118 (.agg [(.int .i64 (.ofNat 0)),(.int .u64 (.ofNat 0)),(.str 0 0),(.int .i64 (.ofNat 0))])) H fun x10 H=>
 bR (stN 4 x10 x22 H) fun x9999 H=>
 bV (fAd 0 x10) fun x24=>
 bV (ldN 3 x24 H) fun x25=>
 bA (bldL 35 3 1 [(.int .i64 (.ofNat 0)),(.int .u64 (.ofNat 0)),(.str 0 0)] [(0,x25)]) H fun x26 H=>
 bR (apP 35 3 32 x8 x26 H) fun x27 H=>
 bV (bInt .add x19 (.int .i64 (.ofNat 1))) fun x28=>
 some (.norm [x7,x27,x17,x18_2,x28],H))
 (some (.exit 0 [x7,x8],H))
def f16b1 (D:Dyn)(n:Nat)(vs:List AV)(H:AH):Rs:=
 hd vs fun x7_2 vs=>hd vs fun x8_2 vs=>
 bV (some x8_2) fun x4=>bV (some x7_2) fun x5=>some (.ret (.tuple [x4,x5]),H)
def f16 (D:Dyn)(n:Nat)(vs:List AV)(H:AH):Option (AV×AH):=
 outR (hd vs fun x0 vs=>hd vs fun x1 vs=>nl vs <|
 bR (f53 D n [x0,x1] H) fun x14 H=>
 bV (pExtract x14 0) fun x15=>
 bV (pExtract x14 1) fun x16=>
 bV (lnSl x15) fun x18=>
 jb 0 (loopK n (f16l0 D n) [x16, .nilSlice,x15,x18,(.int .i64 (.ofNat 0))] H) (f16b1 D n))
def h16:Hint:=(.s .o (.s .o (.s .o (.s (.s .o (.b [7,8] (.l [7,8,17,18,19] (.s .o (.s (.cr .o .o) (.s (.b0 (.s .o .o)) .o)))))) (.s .o .o)))))
theorem f16_eq (D:Dyn)(n:Nat):f16 D n=funK (s16 D n) D n 16 Tryz.f16 h16:=by kernel_rfl
theorem f16_ok {D:Dyn}(hD:DG D)(n:Nat):FI 16 (f16 D n):=fun_ok X_ok hD (SOk.cons (f53_ok hD n).fs (SOk.nil)) Tryz.func16 (by kernel_rfl) (f16_eq D n)
def s52 (D:Dyn)(n:Nat):Tb:=⟨X,[(16,f16 D n)]⟩
def f52l0 (D:Dyn)(n:Nat)(vs:List AV)(H:AH):Rs:=
 hd vs fun x2_2 vs=>hd vs fun x7 vs=>hd vs fun x9 vs=>
 bV (lnSl x7) fun x27=>
 bV (bInt .lss x9 x27) fun x28=>
 cnd x28 (bV (ixSl 3 x7 x9) fun x33=>
 bV (fAd 0 x33) fun x34=>
 bV (ld1 x34 H) fun x35=>
 bV (ixSl 1 x2_2 x9) fun x38=>
 bV (ld1 x38 H) fun x39=>
 bV (bInt .neq x35 x39) fun x40=>
 cnd x40 (bV (some (.bool false)) fun x6_2=>some (.ret x6_2,H))
 (bV (bInt .add x9 (.int .i64 (.ofNat 1))) fun x30=>
 some (.norm [x2_2,x7,x30],H)))
 (some (.exit 0 [],H))
def f52b1 (D:Dyn)(n:Nat)(vs:List AV)(H:AH):Rs:=
 bV (some (.bool true)) fun x6_3=>some (.ret x6_3,H)
def f52 (D:Dyn)(n:Nat)(vs:List AV)(H:AH):Option (AV×AH):=
 outR (hd vs fun x0 vs=>hd vs fun x1 vs=>hd vs fun x2 vs=>nl vs <|
 bR (f16 D n [x0,x1] H) fun x13 H=>
 bV (pExtract x13 0) fun x14=>
 bV (pExtract x13 1) fun x15=>
 bV (bInt .neq x15 (.int .i64 (.ofNat 0))) fun x17=>
 jn (wnt x17 false (bV (lnSl x14) fun x20=>
 bV (lnSl x2) fun x22=>
 bV (bInt .neq x20 x22) fun x23=>
 some (.norm [x23],H)) (some (.norm [undefA],H))) fun vs H=>hd vs fun x23_2 vs=>
 bV (pk3 (some x17) (some (.bool true)) (some x23_2)) fun x24=>
 cnd x24 (bV (some (.bool false)) fun x6=>some (.ret x6,H))
 (jb 0 (loopK n (f52l0 D n) [x2,x14,(.int .i64 (.ofNat 0))] H) (f52b1 D n)))
def h52:Hint:=(.s .o (.s .o (.s (.s .o (.cl (.s .o .o) .o)) (.s (.s .o (.b [] (.l [2,7,9] (.s (.s .o (.cr .o .o)) (.s (.b0 (.s .o (.cl (.s .o .o) .o))) .o))))) (.s .o .o)))))
theorem f52_eq (D:Dyn)(n:Nat):f52 D n=funK (s52 D n) D n 52 Tryz.f52 h52:=by kernel_rfl
theorem f52_ok {D:Dyn}(hD:DG D)(n:Nat):FI 52 (f52 D n):=fun_ok X_ok hD (SOk.cons (f16_ok hD n).fs (SOk.nil)) Tryz.func52 (by kernel_rfl) (f52_eq D n)
def s14 (D:Dyn)(n:Nat):Tb:=⟨X,[(13,f13 D n),(15,f15 D n),(50,f50 D n),(51,f51 D n),(52,f52 D n)]⟩
def f14l0 (D:Dyn)(n:Nat)(vs:List AV)(H:AH):Rs:=
 hd vs fun x1 vs=>hd vs fun x2 vs=>
 bV (bInt .lss x2 (.int .i64 (.ofNat 16))) fun x27=>
 cnd x27 (bR (f15 D n [x1,(.int .i64 (.ofNat 1)),x2,(.int .u64 (.ofNat 5)),(.str 0 0)] H) fun x32 H=>
 bV (bInt .neq x32 (.int .i64 (.ofNat 0))) fun x33=>
 cnd x33 (bV (some (.bool false)) fun x0_2=>some (.ret x0_2,H))
 (bV (bInt .add x2 (.int .i64 (.ofNat 1))) fun x29=>
 some (.norm [x1,x29],H)))
 (some (.exit 0 [x1],H))
def f14b1 (D:Dyn)(n:Nat)(vs:List AV)(H:AH):Rs:=
 hd vs fun x1_2 vs=>
 bR (f51 D n [x1_2,(.int .i64 (.ofNat 1)),(.int .i64 (.ofNat 7)),(.int .u64 (.ofNat 5))] H) fun x35 H=>
 jn (wnt x35 true (bA (bldL 3 1 8 [(.int .i64 (.ofNat 0))] [(0,(.int .i64 (.ofNat 8))),(1,(.int .i64 (.ofNat 9))),(2,(.int .i64 (.ofNat 10))),(3,(.int .i64 (.ofNat 11))),(4,(.int .i64 (.ofNat 12))),(5,(.int .i64 (.ofNat 13))),(6,(.int .i64 (.ofNat 14))),(7,(.int .i64 (.ofNat 15)))]) H fun x38 H=>
 bR (f52 D n [x1_2,(.int .i64 (.ofNat 1)),x38] H) fun x39 H=>
 some (.norm [x39],H)) (some (.norm [undefA],H))) fun vs H=>hd vs fun x39_2 vs=>
 bV (pk3 (some x35) (some x39_2) (some (.bool false))) fun x40=>
 jn (wnt x40 true (bR (f15 D n [x1_2,(.int .i64 (.ofNat 1)),(.int .i64 (.ofNat 9)),(.int .u64 (.ofNat 1)),(.str 5 474214393697)] H) fun x43 H=>
 bV (bInt .eql x43 (.int .i64 (.ofNat 0))) fun x44=>
 some (.norm [x44],H)) (some (.norm [undefA],H))) fun vs H=>hd vs fun x44_2 vs=>
 bV (pk3 (some x40) (some x44_2) (some (.bool false))) fun x45=>
 jn (wnt x45 true (bA (bldL 3 1 8 [(.int .i64 (.ofNat 0))] [(0,(.int .i64 (.ofNat 8))),(1,(.int .i64 (.ofNat 10))),(2,(.int .i64 (.ofNat 11))),(3,(.int .i64 (.ofNat 12))),(4,(.int .i64 (.ofNat 13))),(5,(.int .i64 (.ofNat 14))),(6,(.int .i64 (.ofNat 15))),(7,(.int .i64 (.ofNat 9)))]) H fun x48 H=>
 bR (f52 D n [x1_2,(.int .i64 (.ofNat 1)),x48] H) fun x49 H=>
 some (.norm [x49],H)) (some (.norm [undefA],H))) fun vs H=>hd vs fun x49_2 vs=>
 bV (pk3 (some x45) (some x49_2) (some (.bool false))) fun x50=>
 jn (wnt x50 true (bR (f51 D n [x1_2,(.int .i64 (.ofNat 1)),(.int .i64 (.ofNat 9)),(.int .u64 (.ofNat 5))] H) fun x53 H=>
 some (.norm [x53],H)) (some (.norm [undefA],H))) fun vs H=>hd vs fun x53_2 vs=>
 bV (pk3 (some x50) (some x53_2) (some (.bool false))) fun x54=>
 jn (wnt x54 true (bR (f50 D n [x1_2,(.int .i64 (.ofNat 1)),(.int .i64 (.ofNat 9)),(.int .u64 (.ofNat 1)),(.str 5 474214393697)] H) fun x57 H=>
 some (.norm [x57],H)) (some (.norm [undefA],H))) fun vs H=>hd vs fun x57_2 vs=>
 bV (pk3 (some x54) (some x57_2) (some (.bool false))) fun x58=>
 bV (some x58) fun x0_3=>some (.ret x0_3,H)
def f14 (D:Dyn)(n:Nat)(vs:List AV)(H:AH):Option (AV×AH):=
 outR (nl vs <|
 bR (f13 D n [] H) fun x3 H=>
 bV (cmpO .eql (eqP x3 .nilPtr)) fun x5=>
 jn (wnt x5 false (bR (f15 D n [x3,(.int .i64 (.ofNat 1)),(.int .i64 (.ofNat 7)),(.int .u64 (.ofNat 5)),(.str 3 7562617)] H) fun x8 H=>
 bV (bInt .neq x8 (.int .i64 (.ofNat 0))) fun x9=>
 some (.norm [x9],H)) (some (.norm [undefA],H))) fun vs H=>hd vs fun x9_2 vs=>
 bV (pk3 (some x5) (some (.bool true)) (some x9_2)) fun x10=>
 jn (wnt x10 false (bR (f50 D n [x3,(.int .i64 (.ofNat 1)),(.int .i64 (.ofNat 7)),(.int .u64 (.ofNat 5)),(.str 3 7562617)] H) fun x13 H=>
 bV (aun .not x13) fun x14=>
 some (.norm [x14],H)) (some (.norm [undefA],H))) fun vs H=>hd vs fun x14_2 vs=>
 bV (pk3 (some x10) (some (.bool true)) (some x14_2)) fun x15=>
 jn (wnt x15 false (bR (f51 D n [x3,(.int .i64 (.ofNat 1)),(.int .i64 (.ofNat 7)),(.int .u64 (.ofNat 6))] H) fun x18 H=>
 bV (aun .not x18) fun x19=>
 some (.norm [x19],H)) (some (.norm [undefA],H))) fun vs H=>hd vs fun x19_2 vs=>
 bV (pk3 (some x15) (some (.bool true)) (some x19_2)) fun x20=>
 jn (wnt x20 false (bR (f51 D n [x3,(.int .i64 (.ofNat 2)),(.int .i64 (.ofNat 7)),(.int .u64 (.ofNat 5))] H) fun x23 H=>
 bV (aun .not x23) fun x24=>
 some (.norm [x24],H)) (some (.norm [undefA],H))) fun vs H=>hd vs fun x24_2 vs=>
 bV (pk3 (some x20) (some (.bool true)) (some x24_2)) fun x25=>
 cnd x25 (bV (some (.bool false)) fun x0=>some (.ret x0,H))
 (jb 0 (loopK n (f14l0 D n) [x3,(.int .i64 (.ofNat 8))] H) (f14b1 D n)))
def h14:Hint:=(.s .o (.s .o (.s (.s .o (.cl (.s .o .o) .o)) (.s (.s .o (.b [1] (.l [1,2] (.s (.s .o (.cr .o .o)) (.s (.b0 (.s .o (.cl (.s .o .o) .o))) .o))))) (.s .o .o)))))
theorem f14_eq (D:Dyn)(n:Nat):f14 D n=funK (s14 D n) D n 14 Tryz.f14 h14:=by kernel_rfl
theorem f14_ok {D:Dyn}(hD:DG D)(n:Nat):FI 14 (f14 D n):=fun_ok X_ok hD (SOk.cons (f13_ok hD n).fs (SOk.cons (f15_ok hD n).fs (SOk.cons (f50_ok hD n).fs (SOk.cons (f51_ok hD n).fs (SOk.cons (f52_ok hD n).fs (SOk.nil)))))) Tryz.func14 (by kernel_rfl) (f14_eq D n)
def s3 (D:Dyn)(n:Nat):Tb:=⟨X,[(13,f13 D n),(14,f14 D n),(15,f15 D n),(16,f16 D n),(17,f17 D n)]⟩
def f3l0 (D:Dyn)(n:Nat)(vs:List AV)(H:AH):Rs:=
 hd vs fun x0_2 vs=>hd vs fun x1_2 vs=>hd vs fun x2_2 vs=>hd vs fun x7 vs=>hd vs fun x8 vs=>
 bV (bInt .lss x8 x1_2) fun x42=>
 cnd x42 (bV (bInt .add x2_2 x8) fun x49=>
 bV (cvI .u64 x8) fun x51=>
 bR (f15 D n [x7,x0_2,x49,x51,(.str 1 114)] H) fun x52 H=>
 bV (bInt .neq x52 (.int .i64 (.ofNat 0))) fun x53=>
 cnd x53 (bV (some (.bool false)) fun x6_2=>some (.ret x6_2,H))
 (bV (bInt .add x8 (.int .i64 (.ofNat 1))) fun x44=>
 some (.norm [x0_2,x1_2,x2_2,x7,x44],H)))
 (some (.exit 0 [x0_2,x1_2,x2_2,x7],H))
def f3l1 (D:Dyn)(n:Nat)(vs:List AV)(H:AH):Rs:=
 hd vs fun x0_4 vs=>hd vs fun x1_4 vs=>hd vs fun x2_4 vs=>hd vs fun x7_3 vs=>hd vs fun x9 vs=>hd vs fun x11 vs=>
 bV (bInt .lss x11 x1_4) fun x71=>
 cnd x71 (bV (bInt .add x2_4 x11) fun x79=>
 bV (cvI .u64 x11) fun x81=>
 bR (f17 D n [x7_3,x0_4,x79,x81] H) fun x82 H=>
 bV (pExtract x82 0) fun x83=>
 bV (pExtract x82 1) fun x84=>
 bV (bInt .sub x1_4 (.int .i64 (.ofNat 8))) fun x87=>
 bV (bInt .geq x11 x87) fun x88=>
 bV (bInt .eql x84 (.int .i64 (.ofNat 0))) fun x90=>
 bV (bBool .neq x90 x88) fun x92=>
 jn (wnt x92 false (some (.norm [x88],H)) (some (.norm [undefA],H))) fun vs H=>hd vs fun x95 vs=>
 jn (wnt x95 true (bV (bInt .sub x1_4 (.int .i64 (.ofNat 8))) fun x99=>
 bV (mx2 (.int .i64 (.ofNat 0)) x99) fun x100=>
 bV (bInt .sub x11 x100) fun x101=>
 bV (ixSl 3 x9 x101) fun x102=>
 bV (fAd 0 x102) fun x103=>
 bV (ld1 x103 H) fun x104=>
 bV (bInt .add x2_4 x11) fun x107=>
 bV (bInt .neq x104 x107) fun x108=>
 some (.norm [x108],H)) (some (.norm [undefA],H))) fun vs H=>hd vs fun x108_2 vs=>
 jn (wnt x92 false (bV (pk3 (some x95) (some x108_2) (some (.bool false))) fun x109=>
 some (.norm [x109],H)) (some (.norm [undefA],H))) fun vs H=>hd vs fun x109_2 vs=>
 bV (pk3 (some x92) (some (.bool true)) (some x109_2)) fun x110=>
 cnd x110 (bV (some (.bool false)) fun x6_4=>some (.ret x6_4,H))
 (bV (bInt .add x11 (.int .i64 (.ofNat 1))) fun x73=>
 some (.norm [x0_4,x1_4,x2_4,x7_3,x9,x73],H)))
 (some (.exit 2 [],H))
def f3b2 (D:Dyn)(n:Nat)(vs:List AV)(H:AH):Rs:=
 bV (some (.bool true)) fun x6_5=>some (.ret x6_5,H)
def f3b3 (D:Dyn)(n:Nat)(vs:List AV)(H:AH):Rs:=
 hd vs fun x0_3 vs=>hd vs fun x1_3 vs=>hd vs fun x2_3 vs=>hd vs fun x7_2 vs=>
 bR (f16 D n [x7_2,x0_3] H) fun x57 H=>
 bV (pExtract x57 0) fun x58=>
 bV (pExtract x57 1) fun x59=>
 bV (bInt .neq x59 (.int .i64 (.ofNat 0))) fun x61=>
 jn (wnt x61 false (bV (lnSl x58) fun x64=>
 bV (mn2 x1_3 (.int .i64 (.ofNat 8))) fun x66=>
 bV (bInt .neq x64 x66) fun x67=>
 some (.norm [x67],H)) (some (.norm [undefA],H))) fun vs H=>hd vs fun x67_2 vs=>
 bV (pk3 (some x61) (some (.bool true)) (some x67_2)) fun x68=>
 cnd x68 (bV (some (.bool false)) fun x6_3=>some (.ret x6_3,H))
 (jb 2 (loopK n (f3l1 D n) [x0_3,x1_3,x2_3,x7_2,x58,(.int .i64 (.ofNat 0))] H) (f3b2 D n))
def f3 (D:Dyn)(n:Nat)(vs:List AV)(H:AH):Option (AV×AH):=
 outR (hd vs fun x0 vs=>hd vs fun x1 vs=>hd vs fun x2 vs=>nl vs <|
 bR (f13 D n [] H) fun x15 H=>
 bV (cvI .u64 x1) fun x17=>
 bV (bInt .rem x17 (.int .u64 (.ofNat 30))) fun x18=>
 bV (cvI .i64 x18) fun x19=>
 bV (cvI .u64 x2) fun x21=>
 bV (bInt .rem x21 (.int .u64 (.ofNat 1000000))) fun x22=>
 bV (cvI .i64 x22) fun x23=>
 bV (cvI .u64 x0) fun x25=>
 bV (bInt .rem x25 (.int .u64 (.ofNat 16))) fun x26=>
 bV (cvI .i64 x26) fun x27=>
 bV (bInt .add (.int .i64 (.ofNat 1)) x27) fun x28=>
 bR (f14 D n [] H) fun x29 H=>
 bV (aun .not x29) fun x30=>
 jn (wnt x30 false (bV (cmpO .eql (eqP x15 .nilPtr)) fun x33=>
 some (.norm [x33],H)) (some (.norm [undefA],H))) fun vs H=>hd vs fun x33_2 vs=>
 bV (pk3 (some x30) (some (.bool true)) (some x33_2)) fun x34=>
 cnd x34 (bR (f14 D n [] H) fun x35 H=>
 jn (wnt x35 true (bV (cmpO .neq (eqP x15 .nilPtr)) fun x38=>
 some (.norm [x38],H)) (some (.norm [undefA],H))) fun vs H=>hd vs fun x38_2 vs=>
 bV (pk3 (some x35) (some x38_2) (some (.bool false))) fun x39=>
 bV (some x39) fun x6=>some (.ret x6,H))
 (jb 0 (loopK n (f3l0 D n) [x28,x19,x23,x15,(.int .i64 (.ofNat 0))] H) (f3b3 D n)))
def h3:Hint:=(.s .o (.s .o (.s .o (.s .o (.s .o (.s (.s .o (.cl (.s .o .o) .o)) (.s (.s .o (.b [0,1,2,7] (.l [0,1,2,7,8] (.s (.s .o (.cr .o .o)) (.s (.b0 (.s .o (.cl (.s .o .o) .o))) .o))))) (.s .o (.s (.s .o (.cl (.s .o .o) .o)) (.s (.s .o (.b [] (.l [0,1,2,7,9,11] (.s (.s .o (.cr .o .o)) (.s (.b0 (.s .o (.s .o (.s .o (.cl (.s .o .o) .o))))) .o))))) (.s .o .o)))))))))))
theorem f3_eq (D:Dyn)(n:Nat):f3 D n=funK (s3 D n) D n 3 Tryz.f3 h3:=by kernel_rfl
theorem f3_ok {D:Dyn}(hD:DG D)(n:Nat):FI 3 (f3 D n):=fun_ok X_ok hD (SOk.cons (f13_ok hD n).fs (SOk.cons (f14_ok hD n).fs (SOk.cons (f15_ok hD n).fs (SOk.cons (f16_ok hD n).fs (SOk.cons (f17_ok hD n).fs (SOk.nil)))))) Tryz.func3 (by kernel_rfl) (f3_eq D n)
end Go.Eng.Sh
end
end
section
noncomputable section
namespace Go.Eng.Sh
open Go.Proofs
set_option maxRecDepth 100000
def tab (D:Dyn)(n:Nat):List (Nat×(List AV→AH→Option (AV×AH))):=[(3,f3 D n),(13,f13 D n),(14,f14 D n),(15,f15 D n),(16,f16 D n),(17,f17 D n),(20,f20 D n),(23,f23 D n),(31,f31 D n),(32,f32 D n),(36,f36 D n),(49,f49 D n),(50,f50 D n),(51,f51 D n),(52,f52 D n),(53,f53 D n),(54,f54 D n),(55,f55 D n),(56,f56 D n),(57,f57 D n),(58,f58 D n),(62,f62 D n),(63,f63 D n),(64,f64 D n),(65,f65 D n),(66,f66 D n),(67,f67 D n),(68,f68 D n),(69,f69 D n),(70,f70 D n),(75,f75 D n),(77,f77 D n),(80,f80 D n),(90,f90 D n),(91,f91 D n),(94,f94 D n),(95,f95 D n),(96,f96 D n),(97,f97 D n),(101,f101 D n),(102,f102 D n),(103,f103 D n),(104,f104 D n),(105,f105 D n),(106,f106 D n),(107,f107 D n),(108,f108 D n),(109,f109 D n),(110,m110 D n),(111,f111 D n),(118,f118 D n),(119,f119 D n),(123,f123 D n),(126,f126 D n),(127,f127 D n),(128,f128 D n),(131,f131 D n),(132,f132 D n),(138,f138 D n),(139,f139 D n),(140,f140 D n),(141,f141 D n),(144,f144 D n),(155,f155 D n),(156,f156 D n),(166,f166 D n),(167,f167 D n),(168,f168 D n),(179,f179 D n),(180,f180 D n),(183,f183 D n)]
def tabR (D:Dyn)(n:Nat):List ((Nat×Nat)×(Nat→ALoop→List AV→AH→Option (AV×AH))):=[((53,0),r53_0 D n),((90,0),r90_0 D n),((155,0),r155_0 D n)]
theorem tab_ok (D:Dyn)(n:Nat)(hD:DG D):SOk (tab D n):=SOk.cons (f3_ok hD n).fs (SOk.cons (f13_ok hD n).fs (SOk.cons (f14_ok hD n).fs (SOk.cons (f15_ok hD n).fs (SOk.cons (f16_ok hD n).fs (SOk.cons (f17_ok hD n).fs (SOk.cons (f20_ok hD n).fs (SOk.cons (f23_ok hD n).fs (SOk.cons (f31_ok hD n).fs (SOk.cons (f32_ok hD n).fs (SOk.cons (f36_ok hD n).fs (SOk.cons (f49_ok hD n).fs (SOk.cons (f50_ok hD n).fs (SOk.cons (f51_ok hD n).fs (SOk.cons (f52_ok hD n).fs (SOk.cons (f53_ok hD n).fs (SOk.cons (f54_ok hD n).fs (SOk.cons (f55_ok hD n).fs (SOk.cons (f56_ok hD n).fs (SOk.cons (f57_ok hD n).fs (SOk.cons (f58_ok hD n).fs (SOk.cons (f62_ok hD n).fs (SOk.cons (f63_ok hD n).fs (SOk.cons (f64_ok hD n).fs (SOk.cons (f65_ok hD n).fs (SOk.cons (f66_ok hD n).fs (SOk.cons (f67_ok hD n).fs (SOk.cons (f68_ok hD n).fs (SOk.cons (f69_ok hD n).fs (SOk.cons (f70_ok hD n).fs (SOk.cons (f75_ok hD n).fs (SOk.cons (f77_ok hD n).fs (SOk.cons (f80_ok hD n).fs (SOk.cons (f90_ok hD n).fs (SOk.cons (f91_ok hD n).fs (SOk.cons (f94_ok hD n).fs (SOk.cons (f95_ok hD n).fs (SOk.cons (f96_ok hD n).fs (SOk.cons (f97_ok hD n).fs (SOk.cons (f101_ok hD n).fs (SOk.cons (f102_ok hD n).fs (SOk.cons (f103_ok hD n).fs (SOk.cons (f104_ok hD n).fs (SOk.cons (f105_ok hD n).fs (SOk.cons (f106_ok hD n).fs (SOk.cons (f107_ok hD n).fs (SOk.cons (f108_ok hD n).fs (SOk.cons (f109_ok hD n).fs (SOk.cons (m110_ok hD n).fs (SOk.cons (f111_ok hD n).fs (SOk.cons (f118_ok hD n).fs (SOk.cons (f119_ok hD n).fs (SOk.cons (f123_ok hD n).fs (SOk.cons (f126_ok hD n).fs (SOk.cons (f127_ok hD n).fs (SOk.cons (f128_ok hD n).fs (SOk.cons (f131_ok hD n).fs (SOk.cons (f132_ok hD n).fs (SOk.cons (f138_ok hD n).fs (SOk.cons (f139_ok hD n).fs (SOk.cons (f140_ok hD n).fs (SOk.cons (f141_ok hD n).fs (SOk.cons (f144_ok hD n).fs (SOk.cons (f155_ok hD n).fs (SOk.cons (f156_ok hD n).fs (SOk.cons (f166_ok hD n).fs (SOk.cons (f167_ok hD n).fs (SOk.cons (f168_ok hD n).fs (SOk.cons (f179_ok hD n).fs (SOk.cons (f180_ok hD n).fs (SOk.cons (f183_ok hD n).fs (SOk.nil)))))))))))))))))))))))))))))))))))))))))))))))))))))))))))))))))))))))
theorem tabR_ok (D:Dyn)(n:Nat)(hD:DG D):ROk (tabR D n):=ROk.cons (r53_0_ok hD n) (ROk.cons (r90_0_ok hD n) (ROk.cons (r155_0_ok hD n) (ROk.nil)))
def dy (n:Nat):Dyn:=dyOf tab tabR n
theorem dy_ok (n:Nat):DG (dy n):=dyOf_ok tab_ok tabR_ok n
end Go.Eng.Sh
end
end
section
noncomputable section
namespace Go.Eng.Sh
open Go.Proofs
set_option maxRecDepth 1000000
theorem c14_r:saysT (f14 (dy 100000) 100000 [] ⟨.leaf,0⟩)=true:=by kernel_rfl
theorem c14 (w:World):Calls PP 14 #[] w fun e w'=>e= .returned (.bool true)∧RowKit.Below w.heap.size w w':=calls_of (f14_ok (dy_ok 100000) 100000) c14_r w
end Go.Eng.Sh
end
end
section
noncomputable section
namespace Go.Eng.Sh
open Go.Proofs
set_option maxRecDepth 1000000
def z14 (D:Dyn)(n:Nat)(vs:List AV)(H:AH):Option (AV×AH):=cloK (f14 D n) vs H
theorem z14_ok {D:Dyn}(hD:DG D)(n:Nat):FI 14 (z14 D n):=cloI_ok ⟨_,Tryz.func14,rfl⟩ c14 (f14_ok hD n)
def s3z (D:Dyn)(n:Nat):Tb:=⟨X,[(13,f13 D n),(14,z14 D n),(15,f15 D n),(16,f16 D n),(17,f17 D n)]⟩
def f3zl0 (D:Dyn)(n:Nat)(vs:List AV)(H:AH):Rs:=
 hd vs fun x0_2 vs=>hd vs fun x1_2 vs=>hd vs fun x2_2 vs=>hd vs fun x7 vs=>hd vs fun x8 vs=>
 bV (bInt .lss x8 x1_2) fun x42=>
 cnd x42 (bV (bInt .add x2_2 x8) fun x49=>
 bV (cvI .u64 x8) fun x51=>
 bR (f15 D n [x7,x0_2,x49,x51,(.str 1 114)] H) fun x52 H=>
 bV (bInt .neq x52 (.int .i64 (.ofNat 0))) fun x53=>
 cnd x53 (bV (some (.bool false)) fun x6_2=>some (.ret x6_2,H))
 (bV (bInt .add x8 (.int .i64 (.ofNat 1))) fun x44=>
 some (.norm [x0_2,x1_2,x2_2,x7,x44],H)))
 (some (.exit 0 [x0_2,x1_2,x2_2,x7],H))
def f3zl1 (D:Dyn)(n:Nat)(vs:List AV)(H:AH):Rs:=
 hd vs fun x0_4 vs=>hd vs fun x1_4 vs=>hd vs fun x2_4 vs=>hd vs fun x7_3 vs=>hd vs fun x9 vs=>hd vs fun x11 vs=>
 bV (bInt .lss x11 x1_4) fun x71=>
 cnd x71 (bV (bInt .add x2_4 x11) fun x79=>
 bV (cvI .u64 x11) fun x81=>
 bR (f17 D n [x7_3,x0_4,x79,x81] H) fun x82 H=>
 bV (pExtract x82 0) fun x83=>
 bV (pExtract x82 1) fun x84=>
 bV (bInt .sub x1_4 (.int .i64 (.ofNat 8))) fun x87=>
 bV (bInt .geq x11 x87) fun x88=>
 bV (bInt .eql x84 (.int .i64 (.ofNat 0))) fun x90=>
 bV (bBool .neq x90 x88) fun x92=>
 jn (wnt x92 false (some (.norm [x88],H)) (some (.norm [undefA],H))) fun vs H=>hd vs fun x95 vs=>
 jn (wnt x95 true (bV (bInt .sub x1_4 (.int .i64 (.ofNat 8))) fun x99=>
 bV (mx2 (.int .i64 (.ofNat 0)) x99) fun x100=>
 bV (bInt .sub x11 x100) fun x101=>
 bV (ixSl 3 x9 x101) fun x102=>
 bV (fAd 0 x102) fun x103=>
 bV (ld1 x103 H) fun x104=>
 bV (bInt .add x2_4 x11) fun x107=>
 bV (bInt .neq x104 x107) fun x108=>
 some (.norm [x108],H)) (some (.norm [undefA],H))) fun vs H=>hd vs fun x108_2 vs=>
 jn (wnt x92 false (bV (pk3 (some x95) (some x108_2) (some (.bool false))) fun x109=>
 some (.norm [x109],H)) (some (.norm [undefA],H))) fun vs H=>hd vs fun x109_2 vs=>
 bV (pk3 (some x92) (some (.bool true)) (some x109_2)) fun x110=>
 cnd x110 (bV (some (.bool false)) fun x6_4=>some (.ret x6_4,H))
 (bV (bInt .add x11 (.int .i64 (.ofNat 1))) fun x73=>
 some (.norm [x0_4,x1_4,x2_4,x7_3,x9,x73],H)))
 (some (.exit 2 [],H))
def f3zb2 (D:Dyn)(n:Nat)(vs:List AV)(H:AH):Rs:=
 bV (some (.bool true)) fun x6_5=>some (.ret x6_5,H)
def f3zb3 (D:Dyn)(n:Nat)(vs:List AV)(H:AH):Rs:=
 hd vs fun x0_3 vs=>hd vs fun x1_3 vs=>hd vs fun x2_3 vs=>hd vs fun x7_2 vs=>
 bR (f16 D n [x7_2,x0_3] H) fun x57 H=>
 bV (pExtract x57 0) fun x58=>
 bV (pExtract x57 1) fun x59=>
 bV (bInt .neq x59 (.int .i64 (.ofNat 0))) fun x61=>
 jn (wnt x61 false (bV (lnSl x58) fun x64=>
 bV (mn2 x1_3 (.int .i64 (.ofNat 8))) fun x66=>
 bV (bInt .neq x64 x66) fun x67=>
 some (.norm [x67],H)) (some (.norm [undefA],H))) fun vs H=>hd vs fun x67_2 vs=>
 bV (pk3 (some x61) (some (.bool true)) (some x67_2)) fun x68=>
 cnd x68 (bV (some (.bool false)) fun x6_3=>some (.ret x6_3,H))
 (jb 2 (loopK n (f3zl1 D n) [x0_3,x1_3,x2_3,x7_2,x58,(.int .i64 (.ofNat 0))] H) (f3zb2 D n))
def f3z (D:Dyn)(n:Nat)(vs:List AV)(H:AH):Option (AV×AH):=
 outR (hd vs fun x0 vs=>hd vs fun x1 vs=>hd vs fun x2 vs=>nl vs <|
 bR (f13 D n [] H) fun x15 H=>
 bV (cvI .u64 x1) fun x17=>
 bV (bInt .rem x17 (.int .u64 (.ofNat 30))) fun x18=>
 bV (cvI .i64 x18) fun x19=>
 bV (cvI .u64 x2) fun x21=>
 bV (bInt .rem x21 (.int .u64 (.ofNat 1000000))) fun x22=>
 bV (cvI .i64 x22) fun x23=>
 bV (cvI .u64 x0) fun x25=>
 bV (bInt .rem x25 (.int .u64 (.ofNat 16))) fun x26=>
 bV (cvI .i64 x26) fun x27=>
 bV (bInt .add (.int .i64 (.ofNat 1)) x27) fun x28=>
 bR (z14 D n [] H) fun x29 H=>
 bV (aun .not x29) fun x30=>
 jn (wnt x30 false (bV (cmpO .eql (eqP x15 .nilPtr)) fun x33=>
 some (.norm [x33],H)) (some (.norm [undefA],H))) fun vs H=>hd vs fun x33_2 vs=>
 bV (pk3 (some x30) (some (.bool true)) (some x33_2)) fun x34=>
 cnd x34 (bR (z14 D n [] H) fun x35 H=>
 jn (wnt x35 true (bV (cmpO .neq (eqP x15 .nilPtr)) fun x38=>
 some (.norm [x38],H)) (some (.norm [undefA],H))) fun vs H=>hd vs fun x38_2 vs=>
 bV (pk3 (some x35) (some x38_2) (some (.bool false))) fun x39=>
 bV (some x39) fun x6=>some (.ret x6,H))
 (jb 0 (loopK n (f3zl0 D n) [x28,x19,x23,x15,(.int .i64 (.ofNat 0))] H) (f3zb3 D n)))
def h3z:Hint:=(.s .o (.s .o (.s .o (.s .o (.s .o (.s (.s .o (.cl (.s .o .o) .o)) (.s (.s .o (.b [0,1,2,7] (.l [0,1,2,7,8] (.s (.s .o (.cr .o .o)) (.s (.b0 (.s .o (.cl (.s .o .o) .o))) .o))))) (.s .o (.s (.s .o (.cl (.s .o .o) .o)) (.s (.s .o (.b [] (.l [0,1,2,7,9,11] (.s (.s .o (.cr .o .o)) (.s (.b0 (.s .o (.s .o (.s .o (.cl (.s .o .o) .o))))) .o))))) (.s .o .o)))))))))))
theorem f3z_eq (D:Dyn)(n:Nat):f3z D n=funK (s3z D n) D n 3 Tryz.f3 h3z:=by kernel_rfl
theorem f3z_ok {D:Dyn}(hD:DG D)(n:Nat):FI 3 (f3z D n):=fun_ok X_ok hD (SOk.cons (f13_ok hD n).fs (SOk.cons (z14_ok hD n).fs (SOk.cons (f15_ok hD n).fs (SOk.cons (f16_ok hD n).fs (SOk.cons (f17_ok hD n).fs (SOk.nil)))))) Tryz.func3 (by kernel_rfl) (f3z_eq D n)
end Go.Eng.Sh
end
end
section
namespace Go.Nd
abbrev Str:=List UInt8
structure Ptr where
 at_:Int
 birth:Int
 sum:Int
 deriving DecidableEq
structure Node where
 leaf:Bool
 keys:List Str
 vals:List Str
 kids:List Ptr
 deriving DecidableEq
def be:Nat→Nat→Str
 | 0,_=>[]
 | k+1,n=>be k (n / 256)++[UInt8.ofNat n]
theorem be_length: ∀k n,(be k n).length=k
 | 0,_=>rfl
 | k+1,n=>by simp[be,be_length k]
def mayP (p:Ptr):Bool:=if p.at_=0 then decide (p.birth=0)&&decide (p.sum=0)else decide (0<p.at_)&&decide (p.at_<8192)&&decide (0≤p.birth)&&decide (p.birth≤2147483647)
def encP (p:Ptr):Str:=be 4 p.at_.toNat++(be 4 p.birth.toNat++be 8 p.sum.toNat)
theorem encP_length (p:Ptr):(encP p).length=16:=by simp[encP,be_length]
def sumOk (p:Ptr):Prop:=0≤p.sum∧p.sum<18446744073709551616
def encT (s:Str):Str:=UInt8.ofNat s.length::s
def mayK (k:Str):Bool:=decide (1≤k.length)&&decide (k.length≤40)
def rising (lt:Str→Str→Bool):List Str→Bool
 | []=>true
 | [_]=>true
 | a::b::l=>lt a b&&rising lt (b::l)
def kidOk (p:Ptr):Bool:=decide (1≤p.at_)&&decide (p.at_<8192)&&decide (0≤p.birth)&&decide (p.birth≤2147483647)
def shaped (lt:Str→Str→Bool)(n:Node):Bool:=
 n.keys.all mayK&&rising lt n.keys&&
 (if n.leaf then decide (n.vals.length=n.keys.length)&&decide (n.kids=[])&&n.vals.all (fun v=>decide (v.length≤200))
  else decide (n.keys≠[])&&decide (n.vals=[])&&decide (n.kids.length=n.keys.length+1)&&n.kids.all kidOk)
def sumL (l:List Str):Nat:=l.foldl (fun n s=>n+(1+s.length)) 0
theorem sumL_from (l:List Str)(a:Nat):l.foldl (fun n s=>n+(1+s.length)) a=a+sumL l:=by
 induction l generalizing a with
 | nil=>simp[sumL]
 | cons s l ih=>simp only[List.foldl_cons,sumL];rw[ih,ih];omega
theorem sumL_cons (s:Str)(l:List Str):sumL (s::l)=1+s.length+sumL l:=by
 simp only[sumL,List.foldl_cons];rw[sumL_from,sumL_from];simp[sumL]
theorem sumL_append (l m:List Str):sumL (l++m)=sumL l+sumL m:=by
 induction l with
 | nil=>simp[sumL]
 | cons s l ih=>rw[List.cons_append,sumL_cons,sumL_cons,ih];omega
def size (n:Node):Nat:=2+16*n.kids.length+sumL n.keys+sumL n.vals
def may (lt:Str→Str→Bool)(n:Node):Bool:=shaped lt n&&decide (size n≤500)
def encL:List Str→List Str→Str
 | k::ks,v::vs=>encT k++(encT v++encL ks vs)
 | _,_=>[]
def encI:List Str→List Ptr→Str
 | k::ks,p::ps=>encT k++(encP p++encI ks ps)
 | _,_=>[]
def encB (n:Node):Str:=if n.leaf then encL n.keys n.vals else match n.kids with
 | p::ps=>encP p++encI n.keys ps
 | []=>[]
def encN (n:Node):Str:=be 2 n.keys.length++encB n
theorem sumL_ge (l:List Str):l.length≤sumL l:=by
 induction l with
 | nil=>simp
 | cons s l ih=>rw[sumL_cons,List.length_cons];omega
end Go.Nd
end
section
namespace Go.Eng
theorem loop_for {b:List AV→AH→Rs}{H:AH}{r:Rs}(st:Nat→List AV)(N:Nat)(step: ∀i,i<N→b (st i) H=some (.norm (st (i+1)),H))(last: ∀n,loopK (n+1) b (st N) H=r): ∀n,N<n→loopK n b (st 0) H=r:=by
 suffices h: ∀(m i n:Nat),i+m=N→m<n→loopK n b (st i) H=r from fun n hn=>h N 0 n (by omega) hn
 intro m
 induction m with
 | zero=>
  intro i n hi hn
  obtain⟨n,rfl⟩: ∃k,n=k+1:=⟨n - 1,by omega⟩
  rw[show i=N by omega];exact last n
 | succ m ih=>
  intro i n hi hn
  obtain⟨n,rfl⟩: ∃k,n=k+1:=⟨n - 1,by omega⟩
  rw[loop_next (step i (by omega))]
  exact ih (i+1) n (by omega) (by omega)
theorem sum_take_succ {α:Type}(l:List α)(i:Nat)(h:i<l.length):l.take (i+1)=l.take i++[l[i]]:=by
 rw[List.take_succ_eq_append_getElem h]
theorem ld1_push (H:AH)(l:List AV)(e sz o:Nat)(g:Bool):ld1 (.ptr H.next o) (H.push (.cells l e sz g))=l[o]? :=by simp only[ld1,AH.push_get_eq,nth_eq]
theorem ldN_push (H:AH)(l:List AV)(e sz o n:Nat)(g:Bool):ldN n (.ptr H.next o) (H.push (.cells l e sz g))=(subN l o n).map .agg:=by
 simp only[ldN,AH.push_get_eq];cases subN l o n<;>rfl
theorem ld1_old {H:AH}{A:Nat}(o:Nat)(x:AObj)(h:A<H.next):ld1 (.ptr A o) (H.push x)=ld1 (.ptr A o) H:=by simp only[ld1,AH.push_get_ne _ _ h]
theorem ldN_old {H:AH}{A:Nat}(o n:Nat)(x:AObj)(h:A<H.next):ldN n (.ptr A o) (H.push x)=ldN n (.ptr A o) H:=by simp only[ldN,AH.push_get_ne _ _ h]
theorem loop_inv {b:List AV→AH→Rs}(N:Nat)(I:Nat→List AV→AH→Prop)(step: ∀i vs H,i<N→I i vs H→ ∃vs' H',b vs H=some (.norm vs',H')∧I (i+1) vs' H'):
  ∀(n:Nat) (vs:List AV) (H:AH),I 0 vs H→N<n→ ∃m vs' H',loopK n b vs H=loopK (m+1) b vs' H'∧I N vs' H':=by
 suffices h: ∀(m i n:Nat) (vs:List AV) (H:AH),i+m=N→m<n→I i vs H→ ∃m vs' H',loopK n b vs H=loopK (m+1) b vs' H'∧I N vs' H' from fun n vs H h0 hn=>h N 0 n vs H (by omega) hn h0
 intro m
 induction m with
 | zero=>
  intro i n vs H hi hn hI
  obtain⟨n,rfl⟩: ∃k,n=k+1:=⟨n - 1,by omega⟩
  exact⟨n,vs,H,rfl,by rw[show N=i by omega];exact hI⟩
 | succ m ih=>
  intro i n vs H hi hn hI
  obtain⟨n,rfl⟩: ∃k,n=k+1:=⟨n - 1,by omega⟩
  obtain⟨vs',H',h1,h2⟩:=step i vs H (by omega) hI
  rw[loop_next h1]
  exact ih (i+1) n vs' H' (by omega) (by omega) h2
def notN:Ex→Bool
 | .norm _=>false
 | _=>true
theorem jn_notN {e:Ex}{H:AH}{K:List AV→AH→Rs}(h:notN e=true):jn (some (e,H)) K=some (e,H):=by cases e<;>first | rfl | (simp[notN]at h)
theorem loop_all {b:List AV→AH→Rs}(N:Nat)(good:Nat→Bool)(I:Nat→List AV→AH→Prop)(Good Bad:Ex→AH→Prop)
  (step: ∀i vs H,i<N→I i vs H→good i=true→ ∃vs' H',b vs H=some (.norm vs',H')∧I (i+1) vs' H')
  (bad: ∀i vs H,i<N→I i vs H→good i=false→ ∃e H',b vs H=some (e,H')∧notN e=true∧Bad e H')
  (last: ∀vs H,I N vs H→ ∃e H',b vs H=some (e,H')∧notN e=true∧Good e H'):
  ∀(n:Nat) (vs:List AV) (H:AH),I 0 vs H→N<n→ ∃e H',loopK n b vs H=some (e,H')∧if(List.range N).all good then Good e H' else Bad e H':=by
 suffices h: ∀(m i n:Nat) (vs:List AV) (H:AH),i+m=N→m<n→I i vs H→(∀j,j<i→good j=true)→ ∃e H',loopK n b vs H=some (e,H')∧if(List.range N).all good then Good e H' else Bad e H' from
  fun n vs H h0 hn=>h N 0 n vs H (by omega) hn h0 (fun j hj=>by omega)
 intro m
 induction m with
 | zero=>
  intro i n vs H hi hn hI hg
  obtain⟨n,rfl⟩: ∃k,n=k+1:=⟨n - 1,by omega⟩
  rw[show i=N by omega]at hI hg
  obtain⟨e,H',h1,h2,h3⟩:=last vs H hI
  refine⟨e,H', ?_, ?_⟩
  ·show jn (b vs H) _=_
   rw[h1,jn_notN h2]
  ·rw[if_pos (by simpa[List.all_eq_true]using hg)];exact h3
 | succ m ih=>
  intro i n vs H hi hn hI hg
  obtain⟨n,rfl⟩: ∃k,n=k+1:=⟨n - 1,by omega⟩
  cases hgi:good i with
  | true=>
   obtain⟨vs',H',h1,h2⟩:=step i vs H (by omega) hI hgi
   rw[loop_next h1]
   exact ih (i+1) n vs' H' (by omega) (by omega) h2 (fun j hj=>by
    rcases Nat.lt_succ_iff_lt_or_eq.1 hj with h | rfl
    ·exact hg j h
    ·exact hgi)
  | false=>
   obtain⟨e,H',h1,h2,h3⟩:=bad i vs H (by omega) hI hgi
   refine⟨e,H', ?_, ?_⟩
   ·show jn (b vs H) _=_
    rw[h1,jn_notN h2]
   ·rw[if_neg (by
     simp only[List.all_eq_true,List.mem_range];intro h
     have:=h i (by omega)
     rw[hgi]at this;cases this)];exact h3
theorem wnt_undef (want:Bool)(x y:Rs):wnt undefA want x y=y:=by cases want<;>rfl
theorem bInt_shr (k k':IntKind){a:Int}{s:Nat}(ha:0≤a)(hs:s≤k.bits):bInt .shr (.int k a) (.int k' (s:Int))=some (.int k (a / 2 ^ s)):=by
 show fI (a.fdiv ((2 ^ (Nat.min s k.bits):Nat):Int)) (fun r=>some (AV.int k r))=_
 rw[fI_eq,show Nat.min s k.bits=s from Nat.min_eq_left hs,Int.fdiv_eq_ediv_of_nonneg _ (Int.natCast_nonneg _)]
 simp
theorem bInt_shl (k k':IntKind)(a:Int){s:Nat}(hs:s≤k.bits):bInt .shl (.int k a) (.int k' (s:Int))=some (.int k (k.wrap (a*2 ^ s))):=by
 show mkI k (a*(2 ^ (Nat.min s k.bits):Nat))=_
 rw[mkI_eq,show Nat.min s k.bits=s from Nat.min_eq_left hs];simp
theorem cellsA_cell {v:AV}(h:isCell v=true):cellsA v=[v]:=by cases v<;>first | rfl | (simp[isCell]at h)
theorem Rw.isCell {k n:Nat}{H:AH}{v:AV}{l:List AV}(h:Rw k H v n l):Eng.isCell v=true:=by
 obtain⟨_,⟨rfl,_⟩ | ⟨rfl,_⟩ | ⟨A,off,cc,c,e,sz,g,rfl,_⟩⟩:=h<;>rfl
theorem cellEq_int (k:IntKind)(a b:Int):cellEq (icode k) (.int k a) (.int k b)=some (decide (a=b)):=by
 have:keq k k=true:=by rw[keq_eq];simp
 simp only[cellEq,Nat.beq_refl,this,Bool.and_self,cond_true,ieq_eq]
 congr 1
theorem aveq_row {k n:Nat}{H:AH}{v:AV}{l:List AV}(h:Rw k H v n l):aveq v v=true:=by
 obtain⟨_,⟨rfl,_⟩ | ⟨rfl,_⟩ | ⟨A,off,cc,c,e,sz,g,rfl,_⟩⟩:=h
 ·rfl
 ·rfl
 ·simp[aveq]
theorem chk_ok {x:Option AV}{v:AV}{K:Rs}(h:x=some v)(hv:aveq v v=true):chk x v K=K:=by subst h;simp[chk,hv]
theorem ld1_get {H:AH}{A:Nat}{l:List AV}{e:TypeId}{sz:Nat}{g:Bool}(h:H.h.get A=some (.cells l e sz g))(o:Nat):ld1 (.ptr A o) H=l[o]? :=by simp only[ld1,h,nth_eq]
theorem ldN_get {H:AH}{A:Nat}{l:List AV}{e:TypeId}{sz:Nat}{g:Bool}(h:H.h.get A=some (.cells l e sz g))(o n:Nat):ldN n (.ptr A o) H=(subN l o n).map .agg:=by simp only[ldN,h];cases subN l o n<;>rfl
theorem jn_orf (b c:Bool)(H:AH)(K:AV→AH→Rs):
  jn (if b=false then some (.norm [.bool c],H)else some (.norm [undefA],H)) (fun vs H=>hd vs fun y _=>bV (if b=true then some (.bool true)else some y) fun x=>K x H)=K (.bool (b||c)) H:=by
 cases b<;>simp[jn,hd,bV]
theorem jn_orn (p:Prop)[Decidable p](b:Bool)(H:AH)(K:AV→AH→Rs):
  jn (if ¬p then some (.norm [.bool b],H)else some (.norm [undefA],H)) (fun vs H=>hd vs fun y _=>bV (if p then some (.bool true)else some y) fun x=>K x H)=K (.bool (decide p||b)) H:=by
 by_cases h:p<;>simp[h,jn,hd,bV]
theorem lg:(∀(p:Prop) [Decidable p] (b:Bool) (H:AH) (K:AV→AH→Rs),jn (if ¬p then some (.norm [.bool b],H)else some (.norm [undefA],H)) (fun vs H=>hd vs fun y _=>bV (if p then some (.bool true)else some y) fun x=>K x H)=K (.bool (decide p||b)) H)∧
  (∀(p:Prop) [Decidable p] (b:Bool) (H:AH) (K:AV→AH→Rs),jn (if p then some (.norm [.bool b],H)else some (.norm [undefA],H)) (fun vs H=>hd vs fun y _=>bV (if p then some y else some (.bool false)) fun x=>K x H)=K (.bool (decide p&&b)) H)∧
  (∀(p:Prop) [Decidable p] (b:Bool) (H:AH) (K:AV→AH→Rs),jn (if p then some (.norm [undefA],H)else some (.norm [.bool b],H)) (fun vs H=>hd vs fun y _=>bV (if p then some (.bool true)else some y) fun x=>K x H)=K (.bool (decide p||b)) H)∧
  (∀(b c:Bool) (H:AH) (K:AV→AH→Rs),jn (if b=false then some (.norm [.bool c],H)else some (.norm [undefA],H)) (fun vs H=>hd vs fun y _=>bV (if b=true then some (.bool true)else some y) fun x=>K x H)=K (.bool (b||c)) H)∧
  (∀(p:Prop) [Decidable p],(decide p=true)=p)∧(∀(p:Prop) [Decidable p],(decide p=false)= ¬p)∧(∀(b:Bool),decide (b=true)=b):=
 ⟨fun p _ b H K=>jn_orn p b H K,fun p _ b H K=>jn_and p b H K,fun p _ b H K=>jn_or p b H K,jn_orf,fun p _=>decide_eq_true_eq,fun p _=>by simp,fun b=>by simp⟩
theorem ev:(∀(v:AV) (vs:List AV) (K:AV→List AV→Rs),hd (v::vs) K=K v vs)∧
 (∀(K:Rs),nl [] K=K)∧
 (∀(v:AV) (K:AV→Rs),bV (some v) K=K v)∧
 (∀(v:AV) (H:AH) (K:AV→AH→Rs),bR (some (v,H)) K=K v H)∧
 (∀(vs:List AV) (H:AH) (K:List AV→AH→Rs),jn (some (.norm vs,H)) K=K vs H)∧
 (∀(v:AV) (H:AH) (K:List AV→AH→Rs),jn (some (.ret v,H)) K=some (.ret v,H))∧
 (∀(i:Nat) (vs:List AV) (H:AH) (K:List AV→AH→Rs),jn (some (.exit i vs,H)) K=some (.exit i vs,H))∧
 (∀(id:Nat) (vs:List AV) (H:AH) (K:List AV→AH→Rs),jb id (some (.norm vs,H)) K=K vs H)∧
 (∀(id:Nat) (v:AV) (H:AH) (K:List AV→AH→Rs),jb id (some (.ret v,H)) K=some (.ret v,H))∧
 (∀(id:Nat) (vs:List AV) (H:AH) (K:List AV→AH→Rs),jb id (some (.exit id vs,H)) K=K vs H)∧
 (∀(v:AV) (H:AH),outR (some (.ret v,H))=some (v,H))∧
 (∀(b:Bool) (x y:Rs),cnd (.bool b) x y=if b then x else y)∧
 (∀(b want:Bool) (x y:Rs),wnt (.bool b) want x y=if b=want then x else y)∧
 (∀(b:Bool) (x y:Option AV),pk3 (some (.bool b)) x y=if b then x else y)∧
 (∀(k:IntKind) (a b:Int),bInt .add (.int k a) (.int k b)=some (.int k (k.wrap (a+b))))∧
 (∀(k:IntKind) (a b:Int),bInt .sub (.int k a) (.int k b)=some (.int k (k.wrap (a - b))))∧
 (∀(k:IntKind) (a b:Int),bInt .mul (.int k a) (.int k b)=some (.int k (k.wrap (a*b))))∧
 (∀(k:IntKind) (a b:Int),bInt .eql (.int k a) (.int k b)=some (.bool (decide (a=b))))∧
 (∀(k:IntKind) (a b:Int),bInt .neq (.int k a) (.int k b)=some (.bool (decide (a≠b))))∧
 (∀(k:IntKind) (a b:Int),bInt .lss (.int k a) (.int k b)=some (.bool (decide (a<b))))∧
 (∀(k:IntKind) (a b:Int),bInt .leq (.int k a) (.int k b)=some (.bool (decide (a≤b))))∧
 (∀(k:IntKind) (a b:Int),bInt .gtr (.int k a) (.int k b)=some (.bool (decide (b<a))))∧
 (∀(k:IntKind) (a b:Int),bInt .geq (.int k a) (.int k b)=some (.bool (decide (b≤a))))∧
 (∀(k k':IntKind) (z:Int),cvI k (.int k' z)=some (.int k (k.wrap z)))∧
 (∀(a b:Bool),bBool .eql (.bool a) (.bool b)=some (.bool (a==b)))∧
 (∀(a b:Bool),bBool .neq (.bool a) (.bool b)=some (.bool (!(a==b))))∧
 (∀(b:Bool),aun .not (.bool b)=some (.bool !b))∧
 (∀(l:Str),lnStr (S l)=some (.int .i64 (l.length:Nat)))∧
 (∀(l m:Str),bStr .eql (S l) (S m)=some (.bool (decide (l=m))))∧
 (∀(l m:Str),bStr .neq (S l) (S m)=some (.bool (decide (l≠m))))∧
 (∀(l m:Str),bStr .lss (S l) (S m)=some (.bool (ltS l m)))∧
 (∀(l m:Str),bStr .geq (S l) (S m)=some (.bool (!ltS l m)))∧
 (∀(A o:Nat),pNil (.ptr A o)=some (.ptr A o))∧
 (∀(f A o:Nat),fAd f (.ptr A o)=some (.ptr A (o+f)))∧
 (∀(e:TypeId) (x:AV),bxV e x=some (.cells (cellsA x) e 1 false,fun A=> .ptr A 0))∧
 (∀(l:List AV),cellsA (.agg l)=l)∧
 (∀(H:AH) (l:List AV) (e sz o:Nat) (g:Bool),ld1 (.ptr H.next o) (H.push (.cells l e sz g))=l[o]?)∧
 (∀(H:AH) (l:List AV) (e sz o n:Nat) (g:Bool),ldN n (.ptr H.next o) (H.push (.cells l e sz g))=(subN l o n).map .agg)∧
 (∀(a:AV) (l:List AV),(a::l)[0]? =some a)∧
 (∀(a:AV) (l:List AV) (i:Nat),(a::l)[i+1]? =l[i]?)∧
 (∀(n:Nat),0+n=n)∧
 (∀(n:Nat),Int.ofNat n=(n:Int))∧
 (∀(z:Int), -9223372036854775808≤z→z≤9223372036854775807→IntKind.wrap .i64 z=z):=
 ⟨hd_cons,nl_nil,bVs,bRs,jn_norm,jn_ret,jn_exit,jb_norm,jb_ret,jb_exit,outR_ret,cnd_b,wnt_b,pk3_b,bInt_add,bInt_sub,bInt_mul,bInt_eql,bInt_neq,bInt_lss,bInt_leq,bInt_gtr,bInt_geq,cvI_int,bBool_eql,bBool_neq,aun_not,lnStr_S,bStr_eql,bStr_neq,bStr_lss,bStr_geq,pNil_ptr,fAd_ptr,fun _ _=>rfl,fun _=>rfl,ld1_push,ldN_push,fun _ _=>List.getElem?_cons_zero,fun _ _ _=>List.getElem?_cons_succ,Nat.zero_add,fun _=>rfl,fun _ h1 h2=>wrap_i64 h1 h2⟩
end Go.Eng
end
section
namespace Go.Eng
def Grow (k e:Nat)(H:AH)(v:AV)(n:Nat)(l:List AV):Prop:=
 Own k e H v n l∨(l.length=n*k∧ ∃A e' g,v= .slice A 0 n (2*n)∧A<H.next∧H.h.get A=some (.cells l e' k g))
theorem Grow.len {k e n:Nat}{H:AH}{v:AV}{l:List AV}(h:Grow k e H v n l):l.length=n*k:=by
 rcases h with h | h
 ·exact h.1
 ·exact h.1
theorem Grow.row {k e n:Nat}{H:AH}{v:AV}{l:List AV}(h:Grow k e H v n l):Rw k H v n l:=by
 rcases h with h | ⟨h0,A,e',g,rfl,hA,hg⟩
 ·exact h.row
 ·exact⟨h0, .inr (.inr ⟨A,0,2*n,l,e',k,g,rfl,hg,hA,by omega,by rw[List.drop_zero,List.take_of_length_le (by omega)]⟩)⟩
theorem Grow.mono {k e n:Nat}{S:Nat→Prop}{H H':AH}{v:AV}{l:List AV}(h:Grow k e H v n l)(s:Stp S H H')(hS: ∀A,Blk v A→ ¬S A):Grow k e H' v n l:=by
 rcases h with h | ⟨h0,A,e',g,rfl,hA,hg⟩
 ·exact .inl (h.mono s hS)
 ·exact .inr ⟨h0,A,e',g,rfl,Nat.lt_of_lt_of_le hA s.next,by rw[s.keep A hA (hS A (Blk.slice.2 rfl))];exact hg⟩
theorem Grow.lt {k e n:Nat}{H:AH}{v:AV}{l:List AV}(h:Grow k e H v n l){B:Nat}(hB:Blk v B):B<H.next:=by
 rcases h with⟨_,⟨rfl,_⟩ | ⟨A,rfl,hA,_⟩⟩ | ⟨_,A,e',g,rfl,hA,_⟩
 ·exact(Blk.nil.1 hB).elim
 ·rw[Blk.slice.1 hB];exact hA
 ·rw[Blk.slice.1 hB];exact hA
theorem Grow.app1 {k e bytes n m:Nat}{H:AH}{v:AV}{l new:List AV}(hk:H.ok)(hpos:0<k)(h:Grow k e H v n l)(hm:new.length=m*k)(hn:n+m≤1000000000)(hb:bytes≤1000):
  ∃v' H',Eng.app1 e k bytes m new v H=some (v',H')∧Grow k e H' v' (n+m) (l++new)∧Stp (Blk v) H H'∧(∀B,Blk v' B→Blk v B∨H.next≤B):=by
 by_cases h0:m=0
 ·subst h0
  have:new=[]:=List.eq_nil_of_length_eq_zero (by simpa using hm)
  subst this
  rcases h with h | ⟨h0,A,e',g,rfl,hA,hg⟩
  ·obtain⟨H',h1,h2,h3,h4⟩:=app1_none (bytes:=bytes) hk hpos h
   exact⟨v,H',h1, .inl (by simpa using h2),h3.mono (fun _ _ x=>x.elim),fun B hB=> .inl hB⟩
  ·have hroom:roomOf l g k 0 (2*n) k=n:=by
    simp only[roomOf,show((2*n) % 2).beq 0=true by rw[Nat.mul_mod_right];rfl,cond_true,Nat.mul_div_cancel_left n (show 0<2 by omega)]
   have hz:Nat.blt 0 k=true:=by rw[Nat.blt_eq];exact hpos
   have hset:setAt l (0+n*k) []=some l:=by rw[setAt_some (by simp;omega)];simp
   have hg':(H.put A (.cells l e' k g)).h.get A=some (.cells l e' k g):=by rw[AH.put_get,if_pos rfl]
   refine⟨.slice A 0 n (2*n),H.put A (.cells l e' k g), ?_, .inr ⟨by simpa using h0,A,e',g,rfl,hA,by simpa using hg'⟩,(Stp.refl hk).put hA _ (.inr (Blk.slice.2 rfl)),fun B hB=> .inl hB⟩
   simp only[Eng.app1,hg,app2,hroom,Nat.add_zero,Nat.ble_eq_true_of_le (Nat.le_refl n),cond_true,hz,hset,appIn,putA_ok,fN_eq]
 ·rcases h with h | ⟨hl,A,e',g,rfl,hA,hg⟩
  ·obtain⟨H',h1,h2,h3,h4⟩:=app1_own (bytes:=bytes) hk hpos h hm (by omega) hn hb
   exact⟨_,H',h1, .inl h2,h3,fun B hB=> .inr (by rw[Blk.slice.1 hB];exact Nat.le_refl _)⟩
  ·have h1:=app1_full (k:=k) (e:=e) (bytes:=bytes) (n:=n) (m:=m) (off:=0) (new:=new) hk hg (by omega) (by omega) hn hb
   rw[List.drop_zero,List.take_of_length_le (by omega)]at h1
   refine⟨_,_,h1, .inl ⟨by simp[hl,hm,Nat.add_mul], .inr ⟨H.next,rfl,Nat.lt_succ_self _,AH.push_get_eq _ _⟩⟩,(Stp.refl hk).push _,fun B hB=> .inr (by rw[Blk.slice.1 hB];exact Nat.le_refl _)⟩
theorem Grow.app {k e bytes n m:Nat}{H:AH}{v s:AV}{l new:List AV}(hk:H.ok)(hpos:0<k)(h:Grow k e H v n l)(hs:srcOf k s H=some (m,new))(hm:new.length=m*k)(hc:allCells new=true)(hn:n+m≤1000000000)(hb:bytes≤1000):
  ∃v' H',apP e k bytes v s H=some (v',H')∧Grow k e H' v' (n+m) (l++new)∧Stp (Blk v) H H'∧(∀B,Blk v' B→Blk v B∨H.next≤B):=by
 obtain⟨v',H',h1,h2⟩:=h.app1 (bytes:=bytes) (e:=e) hk hpos hm hn hb
 exact⟨v',H',by simp only[apP,hs,hc,cond_true,h1],h2⟩
theorem Grow.isCell {k e n:Nat}{H:AH}{v:AV}{l:List AV}(h:Grow k e H v n l):isCell v=true:=h.row.isCell
def Box (H:AH)(A:Nat)(v:AV):Prop:= ∃e,H.h.get A=some (.cells [v] e 1 false)
theorem Box.ld {H:AH}{A:Nat}{v:AV}(h:Box H A v):ld1 (.ptr A 0) H=some v:=by
 obtain⟨e,h⟩:=h;rw[ld1_get h];rfl
theorem Box.st {H:AH}{A:Nat}{v x:AV}(h:Box H A v)(hk:H.ok)(hx:Eng.isCell x=true): ∃H',stN 1 (.ptr A 0) x H=some (undefA,H')∧Box H' A x∧Stp (fun B=>B=A) H H':=by
 obtain⟨e,h⟩:=h
 exact⟨_,st1_ok h (by decide) hx (by simp),⟨e,by rw[AH.put_get,if_pos rfl];rfl⟩,(Stp.refl hk).put (hk.lt h) _ (.inr rfl)⟩
theorem Box.mono {S:Nat→Prop}{H H':AH}{A:Nat}{v:AV}(h:Box H A v)(hk:H.ok)(s:Stp S H H')(hA: ¬S A):Box H' A v:=by
 obtain⟨e,h⟩:=h;exact⟨e,by rw[s.keep A (hk.lt h) hA];exact h⟩
theorem Box.lt {H:AH}{A:Nat}{v:AV}(h:Box H A v)(hk:H.ok):A<H.next:=by obtain⟨e,h⟩:=h;exact hk.lt h
end Go.Eng
end
section
namespace Go.Nd
theorem rising_ix (lt:Str→Str→Bool): ∀l:List Str,rising lt l=true↔ ∀i (h:i+1<l.length),lt l[i] l[i+1]=true
 | []=>by simp[rising]
 | [a]=>by simp[rising]
 | a::b::l=>by
  have ih:=rising_ix lt (b::l)
  simp only[rising,Bool.and_eq_true,ih]
  constructor
  ·rintro⟨h1,h2⟩ i h
   cases i with
   | zero=>exact h1
   | succ i=>exact h2 i (by simpa using h)
  ·intro h
   exact⟨h 0 (by simp),fun i hi=>h (i+1) (by simpa using hi)⟩
theorem rising_take {lt:Str→Str→Bool}{l:List Str}(h:rising lt l=true)(k:Nat):rising lt (l.take k)=true:=by
 rw[rising_ix]at h⊢
 intro i hi
 simp only[List.length_take]at hi
 simp only[List.getElem_take]
 exact h i (by omega)
theorem rising_drop {lt:Str→Str→Bool}{l:List Str}(h:rising lt l=true)(k:Nat):rising lt (l.drop k)=true:=by
 rw[rising_ix]at h⊢
 intro i hi
 simp only[List.length_drop]at hi
 simp only[List.getElem_drop]
 exact h (k+i) (by omega)
theorem all_take {α:Type}{f:α→Bool}{l:List α}(h:l.all f=true)(k:Nat):(l.take k).all f=true:=by
 simp only[List.all_eq_true]at h⊢
 exact fun x hx=>h x (List.mem_of_mem_take hx)
theorem all_drop {α:Type}{f:α→Bool}{l:List α}(h:l.all f=true)(k:Nat):(l.drop k).all f=true:=by
 simp only[List.all_eq_true]at h⊢
 exact fun x hx=>h x (List.mem_of_mem_drop hx)
def cutA (n:Node)(k:Nat):Node:=if n.leaf then⟨true,n.keys.take k,n.vals.take k,[]⟩else⟨false,n.keys.take k,[],n.kids.take (k+1)⟩
def cutB (n:Node)(k:Nat):Node:=if n.leaf then⟨true,n.keys.drop k,n.vals.drop k,[]⟩else⟨false,n.keys.drop (k+1),[],n.kids.drop (k+1)⟩
def joinN (a:Node)(sep:Str)(b:Node):Node:=if a.leaf then⟨true,a.keys++b.keys,a.vals++b.vals,[]⟩else⟨false,a.keys++([sep]++b.keys),[],a.kids++b.kids⟩
def cutOk (n:Node)(k:Nat):Prop:=1≤k∧k+(if n.leaf then 1 else 2)≤n.keys.length
theorem cut_shaped {lt:Str→Str→Bool}{n:Node}{k:Nat}(h:shaped lt n=true)(hk:cutOk n k):shaped lt (cutA n k)=true∧shaped lt (cutB n k)=true:=by
 obtain⟨leaf,keys,vals,kids⟩:=n
 obtain⟨k1,k2⟩:=hk
 cases leaf with
 | true=>
  simp only[shaped,if_true,Bool.and_eq_true,decide_eq_true_eq]at h k2
  obtain⟨⟨h1,h2⟩,⟨h3,h4⟩,h5⟩:=h
  simp only[shaped,cutA,cutB,if_true,Bool.and_eq_true,decide_eq_true_eq]
  exact⟨⟨⟨all_take h1 k,rising_take h2 k⟩,⟨by simp[h3],trivial⟩,all_take h5 k⟩,⟨all_drop h1 k,rising_drop h2 k⟩,⟨by simp[h3],trivial⟩,all_drop h5 k⟩
 | false=>
  simp only[shaped,Bool.false_eq_true,if_false,Bool.and_eq_true,decide_eq_true_eq]at h k2
  obtain⟨⟨h1,h2⟩,⟨⟨h3,h4⟩,h5⟩,h6⟩:=h
  simp only[shaped,cutA,cutB,Bool.false_eq_true,if_false,Bool.and_eq_true,decide_eq_true_eq]
  refine⟨⟨⟨all_take h1 k,rising_take h2 k⟩,⟨⟨?_,trivial⟩, ?_⟩,all_take h6 _⟩,⟨all_drop h1 _,rising_drop h2 _⟩,⟨⟨?_,trivial⟩, ?_⟩,all_drop h6 _⟩
  ·intro e;have:=congrArg List.length e;rw[List.length_take]at this;simp only[List.length_nil]at this;omega
  ·rw[List.length_take,List.length_take];omega
  ·intro e;have:=congrArg List.length e;rw[List.length_drop]at this;simp only[List.length_nil]at this;omega
  ·rw[List.length_drop,List.length_drop];omega
theorem sumL_drop_le (l:List Str)(k:Nat):sumL (l.drop k)≤sumL l:=by
 have:sumL l=sumL (l.take k)+sumL (l.drop k):=by rw[← sumL_append,List.take_append_drop]
 omega
theorem sumL_take_le (l:List Str)(k:Nat):sumL (l.take k)≤sumL l:=by
 have:sumL l=sumL (l.take k)+sumL (l.drop k):=by rw[← sumL_append,List.take_append_drop]
 omega
theorem sumL_parts (l:List Str)(k:Nat):sumL l=sumL (l.take k)+sumL (l.drop k):=by rw[← sumL_append,List.take_append_drop]
theorem cut_size {lt:Str→Str→Bool}{n:Node}{k:Nat}(h:shaped lt n=true)(hk:cutOk n k):size (cutA n k)<size n∧size (cutB n k)<size n:=by
 obtain⟨leaf,keys,vals,kids⟩:=n
 obtain⟨k1,k2⟩:=hk
 have p1:=sumL_parts keys k
 have g1:=sumL_ge (keys.take k)
 have g2:=sumL_ge (keys.drop k)
 simp only[List.length_take,List.length_drop]at g1 g2
 cases leaf with
 | true=>
  simp only[if_true]at k2
  simp only[shaped,if_true,Bool.and_eq_true,decide_eq_true_eq]at h
  have p2:=sumL_parts vals k
  simp only[cutA,cutB,if_true,size,List.length_nil,h.2.1.2]
  omega
 | false=>
  simp only[Bool.false_eq_true,if_false]at k2
  simp only[shaped,Bool.false_eq_true,if_false,Bool.and_eq_true,decide_eq_true_eq]at h
  have h5:=h.2.1.2
  have p3:=sumL_parts keys (k+1)
  have g3:=sumL_ge (keys.take (k+1))
  simp only[List.length_take]at g3
  simp only[cutA,cutB,Bool.false_eq_true,if_false,size,h.2.1.1.2,List.length_take,List.length_drop]
  have:sumL []=0:=rfl
  omega
end Go.Nd
end
section
section
namespace Go.Eng.Sh
open Go.Nd (Ptr sumL)
theorem mayKey_ok (D:Dyn)(n:Nat)(s:Str)(H:AH):f108 D n [S s] H=some (.bool (Nd.mayK s),H):=by
 simp only[f108,hd_cons,nl_nil,lnStr_S,bVs,bInt_geq,bInt_leq,wnt_b,jn_ite,jn_norm,pk3_b,outR_ite,outR_ret]
 have h1:(Int.ofNat 1≤((s.length:Nat):Int))=(1≤s.length):=by simp;omega
 have h2:(((s.length:Nat):Int)≤Int.ofNat 40)=(s.length≤40):=by simp;omega
 simp only[h1,h2,Nd.mayK]
 by_cases h:1≤s.length<;>simp[h,bVs,outR]
theorem sumL_nil:sumL []=0:=rfl
theorem sumL_at (l:List Str)(i:Nat)(hi:i<l.length):sumL (l.take (i+1))=sumL (l.take i)+(1+l[i].length)∧sumL (l.take i)+(1+l[i].length)≤sumL l:=by
 have hs:sumL l=sumL (l.take i)+(1+l[i].length+sumL (l.drop (i+1))):=by
  rw[← Nd.sumL_cons, ← List.drop_eq_getElem_cons hi, ← Nd.sumL_append,List.take_append_drop]
 refine⟨?_,by omega⟩
 rw[sum_take_succ l i hi,Nd.sumL_append,Nd.sumL_cons];simp[sumL]
theorem size0 (D:Dyn)(n0:Nat){H:AH}{ks:AV}{l:List Str}(h:Strs H ks l)(x:AV)(a:Int)(n:Nat)(ha:0≤a)(hn:l.length<n)(hb:a+sumL l≤1000000000000):
  loopK n (f123l0 D n0) [x, .int .i64 a,ks, .int .i64 (l.length:Nat), .int .i64 (0:Nat)] H=some (.exit 0 [x, .int .i64 (a+sumL l)],H):=by
 have key:=loop_for (b:=f123l0 D n0) (H:=H) (r:=some (.exit 0 [x, .int .i64 (a+sumL l)],H)) (fun i=>[x, .int .i64 (a+sumL (l.take i)),ks, .int .i64 (l.length:Nat), .int .i64 (i:Nat)]) l.length (fun i hi=>by
  obtain⟨p,h1,h2⟩:=h.at hi
  obtain⟨hs1,hs⟩:=sumL_at l i hi
  have hge:=Nd.sumL_ge l
  simp(disch:=omega) [f123l0,hd_cons,bVs,bInt_lss,cnd_b,hi,h1,h2,lnStr_S,bInt_add,wrap_i64,hs1,Int.add_assoc]) (fun n=>loop_exit (by
  simp[f123l0,hd_cons,bVs,bInt_lss,cnd_b])) n hn
 simpa[sumL_nil]using key
theorem size1 (D:Dyn)(n0:Nat){H:AH}{ks:AV}{l:List Str}(h:Strs H ks l)(a:Int)(n:Nat)(ha:0≤a)(hn:l.length<n)(hb:a+sumL l≤1000000000000):
  loopK n (f123l1 D n0) [.int .i64 a,ks, .int .i64 (l.length:Nat), .int .i64 (0:Nat)] H=some (.exit 2 [.int .i64 (a+sumL l)],H):=by
 have key:=loop_for (b:=f123l1 D n0) (H:=H) (r:=some (.exit 2 [.int .i64 (a+sumL l)],H)) (fun i=>[.int .i64 (a+sumL (l.take i)),ks, .int .i64 (l.length:Nat), .int .i64 (i:Nat)]) l.length (fun i hi=>by
  obtain⟨p,h1,h2⟩:=h.at hi
  obtain⟨hs1,hs⟩:=sumL_at l i hi
  have hge:=Nd.sumL_ge l
  simp(disch:=omega) [f123l1,hd_cons,bVs,bInt_lss,cnd_b,hi,h1,h2,lnStr_S,bInt_add,wrap_i64,hs1,Int.add_assoc]) (fun n=>loop_exit (by
  simp[f123l1,hd_cons,bVs,bInt_lss,cnd_b])) n hn
 simpa[sumL_nil]using key
def ptrV (p:Ptr):List AV:=[.int .i64 p.at_, .int .i64 p.birth, .int .u64 p.sum]
def Ptrs (H:AH)(v:AV)(l:List Ptr):Prop:=Rw 3 H v l.length (l.flatMap ptrV)
def NodeV (H:AH)(v:AV)(n:Nd.Node):Prop:= ∃ks vs ps,v= .agg [.bool n.leaf,ks,vs,ps]∧Strs H ks n.keys∧Strs H vs n.vals∧Ptrs H ps n.kids
theorem Ptrs.lnSl {H:AH}{v:AV}{l:List Ptr}(h:Ptrs H v l):Eng.lnSl v=some (.int .i64 (l.length:Int)):=Rw.lnSl h
theorem Ptrs.prs {H H':AH}{v:AV}{l:List Ptr}(h:Ptrs H v l)(s:Prs H H'):Ptrs H' v l:=Rw.prs h s
theorem flat3: ∀(l:List Ptr) (i:Nat) (hi:i<l.length),((l.flatMap ptrV).drop (i*3)).take 3=ptrV l[i]
 | [],i,hi=>by simp at hi
 | p::l,0,_=>rfl
 | p::l,i+1,hi=>by
  have:=flat3 l i (by simpa using hi)
  rw[show(i+1)*3=i*3+3 from by omega]
  exact this
theorem Ptrs.at {H:AH}{v:AV}{l:List Ptr}(h:Ptrs H v l){i:Nat}(hi:i<l.length): ∃p,(∀κ (z:Int),z=(i:Int)→ixSl 3 v (.int κ z)=some p)∧Eng.ldN 3 p H=some (.agg (ptrV l[i])):=by
 obtain⟨p,h1,h2⟩:=Rw.ldN h hi
 rw[flat3 l i hi]at h2
 exact⟨p,h1,h2⟩
theorem NodeV.prs {H H':AH}{v:AV}{n:Nd.Node}(h:NodeV H v n)(s:Prs H H'):NodeV H' v n:=by
 obtain⟨ks,vs,ps,rfl,h1,h2,h3⟩:=h;exact⟨ks,vs,ps,rfl,h1.prs s,h2.prs s,h3.prs s⟩
def small (n:Nd.Node):Prop:=n.kids.length≤100000∧sumL n.keys≤100000000∧sumL n.vals≤100000000
theorem size_ok (D:Dyn)(n:Nat){H:AH}(hk:H.ok){v:AV}{nd:Nd.Node}(h:NodeV H v nd)(hs:small nd)(hn:200000000≤n):
  Ret (f123 D n [v] H) fun r H'=>r= .int .i64 (Nd.size nd:Nat)∧Prs H H':=by
 obtain⟨ks,vs,ps,rfl,h1,h2,h3⟩:=h
 obtain⟨s1,s2,s3⟩:=hs
 have hP:Prs H (H.push (.cells [.bool nd.leaf,ks,vs,ps] 133 1 false)):=(Stp.refl hk).push _
 have hkl:=Nd.sumL_ge nd.keys
 have hvl:=Nd.sumL_ge nd.vals
 simp(disch:=omega) only[f123,ev,bA_ok hk,h1.lnSl,h2.lnSl,h3.lnSl,size0 D n (h1.prs hP),f123b3,size1 D n (h2.prs hP),f123b2]
 apply Ret.pure;refine⟨?_,hP⟩
 simp only[Nd.size,AV.int.injEq,true_and];omega
end Go.Eng.Sh
end
section
namespace Go.Eng.Sh
open Go.Nd (Ptr be mayP encP)
end Go.Eng.Sh
end
section
namespace Go.Eng.Sh
open Go.Nd (Ptr)
theorem rising_iff (lt:Str→Str→Bool): ∀l:List Str,Nd.rising lt l=true↔ ∀i (h:i+1<l.length),lt l[i] l[i+1]=true
 | []=>by simp[Nd.rising]
 | [a]=>by simp[Nd.rising]
 | a::b::l=>by
  have ih:=rising_iff lt (b::l)
  simp only[Nd.rising,Bool.and_eq_true,ih]
  constructor
  ·rintro⟨h1,h2⟩ i h
   cases i with
   | zero=>exact h1
   | succ i=>exact h2 i (by simpa using h)
  ·intro h
   exact⟨h 0 (by simp),fun i hi=>h (i+1) (by simpa using hi)⟩
def goodK (l:List Str)(i:Nat):Bool:=Nd.mayK (l.getD i [])&&(decide (i=0)||ltS (l.getD (i - 1) []) (l.getD i []))
theorem goodK_all (l:List Str):(List.range l.length).all (goodK l)=(l.all Nd.mayK&&Nd.rising ltS l):=by
 rw[Bool.eq_iff_iff,Bool.and_eq_true,rising_iff]
 simp only[List.all_eq_true,List.mem_range,goodK,Bool.and_eq_true,Bool.or_eq_true,decide_eq_true_eq]
 constructor
 ·intro h
  refine⟨fun x hx=> ?_,fun i hi=> ?_⟩
  ·obtain⟨i,hi,rfl⟩:=List.mem_iff_getElem.1 hx
   have:=(h i hi).1
   rwa[List.getD_eq_getElem?_getD,List.getElem?_eq_getElem hi]at this
  ·have:=(h (i+1) hi).2
   simp only[Nat.add_eq_zero_iff,Nat.one_ne_zero,and_false,false_or,Nat.add_sub_cancel]at this
   rwa[List.getD_eq_getElem?_getD,List.getElem?_eq_getElem (by omega),List.getD_eq_getElem?_getD,List.getElem?_eq_getElem hi]at this
 ·rintro⟨h1,h2⟩ i hi
  refine⟨?_, ?_⟩
  ·rw[List.getD_eq_getElem?_getD,List.getElem?_eq_getElem hi];exact h1 _ (List.getElem_mem hi)
  ·by_cases h0:i=0
   ·exact .inl h0
   ·right
    have:=h2 (i - 1) (by omega)
    rw[List.getD_eq_getElem?_getD,List.getElem?_eq_getElem (show i - 1<l.length by omega),List.getD_eq_getElem?_getD,List.getElem?_eq_getElem hi]
    simpa[show i - 1+1=i by omega]using this
theorem all_range {α:Type}(l:List α)(d:α)(f:α→Bool):(List.range l.length).all (fun i=>f (l.getD i d))=l.all f:=by
 rw[Bool.eq_iff_iff]
 simp only[List.all_eq_true,List.mem_range]
 constructor
 ·intro h x hx
  obtain⟨i,hi,rfl⟩:=List.mem_iff_getElem.1 hx
  have:=h i hi
  rwa[List.getD_eq_getElem?_getD,List.getElem?_eq_getElem hi]at this
 ·intro h i hi
  rw[List.getD_eq_getElem?_getD,List.getElem?_eq_getElem hi];exact h _ (List.getElem_mem hi)
theorem getD_lt {α:Type}{l:List α}{i:Nat}{d:α}(h:i<l.length):l.getD i d=l[i]:=by rw[List.getD_eq_getElem?_getD,List.getElem?_eq_getElem h];rfl
theorem shaped0 (D:Dyn)(n:Nat){H:AH}{ks:AV}{l:List Str}(h:Strs H ks l){A e:Nat}{c:List AV}(hA:H.h.get A=some (.cells c e 1 false))(hc:c[1]? =some ks)(hl:l.length≤1000000000)(n':Nat)(hn:l.length<n'):
  ∃e H',loopK n' (f107l0 D n) [.ptr A 0,ks, .int .i64 (l.length:Nat), .int .i64 (0:Nat)] H=some (e,H')∧if(List.range l.length).all (goodK l)then(e= .exit 0 [.ptr A 0]∧H'=H)else(e= .ret (.bool false)∧H'=H):=by
 refine loop_all l.length (goodK l) (fun i vs H'=>H'=H∧vs=[.ptr A 0,ks, .int .i64 (l.length:Nat), .int .i64 (i:Nat)]) (fun e H'=>e= .exit 0 [.ptr A 0]∧H'=H) (fun e H'=>e= .ret (.bool false)∧H'=H) ?_ ?_ ?_ n' _ H ⟨rfl,rfl⟩ hn
 ·rintro i vs H' hi ⟨rfl,rfl⟩ hg
  obtain⟨p,h1,h2⟩:=h.at hi
  simp only[goodK,getD_lt hi,Bool.and_eq_true,Bool.or_eq_true,decide_eq_true_eq]at hg
  refine⟨_,H', ?_,rfl,rfl⟩
  have hiI:((i:Nat):Int)< ((l.length:Nat):Int):=by omega
  by_cases h0:i=0
  ·subst h0
   simp(disch:=omega) only[f107l0,ev,lg,wnt_undef,ew,hiI,h1,h2,mayKey_ok,hg.1,Int.lt_irrefl,show((0:Nat):Int)+((1:Nat):Int)=((0+1:Nat):Int)from rfl]
  ·have hlt:i - 1<l.length:=by omega
   obtain⟨q,q1,q2⟩:=h.at hlt
   have hg2:=hg.2.resolve_left h0
   rw[getD_lt hlt]at hg2
   have hsub:((i:Nat):Int) - ((1:Nat):Int)=((i - 1:Nat):Int):=by omega
   have hpos:((0:Nat):Int)< (i:Int):=by omega
   simp(disch:=omega) only[f107l0,ev,lg,wnt_undef,ew,hiI,hpos,h1,h2,mayKey_ok,hg.1,ld1_get hA,hc,hsub,q1,q2,hg2,Int.natCast_add]
 ·rintro i vs H' hi ⟨rfl,rfl⟩ hg
  obtain⟨p,h1,h2⟩:=h.at hi
  have hiI:((i:Nat):Int)< ((l.length:Nat):Int):=by omega
  refine⟨.ret (.bool false),H', ?_,rfl,rfl,rfl⟩
  simp only[goodK,getD_lt hi]at hg
  cases hm:Nd.mayK l[i]with
  | false=>simp(disch:=omega) only[f107l0,ev,lg,wnt_undef,ew,hiI,h1,h2,mayKey_ok,hm]
  | true=>
   simp only[hm,Bool.true_and,Bool.or_eq_false_iff,decide_eq_false_iff_not]at hg
   have hlt:i - 1<l.length:=by omega
   obtain⟨q,q1,q2⟩:=h.at hlt
   have hg2:=hg.2
   rw[getD_lt hlt]at hg2
   have hsub:((i:Nat):Int) - ((1:Nat):Int)=((i - 1:Nat):Int):=by omega
   have hpos:((0:Nat):Int)< (i:Int):=by omega
   simp(disch:=omega) only[f107l0,ev,lg,wnt_undef,ew,hiI,hpos,h1,h2,mayKey_ok,hm,ld1_get hA,hc,hsub,q1,q2,hg2]
 ·rintro vs H' ⟨rfl,rfl⟩
  refine⟨.exit 0 [.ptr A 0],H', ?_,rfl,rfl,rfl⟩
  simp only[f107l0,ev,lg,wnt_undef,ew,Int.lt_irrefl]
theorem shaped1 (D:Dyn)(n:Nat){H:AH}{vs:AV}{l:List Str}(h:Strs H vs l)(hl:l.length≤1000000000)(n':Nat)(hn:l.length<n'):
  ∃e H',loopK n' (f107l1 D n) [vs, .int .i64 (l.length:Nat), .int .i64 (0:Nat)] H=some (e,H')∧if(List.range l.length).all (fun i=>decide ((l.getD i []).length≤200))then(e= .exit 2 []∧H'=H)else(e= .ret (.bool false)∧H'=H):=by
 refine loop_all l.length _ (fun i us H'=>H'=H∧us=[vs, .int .i64 (l.length:Nat), .int .i64 (i:Nat)]) (fun e H'=>e= .exit 2 []∧H'=H) (fun e H'=>e= .ret (.bool false)∧H'=H) ?_ ?_ ?_ n' _ H ⟨rfl,rfl⟩ hn
 ·rintro i us H' hi ⟨rfl,rfl⟩ hg
  obtain⟨p,h1,h2⟩:=h.at hi
  simp only[getD_lt hi,decide_eq_true_eq]at hg
  refine⟨_,H', ?_,rfl,rfl⟩
  have hiI:((i:Nat):Int)< ((l.length:Nat):Int):=by omega
  have hg': ¬((200:Nat):Int)< ((l[i].length:Nat):Int):=by omega
  simp(disch:=omega) only[f107l1,ev,lg,wnt_undef,ew,hiI,h1,h2,hg',Int.natCast_add]
 ·rintro i us H' hi ⟨rfl,rfl⟩ hg
  obtain⟨p,h1,h2⟩:=h.at hi
  simp only[getD_lt hi,decide_eq_false_iff_not]at hg
  refine⟨.ret (.bool false),H', ?_,rfl,rfl,rfl⟩
  have hiI:((i:Nat):Int)< ((l.length:Nat):Int):=by omega
  have hg':((200:Nat):Int)< ((l[i].length:Nat):Int):=by omega
  simp(disch:=omega) only[f107l1,ev,lg,wnt_undef,ew,hiI,h1,h2,hg',Int.natCast_add]
 ·rintro us H' ⟨rfl,rfl⟩
  refine⟨.exit 2 [],H', ?_,rfl,rfl,rfl⟩
  simp only[f107l1,ev,lg,wnt_undef,ew,Int.lt_irrefl]
def pz:Ptr:=⟨0,0,0⟩
theorem kid_b (x:Ptr):(((decide (x.at_< ((1:Nat):Int))||decide (((8192:Nat):Int)≤x.at_))||decide (x.birth< ((0:Nat):Int)))||decide (((2147483647:Nat):Int)<x.birth))= !(Nd.kidOk x):=by
 rw[Bool.eq_iff_iff];simp only[Nd.kidOk,Bool.or_eq_true,decide_eq_true_eq,Bool.not_eq_true',Bool.and_eq_false_iff,decide_eq_false_iff_not];omega
theorem box_ptr {H':AH}(hk:H'.ok)(x:Ptr): ∃H2,stN 3 (.ptr H'.next 0) (.agg (ptrV x)) (H'.push (.cells [.int .i64 (0:Nat), .int .i64 (0:Nat), .int .u64 (0:Nat)] 72 1 false))=some (undefA,H2)∧Prs H' H2∧H2.next=H'.next+1∧H2.h.get H'.next=some (.cells (ptrV x) 72 1 false):=by
 refine⟨_,stN_ok (AH.push_get_eq _ _) (by decide) rfl rfl (by decide), ?_,rfl,by rw[AH.put_get,if_pos rfl];rfl⟩
 exact((Stp.refl hk).push _).fresh ((Stp.refl (hk.push _)).put (by rw[AH.push_next];omega) _ (.inr rfl)) (fun A hA=>by omega)
theorem shaped3 (D:Dyn)(n:Nat){H:AH}(hk:H.ok){vs:AV}{l:List Ptr}(h:Ptrs H vs l)(hl:l.length≤1000000000)(n':Nat)(hn:l.length<n'):
  ∃e H',loopK n' (f107l3 D n) [vs, .int .i64 (l.length:Nat), .int .i64 (0:Nat)] H=some (e,H')∧if(List.range l.length).all (fun i=>Nd.kidOk (l.getD i pz))then(e= .exit 4 []∧Prs H H')else(e= .ret (.bool false)∧Prs H H'):=by
 refine loop_all l.length _ (fun i us H'=>Prs H H'∧us=[vs, .int .i64 (l.length:Nat), .int .i64 (i:Nat)]) (fun e H'=>e= .exit 4 []∧Prs H H') (fun e H'=>e= .ret (.bool false)∧Prs H H') ?_ ?_ ?_ n' _ H ⟨Stp.refl hk,rfl⟩ hn
 ·rintro i us H' hi ⟨hP,rfl⟩ hg
  obtain⟨p,h1,h2⟩:=(h.prs hP).at hi
  simp only[getD_lt hi]at hg
  generalize l[i]=x at hg h2
  obtain⟨H2,hH2,hP2,n2,g2⟩:=box_ptr hP.ok x
  have hiI:((i:Nat):Int)< ((l.length:Nat):Int):=by omega
  have hb:=kid_b x
  rw[hg]at hb
  simp only[ptrV]at g2 hH2 h2
  refine⟨_,H2, ?_,hP.trans hP2,rfl⟩
  simp(disch:=omega) only[f107l3,ev,lg,wnt_undef,ew,hiI,h1,h2,bA_ok hP.ok,hH2,ld1_get g2,hb,Int.natCast_add]
 ·rintro i us H' hi ⟨hP,rfl⟩ hg
  obtain⟨p,h1,h2⟩:=(h.prs hP).at hi
  simp only[getD_lt hi]at hg
  generalize l[i]=x at hg h2
  obtain⟨H2,hH2,hP2,n2,g2⟩:=box_ptr hP.ok x
  have hiI:((i:Nat):Int)< ((l.length:Nat):Int):=by omega
  have hb:=kid_b x
  rw[hg]at hb
  simp only[ptrV]at g2 hH2 h2
  refine⟨.ret (.bool false),H2, ?_,rfl,rfl,hP.trans hP2⟩
  simp(disch:=omega) only[f107l3,ev,lg,wnt_undef,ew,hiI,h1,h2,bA_ok hP.ok,hH2,ld1_get g2,hb]
 ·rintro us H' ⟨hP,rfl⟩
  refine⟨.exit 4 [],H', ?_,rfl,rfl,hP⟩
  simp only[f107l3,ev,lg,wnt_undef,ew,Int.lt_irrefl]
end Go.Eng.Sh
end
section
namespace Go.Eng.Sh
open Go.Nd (Ptr sumL)
theorem shaped_ok (D:Dyn)(n:Nat){H:AH}(hk:H.ok){v:AV}{nd:Nd.Node}(h:NodeV H v nd)(hs:small nd)(hn:200000000≤n):
  ∃H',f107 D n [v] H=some (.bool (Nd.shaped ltS nd),H')∧Prs H H':=by
 obtain⟨ks,vs,ps,rfl,h1,h2,h3⟩:=h
 obtain⟨s1,s2,s3⟩:=hs
 have hP:Prs H (H.push (.cells [.bool nd.leaf,ks,vs,ps] 133 1 false)):=(Stp.refl hk).push _
 have hg:(H.push (.cells [.bool nd.leaf,ks,vs,ps] 133 1 false)).h.get H.next=some (.cells [.bool nd.leaf,ks,vs,ps] 133 1 false):=AH.push_get_eq _ _
 have hkl:=Nd.sumL_ge nd.keys
 have hvl:=Nd.sumL_ge nd.vals
 have hf:f107 D n [.agg [.bool nd.leaf,ks,vs,ps]] H=outR (jb 0 (loopK n (f107l0 D n) [.ptr H.next 0,ks, .int .i64 (nd.keys.length:Nat), .int .i64 (0:Nat)] (H.push (.cells [.bool nd.leaf,ks,vs,ps] 133 1 false))) (f107b5 D n)):=by
  simp only[f107,ev,lg,wnt_undef,ew,bA_ok hk,h1.lnSl]
 rw[hf]
 generalize H.push (.cells [.bool nd.leaf,ks,vs,ps] 133 1 false)=H1 at hP hg
 obtain⟨e0,H2,e1,e2⟩:=shaped0 D n (h1.prs hP) hg (by rfl) (by omega) n (by omega)
 rw[e1]
 rw[goodK_all]at e2
 split at e2
 ·rename_i hgood
  obtain⟨rfl,rfl⟩:=e2
  simp only[Nd.shaped,hgood,Bool.true_and]
  obtain⟨leaf,keys,vals,kids⟩:=nd
  simp only at h1 h2 h3 hg hkl hvl s1 s2 s3 hgood⊢
  cases leaf with
  | true=>
   by_cases hc:vals.length=keys.length∧kids.length=0
   ·obtain⟨hc1,hc2⟩:=hc
    obtain⟨e3,H3,e4,e5⟩:=shaped1 D n (h2.prs hP) (by omega) n (by omega)
    have hz: ¬(((vals.length:Nat):Int)≠((keys.length:Nat):Int)):=by omega
    have hz2: ¬(((kids.length:Nat):Int)≠((0:Nat):Int)):=by omega
    have hkn:kids=[]:=List.eq_nil_of_length_eq_zero hc2
    rw[all_range vals ([]:Str) (fun v=>decide (v.length≤200))]at e5
    split at e5
    ·rename_i hv
     obtain⟨rfl,rfl⟩:=e5
     refine⟨H3, ?_,hP⟩
     have hr:(decide (vals.length=keys.length)&&decide (kids=[])&&vals.all fun v=>decide (v.length≤200))=true:=by simp only[hc1,hkn,hv,decide_true,Bool.and_self]
     simp only[f107b5,ev,lg,wnt_undef,ew,ld1_get hg,h1.lnSl,h2.lnSl,h3.lnSl,hz,hz2,e4,f107b2,hr]
    ·rename_i hv
     obtain⟨rfl,rfl⟩:=e5
     refine⟨H3, ?_,hP⟩
     have hr:(decide (vals.length=keys.length)&&decide (kids=[])&&vals.all fun v=>decide (v.length≤200))=false:=by simp only[Bool.eq_false_iff.2 hv,Bool.and_false]
     simp only[f107b5,ev,lg,wnt_undef,ew,ld1_get hg,h1.lnSl,h2.lnSl,h3.lnSl,hz,hz2,e4,f107b2,hr]
   ·refine⟨H2, ?_,hP⟩
    have hr:(decide (vals.length=keys.length)&&decide (kids=[]))=false:=by
     rw[Bool.and_eq_false_iff,decide_eq_false_iff_not,decide_eq_false_iff_not]
     by_cases ha:vals.length=keys.length
     ·right;intro hb;exact hc ⟨ha,by rw[hb];rfl⟩
     ·exact .inl ha
    simp only[f107b5,ev,lg,wnt_undef,ew,ld1_get hg,h1.lnSl,h2.lnSl,h3.lnSl,hr]
    rw[if_pos (by simp only[Bool.or_eq_true,decide_eq_true_eq];omega)]
    simp only[ev,lg,wnt_undef,ew]
  | false=>
   by_cases hc:keys.length≠0∧vals.length=0∧kids.length=keys.length+1
   ·obtain⟨hc1,hc2,hc3⟩:=hc
    obtain⟨e3,H3,e4,e5⟩:=shaped3 D n hP.ok (h3.prs hP) (by omega) n (by omega)
    have hz: ¬(((keys.length:Nat):Int)=((0:Nat):Int)):=by omega
    have hz2: ¬(((vals.length:Nat):Int)≠((0:Nat):Int)):=by omega
    have hz3: ¬(((kids.length:Nat):Int)≠((keys.length:Nat):Int)+((1:Nat):Int)):=by omega
    have hvn:vals=[]:=List.eq_nil_of_length_eq_zero hc2
    have hkn:keys≠[]:=fun e=>hc1 (by rw[e];rfl)
    rw[all_range kids pz Nd.kidOk]at e5
    split at e5
    ·rename_i hv
     obtain⟨rfl,hP3⟩:=e5
     refine⟨H3, ?_,hP.trans hP3⟩
     have hr:(decide (keys≠[])&&decide (vals=[])&&decide (kids.length=keys.length+1)&&kids.all Nd.kidOk)=true:=by simp only[hc3,hvn,hv,decide_eq_true hkn,decide_true,Bool.and_self]
     simp(disch:=omega) only[f107b5,ev,lg,wnt_undef,ew,ld1_get hg,h1.lnSl,h2.lnSl,h3.lnSl,hz,hz2,hz3,e4,f107b4,hr]
    ·rename_i hv
     obtain⟨rfl,hP3⟩:=e5
     refine⟨H3, ?_,hP.trans hP3⟩
     have hr:(decide (keys≠[])&&decide (vals=[])&&decide (kids.length=keys.length+1)&&kids.all Nd.kidOk)=false:=by simp only[Bool.eq_false_iff.2 hv,Bool.and_false]
     simp(disch:=omega) only[f107b5,ev,lg,wnt_undef,ew,ld1_get hg,h1.lnSl,h2.lnSl,h3.lnSl,hz,hz2,hz3,e4,f107b4,hr]
   ·refine⟨H2, ?_,hP⟩
    have hr:(decide (keys≠[])&&decide (vals=[])&&decide (kids.length=keys.length+1))=false:=by
     rw[Bool.eq_false_iff];intro hh
     simp only[Bool.and_eq_true,decide_eq_true_eq]at hh
     exact hc ⟨fun e=>hh.1.1 (List.eq_nil_of_length_eq_zero e),by rw[hh.1.2];rfl,hh.2⟩
    simp(disch:=omega) only[f107b5,ev,lg,wnt_undef,ew,ld1_get hg,h1.lnSl,h2.lnSl,h3.lnSl,hr]
    rw[if_pos (by simp only[Bool.or_eq_true,decide_eq_true_eq];omega)]
    simp only[ev,lg,wnt_undef,ew]
 ·rename_i hbad
  obtain⟨rfl,rfl⟩:=e2
  refine⟨H2, ?_,hP⟩
  simp only[Nd.shaped,Bool.eq_false_iff.2 hbad,ev,lg,wnt_undef,ew]
end Go.Eng.Sh
end
section
namespace Go.Eng.Sh
open Go.Nd (Ptr sumL encT encP)
def OutB (P:Nat→Prop)(H:AH)(A:Nat)(l:Str):Prop:= ∃v,Box H A v∧Grow 1 5 H v l.length (bytesV l)∧(∀B,Blk v B→ ¬P B∧B≠A)∧ ¬P A
theorem OutB.app {P:Nat→Prop}{H:AH}{A:Nat}{l m:Str}(h:OutB P H A l)(hk:H.ok)(hP: ∀B,P B→B<H.next){s:AV}(hs:srcOf 1 s H=some (m.length,bytesV m))(hn:l.length+m.length≤1000000000):
  ∃v v' H' H'',ld1 (.ptr A 0) H=some v∧apP 5 1 1 v s H=some (v',H')∧stN 1 (.ptr A 0) v' H'=some (undefA,H'')∧OutB P H'' A (l++m)∧Stp (fun B=> ¬P B) H H'':=by
 obtain⟨v,hb,hg,hv,hA⟩:=h
 obtain⟨v',H',e1,g1,s1,n1⟩:=hg.app (bytes:=1) hk (by decide) hs (by simp[bytesV]) (bytesV_cells m) hn (by decide)
 have hb':Box H' A v:=hb.mono hk s1 (fun x=>(hv A x).2 rfl)
 obtain⟨H'',e2,b2,s2⟩:=hb'.st s1.ok g1.isCell
 have hlt:=hb.lt hk
 have hne: ∀B,Blk v' B→B≠A:=fun B hB e=>by
  rcases n1 B hB with h | h
  ·exact(hv B h).2 e
  ·omega
 refine⟨v,v',H',H'',hb.ld,e1,e2,⟨v',b2, ?_,fun B hB=>⟨fun hp=> ?_,hne B hB⟩,hA⟩, ?_⟩
 ·have:=g1.mono s2 (fun B hB=>hne B hB)
  simpa[bytesV]using this
 ·rcases n1 B hB with h | h
  ·exact(hv B h).1 hp
  ·have:=hP B hp;omega
 ·exact(s1.mono (fun B _ hB=>(hv B hB).1)).trans (s2.mono (fun B _ hB=>by rw[hB];exact hA))
structure EncI (N E:Nat)(A:Nat)(H0 H:AH)(l:Str):Prop where
 prs:Prs H0 H
 n:H0.next=N
 out:OutB (fun B=>B<N∨B=E) H A l
 err:Box H E (.int .i64 (0:Nat))
theorem EncI.step {N E A:Nat}{H0 H H':AH}{l l':Str}(h:EncI N E A H0 H l)(h1:OutB (fun B=>B<N∨B=E) H' A l')(h2:Stp (fun B=> ¬(B<N∨B=E)) H H'):EncI N E A H0 H' l':=
 ⟨h.prs.fresh h2 (fun B hB=>by rw[h.n];omega),h.n,h1,h.err.mono h.prs.ok h2 (fun hh=>hh (.inr rfl))⟩
theorem EncI.lt {N E A:Nat}{H0 H:AH}{l:Str}(h:EncI N E A H0 H l): ∀B,(B<N∨B=E)→B<H.next:=by
 rintro B (hB | rfl)
 ·have:=h.prs.next;rw[h.n]at this;omega
 ·exact h.err.lt h.prs.ok
end Go.Eng.Sh
end
section
namespace Go.Eng.Sh
open Go.Nd (Ptr sumL encT encP)
theorem Box.new (H:AH)(v:AV)(e:TypeId):Box (H.push (.cells [v] e 1 false)) H.next v:=⟨e,AH.push_get_eq _ _⟩
theorem sub4 (a b c d:AV):subN [a,b,c,d] 0 4=some [a,b,c,d]:=rfl
end Go.Eng.Sh
end
section
namespace Go.Eng.Sh
open Go.Nd (Ptr mayP)
theorem st_all {H:AH}(hk:H.ok){A:Nat}{l l':List AV}{e:TypeId}(h:H.h.get A=some (.cells l e 1 false))(hl:l'.length=l.length)(hc:allCells l'=true):
  ∃H',stN l.length (.ptr A 0) (.agg l') H=some (undefA,H')∧H'.h.get A=some (.cells l' e 1 false)∧Stp (fun B=>B=A) H H'∧H'.next=H.next:=by
 refine⟨_,stN_ok h (by decide) hl hc (by omega), ?_,(Stp.refl hk).put (hk.lt h) _ (.inr rfl),rfl⟩
 rw[AH.put_get,if_pos rfl]
 simp[cellsA]
end Go.Eng.Sh
end
section
namespace Go.Eng.Sh
open Go.Nd (Ptr mayP)
structure RdI (R:Nat)(H0 H:AH)(rest:Str)(bad leaf:Bool)(kv vv pv:AV)(ks vs:List Str)(ps:List Ptr):Prop where
 prs:Stp (fun B=>B=R) H0 H
 get: ∃e,H.h.get R=some (.cells [S rest, .bool bad, .bool leaf,kv,vv,pv] e 1 false)
 k:Own 1 9 H kv ks.length (ks.map S)
 v:Own 1 9 H vv vs.length (vs.map S)
 p:Own 3 72 H pv ps.length (ps.flatMap ptrV)
 kb: ∀B,Blk kv B→H0.next≤B∧B≠R∧ ¬Blk vv B∧ ¬Blk pv B
 vb: ∀B,Blk vv B→H0.next≤B∧B≠R∧ ¬Blk pv B
 pb: ∀B,Blk pv B→H0.next≤B∧B≠R
 small:rest.length≤10000∧ks.length≤1000000∧vs.length≤1000000∧ps.length≤1000000
theorem RdI.put {R:Nat}{H0 H:AH}{rest:Str}{bad leaf:Bool}{kv vv pv:AV}{ks vs:List Str}{ps:List Ptr}(h:RdI R H0 H rest bad leaf kv vv pv ks vs ps){o:Nat}{x:AV}(hx:isCell x=true)(ho:o<6){rest':Str}{bad':Bool}(hr:rest'.length≤10000)
  (hl:[S rest, .bool bad, .bool leaf,kv,vv,pv].set o x=[S rest', .bool bad', .bool leaf,kv,vv,pv]): ∃H',stN 1 (.ptr R o) x H=some (undefA,H')∧RdI R H0 H' rest' bad' leaf kv vv pv ks vs ps:=by
 obtain⟨e,hg⟩:=h.get
 have hlt:=h.prs.ok.lt hg
 have hst:Stp (fun B=>B=R) H (H.put R (.cells ([S rest, .bool bad, .bool leaf,kv,vv,pv].set o x) e 1 false)):=(Stp.refl h.prs.ok).put hlt _ (.inr rfl)
 refine⟨_,st1_ok hg (by decide) hx ho,⟨h.prs.trans hst,⟨e,by rw[AH.put_get,if_pos rfl,hl]⟩,h.k.mono hst (fun B hB=>(h.kb B hB).2.1),h.v.mono hst (fun B hB=>(h.vb B hB).2.1),h.p.mono hst (fun B hB=>(h.pb B hB).2),h.kb,h.vb,h.pb,hr,h.small.2⟩⟩
theorem RdI.lt {R:Nat}{H0 H:AH}{rest:Str}{bad leaf:Bool}{kv vv pv:AV}{ks vs:List Str}{ps:List Ptr}(h:RdI R H0 H rest bad leaf kv vv pv ks vs ps):R<H.next:=by
 obtain⟨e,hg⟩:=h.get;exact h.prs.ok.lt hg
theorem Own.lt {k e n:Nat}{H:AH}{v:AV}{l:List AV}(h:Own k e H v n l){B:Nat}(hB:Blk v B):B<H.next:=(Grow.lt (.inl h) hB)
end Go.Eng.Sh
end
section
namespace Go.Eng.Sh
open Go.Nd (Ptr mayP)
end Go.Eng.Sh
end
section
namespace Go.Eng.Sh
open Go.Nd (Ptr mayP)
def NodeO (H0 H:AH)(v:AV)(nd:Nd.Node):Prop:= ∃ks vs ps,v= .agg [.bool nd.leaf,ks,vs,ps]∧Own 1 9 H ks nd.keys.length (nd.keys.map S)∧Own 1 9 H vs nd.vals.length (nd.vals.map S)∧Own 3 72 H ps nd.kids.length (nd.kids.flatMap ptrV)∧(∀B,Blk ks B∨Blk vs B∨Blk ps B→H0.next≤B)∧(∀B,Blk ks B→ ¬Blk vs B∧ ¬Blk ps B)∧ ∀B,Blk vs B→ ¬Blk ps B
theorem NodeO.node {H0 H:AH}{v:AV}{nd:Nd.Node}(h:NodeO H0 H v nd):NodeV H v nd:=by
 obtain⟨ks,vs,ps,e,h1,h2,h3,_⟩:=h;exact⟨ks,vs,ps,e,h1.row,h2.row,h3.row⟩
end Go.Eng.Sh
end
section
namespace Go.Eng.Sh
open Go.Nd (Ptr sumL)
theorem allCells4 (x:Bool)(a b c:AV)(ha:isCell a=true)(hb:isCell b=true)(hc:isCell c=true):allCells [.bool x,a,b,c]=true:=by
 simp only[allCells,ha,hb,hc];rfl
theorem Grow.zero (k e:Nat){H:AH}{A:Nat}{e':TypeId}{g:Bool}(h:H.h.get A=some (.cells [] e' k g))(hk:H.ok):Grow k e H (.slice A 0 0 0) 0 []:= .inr ⟨by simp,A,e',g,rfl,hk.lt h,h⟩
theorem aveq_bool (b:Bool):aveq (.bool b) (.bool b)=true:=by cases b<;>rfl
theorem map_cells (l:List Str):allCells (l.map S)=true:=by
 rw[allCells_mem];intro x hx;obtain⟨s,_,rfl⟩:=List.mem_map.1 hx;rfl
theorem flat_cells (l:List Ptr):allCells (l.flatMap ptrV)=true:=by
 rw[allCells_mem];intro x hx
 obtain⟨p,_,hp⟩:=List.mem_flatMap.1 hx
 simp only[ptrV,List.mem_cons,List.not_mem_nil,or_false]at hp
 rcases hp with rfl | rfl | rfl<;>rfl
theorem Rw.blk {k n:Nat}{H:AH}{v:AV}{l:List AV}(h:Rw k H v n l){B:Nat}(hB:Blk v B):B<H.next:=by
 obtain⟨_,⟨rfl,_⟩ | ⟨rfl,_⟩ | ⟨A,off,cc,c,e,sz,g,rfl,_,hlt,_⟩⟩:=h
 ·exact(Blk.nil.1 hB).elim
 ·obtain⟨_,_,_,h⟩:=hB;cases h
 ·rw[Blk.slice.1 hB];exact hlt
def NodeG (H:AH)(v:AV)(nd:Nd.Node):Prop:= ∃ks vs ps,v= .agg [.bool nd.leaf,ks,vs,ps]∧Grow 1 9 H ks nd.keys.length (nd.keys.map S)∧Grow 1 9 H vs nd.vals.length (nd.vals.map S)∧Grow 3 72 H ps nd.kids.length (nd.kids.flatMap ptrV)
theorem NodeG.node {H:AH}{v:AV}{nd:Nd.Node}(h:NodeG H v nd):NodeV H v nd:=by
 obtain⟨ks,vs,ps,e,h1,h2,h3⟩:=h;exact⟨ks,vs,ps,e,h1.row,h2.row,h3.row⟩
theorem NodeG.prs {H H':AH}{v:AV}{nd:Nd.Node}(h:NodeG H v nd)(s:Prs H H'):NodeG H' v nd:=by
 obtain⟨ks,vs,ps,e,h1,h2,h3⟩:=h;exact⟨ks,vs,ps,e,h1.mono s (fun _ _ x=>x),h2.mono s (fun _ _ x=>x),h3.mono s (fun _ _ x=>x)⟩
end Go.Eng.Sh
end
section
namespace Go.Eng.Sh
open Go.Nd (Ptr sumL)
end Go.Eng.Sh
end
section
namespace Go.Eng.Sh
open Go.Nd (Ptr sumL)
theorem Own.st {k e n:Nat}{H:AH}{v:AV}{l:List AV}(h:Own k e H v n l)(hk:H.ok)(hpos:0<k){i:Nat}(hi:i<n){x:AV}(hx:(cellsA x).length=k)(hc:allCells (cellsA x)=true):
  ∃p H' l',(∀κ (z:Int),z=(i:Int)→ixSl k v (.int κ z)=some p)∧stN k p x H=some (undefA,H')∧Own k e H' v n l'∧Stp (Blk v) H H':=by
 obtain⟨h0,⟨_,rfl⟩ | ⟨A,rfl,hA,hg⟩⟩:=h
 ·omega
 ·have hik:i*k+k≤n*k:=by rw[← Nat.succ_mul];exact Nat.mul_le_mul_right _ hi
  have hb:Nat.blt i n=true:=by rw[Nat.blt_eq];exact hi
  refine⟨.ptr A (0+i*k),_,_,fun κ z hz=> ?_,stN_ok hg hpos hx hc (by omega),⟨?_, .inr ⟨A,rfl,hA,by rw[AH.put_get,if_pos rfl]⟩⟩,(Stp.refl hk).put hA _ (.inr (Blk.slice.2 rfl))⟩
  ·subst hz
   simp only[ixSl,natOf_int κ (show(0:Int)≤(i:Int)by omega),Int.toNat_natCast,hb,cond_true,fN_eq]
  ·simp only[List.length_append,List.length_take,List.length_drop,hx];omega
end Go.Eng.Sh
end
section
namespace Go.Eng.Sh
open Go.Nd (Ptr sumL)
theorem ble0 (x:Nat):Nat.ble 0 x=true:=by rw[Nat.ble_eq];omega
theorem slSl_hi {k e n:Nat}{H:AH}{v:AV}{l:List AV}(h:Grow k e H v n l)(hpos:0<k){i:Nat}(hi:i≤n)(κ κ':IntKind):
  ∃r,slSl k v none (some (.int κ (i:Nat))) (some (.int κ' (i:Nat))) H=some r∧Rw k H r i (l.take (i*k))∧(0<i→r≠ .nilSlice∧r≠ .emptySl):=by
 have n1:=natOf_int κ (z:=((i:Nat):Int)) (by omega)
 have n2:=natOf_int κ' (z:=((i:Nat):Int)) (by omega)
 simp only[Int.toNat_natCast]at n1 n2
 have hb:Nat.blt 0 k=true:=by rw[Nat.blt_eq];exact hpos
 have hz:Nat.beq i 0=decide (i=0):=by rw[Bool.eq_iff_iff];simp
 have hmul:i*k≤n*k:=Nat.mul_le_mul_right _ hi
 have b1:Nat.ble i n=true:=by rw[Nat.ble_eq];exact hi
 have b2:Nat.ble i i=true:=by rw[Nat.ble_eq];exact Nat.le_refl _
 have b3:Nat.ble 0 i=true:=by rw[Nat.ble_eq];omega
 rcases h with⟨h0,⟨rfl,rfl⟩ | ⟨A,rfl,hA,hg⟩⟩ | ⟨h0,A,e',g,rfl,hA,hg⟩
 ·obtain rfl:i=0:=by omega
  exact⟨.nilSlice,by simp only[slSl,natOpt,n1,n2];simp,⟨by simp, .inl ⟨rfl,rfl⟩⟩,fun h=>absurd h (by omega)⟩
 ·have hroom:roomOf l true k 0 1 k=n:=by
   simp only[roomOf,show((1 % 2).beq 0)=false from rfl,cond_false,Nat.beq_refl,show Nat.beq 0 (1 / 2*k)=true from by simp,Bool.and_self,cond_true,lenL_zero,h0,Nat.sub_zero]
   exact Nat.mul_div_cancel _ hpos
  by_cases hi0:i=0
  ·subst hi0
   refine⟨.slice A 0 0 0, ?_,⟨by simp, .inr (.inr ⟨A,0,0,l,e,k,true,rfl,hg,hA,by simp,by simp⟩)⟩,fun h=>absurd h (by omega)⟩
   simp only[slSl,natOpt,n1,n2,hg,hb,cond_true];simp[acut,hroom,fN_eq,ble0]
  ·have hz0:Nat.beq i 0=false:=by rw[hz];simpa using hi0
   refine⟨.slice A 0 i (2*i), ?_,⟨by rw[List.length_take,h0,Nat.min_eq_left hmul], .inr (.inr ⟨A,0,2*i,l,e,k,true,rfl,hg,hA,by omega,by simp⟩)⟩,fun _=>⟨by simp,by simp⟩⟩
   simp only[slSl,natOpt,n1,n2,hg,hb,cond_true];simp[acut,hroom,b1,b2,hz0,fN_eq,ble0]
 ·have hroom:roomOf l g k 0 (2*n) k=n:=by
   simp only[roomOf,show((2*n) % 2).beq 0=true by rw[Nat.mul_mod_right];rfl,cond_true,Nat.mul_div_cancel_left n (show 0<2 by omega)]
  by_cases hi0:i=0
  ·subst hi0
   refine⟨.slice A 0 0 0, ?_,⟨by simp, .inr (.inr ⟨A,0,0,l,e',k,g,rfl,hg,hA,by simp,by simp⟩)⟩,fun h=>absurd h (by omega)⟩
   simp only[slSl,natOpt,n1,n2,hg,hb,cond_true];simp[acut,hroom,fN_eq,ble0]
  ·have hz0:Nat.beq i 0=false:=by rw[hz];simpa using hi0
   refine⟨.slice A 0 i (2*i), ?_,⟨by rw[List.length_take,h0,Nat.min_eq_left hmul], .inr (.inr ⟨A,0,2*i,l,e',k,g,rfl,hg,hA,by omega,by simp⟩)⟩,fun _=>⟨by simp,by simp⟩⟩
   simp only[slSl,natOpt,n1,n2,hg,hb,cond_true];simp[acut,hroom,b1,b2,hz0,fN_eq,ble0]
theorem slSl_lo {k e n:Nat}{H:AH}{v:AV}{l:List AV}(h:Grow k e H v n l)(hpos:0<k){i:Nat}(hi:i<n)(κ:IntKind):
  ∃r,slSl k v (some (.int κ (i:Nat))) none none H=some r∧Rw k H r (n - i) (l.drop (i*k))∧r≠ .nilSlice∧r≠ .emptySl:=by
 have n1:=natOf_int κ (z:=((i:Nat):Int)) (by omega)
 simp only[Int.toNat_natCast]at n1
 have hb:Nat.blt 0 k=true:=by rw[Nat.blt_eq];exact hpos
 have hmul:i*k≤n*k:=Nat.mul_le_mul_right _ (by omega)
 have hsub:(n - i)*k=n*k - i*k:=Nat.sub_mul _ _ _
 have b1:Nat.ble n n=true:=by rw[Nat.ble_eq];exact Nat.le_refl _
 have b2:Nat.ble i n=true:=by rw[Nat.ble_eq];omega
 have b3:Nat.blt i n=true:=by rw[Nat.blt_eq];exact hi
 have b4:Nat.beq n i=false:=by rw[Bool.eq_false_iff];intro h;have:=Nat.eq_of_beq_eq_true h;omega
 rcases h with⟨h0,⟨rfl,rfl⟩ | ⟨A,rfl,hA,hg⟩⟩ | ⟨h0,A,e',g,rfl,hA,hg⟩
 ·omega
 ·have hroom:roomOf l true k 0 1 k=n:=by
   simp only[roomOf,show((1 % 2).beq 0)=false from rfl,cond_false,Nat.beq_refl,show Nat.beq 0 (1 / 2*k)=true from by simp,Bool.and_self,cond_true,lenL_zero,h0,Nat.sub_zero]
   exact Nat.mul_div_cancel _ hpos
  by_cases hi0:i=0
  ·subst hi0
   refine⟨.slice A 0 n 1, ?_,⟨by simp[h0], .inr (.inr ⟨A,0,1,l,e,k,true,by simp,hg,hA,by simp[h0],by rw[Nat.sub_zero,Nat.zero_mul,List.drop_zero,List.take_of_length_le (by omega)]⟩)⟩,by simp,by simp⟩
   simp only[slSl,natOpt,n1,hg,hb,cond_true];simp[acut,hroom,b1,fN_eq,ble0,show Nat.beq 1 0=false from rfl]
  ·have hz0:Nat.beq i 0=false:=by rw[Bool.eq_false_iff];intro h;exact hi0 (Nat.eq_of_beq_eq_true h)
   refine⟨.slice A (0+i*k) (n - i) (1+2*i), ?_,⟨by simp[h0,hsub], .inr (.inr ⟨A,0+i*k,1+2*i,l,e,k,true,rfl,hg,hA,by omega,by rw[Nat.zero_add,List.take_of_length_le (by simp[h0,hsub])]⟩)⟩,by simp,by simp⟩
   simp only[slSl,natOpt,n1,hg,hb,cond_true];simp[acut,hroom,b1,b2,b3,hz0,fN_eq,show Nat.beq 1 0=false from rfl]
 ·have hroom:roomOf l g k 0 (2*n) k=n:=by
   simp only[roomOf,show((2*n) % 2).beq 0=true by rw[Nat.mul_mod_right];rfl,cond_true,Nat.mul_div_cancel_left n (show 0<2 by omega)]
  have b4':Nat.beq (2*n / 2) i=false:=by rw[Nat.mul_div_cancel_left n (show 0<2 by omega)];exact b4
  refine⟨.slice A (0+i*k) (n - i) (2*(2*n / 2 - i)), ?_,⟨by simp[h0,hsub], .inr (.inr ⟨A,0+i*k,2*(2*n / 2 - i),l,e',k,g,rfl,hg,hA,by omega,by rw[Nat.zero_add,List.take_of_length_le (by simp[h0,hsub])]⟩)⟩,by simp,by simp⟩
  simp only[slSl,natOpt,n1,hg,hb,cond_true];simp[acut,hroom,b1,b2,b4',fN_eq,b4]
theorem cloneS_ok (D:Dyn)(n:Nat){H:AH}(hk:H.ok){v:AV}{l:List Str}(h:Strs H v l)(hn:v≠ .nilSlice)(he:v≠ .emptySl)(hl:l.length≤1000000000):
  ∃v' H',f109 D n [v] H=some (v',H')∧Prs H H'∧Grow 1 9 H' v' l.length (l.map S)∧ ∀B,Blk v' B→H.next≤B:=by
 have p1:Prs H (H.push (.cells [] 9 1 false)):=(Stp.refl hk).push _
 have g1:(H.push (.cells [] 9 1 false)).h.get H.next=some (.cells [] 9 1 false):=AH.push_get_eq _ _
 have n1:(H.push (.cells [] 9 1 false)).next=H.next+1:=rfl
 generalize hH1:H.push (.cells [] 9 1 false)=H1 at p1 g1 n1
 obtain⟨v',H2,e2,w2,s2,f2⟩:=(Grow.zero 1 9 g1 p1.ok).app (bytes:=16) p1.ok (by decide) (Rw.srcOf (h.prs p1)) (by simp) (map_cells _) (by omega) (by decide)
 have hz1:bldL 9 1 0 [.str 0 0] []=some (.cells [] 9 1 false,fun A=> .slice A 0 0 0):=rfl
 have heq:cmpO .eql (eqS v .nilSlice)=some (.bool false):=by
  obtain⟨_,⟨rfl,_⟩ | ⟨rfl,_⟩ | ⟨A,off,cc,c,e,sz,g,rfl,_⟩⟩:=h
  ·exact absurd rfl hn
  ·exact absurd rfl he
  ·rfl
 refine⟨v',H2, ?_,p1.fresh s2 (fun B hB=>by rw[Blk.slice.1 hB];exact Nat.le_refl _),by simpa using w2,fun B hB=> ?_⟩
 ·simp only[f109,ev,lg,wnt_undef,ew,heq,hz1,bA_ok hk,hH1,e2]
 ·rcases f2 B hB with h | h
  ·rw[Blk.slice.1 h];exact Nat.le_refl _
  ·omega
theorem cloneP_ok (D:Dyn)(n:Nat){H:AH}(hk:H.ok){v:AV}{l:List Ptr}(h:Ptrs H v l)(hn:v≠ .nilSlice)(he:v≠ .emptySl)(hl:l.length≤1000000000):
  ∃v' H',f77 D n [v] H=some (v',H')∧Prs H H'∧Grow 3 72 H' v' l.length (l.flatMap ptrV)∧ ∀B,Blk v' B→H.next≤B:=by
 have p1:Prs H (H.push (.cells [] 72 3 false)):=(Stp.refl hk).push _
 have g1:(H.push (.cells [] 72 3 false)).h.get H.next=some (.cells [] 72 3 false):=AH.push_get_eq _ _
 have n1:(H.push (.cells [] 72 3 false)).next=H.next+1:=rfl
 generalize hH1:H.push (.cells [] 72 3 false)=H1 at p1 g1 n1
 obtain⟨v',H2,e2,w2,s2,f2⟩:=(Grow.zero 3 72 g1 p1.ok).app (bytes:=24) p1.ok (by decide) (Rw.srcOf (h.prs p1)) h.1 (flat_cells _) (by omega) (by decide)
 have hz1: ∀a b c:AV,bldL 72 3 0 [a,b,c] []=some (.cells [] 72 3 false,fun A=> .slice A 0 0 0):=fun _ _ _=>rfl
 have heq:cmpO .eql (eqS v .nilSlice)=some (.bool false):=by
  obtain⟨_,⟨rfl,_⟩ | ⟨rfl,_⟩ | ⟨A,off,cc,c,e,sz,g,rfl,_⟩⟩:=h
  ·exact absurd rfl hn
  ·exact absurd rfl he
  ·rfl
 refine⟨v',H2, ?_,p1.fresh s2 (fun B hB=>by rw[Blk.slice.1 hB];exact Nat.le_refl _),by simpa using w2,fun B hB=> ?_⟩
 ·simp only[f77,ev,lg,wnt_undef,ew,heq,hz1,bA_ok hk,hH1,e2]
 ·rcases f2 B hB with h | h
  ·rw[Blk.slice.1 h];exact Nat.le_refl _
  ·omega
end Go.Eng.Sh
end
end
section
namespace Go.Eng.Sh
open Go.Nd (Ptr sumL cutOk)
def cuttable (nd:Nd.Node):Prop:=2≤nd.keys.length∧(nd.leaf=true∨3≤nd.keys.length)
def hbnd (nd:Nd.Node)(k:Nat):Prop:=
 (k=1∨Nd.size (Nd.cutA nd k)≤(Nd.size nd - 2) / 2+2)∧(k+(if nd.leaf then 1 else 2)=nd.keys.length∨(Nd.size nd - 2) / 2+2<Nd.size (Nd.cutA nd (k+1)))
theorem sumL_next (l:List Str){i:Nat}(h:i<l.length):sumL (l.take (i+1))=sumL (l.take i)+(1+(l[i]).length):=by
 rw[List.take_succ_eq_append_getElem h,Nd.sumL_append,Nd.sumL_cons];rfl
theorem size_leaf {nd:Nd.Node}(hl:nd.leaf=true)(hv:nd.vals.length=nd.keys.length){i:Nat}(h:i<nd.keys.length):Nd.size (Nd.cutA nd (i+1))=Nd.size (Nd.cutA nd i)+(1+(nd.keys[i]).length)+(1+(nd.vals[i]'(by omega)).length):=by
 simp only[Nd.cutA,hl,if_true,Nd.size,sumL_next nd.keys h,sumL_next nd.vals (i:=i) (by omega)];omega
theorem size_inner {nd:Nd.Node}(hl:nd.leaf=false)(hv:nd.kids.length=nd.keys.length+1){i:Nat}(h:i<nd.keys.length):Nd.size (Nd.cutA nd (i+1))=Nd.size (Nd.cutA nd i)+(1+(nd.keys[i]).length)+16:=by
 simp only[Nd.cutA,hl,Bool.false_eq_true,if_false,Nd.size,sumL_next nd.keys h,List.length_take];omega
theorem size_two (nd:Nd.Node):2≤Nd.size nd:=by simp only[Nd.size];omega
theorem halfLoop (D:Dyn)(n:Nat){H:AH}{ks vs ps:AV}{nd:Nd.Node}(h1:Strs H ks nd.keys)(h2:Strs H vs nd.vals)(hv:nd.leaf=true→nd.vals.length=nd.keys.length)(hp:nd.leaf=false→nd.kids.length=nd.keys.length+1){A:Nat}{e:TypeId}(hA:H.h.get A=some (.cells [.bool nd.leaf,ks,vs,ps] e 1 false))
  (most:Nat) (L:Nat) (hL:L≤nd.keys.length) (hb:nd.keys.length≤1000000000) (hz:Nd.size nd≤1000000000) (n':Nat) (hn:L<n'):
  Fin (loopK n' (f183l1 D n) [.ptr A 0, .int .i64 (most:Nat), .int .i64 (L:Nat), .int .i64 ((Nd.size (Nd.cutA nd 0) - 2:Nat):Int), .int .i64 (L:Nat), .int .i64 (0:Nat)] H) fun x H'=>H'=H∧((∃j:Nat,0<j∧j<L∧x= .ret (.int .i64 (j:Nat))∧(j=1∨Nd.size (Nd.cutA nd j)≤most+2)∧most+2<Nd.size (Nd.cutA nd (j+1)))∨(x= .exit 0 [.int .i64 (L:Nat)]∧(L≤1∨Nd.size (Nd.cutA nd L)≤most+2))):=by
 refine Fin.loop (fun k us H'=>H'=H∧ ∃(i:Nat),us=[.ptr A 0, .int .i64 (most:Nat), .int .i64 (L:Nat), .int .i64 ((Nd.size (Nd.cutA nd i) - 2:Nat):Int), .int .i64 (L:Nat), .int .i64 (i:Nat)]∧i≤L∧k=L - i∧(i≤1∨Nd.size (Nd.cutA nd i)≤most+2)) ?_ n' L _ H ⟨rfl,0,rfl,by omega,by omega, .inl (by omega)⟩ hn
 rintro k us H' ⟨rfl,i,rfl,hi,rfl,hpre⟩
 by_cases hlt:i<L
 ·have hik:i<nd.keys.length:=by omega
  obtain⟨p,p1,p2⟩:=h1.at hik
  have hiI:((i:Nat):Int)< ((L:Nat):Int):=by omega
  have z2:=size_two (Nd.cutA nd i)
  have z2':=size_two (Nd.cutA nd (i+1))
  have tail:Fin (f183j0 D n [.ptr A 0, .int .i64 (most:Nat), .int .i64 (L:Nat), .int .i64 ((Nd.size (Nd.cutA nd (i+1)) - 2:Nat):Int), .int .i64 (i:Nat), .int .i64 (L:Nat), .int .i64 (i:Nat)] H')
    (orN (fun us' H''=> ∃k',k'<L - i∧H''=H'∧ ∃(i:Nat),us'=[.ptr A 0, .int .i64 (most:Nat), .int .i64 (L:Nat), .int .i64 ((Nd.size (Nd.cutA nd i) - 2:Nat):Int), .int .i64 (L:Nat), .int .i64 (i:Nat)]∧i≤L∧k'=L - i∧(i≤1∨Nd.size (Nd.cutA nd i)≤most+2))
     (fun x H''=>H''=H'∧((∃j:Nat,0<j∧j<L∧x= .ret (.int .i64 (j:Nat))∧(j=1∨Nd.size (Nd.cutA nd j)≤most+2)∧most+2<Nd.size (Nd.cutA nd (j+1)))∨(x= .exit 0 [.int .i64 (L:Nat)]∧(L≤1∨Nd.size (Nd.cutA nd L)≤most+2))))):=by
   by_cases hc:0<i∧most<Nd.size (Nd.cutA nd (i+1)) - 2
   ·have c1:((0:Nat):Int)< (i:Int):=by omega
    have c2:((most:Nat):Int)< ((Nd.size (Nd.cutA nd (i+1)) - 2:Nat):Int):=by omega
    have:f183j0 D n [.ptr A 0, .int .i64 (most:Nat), .int .i64 (L:Nat), .int .i64 ((Nd.size (Nd.cutA nd (i+1)) - 2:Nat):Int), .int .i64 (i:Nat), .int .i64 (L:Nat), .int .i64 (i:Nat)] H'=some (.ret (.int .i64 (i:Nat)),H'):=by
     simp(disch:=omega) only[f183j0,ev,lg,wnt_undef,ew,c1,c2]
    rw[this]
    exact⟨_,_,rfl,rfl, .inl ⟨i,hc.1,hlt,rfl,by omega,by omega⟩⟩
   ·have hcb:(decide (((0:Nat):Int)< (i:Int))&&decide (((most:Nat):Int)< ((Nd.size (Nd.cutA nd (i+1)) - 2:Nat):Int)))=false:=by
     rw[Bool.eq_false_iff];intro hh
     simp only[Bool.and_eq_true,decide_eq_true_eq]at hh
     exact hc ⟨by omega,by omega⟩
    have:f183j0 D n [.ptr A 0, .int .i64 (most:Nat), .int .i64 (L:Nat), .int .i64 ((Nd.size (Nd.cutA nd (i+1)) - 2:Nat):Int), .int .i64 (i:Nat), .int .i64 (L:Nat), .int .i64 (i:Nat)] H'=some (.norm [.ptr A 0, .int .i64 (most:Nat), .int .i64 (L:Nat), .int .i64 ((Nd.size (Nd.cutA nd (i+1)) - 2:Nat):Int), .int .i64 (L:Nat), .int .i64 ((i+1:Nat):Int)],H'):=by
     simp(disch:=omega) only[f183j0,ev,lg,wnt_undef,ew,hcb,Int.natCast_add]
    rw[this]
    exact⟨_,_,rfl,L - (i+1),by omega,rfl,i+1,rfl,by omega,rfl,by omega⟩
  have hsz:Nd.size (Nd.cutA nd i)≤1000000002:=by
   have t1:=Nd.sumL_take_le nd.keys i;have t2:=Nd.sumL_take_le nd.vals i
   have:Nd.size nd=2+16*nd.kids.length+sumL nd.keys+sumL nd.vals:=rfl
   have z0:sumL []=0:=rfl
   simp only[Nd.cutA]
   split<;>simp only[Nd.size,List.length_nil,List.length_take,z0]<;>omega
  have hkl:(nd.keys[i]).length≤1000000000:=by
   have:=Nd.sumL_drop_le nd.keys i
   rw[List.drop_eq_getElem_cons hik,Nd.sumL_cons]at this
   have:Nd.size nd=2+16*nd.kids.length+sumL nd.keys+sumL nd.vals:=rfl
   omega
  cases hl:nd.leaf with
  | true=>
   rw[hl]at hA
   obtain⟨q,q1,q2⟩:=h2.at (i:=i) (by rw[hv hl];exact hik)
   have hs:=size_leaf hl (hv hl) hik
   have hvl:(nd.vals[i]'(by rw[hv hl];exact hik)).length≤1000000000:=by
    have:=Nd.sumL_drop_le nd.vals i
    rw[List.drop_eq_getElem_cons (by rw[hv hl];exact hik),Nd.sumL_cons]at this
    have:Nd.size nd=2+16*nd.kids.length+sumL nd.keys+sumL nd.vals:=rfl
    omega
   have hz:((Nd.size (Nd.cutA nd (i+1)) - 2:Nat):Int)=((Nd.size (Nd.cutA nd i) - 2:Nat):Int)+(((1:Nat):Int)+(((nd.keys[i]).length:Nat):Int))+(((1:Nat):Int)+(((nd.vals[i]'(by rw[hv hl];exact hik)).length:Nat):Int)):=by omega
   have:f183l1 D n [.ptr A 0, .int .i64 (most:Nat), .int .i64 (L:Nat), .int .i64 ((Nd.size (Nd.cutA nd i) - 2:Nat):Int), .int .i64 (L:Nat), .int .i64 (i:Nat)] H'=jn (some (.norm [.ptr A 0, .int .i64 (most:Nat), .int .i64 (L:Nat), .int .i64 ((Nd.size (Nd.cutA nd (i+1)) - 2:Nat):Int), .int .i64 (i:Nat), .int .i64 (L:Nat), .int .i64 (i:Nat)],H')) (f183j0 D n):=by
    rw[hz]
    simp(disch:=omega) only[f183l1,ev,lg,wnt_undef,ew,hiI,ld1_get hA,p1,p2,q1,q2]
   rw[this,jn_norm];exact tail
  | false=>
   rw[hl]at hA
   have hs:=size_inner hl (hp hl) hik
   have hz:((Nd.size (Nd.cutA nd (i+1)) - 2:Nat):Int)=((Nd.size (Nd.cutA nd i) - 2:Nat):Int)+(((1:Nat):Int)+(((nd.keys[i]).length:Nat):Int))+((16:Nat):Int):=by omega
   have:f183l1 D n [.ptr A 0, .int .i64 (most:Nat), .int .i64 (L:Nat), .int .i64 ((Nd.size (Nd.cutA nd i) - 2:Nat):Int), .int .i64 (L:Nat), .int .i64 (i:Nat)] H'=jn (some (.norm [.ptr A 0, .int .i64 (most:Nat), .int .i64 (L:Nat), .int .i64 ((Nd.size (Nd.cutA nd (i+1)) - 2:Nat):Int), .int .i64 (i:Nat), .int .i64 (L:Nat), .int .i64 (i:Nat)],H')) (f183j0 D n):=by
    rw[hz]
    simp(disch:=omega) only[f183l1,ev,lg,wnt_undef,ew,hiI,ld1_get hA,p1,p2]
   rw[this,jn_norm];exact tail
 ·have hiI: ¬((i:Nat):Int)< ((L:Nat):Int):=by omega
  have hiL:i=L:=by omega
  subst hiL
  refine⟨.exit 0 [.int .i64 (i:Nat)],H', ?_,rfl, .inr ⟨rfl,hpre⟩⟩
  simp only[f183l1,ev,lg,wnt_undef,ew,hiI]
theorem half_ok (D:Dyn)(n:Nat)(hn:200000000≤n){H:AH}(hk:H.ok){v:AV}{nd:Nd.Node}(h:NodeV H v nd)(hs:small nd)(hsh:Nd.shaped ltS nd=true)(hc:cuttable nd):
  ∃(k:Nat) (H':AH),f183 D n [v] H=some (.int .i64 (k:Nat),H')∧Prs H H'∧cutOk nd k∧hbnd nd k:=by
 have h0:=h
 obtain⟨ks,vs,ps,rfl,h1,h2,h3⟩:=h
 have hkl:=Nd.sumL_ge nd.keys
 obtain⟨s1,s2,s3⟩:=id hs
 obtain⟨c1,c2⟩:=hc
 have hv:nd.leaf=true→nd.vals.length=nd.keys.length:=by
  intro hl
  simp only[Nd.shaped,hl,if_true,Bool.and_eq_true,decide_eq_true_eq]at hsh
  exact hsh.2.1.1
 have hp:nd.leaf=false→nd.kids.length=nd.keys.length+1:=by
  intro hl
  simp only[Nd.shaped,hl,Bool.false_eq_true,if_false,Bool.and_eq_true,decide_eq_true_eq]at hsh
  exact hsh.2.1.2
 have p1:Prs H (H.push (.cells [.bool nd.leaf,ks,vs,ps] 133 1 false)):=(Stp.refl hk).push _
 have g1:(H.push (.cells [.bool nd.leaf,ks,vs,ps] 133 1 false)).h.get H.next=some (.cells [.bool nd.leaf,ks,vs,ps] 133 1 false):=AH.push_get_eq _ _
 generalize hH1:H.push (.cells [.bool nd.leaf,ks,vs,ps] 133 1 false)=H1 at p1 g1
 obtain⟨z,H2,e2,rfl,p2⟩:=size_ok D n p1.ok (h0.prs p1) hs hn
 have g2:=p2.get p1.ok g1
 have P:Prs H H2:=p1.trans p2
 have hq:=bInt_quo .i64 (((Nd.size nd:Nat):Int) - ((2:Nat):Int)) ((2:Nat):Int) (by omega)
 have hsz:Nd.size nd≤1000000000:=by simp only[Nd.size];omega
 have hz2:=size_two nd
 have hmost:IntKind.wrap .i64 ((((Nd.size nd:Nat):Int) - ((2:Nat):Int)).tdiv ((2:Nat):Int))=(((Nd.size nd - 2) / 2:Nat):Int):=by
  rw[show((Nd.size nd:Nat):Int) - ((2:Nat):Int)=((Nd.size nd - 2:Nat):Int)by omega,Int.tdiv_eq_ediv_of_nonneg (by omega)]
  rw[wrap_i64 (by omega) (by omega)];omega
 rw[hmost]at hq
 cases hl:nd.leaf with
 | true=>
  obtain⟨x,H3,e3,rfl,hx⟩:=halfLoop D n (h1.prs P) (h2.prs P) hv hp g2 ((Nd.size nd - 2) / 2) (nd.keys.length - 1) (by omega) (by omega) hsz n (by omega)
  have hL:((nd.keys.length:Nat):Int) - ((1:Nat):Int)=((nd.keys.length - 1:Nat):Int):=by omega
  rw[hl]at g2 hH1 e2
  rw[show Nd.size (Nd.cutA nd 0) - 2=0 by simp[Nd.cutA,hl,Nd.size,sumL]]at e3
  rcases hx with⟨j,j1,j2,rfl,j3,j4⟩ | ⟨rfl,j3⟩
  ·refine⟨j,H3, ?_,P,⟨j1,by rw[hl];simp only[if_true];omega⟩,j3, .inr j4⟩
   simp(disch:=omega) only[f183,ev,lg,wnt_undef,ew,bA_ok hk,hH1,sub4,Option.map_some,hl,e2,hq,ld1_get g2,h1.lnSl,hL,f183j3,e3]
  ·refine⟨nd.keys.length - 1,H3, ?_,P,⟨by omega,by rw[hl];simp only[if_true];omega⟩,by omega, .inl (by rw[hl];simp only[if_true];omega)⟩
   simp(disch:=omega) only[f183,ev,lg,wnt_undef,ew,bA_ok hk,hH1,sub4,Option.map_some,hl,e2,hq,ld1_get g2,h1.lnSl,hL,f183j3,e3,f183b2]
 | false=>
  have c3:3≤nd.keys.length:=by rcases c2 with h | h;rw[hl]at h;cases h;exact h
  obtain⟨x,H3,e3,rfl,hx⟩:=halfLoop D n (h1.prs P) (h2.prs P) hv hp g2 ((Nd.size nd - 2) / 2) (nd.keys.length - 2) (by omega) (by omega) hsz n (by omega)
  have hL:((nd.keys.length:Nat):Int) - ((1:Nat):Int) - ((1:Nat):Int)=((nd.keys.length - 2:Nat):Int):=by omega
  rw[hl]at g2 hH1 e2
  rw[show Nd.size (Nd.cutA nd 0) - 2=16 by have hpl:=hp hl;simp only[Nd.cutA,hl,Bool.false_eq_true,if_false,Nd.size,List.take_zero,List.length_take,Nat.zero_add,show sumL []=0 from rfl];omega]at e3
  rcases hx with⟨j,j1,j2,rfl,j3,j4⟩ | ⟨rfl,j3⟩
  ·refine⟨j,H3, ?_,P,⟨j1,by rw[hl];simp only[Bool.false_eq_true,if_false];omega⟩,j3, .inr j4⟩
   simp(disch:=omega) only[f183,ev,lg,wnt_undef,ew,bA_ok hk,hH1,sub4,Option.map_some,hl,e2,hq,ld1_get g2,h1.lnSl,hL,f183j3,e3]
  ·refine⟨nd.keys.length - 2,H3, ?_,P,⟨by omega,by rw[hl];simp only[Bool.false_eq_true,if_false];omega⟩,by omega, .inl (by rw[hl];simp only[Bool.false_eq_true,if_false];omega)⟩
   simp(disch:=omega) only[f183,ev,lg,wnt_undef,ew,bA_ok hk,hH1,sub4,Option.map_some,hl,e2,hq,ld1_get g2,h1.lnSl,hL,f183j3,e3,f183b2]
end Go.Eng.Sh
end
section
namespace Go.Eng.Sh
open Go.Nd (Ptr sumL cutOk cutA cutB)
theorem slSl_same {k e n:Nat}{H H':AH}{v:AV}{l l':List AV}(h:Grow k e H v n l)(h':Grow k e H' v n l')(hpos:0<k)(lo hi mx:Option AV):slSl k v lo hi mx H'=slSl k v lo hi mx H:=by
 have room1: ∀l:List AV,l.length=n*k→roomOf l true k 0 1 k=n:=fun l h0=>by
  simp only[roomOf,show((1 % 2).beq 0)=false from rfl,cond_false,Nat.beq_refl,show Nat.beq 0 (1 / 2*k)=true from by simp,Bool.and_self,cond_true,lenL_zero,h0,Nat.sub_zero]
  exact Nat.mul_div_cancel _ hpos
 have room2: ∀(l:List AV) (g:Bool),roomOf l g k 0 (2*n) k=n:=fun l g=>by
  simp only[roomOf,show((2*n) % 2).beq 0=true by rw[Nat.mul_mod_right];rfl,cond_true,Nat.mul_div_cancel_left n (show 0<2 by omega)]
 rcases h with⟨h0,⟨rfl,_⟩ | ⟨A,rfl,hA,hg⟩⟩ | ⟨h0,A,e',g,rfl,hA,hg⟩
 ·rfl
 ·rcases h' with⟨h0',⟨hv,_⟩ | ⟨A',hv,hA',hg'⟩⟩ | ⟨h0',A',e'',g',hv,hA',hg'⟩
  ·cases hv
  ·simp only[AV.slice.injEq]at hv;obtain⟨rfl,_⟩:=hv
   simp only[slSl,hg,hg',room1 l h0,room1 l' h0']
  ·simp only[AV.slice.injEq]at hv;omega
 ·rcases h' with⟨h0',⟨hv,_⟩ | ⟨A',hv,hA',hg'⟩⟩ | ⟨h0',A',e'',g',hv,hA',hg'⟩
  ·cases hv
  ·simp only[AV.slice.injEq]at hv;omega
  ·simp only[AV.slice.injEq]at hv;obtain⟨rfl,_⟩:=hv
   simp only[slSl,hg,hg',room2]
theorem st_fld {H:AH}(hk:H.ok){A o:Nat}{l:List AV}{e:TypeId}{x:AV}(h:H.h.get A=some (.cells l e 1 false))(hx:isCell x=true)(ho:o<l.length):
  ∃H',stN 1 (.ptr A o) x H=some (undefA,H')∧H'.h.get A=some (.cells (l.set o x) e 1 false)∧Stp (fun B=>B=A) H H'∧H'.next=H.next:=
 ⟨_,st1_ok h (by decide) hx ho,by rw[AH.put_get,if_pos rfl],(Stp.refl hk).put (hk.lt h) _ (.inr rfl),rfl⟩
theorem map_take (l:List Str)(k:Nat):(l.map S).take (k*1)=(l.take k).map S:=by simp
theorem map_drop (l:List Str)(k:Nat):(l.map S).drop (k*1)=(l.drop k).map S:=by simp
theorem flat_take: ∀(l:List Ptr) (k:Nat),(l.flatMap ptrV).take (k*3)=(l.take k).flatMap ptrV
 | _,0=>by simp
 | [],k+1=>by simp
 | p::l,k+1=>by
  have ih:=flat_take l k
  rw[show(k+1)*3=k*3+3 from by omega]
  show((ptrV p)++l.flatMap ptrV).take (k*3+3)=ptrV p++(l.take k).flatMap ptrV
  rw[← ih];rfl
theorem flat_drop: ∀(l:List Ptr) (k:Nat),(l.flatMap ptrV).drop (k*3)=(l.drop k).flatMap ptrV
 | _,0=>by simp
 | [],k+1=>by simp
 | p::l,k+1=>by
  have ih:=flat_drop l k
  rw[show(k+1)*3=k*3+3 from by omega]
  show((ptrV p)++l.flatMap ptrV).drop (k*3+3)=(l.drop k).flatMap ptrV
  rw[← ih];rfl
structure CutI (H0:AH)(A1 A2 A4:Nat)(H:AH)(l1 l2 l4:List AV):Prop where
 prs:Prs H0 H
 a1:H.h.get A1=some (.cells l1 133 1 false)
 a2:H.h.get A2=some (.cells l2 133 1 false)
 a4:H.h.get A4=some (.cells l4 133 1 false)
 o1:H0.next≤A1
 o2:A1<A2
 o4:A2<A4
theorem CutI.lt {H0 H:AH}{A1 A2 A4:Nat}{l1 l2 l4:List AV}(h:CutI H0 A1 A2 A4 H l1 l2 l4):A4<H.next:=h.prs.ok.lt h.a4
theorem CutI.step {H0 H H':AH}{A1 A2 A4:Nat}{l1 l2 l4:List AV}(h:CutI H0 A1 A2 A4 H l1 l2 l4)(s:Prs H H'):CutI H0 A1 A2 A4 H' l1 l2 l4:=
 ⟨h.prs.trans s,s.get h.prs.ok h.a1,s.get h.prs.ok h.a2,s.get h.prs.ok h.a4,h.o1,h.o2,h.o4⟩
theorem CutI.st2 {H0 H:AH}{A1 A2 A4:Nat}{l1 l2 l4:List AV}(h:CutI H0 A1 A2 A4 H l1 l2 l4){o:Nat}{x:AV}(hx:isCell x=true)(ho:o<l2.length):
  ∃H',stN 1 (.ptr A2 o) x H=some (undefA,H')∧CutI H0 A1 A2 A4 H' l1 (l2.set o x) l4∧Stp (fun B=>B=A2) H H':=by
 obtain⟨H',e,g,s,n⟩:=st_fld h.prs.ok h.a2 hx ho
 have:=h.o1;have:=h.o2;have:=h.o4;have l4:=h.lt
 exact⟨H',e,⟨h.prs.fresh s (fun B hB=>by omega),by rw[s.keep _ (by omega) (by omega)];exact h.a1,g,by rw[s.keep _ l4 (by omega)];exact h.a4,h.o1,h.o2,h.o4⟩,s⟩
theorem CutI.st4 {H0 H:AH}{A1 A2 A4:Nat}{l1 l2 l4:List AV}(h:CutI H0 A1 A2 A4 H l1 l2 l4){o:Nat}{x:AV}(hx:isCell x=true)(ho:o<l4.length):
  ∃H',stN 1 (.ptr A4 o) x H=some (undefA,H')∧CutI H0 A1 A2 A4 H' l1 l2 (l4.set o x)∧Stp (fun B=>B=A4) H H':=by
 obtain⟨H',e,g,s,n⟩:=st_fld h.prs.ok h.a4 hx ho
 have:=h.o1;have:=h.o2;have:=h.o4;have l4:=h.lt
 exact⟨H',e,⟨h.prs.fresh s (fun B hB=>by omega),by rw[s.keep _ (by omega) (by omega)];exact h.a1,by rw[s.keep _ (by omega) (by omega)];exact h.a2,g,h.o1,h.o2,h.o4⟩,s⟩
theorem CutI.all2 {H0 H:AH}{A1 A2 A4:Nat}{l1 l2 l4 l':List AV}(h:CutI H0 A1 A2 A4 H l1 l2 l4)(hl:l'.length=l2.length)(hc:allCells l'=true):
  ∃H',stN l2.length (.ptr A2 0) (.agg l') H=some (undefA,H')∧CutI H0 A1 A2 A4 H' l1 l' l4∧Stp (fun B=>B=A2) H H':=by
 obtain⟨H',e,g,s,n⟩:=st_all h.prs.ok h.a2 hl hc
 have:=h.o1;have:=h.o2;have:=h.o4;have l4:=h.lt
 exact⟨H',e,⟨h.prs.fresh s (fun B hB=>by omega),by rw[s.keep _ (by omega) (by omega)];exact h.a1,g,by rw[s.keep _ l4 (by omega)];exact h.a4,h.o1,h.o2,h.o4⟩,s⟩
theorem CutI.all4 {H0 H:AH}{A1 A2 A4:Nat}{l1 l2 l4 l':List AV}(h:CutI H0 A1 A2 A4 H l1 l2 l4)(hl:l'.length=l4.length)(hc:allCells l'=true):
  ∃H',stN l4.length (.ptr A4 0) (.agg l') H=some (undefA,H')∧CutI H0 A1 A2 A4 H' l1 l2 l'∧Stp (fun B=>B=A4) H H':=by
 obtain⟨H',e,g,s,n⟩:=st_all h.prs.ok h.a4 hl hc
 have:=h.o1;have:=h.o2;have:=h.o4;have l4:=h.lt
 exact⟨H',e,⟨h.prs.fresh s (fun B hB=>by omega),by rw[s.keep _ (by omega) (by omega)];exact h.a1,by rw[s.keep _ (by omega) (by omega)];exact h.a2,g,h.o1,h.o2,h.o4⟩,s⟩
end Go.Eng.Sh
end
section
namespace Go.Eng.Sh
open Go.Nd (Ptr sumL cutOk cutA cutB)
def blkN (u:AV)(B:Nat):Prop:= ∃x ks vs ps,u= .agg [x,ks,vs,ps]∧(Blk ks B∨Blk vs B∨Blk ps B)
theorem blkN_mk {x ks vs ps:AV}{B:Nat} :blkN (.agg [x,ks,vs,ps]) B↔(Blk ks B∨Blk vs B∨Blk ps B):=
 ⟨fun⟨_,_,_,_,e,h⟩=>by simp only[AV.agg.injEq,List.cons.injEq,and_true]at e;obtain⟨rfl,rfl,rfl,rfl⟩:=e;exact h,fun h=>⟨_,_,_,_,rfl,h⟩⟩
def NodeF (N:Nat)(H:AH)(v:AV)(nd:Nd.Node):Prop:=NodeG H v nd∧ ∀B,blkN v B→N≤B
structure FrG (A k e:Nat)(H:AH)(v:AV)(n:Nat)(l:List AV):Prop where
 g:Grow k e H v n l
 f: ∀B,Blk v B→A<B
theorem FrG.prs {A k e n:Nat}{H H':AH}{v:AV}{l:List AV}(h:FrG A k e H v n l)(s:Prs H H'):FrG A k e H' v n l:=⟨h.g.mono s (fun _ _ x=>x),h.f⟩
theorem FrG.stp {A A' k e n:Nat}{H H':AH}{v:AV}{l:List AV}(h:FrG A k e H v n l)(s:Stp (fun B=>B=A') H H')(hA:A'≤A):FrG A k e H' v n l:=
 ⟨h.g.mono s (fun B hB e=>by have:=h.f B hB;omega),h.f⟩
theorem aveq_S (l:Str):aveq (S l) (S l)=true:=by simp[S,aveq]
theorem FrG.nil (A k e:Nat)(H:AH):FrG A k e H .nilSlice 0 []:=⟨.inl ⟨by simp, .inl ⟨rfl,rfl⟩⟩,fun B hB=>(Blk.nil.1 hB).elim⟩
theorem FrG.isCell {A k e n:Nat}{H:AH}{v:AV}{l:List AV}(h:FrG A k e H v n l):isCell v=true:=h.g.isCell
theorem FrG.aveq {A k e n:Nat}{H:AH}{v:AV}{l:List AV}(h:FrG A k e H v n l):aveq v v=true:=aveq_row h.g.row
structure FrN (A:Nat)(H:AH)(a b c:AV)(nd:Nd.Node):Prop where
 k:FrG A 1 9 H a nd.keys.length (nd.keys.map S)
 v:FrG A 1 9 H b nd.vals.length (nd.vals.map S)
 p:FrG A 3 72 H c nd.kids.length (nd.kids.flatMap ptrV)
theorem FrN.stp {A A':Nat}{H H':AH}{a b c:AV}{nd:Nd.Node}(h:FrN A H a b c nd)(s:Stp (fun B=>B=A') H H')(hA:A'≤A):FrN A H' a b c nd:=⟨h.k.stp s hA,h.v.stp s hA,h.p.stp s hA⟩
theorem FrN.fresh {A N:Nat}{H:AH}{x a b c:AV}{nd:Nd.Node}(h:FrN A H a b c nd)(hN:N≤A): ∀B,blkN (.agg [x,a,b,c]) B→N≤B:=fun B hB=>by
 rcases blkN_mk.1 hB with k | k | k
 ·have:=h.k.f B k;omega
 ·have:=h.v.f B k;omega
 ·have:=h.p.f B k;omega
theorem cutJ_ok (D:Dyn)(n:Nat){H0 H:AH}{A1 A2 A4 k:Nat}{b:Bool}{ks vs ps k2 v2 p2 k4 v4 p4:AV}{keys:List Str}{na nb:Nd.Node}
  (h:CutI H0 A1 A2 A4 H [.bool b,ks,vs,ps] [.bool b,k2,v2,p2] [.bool b,k4,v4,p4]) (hks:Strs H ks keys) (hR: ∀B,Blk ks B→B<H0.next) (hk:k<keys.length) (ha:FrN A4 H k2 v2 p2 na) (hb:FrN A4 H k4 v4 p4 nb):
  ∃H',f167j0 D n [.ptr A1 0, .ptr A2 0, .ptr A4 0, .int .i64 (k:Nat)] H=some (.ret (.tuple [.agg [.bool b,k2,v2,p2],S (keys.getD k []), .agg [.bool b,k4,v4,p4], .int .i64 ((0:Nat):Int)]),H')∧Prs H0 H'∧FrN A4 H' k2 v2 p2 na∧FrN A4 H' k4 v4 p4 nb:=by
 have o1:=h.o1;have o2:=h.o2;have o4:=h.o4
 obtain⟨q,q1,q2⟩:=hks.at hk
 obtain⟨H1,e1,h1,s1⟩:=h.all2 (l':=[.bool b,k2,v2,p2]) rfl (allCells4 _ _ _ _ ha.k.isCell ha.v.isCell ha.p.isCell)
 have hks1:Strs H1 ks keys:=Rw.stp hks s1 (fun B hB e=>by have:=hR B hB;omega)
 obtain⟨q',q1',q2'⟩:=hks1.at hk
 obtain rfl:q=q':=by have:=q1 .i64 k rfl;rw[q1' .i64 k rfl]at this;cases this;rfl
 obtain⟨H2,e2,h2,s2⟩:=h1.all4 (l':=[.bool b,k4,v4,p4]) rfl (allCells4 _ _ _ _ hb.k.isCell hb.v.isCell hb.p.isCell)
 have e1':stN 4 (.ptr A2 0) (.agg [.bool b,k2,v2,p2]) H=some (undefA,H1):=e1
 have e2':stN 4 (.ptr A4 0) (.agg [.bool b,k4,v4,p4]) H1=some (undefA,H2):=e2
 have hagg:aveq (.agg [.bool b,k4,v4,p4]) (.agg [.bool b,k4,v4,p4])=true:=by simp[Eng.aveq,aveqL,hb.k.aveq,hb.v.aveq,hb.p.aveq]
 have hg:keys.getD k []=keys[k]:=by rw[List.getD_eq_getElem?_getD,List.getElem?_eq_getElem hk];rfl
 have l4:ldN 4 (.ptr A4 0) H1=some (.agg [.bool b,k4,v4,p4]):=by rw[ldN_get h1.a4];rfl
 refine⟨H2, ?_,h2.prs,(ha.stp s1 (by omega)).stp s2 (by omega),(hb.stp s1 (by omega)).stp s2 (by omega)⟩
 rw[hg]
 simp(disch:=omega) only[f167j0,ev,lg,wnt_undef,ew,ldN_get h.a2,ldN_get h.a4,ld1_get h.a1,q1,q2,e1',e2',chk_ok (ld1_get h1.a1 1) (aveq_row hks),chk_ok q2' (aveq_S _),chk_ok l4 hagg,ldN_get h2.a2,ldN_get h2.a4,sub4,Option.map_some]
end Go.Eng.Sh
end
section
namespace Go.Eng.Sh
open Go.Nd (Ptr sumL cutOk cutA cutB)
theorem hiS_ok (D:Dyn)(n:Nat){H:AH}(hk:H.ok){v:AV}{l:List Str}(h:Grow 1 9 H v l.length (l.map S))(hl:l.length≤1000000000){i:Nat}(h0:0<i)(hi:i≤l.length)(A:Nat)(hA:A<H.next):
  ∃r v' H',slSl 1 v none (some (.int .i64 (i:Nat))) (some (.int .i64 (i:Nat))) H=some r∧f109 D n [r] H=some (v',H')∧Prs H H'∧FrG A 1 9 H' v' (l.take i).length ((l.take i).map S):=by
 obtain⟨r,e1,w,hz⟩:=slSl_hi h (by decide) hi .i64 .i64
 rw[map_take]at w
 have hlen:(l.take i).length=i:=by rw[List.length_take];omega
 have w':Strs H r (l.take i):=by rw[Strs,hlen];exact w
 obtain⟨v',H',e2,p,g,f⟩:=cloneS_ok D n hk w' (hz h0).1 (hz h0).2 (by omega)
 exact⟨r,v',H',e1,e2,p,g,fun B hB=>by have:=f B hB;omega⟩
theorem loS_ok (D:Dyn)(n:Nat){H:AH}(hk:H.ok){v:AV}{l:List Str}(h:Grow 1 9 H v l.length (l.map S))(hl:l.length≤1000000000){i:Nat}(hi:i<l.length)(A:Nat)(hA:A<H.next):
  ∃r v' H',aveq r r=true∧slSl 1 v (some (.int .i64 (i:Nat))) none none H=some r∧f109 D n [r] H=some (v',H')∧Prs H H'∧FrG A 1 9 H' v' (l.drop i).length ((l.drop i).map S):=by
 obtain⟨r,e1,w,z1,z2⟩:=slSl_lo h (by decide) hi .i64
 rw[map_drop]at w
 have hlen:(l.drop i).length=l.length - i:=by rw[List.length_drop]
 have w':Strs H r (l.drop i):=by rw[Strs,hlen];exact w
 obtain⟨v',H',e2,p,g,f⟩:=cloneS_ok D n hk w' z1 z2 (by omega)
 exact⟨r,v',H',aveq_row w,e1,e2,p,g,fun B hB=>by have:=f B hB;omega⟩
theorem hiP_ok (D:Dyn)(n:Nat){H:AH}(hk:H.ok){v:AV}{l:List Ptr}(h:Grow 3 72 H v l.length (l.flatMap ptrV))(hl:l.length≤1000000000){i:Nat}(h0:0<i)(hi:i≤l.length)(A:Nat)(hA:A<H.next):
  ∃r v' H',slSl 3 v none (some (.int .i64 (i:Nat))) (some (.int .i64 (i:Nat))) H=some r∧f77 D n [r] H=some (v',H')∧Prs H H'∧FrG A 3 72 H' v' (l.take i).length ((l.take i).flatMap ptrV):=by
 obtain⟨r,e1,w,hz⟩:=slSl_hi h (by decide) hi .i64 .i64
 rw[flat_take]at w
 have hlen:(l.take i).length=i:=by rw[List.length_take];omega
 have w':Ptrs H r (l.take i):=by rw[Ptrs,hlen];exact w
 obtain⟨v',H',e2,p,g,f⟩:=cloneP_ok D n hk w' (hz h0).1 (hz h0).2 (by omega)
 exact⟨r,v',H',e1,e2,p,g,fun B hB=>by have:=f B hB;omega⟩
theorem loP_ok (D:Dyn)(n:Nat){H:AH}(hk:H.ok){v:AV}{l:List Ptr}(h:Grow 3 72 H v l.length (l.flatMap ptrV))(hl:l.length≤1000000000){i:Nat}(hi:i<l.length)(A:Nat)(hA:A<H.next):
  ∃r v' H',aveq r r=true∧slSl 3 v (some (.int .i64 (i:Nat))) none none H=some r∧f77 D n [r] H=some (v',H')∧Prs H H'∧FrG A 3 72 H' v' (l.drop i).length ((l.drop i).flatMap ptrV):=by
 obtain⟨r,e1,w,z1,z2⟩:=slSl_lo h (by decide) hi .i64
 rw[flat_drop]at w
 have hlen:(l.drop i).length=l.length - i:=by rw[List.length_drop]
 have w':Ptrs H r (l.drop i):=by rw[Ptrs,hlen];exact w
 obtain⟨v',H',e2,p,g,f⟩:=cloneP_ok D n hk w' z1 z2 (by omega)
 exact⟨r,v',H',aveq_row w,e1,e2,p,g,fun B hB=>by have:=f B hB;omega⟩
end Go.Eng.Sh
end
section
namespace Go.Eng.Sh
open Go.Nd (Ptr sumL cutOk cutA cutB)
theorem cutHead (D:Dyn)(n:Nat)(hn:200000000≤n){H:AH}(hk:H.ok){b:Bool}{ks vs ps:AV}{nd:Nd.Node}(hb:nd.leaf=b)(h:NodeV H (.agg [.bool b,ks,vs,ps]) nd)(hs:small nd):
  ∃H1 H2 H3 H4 A1 A2 A4,(∀K,bA (some (AObj.cells [.bool b,ks,vs,ps] 133 1 false,fun A=>AV.ptr A 0)) H K=K (.ptr A1 0) H1)∧(∀K,bA (some (AObj.cells [.bool false, .nilSlice, .nilSlice, .nilSlice] 133 1 false,fun A=>AV.ptr A 0)) H1 K=K (.ptr A2 0) H2)∧
   (∀K,bA (some (AObj.cells [.bool false, .nilSlice, .nilSlice, .nilSlice] 133 1 false,fun A=>AV.ptr A 0)) H2 K=K (.ptr A4 0) H3)∧f107 D n [.agg [.bool b,ks,vs,ps]] H3=some (.bool (Nd.shaped ltS nd),H4)∧
   CutI H A1 A2 A4 H3 [.bool b,ks,vs,ps] [.bool false, .nilSlice, .nilSlice, .nilSlice] [.bool false, .nilSlice, .nilSlice, .nilSlice]∧CutI H A1 A2 A4 H4 [.bool b,ks,vs,ps] [.bool false, .nilSlice, .nilSlice, .nilSlice] [.bool false, .nilSlice, .nilSlice, .nilSlice]:=by
 have p1:Prs H (H.push (.cells [.bool b,ks,vs,ps] 133 1 false)):=(Stp.refl hk).push _
 have g1:(H.push (.cells [.bool b,ks,vs,ps] 133 1 false)).h.get H.next=some (.cells [.bool b,ks,vs,ps] 133 1 false):=AH.push_get_eq _ _
 have n1:(H.push (.cells [.bool b,ks,vs,ps] 133 1 false)).next=H.next+1:=rfl
 generalize hH1:H.push (.cells [.bool b,ks,vs,ps] 133 1 false)=H1 at p1 g1 n1
 have p2:Prs H1 (H1.push (.cells [.bool false, .nilSlice, .nilSlice, .nilSlice] 133 1 false)):=(Stp.refl p1.ok).push _
 have g2:(H1.push (.cells [.bool false, .nilSlice, .nilSlice, .nilSlice] 133 1 false)).h.get H1.next=some (.cells [.bool false, .nilSlice, .nilSlice, .nilSlice] 133 1 false):=AH.push_get_eq _ _
 have n2:(H1.push (.cells [.bool false, .nilSlice, .nilSlice, .nilSlice] 133 1 false)).next=H1.next+1:=rfl
 have g12:=p2.get p1.ok g1
 generalize hH2:H1.push (.cells [.bool false, .nilSlice, .nilSlice, .nilSlice] 133 1 false)=H2 at p2 g2 n2 g12
 have p3:Prs H2 (H2.push (.cells [.bool false, .nilSlice, .nilSlice, .nilSlice] 133 1 false)):=(Stp.refl p2.ok).push _
 have g3:(H2.push (.cells [.bool false, .nilSlice, .nilSlice, .nilSlice] 133 1 false)).h.get H2.next=some (.cells [.bool false, .nilSlice, .nilSlice, .nilSlice] 133 1 false):=AH.push_get_eq _ _
 have g13:=p3.get p2.ok g12
 have g23:=p3.get p2.ok g2
 generalize hH3:H2.push (.cells [.bool false, .nilSlice, .nilSlice, .nilSlice] 133 1 false)=H3 at p3 g3 g13 g23
 have P3:Prs H H3:=(p1.trans p2).trans p3
 obtain⟨H4,e4,p4⟩:=shaped_ok D n p3.ok (h.prs P3) hs hn
 have c3:CutI H H.next H1.next H2.next H3 [.bool b,ks,vs,ps] [.bool false, .nilSlice, .nilSlice, .nilSlice] [.bool false, .nilSlice, .nilSlice, .nilSlice]:=⟨P3,g13,g23,g3,by omega,by omega,by omega⟩
 refine⟨H1,H2,H3,H4,H.next,H1.next,H2.next,fun K=> ?_,fun K=> ?_,fun K=> ?_,e4,c3,c3.step p4⟩
 ·simp only[ev,lg,wnt_undef,ew,bA_ok hk,hH1]
 ·simp only[ev,lg,wnt_undef,ew,bA_ok p1.ok,hH2]
 ·simp only[ev,lg,wnt_undef,ew,bA_ok p2.ok,hH3]
end Go.Eng.Sh
end
