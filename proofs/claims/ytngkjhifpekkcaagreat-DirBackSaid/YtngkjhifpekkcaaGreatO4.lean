/- A checked evaluator for the program, and what it tells, part 4: no condition. -/
import Derived.Test.YtngkjhifpekkcaaGreatO3
import Derived.Test.YtngkjhifpekkcaaGreatProg
import Derived.KernelRfl
set_option linter.all false
set_option linter.unusedVariables false
set_option linter.unusedSimpArgs false
set_option maxHeartbeats 8000000
set_option maxRecDepth 20000
section
noncomputable section
namespace Go.Eng.Sh
open Go.Proofs
set_option maxRecDepth 100000
theorem sc {i:Nat}{m:List AV→AH→Option (AV×AH)}{S:List (Nat×(List AV→AH→Option (AV×AH)))}(h:FI i m)(k:SOk S):SOk ((i,m)::S):=SOk.cons h.fs k
def s94 (D:Dyn)(n:Nat):Tb:=⟨X,[]⟩
def f94 (D:Dyn)(n:Nat)(vs:List AV)(H:AH):Option (AV×AH):=
 outR (hd vs fun a vs=>hd vs fun b vs=>nl vs <|
 bA (mkM [6]) H fun c H=>
 bV (jT [(0,1),(1,1),(2,1),(3,1),(4,1),(5,1),(6,1)] [(.int .i64 (.ofNat 0)), .nilMap, .nilSlice, .nilMap,(.int .i64 (.ofNat 0)), .nilSlice,(.bool false)] [(0,a),(1,b),(3,c)]) fun d=>
 bA (bxV 163 d) H fun e H=>
 bV (some e) fun f=>some (.ret f,H))
def h94:Hint:=(.s .o (.s .o .o))
theorem zIb {D:Dyn}(hD:DG D)(n:Nat):FI 94 (f94 D n):=qQ (n:=n) (h:=h94) X_ok hD (SOk.nil) Tryz.func94 (by kernel_rfl) (by kernel_rfl)
def s49 (D:Dyn)(n:Nat):Tb:=⟨X,[(94,f94 D n)]⟩
def f49 (D:Dyn)(n:Nat)(vs:List AV)(H:AH):Option (AV×AH):=
 outR (hd vs fun a vs=>nl vs <|
 bV (qN .lss a (.int .i64 (.ofNat 64))) fun b=>
 jn (wnt b false (bV (qN .gtr a (.int .i64 (.ofNat 8192))) fun c=>
 some (.norm [c],H)) (some (.norm [qL],H))) fun vs H=>hd vs fun d vs=>
 bV (pk3 (some b) (some (.bool true)) (some d)) fun e=>
 cnd e (bV (some .nilPtr) fun f=>bV (some (.int .i64 (.ofNat 1))) fun g=>some (.ret (.tuple [f,g]),H))
 (bA (mkM [6]) H fun h H=>
 bR (f94 D n [a,h] H) fun i H=>
 bV (some i) fun k=>bV (some (.int .i64 (.ofNat 0))) fun m=>some (.ret (.tuple [k,m]),H)))
def h49:Hint:=(.s .o (.s (.s .o (.cl (.s .o .o) .o)) (.s .o .o)))
theorem zIj {D:Dyn}(hD:DG D)(n:Nat):FI 49 (f49 D n):=qQ (n:=n) (h:=h49) X_ok hD (sc (zIb hD n) (SOk.nil)) Tryz.func49 (by kernel_rfl) (by kernel_rfl)
def s118 (D:Dyn)(n:Nat):Tb:=⟨X,[]⟩
def f118 (D:Dyn)(n:Nat)(vs:List AV)(H:AH):Option (AV×AH):=
 outR (hd vs fun a vs=>nl vs <|
 bA (bxV 72 a) H fun b H=>
 bV (fAd 0 b) fun c=>
 bV (ld1 c H) fun d=>
 bV (qN .eql d (.int .i64 (.ofNat 0))) fun e=>
 cnd e (bV (ldN 3 b H) fun f=>
 bV (jT [(0,1),(1,1),(2,1)] [(.int .i64 (.ofNat 0)),(.int .i64 (.ofNat 0)),(.int .u64 (.ofNat 0))] []) fun g=>
 bV (xN .eql (eqA [6,6,10] f g)) fun h=>
 bV (some h) fun i=>some (.ret i,H))
 (bV (fAd 0 b) fun k=>
 bV (ld1 k H) fun m=>
 bV (qN .gtr m (.int .i64 (.ofNat 0))) fun o=>
 jn (wnt o true (bV (fAd 0 b) fun p=>
 bV (ld1 p H) fun r=>
 bV (qN .lss r (.int .i64 (.ofNat 8192))) fun t=>
 some (.norm [t],H)) (some (.norm [qL],H))) fun vs H=>hd vs fun u vs=>
 bV (pk3 (some o) (some u) (some (.bool false))) fun v=>
 jn (wnt v true (bV (fAd 1 b) fun w=>
 bV (ld1 w H) fun x=>
 bV (qN .geq x (.int .i64 (.ofNat 0))) fun y=>
 some (.norm [y],H)) (some (.norm [qL],H))) fun vs H=>hd vs fun z vs=>
 bV (pk3 (some v) (some z) (some (.bool false))) fun B=>
 jn (wnt B true (bV (fAd 1 b) fun C=>
 bV (ld1 C H) fun E=>
 bV (qN .leq E (.int .i64 (.ofNat 2147483647))) fun F=>
 some (.norm [F],H)) (some (.norm [qL],H))) fun vs H=>hd vs fun G vs=>
 bV (pk3 (some B) (some G) (some (.bool false))) fun I=>
 bV (some I) fun J=>some (.ret J,H)))
def h118:Hint:=(.s .o (.s (.s .o (.cl (.s .o .o) .o)) (.s .o .o)))
theorem zF6 {D:Dyn}(hD:DG D)(n:Nat):FI 118 (f118 D n):=qQ (n:=n) (h:=h118) X_ok hD (SOk.nil) Tryz.func118 (by kernel_rfl) (by kernel_rfl)
def s119 (D:Dyn)(n:Nat):Tb:=⟨X,[]⟩
def U3 (D:Dyn)(n:Nat)(vs:List AV)(H:AH):Rs:=
 hd vs fun a vs=>hd vs fun b vs=>hd vs fun c vs=>hd vs fun d vs=>
 bV (qN .lss d c) fun e=>
 cnd e (bV (lnSl a) fun f=>
 bV (qN .sub f (.int .i64 (.ofNat 1))) fun g=>
 bV (qN .sub g d) fun h=>
 bV (qN .mul (.int .i64 (.ofNat 8)) d) fun i=>
 bV (qN .shr b i) fun k=>
 bV (cvI .u8 k) fun m=>
 bV (jW 1 a h) fun o=>
 bR (stN 1 o m H) fun p H=>
 bV (qN .add d (.int .i64 (.ofNat 1))) fun r=>
 some (.norm [a,b,c,r],H))
 (some (.exit 0 [],H))
def zIz (D:Dyn)(n:Nat)(vs:List AV)(H:AH):Rs:=
 some (.ret (.tuple []),H)
def f119 (D:Dyn)(n:Nat)(vs:List AV)(H:AH):Option (AV×AH):=
 outR (hd vs fun a vs=>hd vs fun b vs=>nl vs <|
 bV (lnSl a) fun c=>
 jb 0 (qU n (U3 D n) [a,b,c,(.int .i64 (.ofNat 0))] H) (zIz D n))
def h119:Hint:=(.s .o (.b [] (.l [0,1,6,7] (.s .o (.s (.cr .o .o) (.s (.b0 (.s .o .o)) .o))))))
theorem zF5 {D:Dyn}(hD:DG D)(n:Nat):FI 119 (f119 D n):=qQ (n:=n) (h:=h119) X_ok hD (SOk.nil) Tryz.func119 (by kernel_rfl) (by kernel_rfl)
def s75 (D:Dyn)(n:Nat):Tb:=⟨X,[(118,f118 D n),(119,f119 D n)]⟩
def f75 (D:Dyn)(n:Nat)(vs:List AV)(H:AH):Option (AV×AH):=
 outR (hd vs fun a vs=>nl vs <|
 bA (bxV 72 a) H fun b H=>
 bV (ldN 3 b H) fun c=>
 bR (f118 D n [c] H) fun d H=>
 bV (aun .not d) fun e=>
 cnd e (bV (some (.str 0 0)) fun f=>bV (some (.int .i64 (.ofNat 4))) fun g=>some (.ret (.tuple [f,g]),H))
 (bA (bxV 225 (.agg (rep 16 [(.int .u8 (.ofNat 0))]))) H fun h H=>
 bV (gG 16 1 h none (some (.int .i64 (.ofNat 4))) none) fun i=>
 bV (fAd 0 b) fun k=>
 bV (ld1 k H) fun m=>
 bV (cvI .u64 m) fun o=>
 bR (f119 D n [i,o] H) fun p H=>
 bV (gG 16 1 h (some (.int .i64 (.ofNat 4))) (some (.int .i64 (.ofNat 8))) none) fun r=>
 bV (fAd 1 b) fun t=>
 bV (ld1 t H) fun u=>
 bV (cvI .u64 u) fun v=>
 bR (f119 D n [r,v] H) fun w H=>
 bV (gG 16 1 h (some (.int .i64 (.ofNat 8))) none none) fun x=>
 bV (fAd 2 b) fun y=>
 bV (ld1 y H) fun z=>
 bR (f119 D n [x,z] H) fun B H=>
 bV (gG 16 1 h none none none) fun C=>
 bV (zGi C H) fun E=>
 bV (some E) fun F=>bV (some (.int .i64 (.ofNat 0))) fun G=>some (.ret (.tuple [F,G]),H)))
def h75:Hint:=(.s .o (.s (.s .o (.cl (.s .o .o) .o)) (.s .o (.s .o (.s .o (.s .o (.s .o .o)))))))
theorem zIf {D:Dyn}(hD:DG D)(n:Nat):FI 75 (f75 D n):=qQ (n:=n) (h:=h75) X_ok hD (sc (zF6 hD n) (sc (zF5 hD n) (SOk.nil))) Tryz.func75 (by kernel_rfl) (by kernel_rfl)
def s31 (D:Dyn)(n:Nat):Tb:=⟨X,[(75,f75 D n)]⟩
def f31 (D:Dyn)(n:Nat)(vs:List AV)(H:AH):Option (AV×AH):=
 outR (hd vs fun a vs=>hd vs fun b vs=>hd vs fun c vs=>nl vs <|
 bA (bxV 72 c) H fun d H=>
 bV (xN .eql (eqP a .nilPtr)) fun e=>
 cnd e (bV (some .nilPtr) fun f=>bV (some (.int .i64 (.ofNat 2))) fun g=>some (.ret (.tuple [f,g]),H))
 (bV (ldN 3 d H) fun h=>
 bR (f75 D n [h] H) fun i H=>
 bV (qJ i 0) fun k=>
 bV (qJ i 1) fun m=>
 bV (qN .neq m (.int .i64 (.ofNat 0))) fun o=>
 jn (wnt o false (bV (fAd 0 d) fun p=>
 bV (ld1 p H) fun r=>
 bV (qN .eql r (.int .i64 (.ofNat 1))) fun t=>
 some (.norm [t],H)) (some (.norm [qL],H))) fun vs H=>hd vs fun u vs=>
 bV (pk3 (some o) (some (.bool true)) (some u)) fun v=>
 cnd v (bV (some .nilPtr) fun w=>bV (some (.int .i64 (.ofNat 1))) fun x=>some (.ret (.tuple [w,x]),H))
 (bV (ldN 3 d H) fun y=>
 bA (mkM [10]) H fun z H=>
 bV (jT [(0,1),(1,1),(2,3),(5,1),(6,1),(7,1)] [.nilPtr, .nilPtr,(.int .i64 (.ofNat 0)),(.int .i64 (.ofNat 0)),(.int .u64 (.ofNat 0)), .nilMap,(.int .u64 (.ofNat 0)), .nilSlice] [(0,a),(1,b),(2,y),(3,z)]) fun B=>
 bA (bxV 141 B) H fun C H=>
 bV (some C) fun E=>bV (some (.int .i64 (.ofNat 0))) fun F=>some (.ret (.tuple [E,F]),H))))
def h31:Hint:=(.s .o (.s (.s .o (.cl (.s .o .o) .o)) (.s (.s .o (.s .o (.cl (.s .o .o) .o))) (.s .o .o))))
theorem zIm {D:Dyn}(hD:DG D)(n:Nat):FI 31 (f31 D n):=qQ (n:=n) (h:=h31) X_ok hD (sc (zIf hD n) (SOk.nil)) Tryz.func31 (by kernel_rfl) (by kernel_rfl)
def s42 (D:Dyn)(n:Nat):Tb:=⟨X,[(49,f49 D n),(31,f31 D n)]⟩
def f42 (D:Dyn)(n:Nat)(vs:List AV)(H:AH):Option (AV×AH):=
 outR (nl vs <|
 bR (f49 D n [(.int .i64 (.ofNat 64))] H) fun a H=>
 bV (qJ a 0) fun b=>
 bV (qJ a 1) fun c=>
 bV (qN .neq c (.int .i64 (.ofNat 0))) fun d=>
 cnd d (bV (some .nilPtr) fun e=>some (.ret e,H))
 (bV (jT [(0,1),(1,1),(2,1)] [(.int .i64 (.ofNat 0)),(.int .i64 (.ofNat 0)),(.int .u64 (.ofNat 0))] []) fun f=>
 bR (f31 D n [b, .nilPtr,f] H) fun g H=>
 bV (qJ g 0) fun h=>
 bV (qJ g 1) fun i=>
 bV (qN .neq i (.int .i64 (.ofNat 0))) fun k=>
 cnd k (bV (some .nilPtr) fun m=>some (.ret m,H))
 (bV (some h) fun o=>some (.ret o,H))))
def h42:Hint:=(.s .o (.s .o (.s (.s .o (.cl (.s .o .o) .o)) (.s .o (.s (.s .o (.cl (.s .o .o) .o)) (.s .o .o))))))
theorem zBt {D:Dyn}(hD:DG D)(n:Nat):FI 42 (f42 D n):=qQ (n:=n) (h:=h42) X_ok hD (sc (zIj hD n) (sc (zIm hD n) (SOk.nil))) Tryz.func42 (by kernel_rfl) (by kernel_rfl)
def s84 (D:Dyn)(n:Nat):Tb:=⟨X,[]⟩
def f84 (D:Dyn)(n:Nat)(vs:List AV)(H:AH):Option (AV×AH):=
 outR (hd vs fun a vs=>nl vs <|
 bV (qN .geq a (.int .i64 (.ofNat 1))) fun b=>
 jn (wnt b true (bV (qN .leq a (.int .i64 (.ofNat 2147483647))) fun c=>
 some (.norm [c],H)) (some (.norm [qL],H))) fun vs H=>hd vs fun d vs=>
 bV (pk3 (some b) (some d) (some (.bool false))) fun e=>
 bV (some e) fun f=>some (.ret f,H))
def h84:Hint:=(.s .o (.s .o .o))
theorem VU {D:Dyn}(hD:DG D)(n:Nat):FI 84 (f84 D n):=qQ (n:=n) (h:=h84) X_ok hD (SOk.nil) Tryz.func84 (by kernel_rfl) (by kernel_rfl)
def s125 (D:Dyn)(n:Nat):Tb:=⟨X,[]⟩
def f125 (D:Dyn)(n:Nat)(vs:List AV)(H:AH):Option (AV×AH):=
 outR (hd vs fun a vs=>hd vs fun b vs=>nl vs <|
 bR (D.fn 154 [a,b] H) fun c H=>
 bV (qN .geq c (.int .i64 (.ofNat 0))) fun d=>
 bV (some d) fun e=>some (.ret e,H))
def h125:Hint:=(.s .o (.s .o .o))
theorem zJT {D:Dyn}(hD:DG D)(n:Nat):FI 125 (f125 D n):=qQ (n:=n) (h:=h125) X_ok hD (SOk.nil) Tryz.func125 (by kernel_rfl) (by kernel_rfl)
def zKv (D:Dyn)(n:Nat)(vs:List AV)(H:AH):Option (AV×AH):=zHu (f125 D n) vs H
theorem zEa {D:Dyn}(hD:DG D)(n:Nat):FI 125 (zKv D n):=zHt (by kernel_rfl) (zJT hD n)
def s85 (D:Dyn)(n:Nat):Tb:=⟨X,[(125,zKv D n)]⟩
def zAb (D:Dyn)(n:Nat)(vs:List AV)(H:AH):Rs:=
 hd vs fun a vs=>hd vs fun b vs=>
 some (.norm [a,b],H)
def zAa (D:Dyn)(n:Nat)(vs:List AV)(H:AH):Rs:=
 hd vs fun a vs=>hd vs fun b vs=>
 some (.norm [a,b],H)
def zA9 (D:Dyn)(n:Nat)(vs:List AV)(H:AH):Rs:=
 hd vs fun a vs=>hd vs fun b vs=>
 cnd b (bV (some (.bool false)) fun c=>some (.ret c,H))
 (bV (kJ a) fun d=>
 bV (qN .leq d (.int .i64 (.ofNat 32))) fun e=>
 jn (wnt e true (bR (zKv D n [a,(.str 2 12032)] H) fun f H=>
 bV (aun .not f) fun g=>
 some (.norm [g],H)) (some (.norm [qL],H))) fun vs H=>hd vs fun h vs=>
 bV (pk3 (some e) (some h) (some (.bool false))) fun i=>
 bV (some i) fun k=>some (.ret k,H))
def f85 (D:Dyn)(n:Nat)(vs:List AV)(H:AH):Option (AV×AH):=
 outR (hd vs fun a vs=>nl vs <|
 bV (kD .eql a (.str 0 0)) fun b=>
 jn (cnd b (some (.norm [a,b],H))
 (bV (kD .eql a (.str 1 46)) fun c=>
 jn (cnd c (some (.norm [a,c],H))
 (bV (kD .eql a (.str 2 11822)) fun d=>
 jn (cnd d (some (.norm [a,d],H))
 (bV (kD .eql a (.str 9 2147850105812604056366)) fun e=>
 some (.norm [a,e],H))) (zAb D n))) (zAa D n))) (zA9 D n))
def h85:Hint:=(.s .o (.s (.s .o (.b0 (.s (.s .o (.c [0,4] .o (.s .o (.c [0,4] .o (.s .o (.c [0,4] .o .o)))))) (.cl (.s .o .o) .o)))) (.s .o .o)))
theorem zBn {D:Dyn}(hD:DG D)(n:Nat):FI 85 (f85 D n):=qQ (n:=n) (h:=h85) X_ok hD (sc (zEa hD n) (SOk.nil)) Tryz.func85 (by kernel_rfl) (by kernel_rfl)
def s153 (D:Dyn)(n:Nat):Tb:=⟨X,[]⟩
def zBw (D:Dyn)(n:Nat)(vs:List AV)(H:AH):Rs:=
 hd vs fun a vs=>hd vs fun b vs=>hd vs fun c vs=>hd vs fun d vs=>
 bV (qN .lss d c) fun e=>
 cnd e (bV (YF b d) fun f=>
 bV (cvI .u64 f) fun g=>
 bV (qN .xor a g) fun h=>
 bV (qN .mul h (.int .u64 (.ofNat 1099511628211))) fun i=>
 bV (qN .add d (.int .i64 (.ofNat 1))) fun k=>
 some (.norm [i,b,c,k],H))
 (some (.exit 0 [a],H))
def zIp (D:Dyn)(n:Nat)(vs:List AV)(H:AH):Rs:=
 hd vs fun a vs=>
 bV (some a) fun b=>some (.ret b,H)
def f153 (D:Dyn)(n:Nat)(vs:List AV)(H:AH):Option (AV×AH):=
 outR (hd vs fun a vs=>hd vs fun b vs=>nl vs <|
 bV (kJ b) fun c=>
 jb 0 (qU n (zBw D n) [a,b,c,(.int .i64 (.ofNat 0))] H) (zIp D n))
def h153:Hint:=(.s .o (.s (.s .o (.b [0] (.l [0,1,7,8] (.s .o (.s (.cr .o .o) (.s (.b0 (.s .o .o)) .o)))))) (.s .o .o)))
theorem zEW {D:Dyn}(hD:DG D)(n:Nat):FI 153 (f153 D n):=qQ (n:=n) (h:=h153) X_ok hD (SOk.nil) Tryz.func153 (by kernel_rfl) (by kernel_rfl)
def s124 (D:Dyn)(n:Nat):Tb:=⟨X,[(153,f153 D n)]⟩
def f124 (D:Dyn)(n:Nat)(vs:List AV)(H:AH):Option (AV×AH):=
 outR (hd vs fun a vs=>nl vs <|
 bR (f153 D n [(.int .u64 (.ofNat 14695981039346656037)),a] H) fun b H=>
 bV (some b) fun c=>some (.ret c,H))
def h124:Hint:=(.s .o (.s .o .o))
theorem zF3 {D:Dyn}(hD:DG D)(n:Nat):FI 124 (f124 D n):=qQ (n:=n) (h:=h124) X_ok hD (sc (zEW hD n) (SOk.nil)) Tryz.func124 (by kernel_rfl) (by kernel_rfl)
def s83 (D:Dyn)(n:Nat):Tb:=⟨X,[(124,f124 D n)]⟩
def f83 (D:Dyn)(n:Nat)(vs:List AV)(H:AH):Option (AV×AH):=
 outR (hd vs fun a vs=>nl vs <|
 bR (f124 D n [a] H) fun b H=>
 bV (qN .and b (.int .u64 (.ofNat 1023))) fun c=>
 bV (cvI .i64 c) fun d=>
 bV (some d) fun e=>some (.ret e,H))
def h83:Hint:=(.s .o (.s .o .o))
theorem VV {D:Dyn}(hD:DG D)(n:Nat):FI 83 (f83 D n):=qQ (n:=n) (h:=h83) X_ok hD (sc (zF3 hD n) (SOk.nil)) Tryz.func83 (by kernel_rfl) (by kernel_rfl)
def s89 (D:Dyn)(n:Nat):Tb:=⟨X,[]⟩
def zEE (D:Dyn)(n:Nat)(vs:List AV)(H:AH):Rs:=
 hd vs fun a vs=>hd vs fun b vs=>hd vs fun c vs=>
 bV (qN .lss c (.int .i64 (.ofNat 4))) fun d=>
 cnd d (bV (qN .sub (.int .i64 (.ofNat 3)) c) fun e=>
 bV (qN .mul (.int .i64 (.ofNat 8)) e) fun f=>
 bV (qN .shr a f) fun g=>
 bV (cvI .u8 g) fun h=>
 bV (QD 4 1 b c) fun i=>
 bR (stN 1 i h H) fun k H=>
 bV (qN .add c (.int .i64 (.ofNat 1))) fun m=>
 some (.norm [a,b,m],H))
 (some (.exit 0 [b],H))
def zLJ (D:Dyn)(n:Nat)(vs:List AV)(H:AH):Rs:=
 hd vs fun a vs=>
 bV (gG 4 1 a none none none) fun b=>
 bV (zGi b H) fun c=>
 bV (some c) fun d=>some (.ret d,H)
def f89 (D:Dyn)(n:Nat)(vs:List AV)(H:AH):Option (AV×AH):=
 outR (hd vs fun a vs=>nl vs <|
 bA (bxV 232 (.agg [(.int .u8 (.ofNat 0)),(.int .u8 (.ofNat 0)),(.int .u8 (.ofNat 0)),(.int .u8 (.ofNat 0))])) H fun b H=>
 jb 0 (qU n (zEE D n) [a,b,(.int .i64 (.ofNat 0))] H) (zLJ D n))
def h89:Hint:=(.s .o (.s .o (.s (.s .o (.b [3] (.l [0,3,5] (.s .o (.s (.cr .o .o) (.s (.b0 (.s .o .o)) .o)))))) (.s .o .o))))
theorem zBl {D:Dyn}(hD:DG D)(n:Nat):FI 89 (f89 D n):=qQ (n:=n) (h:=h89) X_ok hD (SOk.nil) Tryz.func89 (by kernel_rfl) (by kernel_rfl)
def s88 (D:Dyn)(n:Nat):Tb:=⟨X,[(89,f89 D n)]⟩
def f88 (D:Dyn)(n:Nat)(vs:List AV)(H:AH):Option (AV×AH):=
 outR (hd vs fun a vs=>hd vs fun b vs=>nl vs <|
 bR (f89 D n [a] H) fun c H=>
 bV (kD .add (.str 1 101) c) fun d=>
 bR (f89 D n [b] H) fun e H=>
 bV (kD .add d e) fun f=>
 bV (some f) fun g=>some (.ret g,H))
def h88:Hint:=(.s .o (.s .o .o))
theorem zBm {D:Dyn}(hD:DG D)(n:Nat):FI 88 (f88 D n):=qQ (n:=n) (h:=h88) X_ok hD (sc (zBl hD n) (SOk.nil)) Tryz.func88 (by kernel_rfl) (by kernel_rfl)
def s62 (D:Dyn)(n:Nat):Tb:=⟨X,[]⟩
def f62 (D:Dyn)(n:Nat)(vs:List AV)(H:AH):Option (AV×AH):=
 outR (hd vs fun a vs=>nl vs <|
 bV (xN .eql (eqP a .nilPtr)) fun b=>
 jn (wnt b false (bV (xO a) fun c=>
 bV (fAd 0 c) fun d=>
 bV (ld1 d H) fun e=>
 bV (xN .eql (eqP e .nilPtr)) fun f=>
 some (.norm [f],H)) (some (.norm [qL],H))) fun vs H=>hd vs fun g vs=>
 bV (pk3 (some b) (some (.bool true)) (some g)) fun h=>
 jn (wnt h false (bV (xO a) fun i=>
 bV (fAd 5 i) fun k=>
 bV (ld1 k H) fun m=>
 bV (xN .eql (eqM m .nilMap)) fun o=>
 some (.norm [o],H)) (some (.norm [qL],H))) fun vs H=>hd vs fun p vs=>
 bV (pk3 (some h) (some (.bool true)) (some p)) fun r=>
 bV (some r) fun t=>some (.ret t,H))
def h62:Hint:=(.s .o (.s .o .o))
theorem JF {D:Dyn}(hD:DG D)(n:Nat):FI 62 (f62 D n):=qQ (n:=n) (h:=h62) X_ok hD (SOk.nil) Tryz.func62 (by kernel_rfl) (by kernel_rfl)
def s36 (D:Dyn)(n:Nat):Tb:=⟨X,[(62,f62 D n)]⟩
def f36 (D:Dyn)(n:Nat)(vs:List AV)(H:AH):Option (AV×AH):=
 outR (hd vs fun a vs=>nl vs <|
 bR (f62 D n [a] H) fun b H=>
 cnd b (bV (some (.int .i64 (.ofNat 0))) fun c=>some (.ret c,H))
 (bV (xO a) fun d=>
 bV (fAd 5 d) fun e=>
 bV (ld1 e H) fun f=>
 bV (VG f H) fun g=>
 bV (some g) fun h=>some (.ret h,H)))
def h36:Hint:=(.s .o (.s (.s .o (.cl (.s .o .o) .o)) (.s .o .o)))
theorem zIk {D:Dyn}(hD:DG D)(n:Nat):FI 36 (f36 D n):=qQ (n:=n) (h:=h36) X_ok hD (sc (JF hD n) (SOk.nil)) Tryz.func36 (by kernel_rfl) (by kernel_rfl)
def s126 (D:Dyn)(n:Nat):Tb:=⟨X,[(36,f36 D n)]⟩
def f126 (D:Dyn)(n:Nat)(vs:List AV)(H:AH):Option (AV×AH):=
 outR (hd vs fun a vs=>nl vs <|
 bR (f36 D n [a] H) fun b H=>
 bV (qN .add (.int .i64 (.ofNat 8192)) b) fun c=>
 bV (jT [(0,1),(1,1),(2,1),(3,1)] [.nilPtr, .nilMap,(.int .i64 (.ofNat 0)),(.int .i64 (.ofNat 0))] [(0,a),(2,c)]) fun d=>
 bA (bxV 240 d) H fun e H=>
 bV (some e) fun f=>some (.ret f,H))
def h126:Hint:=(.s .o (.s .o .o))
theorem zAi {D:Dyn}(hD:DG D)(n:Nat):FI 126 (f126 D n):=qQ (n:=n) (h:=h126) X_ok hD (sc (zIk hD n) (SOk.nil)) Tryz.func126 (by kernel_rfl) (by kernel_rfl)
def s32 (D:Dyn)(n:Nat):Tb:=⟨X,[(62,f62 D n)]⟩
def f32 (D:Dyn)(n:Nat)(vs:List AV)(H:AH):Option (AV×AH):=
 outR (hd vs fun a vs=>nl vs <|
 bA (bxV 72 (.agg [(.int .i64 (.ofNat 0)),(.int .i64 (.ofNat 0)),(.int .u64 (.ofNat 0))])) H fun b H=>
 bR (f62 D n [a] H) fun c H=>
 cnd c (bV (jT [(0,1),(1,1),(2,1)] [(.int .i64 (.ofNat 0)),(.int .i64 (.ofNat 0)),(.int .u64 (.ofNat 0))] []) fun d=>
 bR (stN 3 b d H) fun e H=>
 bV (ldN 3 b H) fun f=>some (.ret f,H))
 (bV (xO a) fun g=>
 bV (fAd 2 g) fun h=>
 bV (ldN 3 h H) fun i=>
 bR (stN 3 b i H) fun k H=>
 bV (ldN 3 b H) fun m=>some (.ret m,H)))
def h32:Hint:=(.s .o (.s (.s .o (.cl (.s .o .o) .o)) (.s .o .o)))
theorem zIl {D:Dyn}(hD:DG D)(n:Nat):FI 32 (f32 D n):=qQ (n:=n) (h:=h32) X_ok hD (sc (JF hD n) (SOk.nil)) Tryz.func32 (by kernel_rfl) (by kernel_rfl)
def s69 (D:Dyn)(n:Nat):Tb:=⟨X,[]⟩
def f69 (D:Dyn)(n:Nat)(vs:List AV)(H:AH):Option (AV×AH):=
 outR (hd vs fun a vs=>hd vs fun b vs=>nl vs <|
 bA (bxV 72 b) H fun c H=>
 bA (bxV 133 (.agg [(.bool false), .nilSlice, .nilSlice, .nilSlice])) H fun d H=>
 bV (fAd 0 c) fun e=>
 bV (ld1 e H) fun f=>
 bV (qN .eql f (.int .i64 (.ofNat 1))) fun g=>
 cnd g (bV (xO a) fun h=>
 bV (fAd 5 h) fun i=>
 bV (ld1 i H) fun k=>
 bV (fAd 2 c) fun m=>
 bV (ld1 m H) fun o=>
 bV (lkM [10] (.agg [(.bool false), .nilSlice, .nilSlice, .nilSlice]) true k o H) fun p=>
 bV (qJ p 0) fun r=>
 bV (qJ p 1) fun t=>
 bA (bxV 133 (.agg [(.bool false), .nilSlice, .nilSlice, .nilSlice])) H fun u H=>
 bR (stN 4 u r H) fun v H=>
 bV (aun .not t) fun w=>
 jn (wnt w false (bV (fAd 1 c) fun x=>
 bV (ld1 x H) fun y=>
 bV (qN .neq y (.int .i64 (.ofNat 0))) fun z=>
 some (.norm [z],H)) (some (.norm [qL],H))) fun vs H=>hd vs fun B vs=>
 bV (pk3 (some w) (some (.bool true)) (some B)) fun C=>
 cnd C (bV (jT [(0,1),(1,1),(2,1),(3,1)] [(.bool false), .nilSlice, .nilSlice, .nilSlice] []) fun E=>
 bR (stN 4 d E H) fun F H=>
 bV (ldN 4 d H) fun G=>bV (some (.int .i64 (.ofNat 1))) fun I=>some (.ret (.tuple [G,I]),H))
 (bV (ldN 4 u H) fun J=>
 bR (stN 4 d J H) fun K H=>
 bV (ldN 4 d H) fun M=>bV (some (.int .i64 (.ofNat 0))) fun N=>some (.ret (.tuple [M,N]),H)))
 (bV (ldN 3 c H) fun O=>
 bR (D.fn 112 [a,O] H) fun P H=>
 bV (qJ P 0) fun Q=>
 bV (qJ P 1) fun R=>
 bV (qJ P 2) fun T=>
 bV (qN .neq T (.int .i64 (.ofNat 0))) fun U=>
 cnd U (bV (jT [(0,1),(1,1),(2,1),(3,1)] [(.bool false), .nilSlice, .nilSlice, .nilSlice] []) fun V=>
 bR (stN 4 d V H) fun W H=>
 bV (ldN 4 d H) fun Y=>bV (some T) fun Z=>some (.ret (.tuple [Y,Z]),H))
 (bV (qN .neq Q (.int .u8 (.ofNat 1))) fun a0=>
 jn (wnt a0 true (bV (qN .neq Q (.int .u8 (.ofNat 2))) fun a1=>
 some (.norm [a1],H)) (some (.norm [qL],H))) fun vs H=>hd vs fun a2 vs=>
 bV (pk3 (some a0) (some a2) (some (.bool false))) fun a3=>
 cnd a3 (bV (jT [(0,1),(1,1),(2,1),(3,1)] [(.bool false), .nilSlice, .nilSlice, .nilSlice] []) fun a4=>
 bR (stN 4 d a4 H) fun a5 H=>
 bV (ldN 4 d H) fun a6=>bV (some (.int .i64 (.ofNat 4))) fun a7=>some (.ret (.tuple [a6,a7]),H))
 (bV (qN .eql Q (.int .u8 (.ofNat 1))) fun a8=>
 bR (D.fn 113 [a8,R] H) fun a9 H=>
 bV (qJ a9 0) fun b0=>
 bV (qJ a9 1) fun b1=>
 bR (stN 4 d b0 H) fun b2 H=>
 bV (ldN 4 d H) fun b3=>bV (some b1) fun b4=>some (.ret (.tuple [b3,b4]),H)))))
def h69:Hint:=(.s .o (.s (.s .o (.cl (.s .o (.s (.s .o (.cl (.s .o .o) .o)) (.s .o .o))) .o)) (.s .o (.s (.s .o (.cl (.s .o .o) .o)) (.s (.s .o (.cl (.s .o .o) .o)) (.s .o .o))))))
theorem zBo {D:Dyn}(hD:DG D)(n:Nat):FI 69 (f69 D n):=qQ (n:=n) (h:=h69) X_ok hD (SOk.nil) Tryz.func69 (by kernel_rfl) (by kernel_rfl)
def s109 (D:Dyn)(n:Nat):Tb:=⟨X,[]⟩
def f109 (D:Dyn)(n:Nat)(vs:List AV)(H:AH):Option (AV×AH):=
 outR (hd vs fun a vs=>nl vs <|
 bV (xN .eql (eqS a .nilSlice)) fun b=>
 cnd b (bV (some .nilSlice) fun c=>some (.ret c,H))
 (bA (u5 9 1 0 [(.str 0 0)] []) H fun d H=>
 bR (apP 9 1 16 d a H) fun e H=>
 bV (some e) fun f=>some (.ret f,H)))
def h109:Hint:=(.s .o (.s (.s .o (.cl (.s .o .o) .o)) (.s .o .o)))
theorem WA {D:Dyn}(hD:DG D)(n:Nat):FI 109 (f109 D n):=qQ (n:=n) (h:=h109) X_ok hD (SOk.nil) Tryz.func109 (by kernel_rfl) (by kernel_rfl)
def s77 (D:Dyn)(n:Nat):Tb:=⟨X,[]⟩
def f77 (D:Dyn)(n:Nat)(vs:List AV)(H:AH):Option (AV×AH):=
 outR (hd vs fun a vs=>nl vs <|
 bV (xN .eql (eqS a .nilSlice)) fun b=>
 cnd b (bV (some .nilSlice) fun c=>some (.ret c,H))
 (bA (u5 72 3 0 [(.int .i64 (.ofNat 0)),(.int .i64 (.ofNat 0)),(.int .u64 (.ofNat 0))] []) H fun d H=>
 bR (apP 72 3 24 d a H) fun e H=>
 bV (some e) fun f=>some (.ret f,H)))
def h77:Hint:=(.s .o (.s (.s .o (.cl (.s .o .o) .o)) (.s .o .o)))
theorem zEG {D:Dyn}(hD:DG D)(n:Nat):FI 77 (f77 D n):=qQ (n:=n) (h:=h77) X_ok hD (SOk.nil) Tryz.func77 (by kernel_rfl) (by kernel_rfl)
def s80 (D:Dyn)(n:Nat):Tb:=⟨X,[(62,f62 D n),(69,f69 D n),(109,f109 D n),(77,f77 D n)]⟩
def f80 (D:Dyn)(n:Nat)(vs:List AV)(H:AH):Option (AV×AH):=
 outR (hd vs fun a vs=>hd vs fun b vs=>nl vs <|
 bA (bxV 72 b) H fun c H=>
 bA (bxV 133 (.agg [(.bool false), .nilSlice, .nilSlice, .nilSlice])) H fun d H=>
 bR (f62 D n [a] H) fun e H=>
 cnd e (bV (jT [(0,1),(1,1),(2,1),(3,1)] [(.bool false), .nilSlice, .nilSlice, .nilSlice] []) fun f=>
 bR (stN 4 d f H) fun g H=>
 bV (ldN 4 d H) fun h=>bV (some (.int .i64 (.ofNat 2))) fun i=>some (.ret (.tuple [h,i]),H))
 (bV (fAd 0 c) fun k=>
 bV (ld1 k H) fun m=>
 bV (qN .eql m (.int .i64 (.ofNat 0))) fun o=>
 cnd o (bV (jT [(0,1),(1,1),(2,1),(3,1)] [(.bool false), .nilSlice, .nilSlice, .nilSlice] []) fun p=>
 bR (stN 4 d p H) fun r H=>
 bV (ldN 4 d H) fun t=>bV (some (.int .i64 (.ofNat 1))) fun u=>some (.ret (.tuple [t,u]),H))
 (bV (ldN 3 c H) fun v=>
 bR (f69 D n [a,v] H) fun w H=>
 bV (qJ w 0) fun x=>
 bV (qJ w 1) fun y=>
 bA (bxV 133 (.agg [(.bool false), .nilSlice, .nilSlice, .nilSlice])) H fun z H=>
 bR (stN 4 z x H) fun B H=>
 bV (qN .neq y (.int .i64 (.ofNat 0))) fun C=>
 cnd C (bV (jT [(0,1),(1,1),(2,1),(3,1)] [(.bool false), .nilSlice, .nilSlice, .nilSlice] []) fun E=>
 bR (stN 4 d E H) fun F H=>
 bV (ldN 4 d H) fun G=>bV (some y) fun I=>some (.ret (.tuple [G,I]),H))
 (bV (fAd 0 z) fun J=>
 bV (ld1 J H) fun K=>
 bV (fAd 1 z) fun M=>
 bV (ld1 M H) fun N=>
 bV (fAd 2 z) fun O=>
 bV (ld1 O H) fun P=>
 bV (fAd 3 z) fun Q=>
 bV (ld1 Q H) fun R=>
 bR (f109 D n [N] H) fun T H=>chk (ld1 J H) K <| chk (ld1 O H) P <| chk (ld1 Q H) R <|
 bR (f109 D n [P] H) fun U H=>chk (ld1 J H) K <| chk (ld1 Q H) R <|
 bR (f77 D n [R] H) fun V H=>chk (ld1 J H) K <|
 bV (jT [(0,1),(1,1),(2,1),(3,1)] [(.bool false), .nilSlice, .nilSlice, .nilSlice] [(0,K),(1,T),(2,U),(3,V)]) fun W=>
 bR (stN 4 d W H) fun Y H=>
 bV (ldN 4 d H) fun Z=>bV (some (.int .i64 (.ofNat 0))) fun a0=>some (.ret (.tuple [Z,a0]),H)))))
def h80:Hint:=(.s .o (.s (.s .o (.cl (.s .o .o) .o)) (.s (.s .o (.cl (.s .o .o) .o)) (.s .o (.s (.s .o (.cl (.s .o .o) .o)) (.s .o .o))))))
theorem zIe {D:Dyn}(hD:DG D)(n:Nat):FI 80 (f80 D n):=qQ (n:=n) (h:=h80) X_ok hD (sc (JF hD n) (sc (zBo hD n) (sc (WA hD n) (sc (zEG hD n) (SOk.nil))))) Tryz.func80 (by kernel_rfl) (by kernel_rfl)
def s70 (D:Dyn)(n:Nat):Tb:=⟨X,[]⟩
def zEH (D:Dyn)(n:Nat)(vs:List AV)(H:AH):Rs:=
 hd vs fun a vs=>hd vs fun b vs=>hd vs fun c vs=>hd vs fun d vs=>hd vs fun e vs=>hd vs fun f vs=>
 bV (qN .add f (.int .i64 (.ofNat 1))) fun g=>
 some (.norm [a,b,c,d,e,g],H)
def zAc (D:Dyn)(n:Nat)(vs:List AV)(H:AH):Rs:=
 hd vs fun a vs=>hd vs fun b vs=>hd vs fun c vs=>hd vs fun d vs=>hd vs fun e vs=>hd vs fun f vs=>
 bV (qN .lss f e) fun g=>
 cnd g (bV (jW 1 d f) fun h=>
 bV (ld1 h H) fun i=>
 bV (kD .lss i a) fun k=>
 jn (wnt k false (bV (fAd 0 b) fun m=>
 bV (ld1 m H) fun o=>
 bV (aun .not o) fun p=>
 some (.norm [p],H)) (some (.norm [qL],H))) fun vs H=>hd vs fun r vs=>
 jn (wnt r true (bV (kD .eql i a) fun t=>
 some (.norm [t],H)) (some (.norm [qL],H))) fun vs H=>hd vs fun u vs=>
 jn (wnt k false (bV (pk3 (some r) (some u) (some (.bool false))) fun v=>
 some (.norm [v],H)) (some (.norm [qL],H))) fun vs H=>hd vs fun w vs=>
 bV (pk3 (some k) (some (.bool true)) (some w)) fun x=>
 jn (cnd x (bV (qN .add c (.int .i64 (.ofNat 1))) fun y=>
 some (.norm [a,b,y,d,e,f],H))
 (some (.norm [a,b,c,d,e,f],H))) (zEH D n))
 (some (.exit 0 [c],H))
def zLL (D:Dyn)(n:Nat)(vs:List AV)(H:AH):Rs:=
 hd vs fun a vs=>
 bV (some a) fun b=>some (.ret b,H)
def f70 (D:Dyn)(n:Nat)(vs:List AV)(H:AH):Option (AV×AH):=
 outR (hd vs fun a vs=>hd vs fun b vs=>nl vs <|
 bA (bxV 133 a) H fun c H=>
 bV (fAd 1 c) fun d=>
 bV (ld1 d H) fun e=>
 bV (lnSl e) fun f=>
 jb 0 (qU n (zAc D n) [b,c,(.int .i64 (.ofNat 0)),e,f,(.int .i64 (.ofNat 0))] H) (zLL D n))
def h70:Hint:=(.s .o (.s .o (.s (.s .o (.b [5] (.l [1,2,5,9,10,11] (.s .o (.s (.cr .o .o) (.s (.b0 (.s .o (.s .o (.c [1,2,5,9,10,11] .o .o)))) .o)))))) (.s .o .o))))
theorem QK {D:Dyn}(hD:DG D)(n:Nat):FI 70 (f70 D n):=qQ (n:=n) (h:=h70) X_ok hD (SOk.nil) Tryz.func70 (by kernel_rfl) (by kernel_rfl)
def zKY (D:Dyn)(n:Nat):Tb:=⟨X,[(80,f80 D n),(70,f70 D n)]⟩
def bU (D:Dyn)(n:Nat)(vs:List AV)(H:AH):Rs:=
 hd vs fun a vs=>hd vs fun b vs=>hd vs fun c vs=>hd vs fun d vs=>hd vs fun e vs=>hd vs fun f vs=>hd vs fun g vs=>hd vs fun h vs=>
 bV (fAd 3 f) fun i=>
 bV (ld1 i H) fun k=>
 bV (lnSl k) fun m=>
 bV (qN .lss h m) fun o=>
 cnd o (bV (qN .gtr h g) fun p=>
 jn (wnt p true (bV (kD .neq c (.str 0 0)) fun r=>
 some (.norm [r],H)) (some (.norm [qL],H))) fun vs H=>hd vs fun t vs=>
 bV (pk3 (some p) (some t) (some (.bool false))) fun u=>
 jn (wnt u true (bV (fAd 1 f) fun v=>
 bV (ld1 v H) fun w=>
 bV (qN .sub h (.int .i64 (.ofNat 1))) fun x=>
 bV (jW 1 w x) fun y=>
 bV (ld1 y H) fun z=>
 bV (kD .geq z c) fun B=>
 some (.norm [B],H)) (some (.norm [qL],H))) fun vs H=>hd vs fun C vs=>
 bV (pk3 (some u) (some C) (some (.bool false))) fun E=>
 cnd E (some (.exit 0 [],H))
 (bV (fAd 3 f) fun F=>
 bV (ld1 F H) fun G=>
 bV (jW 3 G h) fun I=>
 bV (ldN 3 I H) fun J=>
 bR (D.fn 180 [a,J,b,c,d,e] H) fun K H=>
 bV (aun .not K) fun M=>
 cnd M (bV (some (.bool false)) fun N=>some (.ret N,H))
 (bV (qN .add h (.int .i64 (.ofNat 1))) fun O=>
 some (.norm [a,b,c,d,e,f,g,O],H))))
 (some (.exit 0 [],H))
def zBv (D:Dyn)(n:Nat)(vs:List AV)(H:AH):Rs:=
 bV (some (.bool true)) fun a=>some (.ret a,H)
def zBu (D:Dyn)(n:Nat)(vs:List AV)(H:AH):Rs:=
 hd vs fun a vs=>hd vs fun b vs=>hd vs fun c vs=>hd vs fun d vs=>hd vs fun e vs=>hd vs fun f vs=>hd vs fun g vs=>
 bV (xO a) fun h=>
 bV (fAd 3 h) fun i=>
 bV (ld1 i H) fun k=>
 bV (qN .neq k (.int .i64 (.ofNat 0))) fun m=>
 jn (wnt m false (bV (ldN 3 f H) fun o=>
 bV (ldN 4 g H) fun p=>
 bR (callV (zKY D n).S D e [o,p] H) fun r H=>
 bV (aun .not r) fun t=>
 some (.norm [t],H)) (some (.norm [qL],H))) fun vs H=>hd vs fun u vs=>
 bV (pk3 (some m) (some (.bool true)) (some u)) fun v=>
 cnd v (bV (some (.bool false)) fun w=>some (.ret w,H))
 (bV (fAd 0 g) fun x=>
 bV (ld1 x H) fun y=>
 cnd y (bV (some (.bool true)) fun z=>some (.ret z,H))
 (bV (ldN 4 g H) fun B=>
 bR (f70 D n [B,b] H) fun C H=>
 jb 0 (qU n (bU D n) [a,b,c,d,e,g,C,C] H) (zBv D n)))
def f180 (D:Dyn)(n:Nat)(vs:List AV)(H:AH):Option (AV×AH):=
 outR (hd vs fun a vs=>hd vs fun b vs=>hd vs fun c vs=>hd vs fun d vs=>hd vs fun e vs=>hd vs fun f vs=>nl vs <|
 bA (bxV 72 b) H fun g H=>
 bV (ldN 3 g H) fun h=>
 bR (callV (zKY D n).S D e [h] H) fun i H=>
 cnd i (bV (some (.bool true)) fun k=>some (.ret k,H))
 (bV (xO a) fun m=>
 bV (fAd 2 m) fun o=>
 bV (ld1 o H) fun p=>
 bV (qN .sub p (.int .i64 (.ofNat 1))) fun r=>
 bV (xO a) fun t=>
 bV (fAd 2 t) fun u=>
 bR (stN 1 u r H) fun v H=>
 bV (xO a) fun w=>
 bV (fAd 2 w) fun x=>
 bV (ld1 x H) fun y=>
 bV (qN .lss y (.int .i64 (.ofNat 0))) fun z=>
 cnd z (bV (xO a) fun B=>
 bV (fAd 3 B) fun C=>
 bR (stN 1 C (.int .i64 (.ofNat 4)) H) fun E H=>
 bV (some (.bool false)) fun F=>some (.ret F,H))
 (bV (xO a) fun G=>
 bV (fAd 1 G) fun I=>
 bV (ld1 I H) fun J=>
 bV (ldN 3 g H) fun K=>
 bV (lkM (1::[6,6,10]) (.agg [(.bool false), .nilSlice, .nilSlice, .nilSlice]) true J K H) fun M=>
 bV (qJ M 0) fun N=>
 bV (qJ M 1) fun O=>
 bA (bxV 133 (.agg [(.bool false), .nilSlice, .nilSlice, .nilSlice])) H fun P H=>
 bR (stN 4 P N H) fun Q H=>
 bV (aun .not O) fun R=>
 jn (cnd R (bV (xO a) fun T=>
 bV (fAd 0 T) fun U=>
 bV (ld1 U H) fun V=>
 bV (ldN 3 g H) fun W=>
 bR (f80 D n [V,W] H) fun Y H=>
 bV (qJ Y 0) fun Z=>
 bV (qJ Y 1) fun a0=>
 bR (stN 4 P Z H) fun a1 H=>
 bV (xO a) fun a2=>
 bV (fAd 3 a2) fun a3=>
 bR (stN 1 a3 a0 H) fun a4 H=>
 some (.norm [a,c,d,e,f,g,P],H))
 (some (.norm [a,c,d,e,f,g,P],H))) (zBu D n))))
def h180:Hint:=(.s .o (.s (.s .o (.cl (.s .o .o) .o)) (.s (.s .o (.s .o (.cl (.s .o (.s .o .o)) .o))) (.s .o (.s (.s .o (.c [0,2,3,4,5,7,13] .o .o)) (.s (.s .o (.cl (.s .o .o) .o)) (.s (.s .o (.cl (.s .o .o) .o)) (.s .o (.s (.s .o (.b [] (.l [0,2,3,4,5,13,15,16] (.s (.s .o (.cr .o .o)) (.s (.b0 (.s (.s .o (.cl .o .o)) (.s .o (.cl (.s .o .o) .o)))) .o))))) (.s .o .o))))))))))
theorem zEN {D:Dyn}(hD:DG D)(n:Nat):FI 180 (f180 D n):=qQ (n:=n) (h:=h180) X_ok hD (sc (zIe hD n) (sc (QK hD n) (SOk.nil))) Tryz.func180 (by kernel_rfl) (by kernel_rfl)
def s179 (D:Dyn)(n:Nat):Tb:=⟨X,[(32,f32 D n),(180,f180 D n)]⟩
def VY (D:Dyn)(n:Nat)(vs:List AV)(H:AH):Rs:=
 some (.ret (.tuple []),H)
def f179 (D:Dyn)(n:Nat)(vs:List AV)(H:AH):Option (AV×AH):=
 outR (hd vs fun a vs=>hd vs fun b vs=>hd vs fun c vs=>hd vs fun d vs=>hd vs fun e vs=>nl vs <|
 bV (ld1 b H) fun f=>
 bV (xO f) fun g=>
 bV (fAd 0 g) fun h=>
 bV (ld1 h H) fun i=>
 bR (f32 D n [i] H) fun k H=>
 bA (bxV 72 (.agg [(.int .i64 (.ofNat 0)),(.int .i64 (.ofNat 0)),(.int .u64 (.ofNat 0))])) H fun m H=>
 bR (stN 3 m k H) fun o H=>
 bV (fAd 0 m) fun p=>
 bV (ld1 p H) fun r=>
 bV (qN .neq r (.int .i64 (.ofNat 0))) fun t=>
 jn (wnt t true (bV (ld1 c H) fun u=>
 bV (kD .eql u (.str 0 0)) fun v=>
 some (.norm [v],H)) (some (.norm [qL],H))) fun vs H=>hd vs fun w vs=>
 jn (wnt w false (bV (ld1 d H) fun x=>
 bV (ld1 c H) fun y=>
 bV (kD .lss x y) fun z=>
 some (.norm [z],H)) (some (.norm [qL],H))) fun vs H=>hd vs fun B vs=>
 jn (wnt t true (bV (pk3 (some w) (some (.bool true)) (some B)) fun C=>
 some (.norm [C],H)) (some (.norm [qL],H))) fun vs H=>hd vs fun E vs=>
 bV (pk3 (some t) (some E) (some (.bool false))) fun F=>
 jn (cnd F (bV (ld1 b H) fun G=>
 bV (ldN 3 m H) fun I=>
 bV (ld1 d H) fun J=>
 bV (ld1 c H) fun K=>
 bV (ld1 e H) fun M=>
 bR (f180 D n [G,I,J,K,M,a] H) fun N H=>
 some (.norm [],H))
 (some (.norm [],H))) (VY D n))
def h179:Hint:=(.s .o (.s .o (.c [] .o .o)))
theorem zJP {D:Dyn}(hD:DG D)(n:Nat):FI 179 (f179 D n):=qQ (n:=n) (h:=h179) X_ok hD (sc (zIl hD n) (sc (zEN hD n) (SOk.nil))) Tryz.func179 (by kernel_rfl) (by kernel_rfl)
def s156 (D:Dyn)(n:Nat):Tb:=⟨X,[]⟩
def f156 (D:Dyn)(n:Nat)(vs:List AV)(H:AH):Option (AV×AH):=
 outR (hd vs fun a vs=>hd vs fun b vs=>hd vs fun c vs=>hd vs fun d vs=>nl vs <|
 bA (bxV 233 a) H fun e H=>
 bA (bxV 9 b) H fun f H=>
 bA (bxV 9 c) H fun g H=>
 bA (bxV 224 d) H fun h H=>
 bV (some (.func 179 [] [e,g,f,h])) fun i=>some (.ret i,H))
def h156:Hint:=(.s .o (.s .o .o))
theorem zAd {D:Dyn}(hD:DG D)(n:Nat):FI 156 (f156 D n):=qQ (n:=n) (h:=h156) X_ok hD (SOk.nil) Tryz.func156 (by kernel_rfl) (by kernel_rfl)
def zKZ (D:Dyn)(n:Nat):Tb:=⟨X,[(156,f156 D n),(70,f70 D n)]⟩
def f155 (D:Dyn)(n:Nat)(vs:List AV)(H:AH):Option (AV×AH):=
 outR (hd vs fun a vs=>hd vs fun b vs=>hd vs fun c vs=>hd vs fun d vs=>hd vs fun e vs=>nl vs <|
 bA (bxV 266 a) H fun f H=>
 bV (ld1 b H) fun g=>
 bV (ld1 c H) fun h=>
 bV (ld1 d H) fun i=>
 bV (ld1 e H) fun k=>
 bR (f156 D n [g,h,i,k] H) fun m H=>
 zB4 H (.loop ⟨.ready,none,155,0,[2,3,5],[c,d,f]⟩) fun A H=>bR (rfC (zKZ D n).S D m A H) fun _ H=>WG A H fun j H=>zKx j (
 some (.ret (.tuple []),H))
 (fun id=>none) (some (.ret (.tuple []),H)))
def h155:Hint:=(.s .o (.s .o (.b0 (.rf 0 [2,3,5]))))
theorem zJQ {D:Dyn}(hD:DG D)(n:Nat):FI 155 (f155 D n):=qQ (n:=n) (h:=h155) X_ok hD (sc (zAd hD n) (sc (QK hD n) (SOk.nil))) Tryz.func155 (by kernel_rfl) (by kernel_rfl)
def QM (D:Dyn)(n:Nat)(vs:List AV)(H:AH):Rs:=
 hd vs fun a vs=>hd vs fun b vs=>hd vs fun c vs=>hd vs fun d vs=>
 bV (fAd 1 c) fun e=>
 bV (ld1 e H) fun f=>
 bV (lnSl f) fun g=>
 bV (qN .lss d g) fun h=>
 cnd h (bV (ld1 a H) fun i=>
 bV (kD .neq i (.str 0 0)) fun k=>
 jn (wnt k true (bV (fAd 1 c) fun m=>
 bV (ld1 m H) fun o=>
 bV (jW 1 o d) fun p=>
 bV (ld1 p H) fun r=>
 bV (ld1 a H) fun t=>
 bV (kD .geq r t) fun u=>
 some (.norm [u],H)) (some (.norm [qL],H))) fun vs H=>hd vs fun v vs=>
 bV (pk3 (some k) (some v) (some (.bool false))) fun w=>
 jn (wnt w false (bV (ld1 b H) fun x=>
 bV (fAd 1 c) fun y=>
 bV (ld1 y H) fun z=>
 bV (jW 1 z d) fun B=>
 bV (ld1 B H) fun C=>
 bV (fAd 2 c) fun E=>
 bV (ld1 E H) fun F=>
 bV (jW 1 F d) fun G=>
 bV (ld1 G H) fun I=>
 bV (jT [(0,1),(1,1)] [(.str 0 0),(.str 0 0)] [(0,C),(1,I)]) fun J=>
 bR (callV (zKZ D n).S D x [J] H) fun K H=>
 bV (aun .not K) fun M=>
 some (.norm [M],H)) (some (.norm [qL],H))) fun vs H=>hd vs fun N vs=>
 bV (pk3 (some w) (some (.bool true)) (some N)) fun O=>
 cnd O (some (.ret (.tuple []),H))
 (bV (qN .add d (.int .i64 (.ofNat 1))) fun P=>
 some (.norm [a,b,c,P],H)))
 (some (.exit 2 [],H))
def zEV (D:Dyn)(n:Nat)(vs:List AV)(H:AH):Rs:=
 some (.norm [],H)
def zEU (D:Dyn)(n:Nat)(vs:List AV)(H:AH):Rs:=
 some (.norm [],H)
def ZT (D:Dyn)(n:Nat)(A:Nat)(l:ALoop)(az:List AV)(H:AH):Option (AV×AH):=
 bif YB [2,3,5] l.live then zLS A (hd l.vals fun a vs=>hd vs fun b vs=>hd vs fun c vs=>hd az fun d az=>hd az fun e az=>nl az <|
 bA (bxV 133 (.agg [(.bool false), .nilSlice, .nilSlice, .nilSlice])) H fun f H=>
 bR (stN 4 f e H) fun g H=>
 dL A H fun H=>
 jb 1 (bV (fAd 0 f) fun h=>
 bV (ld1 h H) fun i=>
 bV (aun .not i) fun k=>
 cnd k (some (.exit 1 [],H))
 (bV (ldN 4 f H) fun m=>
 bV (ld1 a H) fun o=>
 bR (f70 D n [m,o] H) fun p H=>
 jb 2 (qU n (QM D n) [b,c,f,p] H) (zEV D n))) (zEU D n))else none
def zJh:Hint:= .o
def zJg:Hint:=(.b [] (.s (.s .o (.cl .o .o)) (.s .o (.b [] (.l [3,5,7,8] (.s (.s .o (.cr .o .o)) (.s (.b0 (.s .o (.cl .o .o))) .o)))))))
theorem zDM (D:Dyn)(n:Nat):ZT D n=zL2 (zKZ D n) D n 155 0 [2,3,5] [] zJh zJg:=by kernel_rfl
theorem zDL {D:Dyn}(hD:DG D)(n:Nat):RS 155 0 (ZT D n):=zAR X_ok hD (sc (zAd hD n) (sc (QK hD n) (SOk.nil))) (by kernel_rfl) (zDM D n)
def s127 (D:Dyn)(n:Nat):Tb:=⟨X,[]⟩
def f127 (D:Dyn)(n:Nat)(vs:List AV)(H:AH):Option (AV×AH):=
 outR (hd vs fun a vs=>hd vs fun b vs=>hd vs fun c vs=>hd vs fun d vs=>nl vs <|
 bA (bxV 233 a) H fun e H=>
 bA (bxV 9 b) H fun f H=>
 bA (bxV 9 c) H fun g H=>
 bA (bxV 224 d) H fun h H=>
 bV (some (.func 155 [] [e,f,g,h])) fun i=>some (.ret i,H))
def h127:Hint:=(.s .o (.s .o .o))
theorem zAh {D:Dyn}(hD:DG D)(n:Nat):FI 127 (f127 D n):=qQ (n:=n) (h:=h127) X_ok hD (SOk.nil) Tryz.func127 (by kernel_rfl) (by kernel_rfl)
def s128 (D:Dyn)(n:Nat):Tb:=⟨X,[]⟩
def f128 (D:Dyn)(n:Nat)(vs:List AV)(H:AH):Option (AV×AH):=
 outR (hd vs fun a vs=>nl vs <|
 bA (bxV 72 a) H fun b H=>
 bV (some (.bool false)) fun c=>some (.ret c,H))
def h128:Hint:=(.s .o (.s .o .o))
theorem zJS {D:Dyn}(hD:DG D)(n:Nat):FI 128 (f128 D n):=qQ (n:=n) (h:=h128) X_ok hD (SOk.nil) Tryz.func128 (by kernel_rfl) (by kernel_rfl)
def s90 (D:Dyn)(n:Nat):Tb:=⟨X,[(126,f126 D n),(127,f127 D n)]⟩
def zLI (D:Dyn)(n:Nat)(vs:List AV)(H:AH):Rs:=
 hd vs fun a vs=>hd vs fun b vs=>hd vs fun c vs=>
 bV (xO a) fun d=>
 bV (fAd 3 d) fun e=>
 bV (ld1 e H) fun f=>
 bV (qN .neq f (.int .i64 (.ofNat 0))) fun g=>
 cnd g (bV (xO a) fun h=>
 bV (fAd 3 h) fun i=>
 bV (ld1 i H) fun k=>
 bV (some .nilSlice) fun m=>bV (some (.bool false)) fun o=>bV (some k) fun p=>some (.ret (.tuple [m,o,p]),H))
 (bV (ld1 b H) fun r=>
 bV (ld1 c H) fun t=>
 bV (some r) fun u=>bV (some t) fun v=>bV (some (.int .i64 (.ofNat 0))) fun w=>some (.ret (.tuple [u,v,w]),H))
def f90 (D:Dyn)(n:Nat)(vs:List AV)(H:AH):Option (AV×AH):=
 outR (hd vs fun a vs=>hd vs fun b vs=>hd vs fun c vs=>hd vs fun d vs=>nl vs <|
 bA (bxV 3 d) H fun e H=>
 bV (xN .eql (eqP a .nilPtr)) fun f=>
 cnd f (bV (some .nilSlice) fun g=>bV (some (.bool false)) fun h=>bV (some (.int .i64 (.ofNat 2))) fun i=>some (.ret (.tuple [g,h,i]),H))
 (bV (ld1 e H) fun k=>
 bV (qN .lss k (.int .i64 (.ofNat 0))) fun m=>
 cnd m (bV (some .nilSlice) fun o=>bV (some (.bool false)) fun p=>bV (some (.int .i64 (.ofNat 1))) fun r=>some (.ret (.tuple [o,p,r]),H))
 (bR (f126 D n [a] H) fun t H=>
 bA (bxV 40 .nilSlice) H fun u H=>
 bA (bxV 4 (.bool false)) H fun v H=>
 bR (stN 1 v (.bool false) H) fun w H=>
 bR (f127 D n [t,b,c,(.func 128 [] [])] H) fun x H=>
 jb 0 (zB4 H (.loop ⟨.ready,none,90,0,[7,12,13],[e,u,v]⟩) fun A H=>bR (rfC (s90 D n).S D x A H) fun _ H=>WG A H fun j H=>zKx j (
 some (.norm [t,u,v],H))
 (fun id=>cond (Nat.beq 0 id) (some (.exit id [t,u,v],H)) (none)) (bV (some .nilSlice) fun y=>bV (some (.bool false)) fun z=>bV (some (.int .i64 (.ofNat 0))) fun B=>some (.ret (.tuple [y,z,B]),H))) (zLI D n))))
def h90:Hint:=(.s .o (.s (.s .o (.cl (.s .o .o) .o)) (.s (.s .o (.cl (.s .o .o) .o)) (.s .o (.s .o (.s .o (.s (.s .o (.b [11,12,13] (.rf 0 [7,12,13]))) (.s (.s .o (.cl (.s .o .o) .o)) (.s .o .o)))))))))
theorem zED {D:Dyn}(hD:DG D)(n:Nat):FI 90 (f90 D n):=qQ (n:=n) (h:=h90) X_ok hD (sc (zAi hD n) (sc (zAh hD n) (SOk.nil))) Tryz.func90 (by kernel_rfl) (by kernel_rfl)
def zCe (D:Dyn)(n:Nat)(A:Nat)(l:ALoop)(az:List AV)(H:AH):Option (AV×AH):=
 bif YB [7,12,13] l.live then zLS A (hd l.vals fun a vs=>hd vs fun b vs=>hd vs fun c vs=>hd az fun d az=>nl az <|
 bA (bxV 48 (.agg [(.str 0 0),(.str 0 0)])) H fun e H=>
 bR (stN 2 e d H) fun f H=>
 dL A H fun H=>
 bV (ld1 b H) fun g=>
 bV (lnSl g) fun h=>
 bV (ld1 a H) fun i=>
 bV (qN .eql h i) fun k=>
 cnd k (bR (stN 1 c (.bool true) H) fun m H=>
 some (.exit 0 [],H))
 (bV (ld1 b H) fun o=>
 bV (ldN 2 e H) fun p=>
 bA (u5 48 2 1 [(.str 0 0),(.str 0 0)] [(0,p)]) H fun r H=>
 bR (apP 48 2 32 o r H) fun t H=>
 bR (stN 1 b t H) fun u H=>
 some (.norm [],H)))else none
def zL9:Hint:= .o
def zL8:Hint:=(.b0 (.s (.s .o (.cl (.s .o .o) .o)) .o))
theorem zGC (D:Dyn)(n:Nat):zCe D n=zL2 (s90 D n) D n 90 0 [7,12,13] [0] zL9 zL8:=by kernel_rfl
theorem zGB {D:Dyn}(hD:DG D)(n:Nat):RS 90 0 (zCe D n):=zAR X_ok hD (sc (zAi hD n) (sc (zAh hD n) (SOk.nil))) (by kernel_rfl) (zGC D n)
def s129 (D:Dyn)(n:Nat):Tb:=⟨X,[]⟩
def zBz (D:Dyn)(n:Nat)(vs:List AV)(H:AH):Rs:=
 hd vs fun a vs=>hd vs fun b vs=>hd vs fun c vs=>
 bV (qN .lss c (.int .i64 (.ofNat 4))) fun d=>
 cnd d (bV (qN .shl b (.int .u64 (.ofNat 8))) fun e=>
 bV (YF a c) fun f=>
 bV (cvI .i64 f) fun g=>
 bV (qN .or e g) fun h=>
 bV (qN .add c (.int .i64 (.ofNat 1))) fun i=>
 some (.norm [a,h,i],H))
 (some (.exit 0 [b],H))
def zIv (D:Dyn)(n:Nat)(vs:List AV)(H:AH):Rs:=
 hd vs fun a vs=>
 bV (some a) fun b=>some (.ret b,H)
def f129 (D:Dyn)(n:Nat)(vs:List AV)(H:AH):Option (AV×AH):=
 outR (hd vs fun a vs=>nl vs <|
 jb 0 (qU n (zBz D n) [a,(.int .i64 (.ofNat 0)),(.int .i64 (.ofNat 0))] H) (zIv D n))
def h129:Hint:=(.s .o (.s .o (.s (.s .o (.b [3] (.l [0,3,5] (.s .o (.s (.cr .o .o) (.s (.b0 (.s .o .o)) .o)))))) (.s .o .o))))
theorem zF2 {D:Dyn}(hD:DG D)(n:Nat):FI 129 (f129 D n):=qQ (n:=n) (h:=h129) X_ok hD (SOk.nil) Tryz.func129 (by kernel_rfl) (by kernel_rfl)
def s92 (D:Dyn)(n:Nat):Tb:=⟨X,[(129,f129 D n),(84,f84 D n),(85,f85 D n),(83,f83 D n)]⟩
def f92 (D:Dyn)(n:Nat)(vs:List AV)(H:AH):Option (AV×AH):=
 outR (hd vs fun a vs=>nl vs <|
 bA (bxV 48 a) H fun b H=>
 bA (bxV 174 (.agg [(.str 0 0),(.int .i64 (.ofNat 0)),(.int .i64 (.ofNat 0)),(.str 0 0),(.bool false)])) H fun c H=>
 bV (fAd 0 b) fun d=>
 bV (ld1 d H) fun e=>
 bV (kJ e) fun f=>
 bV (qN .neq f (.int .i64 (.ofNat 9))) fun g=>
 cnd g (bV (jT [(0,3),(3,1),(4,1)] [(.str 0 0),(.int .i64 (.ofNat 0)),(.int .i64 (.ofNat 0)),(.str 0 0),(.bool false)] []) fun h=>
 bR (stN 5 c h H) fun i H=>
 bV (ldN 5 c H) fun k=>bV (some (.bool false)) fun m=>some (.ret (.tuple [k,m]),H))
 (bV (fAd 0 b) fun o=>
 bV (ld1 o H) fun p=>
 bV (jT [(0,3),(3,1),(4,1)] [(.str 0 0),(.int .i64 (.ofNat 0)),(.int .i64 (.ofNat 0)),(.str 0 0),(.bool false)] [(1,p)]) fun r=>
 bA (bxV 174 (.agg [(.str 0 0),(.int .i64 (.ofNat 0)),(.int .i64 (.ofNat 0)),(.str 0 0),(.bool false)])) H fun t H=>
 bR (stN 5 t r H) fun u H=>
 bV (fAd 0 b) fun v=>
 bV (ld1 v H) fun w=>
 bV (aU w (some (.int .i64 (.ofNat 5))) none) fun x=>
 bR (f129 D n [x] H) fun y H=>
 bV (fAd 0 t) fun z=>
 bV (fAd 2 z) fun B=>
 bR (stN 1 B y H) fun C H=>
 bV (fAd 0 t) fun E=>
 bV (fAd 2 E) fun F=>
 bV (ld1 F H) fun G=>
 bV (qN .lss G (.int .i64 (.ofNat 1))) fun I=>
 jn (wnt I false (bV (fAd 0 t) fun J=>
 bV (fAd 2 J) fun K=>
 bV (ld1 K H) fun M=>
 bV (qN .gtr M (.int .i64 (.ofNat 262144))) fun N=>
 some (.norm [N],H)) (some (.norm [qL],H))) fun vs H=>hd vs fun O vs=>
 bV (pk3 (some I) (some (.bool true)) (some O)) fun P=>
 cnd P (bV (jT [(0,3),(3,1),(4,1)] [(.str 0 0),(.int .i64 (.ofNat 0)),(.int .i64 (.ofNat 0)),(.str 0 0),(.bool false)] []) fun Q=>
 bR (stN 5 c Q H) fun R H=>
 bV (ldN 5 c H) fun T=>bV (some (.bool false)) fun U=>some (.ret (.tuple [T,U]),H))
 (bV (fAd 1 b) fun V=>
 bV (ld1 V H) fun W=>
 bV (kJ W) fun Y=>
 bV (qN .lss Y (.int .i64 (.ofNat 4))) fun Z=>
 cnd Z (bV (ldN 5 t H) fun a0=>
 bR (stN 5 c a0 H) fun a1 H=>
 bV (ldN 5 c H) fun a2=>bV (some (.bool true)) fun a3=>some (.ret (.tuple [a2,a3]),H))
 (bV (fAd 1 b) fun a4=>
 bV (ld1 a4 H) fun a5=>
 bR (f129 D n [a5] H) fun a6 H=>
 bV (fAd 0 t) fun a7=>
 bV (fAd 1 a7) fun a8=>
 bR (stN 1 a8 a6 H) fun a9 H=>
 bV (fAd 1 b) fun b0=>
 bV (ld1 b0 H) fun b1=>
 bV (aU b1 (some (.int .i64 (.ofNat 4))) none) fun b2=>
 bV (fAd 0 t) fun b3=>
 bV (fAd 0 b3) fun b4=>
 bR (stN 1 b4 b2 H) fun b5 H=>
 bV (fAd 0 t) fun b6=>
 bV (fAd 1 b6) fun b7=>
 bV (ld1 b7 H) fun b8=>
 bR (f84 D n [b8] H) fun b9 H=>
 jn (wnt b9 true (bV (fAd 0 t) fun c0=>
 bV (fAd 0 c0) fun c1=>
 bV (ld1 c1 H) fun c2=>
 bR (f85 D n [c2] H) fun c3 H=>
 some (.norm [c3],H)) (some (.norm [qL],H))) fun vs H=>hd vs fun c4 vs=>
 bV (pk3 (some b9) (some c4) (some (.bool false))) fun c5=>
 jn (wnt c5 true (bV (fAd 0 t) fun c6=>
 bV (fAd 0 c6) fun c7=>
 bV (ld1 c7 H) fun c8=>
 bV (fAd 0 t) fun c9=>
 bV (fAd 2 c9) fun d0=>
 bV (ld1 d0 H) fun d1=>
 bV (qN .sub d1 (.int .i64 (.ofNat 1))) fun d2=>
 bV (qN .quo d2 (.int .i64 (.ofNat 256))) fun d3=>
 bR (f83 D n [c8] H) fun d4 H=>chk (ld1 d0 H) d1 <|
 bV (qN .eql d4 d3) fun d5=>
 some (.norm [d5],H)) (some (.norm [qL],H))) fun vs H=>hd vs fun d6 vs=>
 bV (pk3 (some c5) (some d6) (some (.bool false))) fun d7=>
 bV (fAd 4 t) fun d8=>
 bR (stN 1 d8 d7 H) fun d9 H=>
 bV (ldN 5 t H) fun e0=>
 bR (stN 5 c e0 H) fun e1 H=>
 bV (ldN 5 c H) fun e2=>bV (some (.bool true)) fun e3=>some (.ret (.tuple [e2,e3]),H)))))
def h92:Hint:=(.s .o (.s (.s .o (.cl (.s .o .o) .o)) (.s .o (.s .o (.s (.s .o (.cl (.s .o .o) .o)) (.s (.s .o (.cl (.s .o .o) .o)) (.s .o (.s .o (.s .o (.s .o .o))))))))))
theorem zEC {D:Dyn}(hD:DG D)(n:Nat):FI 92 (f92 D n):=qQ (n:=n) (h:=h92) X_ok hD (sc (zF2 hD n) (sc (VU hD n) (sc (zBn hD n) (sc (VV hD n) (SOk.nil))))) Tryz.func92 (by kernel_rfl) (by kernel_rfl)
def s86 (D:Dyn)(n:Nat):Tb:=⟨X,[(88,f88 D n),(90,f90 D n),(92,f92 D n)]⟩
def zA8 (D:Dyn)(n:Nat)(vs:List AV)(H:AH):Rs:=
 hd vs fun a vs=>hd vs fun b vs=>hd vs fun c vs=>hd vs fun d vs=>
 bV (qN .lss d c) fun e=>
 cnd e (bV (jW 2 b d) fun f=>
 bV (ldN 2 f H) fun g=>
 bA (bxV 48 (.agg [(.str 0 0),(.str 0 0)])) H fun h H=>
 bR (stN 2 h g H) fun i H=>
 bV (ldN 2 h H) fun k=>
 bR (f92 D n [k] H) fun m H=>
 bV (qJ m 0) fun o=>
 bV (qJ m 1) fun p=>
 bA (bxV 174 (.agg [(.str 0 0),(.int .i64 (.ofNat 0)),(.int .i64 (.ofNat 0)),(.str 0 0),(.bool false)])) H fun r H=>
 bR (stN 5 r o H) fun t H=>
 jn (wnt p true (bV (ldN 5 r H) fun u=>
 bR (callV (s86 D n).S D a [u] H) fun v H=>
 bV (aun .not v) fun w=>
 some (.norm [w],H)) (some (.norm [qL],H))) fun vs H=>hd vs fun x vs=>
 bV (pk3 (some p) (some x) (some (.bool false))) fun y=>
 cnd y (some (.exit 0 [],H))
 (bV (qN .add d (.int .i64 (.ofNat 1))) fun z=>
 some (.norm [a,b,c,z],H)))
 (some (.exit 0 [],H))
def zH9 (D:Dyn)(n:Nat)(vs:List AV)(H:AH):Rs:=
 bV (some (.int .i64 (.ofNat 0))) fun a=>some (.ret a,H)
def f86 (D:Dyn)(n:Nat)(vs:List AV)(H:AH):Option (AV×AH):=
 outR (hd vs fun a vs=>hd vs fun b vs=>hd vs fun c vs=>hd vs fun d vs=>nl vs <|
 bV (qN .mul c (.int .i64 (.ofNat 256))) fun e=>
 bV (qN .add e (.int .i64 (.ofNat 1))) fun f=>
 bR (f88 D n [b,f] H) fun g H=>
 bV (qN .add f (.int .i64 (.ofNat 256))) fun h=>
 bR (f88 D n [b,h] H) fun i H=>
 bR (f90 D n [a,g,i,(.int .i64 (.ofNat 2147483647))] H) fun k H=>
 bV (qJ k 0) fun m=>
 bV (qJ k 1) fun o=>
 bV (qJ k 2) fun p=>
 bV (qN .neq p (.int .i64 (.ofNat 0))) fun r=>
 cnd r (bV (some p) fun t=>some (.ret t,H))
 (bV (lnSl m) fun u=>
 jb 0 (qU n (zA8 D n) [d,m,u,(.int .i64 (.ofNat 0))] H) (zH9 D n)))
def h86:Hint:=(.s .o (.s .o (.s .o (.s (.s .o (.cl (.s .o .o) .o)) (.s (.s .o (.b [] (.l [3,36,37,38] (.s .o (.s (.cr .o .o) (.s (.b0 (.s .o (.s .o (.s .o (.cl .o .o))))) .o)))))) (.s .o .o))))))
theorem zEF {D:Dyn}(hD:DG D)(n:Nat):FI 86 (f86 D n):=qQ (n:=n) (h:=h86) X_ok hD (sc (zBm hD n) (sc (zED hD n) (sc (zEC hD n) (SOk.nil)))) Tryz.func86 (by kernel_rfl) (by kernel_rfl)
def s102 (D:Dyn)(n:Nat):Tb:=⟨X,[]⟩
def f102 (D:Dyn)(n:Nat)(vs:List AV)(H:AH):Option (AV×AH):=
 outR (hd vs fun a vs=>hd vs fun b vs=>nl vs <|
 bA (bxV 133 b) H fun c H=>
 bA (bxV 72 (.agg [(.int .i64 (.ofNat 0)),(.int .i64 (.ofNat 0)),(.int .u64 (.ofNat 0))])) H fun d H=>
 bV (xO a) fun e=>
 bV (fAd 1 e) fun f=>
 bV (ld1 f H) fun g=>
 bV (qN .add g (.int .u64 (.ofNat 1))) fun h=>
 bV (xO a) fun i=>
 bV (fAd 1 i) fun k=>
 bR (stN 1 k h H) fun m H=>
 bV (xO a) fun o=>
 bV (fAd 2 o) fun p=>
 bV (ld1 p H) fun r=>
 bV (xO a) fun t=>
 bV (fAd 1 t) fun u=>
 bV (ld1 u H) fun v=>
 bV (ldN 4 c H) fun w=>
 bR (upM [10] r v w H) fun x H=>
 bV (xO a) fun y=>
 bV (fAd 1 y) fun z=>
 bV (ld1 z H) fun B=>
 bV (jT [(0,1),(1,1),(2,1)] [(.int .i64 (.ofNat 0)),(.int .i64 (.ofNat 0)),(.int .u64 (.ofNat 0))] [(0,(.int .i64 (.ofNat 1))),(2,B)]) fun C=>
 bR (stN 3 d C H) fun E H=>
 bV (ldN 3 d H) fun F=>some (.ret F,H))
def h102:Hint:=(.s .o (.s .o (.s .o (.s .o .o))))
theorem WC {D:Dyn}(hD:DG D)(n:Nat):FI 102 (f102 D n):=qQ (n:=n) (h:=h102) X_ok hD (SOk.nil) Tryz.func102 (by kernel_rfl) (by kernel_rfl)
end Go.Eng.Sh
end
end
section
noncomputable section
namespace Go.Eng.Sh
open Go.Proofs
set_option maxRecDepth 100000
def s101 (D:Dyn)(n:Nat):Tb:=⟨X,[]⟩
def zID (D:Dyn)(n:Nat)(vs:List AV)(H:AH):Rs:=
 hd vs fun a vs=>hd vs fun b vs=>hd vs fun c vs=>hd vs fun d vs=>hd vs fun e vs=>hd vs fun f vs=>
 bV (qN .add f (.int .i64 (.ofNat 1))) fun g=>
 some (.norm [a,b,c,d,e,g],H)
def U9 (D:Dyn)(n:Nat)(vs:List AV)(H:AH):Rs:=
 hd vs fun a vs=>hd vs fun b vs=>hd vs fun c vs=>hd vs fun d vs=>hd vs fun e vs=>hd vs fun f vs=>
 bV (qN .lss f e) fun g=>
 cnd g (bV (jW 3 d f) fun h=>
 bV (ldN 3 h H) fun i=>
 bA (bxV 72 (.agg [(.int .i64 (.ofNat 0)),(.int .i64 (.ofNat 0)),(.int .u64 (.ofNat 0))])) H fun k H=>
 bR (stN 3 k i H) fun m H=>
 bV (fAd 0 k) fun o=>
 bV (ld1 o H) fun p=>
 bV (qN .eql p (.int .i64 (.ofNat 1))) fun r=>
 jn (cnd r (bV (xO c) fun t=>
 bV (fAd 5 t) fun u=>
 bV (ld1 u H) fun v=>
 bV (fAd 2 k) fun w=>
 bV (ld1 w H) fun x=>
 bR (dlM [10] v x H) fun y H=>
 some (.norm [a,b,c,d,e,f],H))
 (bV (xO c) fun z=>
 bV (fAd 7 z) fun B=>
 bV (ld1 B H) fun C=>
 bV (ldN 3 k H) fun E=>
 bA (u5 72 3 1 [(.int .i64 (.ofNat 0)),(.int .i64 (.ofNat 0)),(.int .u64 (.ofNat 0))] [(0,E)]) H fun F H=>
 bR (apP 72 3 24 C F H) fun G H=>
 bV (xO c) fun I=>
 bV (fAd 7 I) fun J=>
 bR (stN 1 J G H) fun K H=>
 some (.norm [a,b,c,d,e,f],H))) (zID D n))
 (some (.exit 0 [a,b,c],H))
def zIE (D:Dyn)(n:Nat)(vs:List AV)(H:AH):Rs:=
 hd vs fun a vs=>hd vs fun b vs=>hd vs fun c vs=>
 tld (uJ [a,b,c] H) H.next fun H=>
 bV (xO a) fun d=>
 bV (fAd 1 d) fun e=>
 bV (ld1 e H) fun f=>
 bV (xO c) fun g=>
 bV (fAd 6 g) fun h=>
 bR (stN 1 h f H) fun i H=>
 bV (ldN 3 b H) fun k=>
 bV (xO c) fun m=>
 bV (fAd 2 m) fun o=>
 bR (stN 3 o k H) fun p H=>
 some (.ret (.tuple []),H)
def f101 (D:Dyn)(n:Nat)(vs:List AV)(H:AH):Option (AV×AH):=
 outR (hd vs fun a vs=>hd vs fun b vs=>nl vs <|
 bA (bxV 72 b) H fun c H=>
 bV (xO a) fun d=>
 bV (fAd 0 d) fun e=>
 bV (ld1 e H) fun f=>
 bV (xO a) fun g=>
 bV (fAd 3 g) fun h=>
 bV (ld1 h H) fun i=>
 bV (lnSl i) fun k=>
 jb 0 (qU n (U9 D n) [a,c,f,i,k,(.int .i64 (.ofNat 0))] H) (zIE D n))
def zLE:Hint:=(.s .o (.s .o (.s (.s .o (.b [0,3,4] (.l [0,3,4,16,17,18] (.s .o (.s (.cr .o .o) (.s (.b0 (.s .o (.s .o (.c [0,3,4,16,17,18] .o .o)))) .o)))))) (.s (.t [0,3,4] uJ) (.s .o .o)))))
theorem zJW (D:Dyn)(n:Nat):f101 D n=zLF (s101 D n) D n 101 Tryz.f101 zLE:=by kernel_rfl
theorem zCr:zAE Tryz.f101 zLE=[(YZ.code,[0,3,4],uJ)]:=by kernel_rfl
theorem zFf: ∀x∈zAE Tryz.f101 zLE,Y5 PP Tryz.f101.ntmps 101 x.1 x.2.1 x.2.2:=by
 rw[zCr];intro x hx
 simp only[List.mem_cons,List.not_mem_nil,or_false]at hx
 subst hx;exact zCX
theorem zAk {D:Dyn}(hD:DG D)(n:Nat):FI 101 (f101 D n):=zJK X_ok hD (SOk.nil) Tryz.func101 (zDn (by kernel_rfl) zFf) (zJW D n)
def s123 (D:Dyn)(n:Nat):Tb:=⟨X,[]⟩
def U2 (D:Dyn)(n:Nat)(vs:List AV)(H:AH):Rs:=
 hd vs fun a vs=>hd vs fun b vs=>hd vs fun c vs=>hd vs fun d vs=>hd vs fun e vs=>
 bV (qN .lss e d) fun f=>
 cnd f (bV (jW 1 c e) fun g=>
 bV (ld1 g H) fun h=>
 bV (kJ h) fun i=>
 bV (qN .add (.int .i64 (.ofNat 1)) i) fun k=>
 bV (qN .add b k) fun m=>
 bV (qN .add e (.int .i64 (.ofNat 1))) fun o=>
 some (.norm [a,m,c,d,o],H))
 (some (.exit 0 [a,b],H))
def U1 (D:Dyn)(n:Nat)(vs:List AV)(H:AH):Rs:=
 hd vs fun a vs=>hd vs fun b vs=>hd vs fun c vs=>hd vs fun d vs=>
 bV (qN .lss d c) fun e=>
 cnd e (bV (jW 1 b d) fun f=>
 bV (ld1 f H) fun g=>
 bV (kJ g) fun h=>
 bV (qN .add (.int .i64 (.ofNat 1)) h) fun i=>
 bV (qN .add a i) fun k=>
 bV (qN .add d (.int .i64 (.ofNat 1))) fun m=>
 some (.norm [k,b,c,m],H))
 (some (.exit 2 [a],H))
def zIx (D:Dyn)(n:Nat)(vs:List AV)(H:AH):Rs:=
 hd vs fun a vs=>
 bV (some a) fun b=>some (.ret b,H)
def zIw (D:Dyn)(n:Nat)(vs:List AV)(H:AH):Rs:=
 hd vs fun a vs=>hd vs fun b vs=>
 bV (fAd 2 a) fun c=>
 bV (ld1 c H) fun d=>
 bV (lnSl d) fun e=>
 jb 2 (qU n (U1 D n) [b,d,e,(.int .i64 (.ofNat 0))] H) (zIx D n)
def f123 (D:Dyn)(n:Nat)(vs:List AV)(H:AH):Option (AV×AH):=
 outR (hd vs fun a vs=>nl vs <|
 bA (bxV 133 a) H fun b H=>
 bV (fAd 3 b) fun c=>
 bV (ld1 c H) fun d=>
 bV (lnSl d) fun e=>
 bV (qN .mul (.int .i64 (.ofNat 16)) e) fun f=>
 bV (qN .add (.int .i64 (.ofNat 2)) f) fun g=>
 bV (fAd 1 b) fun h=>
 bV (ld1 h H) fun i=>
 bV (lnSl i) fun k=>
 jb 0 (qU n (U2 D n) [b,g,i,k,(.int .i64 (.ofNat 0))] H) (zIw D n))
def h123:Hint:=(.s .o (.s .o (.s (.s .o (.b [1,3] (.l [1,3,14,15,16] (.s .o (.s (.cr .o .o) (.s (.b0 (.s .o .o)) .o)))))) (.s (.s .o (.b [3] (.l [3,27,28,29] (.s .o (.s (.cr .o .o) (.s (.b0 (.s .o .o)) .o)))))) (.s .o .o)))))
theorem KY {D:Dyn}(hD:DG D)(n:Nat):FI 123 (f123 D n):=qQ (n:=n) (h:=h123) X_ok hD (SOk.nil) Tryz.func123 (by kernel_rfl) (by kernel_rfl)
def s108 (D:Dyn)(n:Nat):Tb:=⟨X,[]⟩
def f108 (D:Dyn)(n:Nat)(vs:List AV)(H:AH):Option (AV×AH):=
 outR (hd vs fun a vs=>nl vs <|
 bV (kJ a) fun b=>
 bV (qN .geq b (.int .i64 (.ofNat 1))) fun c=>
 jn (wnt c true (bV (kJ a) fun d=>
 bV (qN .leq d (.int .i64 (.ofNat 40))) fun e=>
 some (.norm [e],H)) (some (.norm [qL],H))) fun vs H=>hd vs fun f vs=>
 bV (pk3 (some c) (some f) (some (.bool false))) fun g=>
 bV (some g) fun h=>some (.ret h,H))
def h108:Hint:=(.s .o (.s .o .o))
theorem WB {D:Dyn}(hD:DG D)(n:Nat):FI 108 (f108 D n):=qQ (n:=n) (h:=h108) X_ok hD (SOk.nil) Tryz.func108 (by kernel_rfl) (by kernel_rfl)
def s107 (D:Dyn)(n:Nat):Tb:=⟨X,[(108,f108 D n)]⟩
def aI (D:Dyn)(n:Nat)(vs:List AV)(H:AH):Rs:=
 hd vs fun a vs=>hd vs fun b vs=>hd vs fun c vs=>hd vs fun d vs=>
 bV (qN .lss d c) fun e=>
 cnd e (bV (jW 1 b d) fun f=>
 bV (ld1 f H) fun g=>
 bR (f108 D n [g] H) fun h H=>
 bV (aun .not h) fun i=>
 jn (wnt i false (bV (qN .gtr d (.int .i64 (.ofNat 0))) fun k=>
 some (.norm [k],H)) (some (.norm [qL],H))) fun vs H=>hd vs fun m vs=>
 jn (wnt m true (bV (fAd 1 a) fun o=>
 bV (ld1 o H) fun p=>
 bV (qN .sub d (.int .i64 (.ofNat 1))) fun r=>
 bV (jW 1 p r) fun t=>
 bV (ld1 t H) fun u=>
 bV (kD .geq u g) fun v=>
 some (.norm [v],H)) (some (.norm [qL],H))) fun vs H=>hd vs fun w vs=>
 jn (wnt i false (bV (pk3 (some m) (some w) (some (.bool false))) fun x=>
 some (.norm [x],H)) (some (.norm [qL],H))) fun vs H=>hd vs fun y vs=>
 bV (pk3 (some i) (some (.bool true)) (some y)) fun z=>
 cnd z (bV (some (.bool false)) fun B=>some (.ret B,H))
 (bV (qN .add d (.int .i64 (.ofNat 1))) fun C=>
 some (.norm [a,b,c,C],H)))
 (some (.exit 0 [a],H))
def U6 (D:Dyn)(n:Nat)(vs:List AV)(H:AH):Rs:=
 hd vs fun a vs=>hd vs fun b vs=>hd vs fun c vs=>
 bV (qN .lss c b) fun d=>
 cnd d (bV (jW 1 a c) fun e=>
 bV (ld1 e H) fun f=>
 bV (kJ f) fun g=>
 bV (qN .gtr g (.int .i64 (.ofNat 200))) fun h=>
 cnd h (bV (some (.bool false)) fun i=>some (.ret i,H))
 (bV (qN .add c (.int .i64 (.ofNat 1))) fun k=>
 some (.norm [a,b,k],H)))
 (some (.exit 2 [],H))
def zF8 (D:Dyn)(n:Nat)(vs:List AV)(H:AH):Rs:=
 bV (some (.bool true)) fun a=>some (.ret a,H)
def U5 (D:Dyn)(n:Nat)(vs:List AV)(H:AH):Rs:=
 hd vs fun a vs=>hd vs fun b vs=>hd vs fun c vs=>
 bV (qN .lss c b) fun d=>
 cnd d (bV (jW 3 a c) fun e=>
 bV (ldN 3 e H) fun f=>
 bA (bxV 72 (.agg [(.int .i64 (.ofNat 0)),(.int .i64 (.ofNat 0)),(.int .u64 (.ofNat 0))])) H fun g H=>
 bR (stN 3 g f H) fun h H=>
 bV (fAd 0 g) fun i=>
 bV (ld1 i H) fun k=>
 bV (qN .lss k (.int .i64 (.ofNat 1))) fun m=>
 jn (wnt m false (bV (fAd 0 g) fun o=>
 bV (ld1 o H) fun p=>
 bV (qN .geq p (.int .i64 (.ofNat 8192))) fun r=>
 some (.norm [r],H)) (some (.norm [qL],H))) fun vs H=>hd vs fun t vs=>
 bV (pk3 (some m) (some (.bool true)) (some t)) fun u=>
 jn (wnt u false (bV (fAd 1 g) fun v=>
 bV (ld1 v H) fun w=>
 bV (qN .lss w (.int .i64 (.ofNat 0))) fun x=>
 some (.norm [x],H)) (some (.norm [qL],H))) fun vs H=>hd vs fun y vs=>
 bV (pk3 (some u) (some (.bool true)) (some y)) fun z=>
 jn (wnt z false (bV (fAd 1 g) fun B=>
 bV (ld1 B H) fun C=>
 bV (qN .gtr C (.int .i64 (.ofNat 2147483647))) fun E=>
 some (.norm [E],H)) (some (.norm [qL],H))) fun vs H=>hd vs fun F vs=>
 bV (pk3 (some z) (some (.bool true)) (some F)) fun G=>
 cnd G (bV (some (.bool false)) fun I=>some (.ret I,H))
 (bV (qN .add c (.int .i64 (.ofNat 1))) fun J=>
 some (.norm [a,b,J],H)))
 (some (.exit 4 [],H))
def zF7 (D:Dyn)(n:Nat)(vs:List AV)(H:AH):Rs:=
 bV (some (.bool true)) fun a=>some (.ret a,H)
def aJ (D:Dyn)(n:Nat)(vs:List AV)(H:AH):Rs:=
 hd vs fun a vs=>
 bV (fAd 0 a) fun b=>
 bV (ld1 b H) fun c=>
 cnd c (bV (fAd 2 a) fun d=>
 bV (ld1 d H) fun e=>
 bV (lnSl e) fun f=>
 bV (fAd 1 a) fun g=>
 bV (ld1 g H) fun h=>
 bV (lnSl h) fun i=>
 bV (qN .neq f i) fun k=>
 jn (wnt k false (bV (fAd 3 a) fun m=>
 bV (ld1 m H) fun o=>
 bV (lnSl o) fun p=>
 bV (qN .neq p (.int .i64 (.ofNat 0))) fun r=>
 some (.norm [r],H)) (some (.norm [qL],H))) fun vs H=>hd vs fun t vs=>
 bV (pk3 (some k) (some (.bool true)) (some t)) fun u=>
 cnd u (bV (some (.bool false)) fun v=>some (.ret v,H))
 (bV (fAd 2 a) fun w=>
 bV (ld1 w H) fun x=>
 bV (lnSl x) fun y=>
 jb 2 (qU n (U6 D n) [x,y,(.int .i64 (.ofNat 0))] H) (zF8 D n)))
 (bV (fAd 1 a) fun z=>
 bV (ld1 z H) fun B=>
 bV (lnSl B) fun C=>
 bV (qN .eql C (.int .i64 (.ofNat 0))) fun E=>
 jn (wnt E false (bV (fAd 2 a) fun F=>
 bV (ld1 F H) fun G=>
 bV (lnSl G) fun I=>
 bV (qN .neq I (.int .i64 (.ofNat 0))) fun J=>
 some (.norm [J],H)) (some (.norm [qL],H))) fun vs H=>hd vs fun K vs=>
 bV (pk3 (some E) (some (.bool true)) (some K)) fun M=>
 jn (wnt M false (bV (fAd 3 a) fun N=>
 bV (ld1 N H) fun O=>
 bV (lnSl O) fun P=>
 bV (fAd 1 a) fun Q=>
 bV (ld1 Q H) fun R=>
 bV (lnSl R) fun T=>
 bV (qN .add T (.int .i64 (.ofNat 1))) fun U=>
 bV (qN .neq P U) fun V=>
 some (.norm [V],H)) (some (.norm [qL],H))) fun vs H=>hd vs fun W vs=>
 bV (pk3 (some M) (some (.bool true)) (some W)) fun Y=>
 cnd Y (bV (some (.bool false)) fun Z=>some (.ret Z,H))
 (bV (fAd 3 a) fun a0=>
 bV (ld1 a0 H) fun a1=>
 bV (lnSl a1) fun a2=>
 jb 4 (qU n (U5 D n) [a1,a2,(.int .i64 (.ofNat 0))] H) (zF7 D n)))
def f107 (D:Dyn)(n:Nat)(vs:List AV)(H:AH):Option (AV×AH):=
 outR (hd vs fun a vs=>nl vs <|
 bA (bxV 133 a) H fun b H=>
 bV (fAd 1 b) fun c=>
 bV (ld1 c H) fun d=>
 bV (lnSl d) fun e=>
 jb 0 (qU n (aI D n) [b,d,e,(.int .i64 (.ofNat 0))] H) (aJ D n))
def h107:Hint:=(.s .o (.s (.s .o (.b [1] (.l [1,10,11,12] (.s .o (.s (.cr .o .o) (.s (.b0 (.s .o (.s .o (.cl (.s .o .o) .o)))) .o)))))) (.s (.s .o (.cl (.s (.s .o (.cl (.s .o .o) .o)) (.s (.s .o (.b [] (.l [51,52,53] (.s .o (.s (.cr .o .o) (.s (.b0 (.s .o (.s .o (.cl (.s .o .o) .o)))) .o)))))) (.s .o .o))) .o)) (.s (.s .o (.cl (.s .o .o) .o)) (.s (.s .o (.b [] (.l [82,83,84] (.s .o (.s (.cr .o .o) (.s (.b0 (.s .o (.s .o (.cl (.s .o .o) .o)))) .o)))))) (.s .o .o))))))
theorem QO {D:Dyn}(hD:DG D)(n:Nat):FI 107 (f107 D n):=qQ (n:=n) (h:=h107) X_ok hD (sc (WB hD n) (SOk.nil)) Tryz.func107 (by kernel_rfl) (by kernel_rfl)
def s183 (D:Dyn)(n:Nat):Tb:=⟨X,[(123,f123 D n)]⟩
def aH (D:Dyn)(n:Nat)(vs:List AV)(H:AH):Rs:=
 hd vs fun a vs=>hd vs fun b vs=>hd vs fun c vs=>hd vs fun d vs=>hd vs fun e vs=>hd vs fun f vs=>hd vs fun g vs=>
 bV (qN .gtr e (.int .i64 (.ofNat 0))) fun h=>
 jn (wnt h true (bV (qN .gtr d b) fun i=>
 some (.norm [i],H)) (some (.norm [qL],H))) fun vs H=>hd vs fun k vs=>
 bV (pk3 (some h) (some k) (some (.bool false))) fun m=>
 cnd m (bV (some e) fun o=>some (.ret o,H))
 (bV (qN .add g (.int .i64 (.ofNat 1))) fun p=>
 some (.norm [a,b,c,d,f,p],H))
def QL (D:Dyn)(n:Nat)(vs:List AV)(H:AH):Rs:=
 hd vs fun a vs=>hd vs fun b vs=>hd vs fun c vs=>hd vs fun d vs=>hd vs fun e vs=>hd vs fun f vs=>
 bV (qN .lss f e) fun g=>
 cnd g (bV (fAd 1 a) fun h=>
 bV (ld1 h H) fun i=>
 bV (jW 1 i f) fun k=>
 bV (ld1 k H) fun m=>
 bV (kJ m) fun o=>
 bV (qN .add (.int .i64 (.ofNat 1)) o) fun p=>
 bV (qN .add d p) fun r=>
 bV (fAd 0 a) fun t=>
 bV (ld1 t H) fun u=>
 jn (cnd u (bV (fAd 2 a) fun v=>
 bV (ld1 v H) fun w=>
 bV (jW 1 w f) fun x=>
 bV (ld1 x H) fun y=>
 bV (kJ y) fun z=>
 bV (qN .add (.int .i64 (.ofNat 1)) z) fun B=>
 bV (qN .add r B) fun C=>
 some (.norm [a,b,c,C,f,e,f],H))
 (bV (qN .add r (.int .i64 (.ofNat 16))) fun E=>
 some (.norm [a,b,c,E,f,e,f],H))) (aH D n))
 (some (.exit 0 [c],H))
def zEL (D:Dyn)(n:Nat)(vs:List AV)(H:AH):Rs:=
 hd vs fun a vs=>
 bV (some a) fun b=>some (.ret b,H)
def VX (D:Dyn)(n:Nat)(vs:List AV)(H:AH):Rs:=
 hd vs fun a vs=>hd vs fun b vs=>hd vs fun c vs=>hd vs fun d vs=>
 jb 0 (qU n (QL D n) [a,b,c,d,c,(.int .i64 (.ofNat 0))] H) (zEL D n)
def f183 (D:Dyn)(n:Nat)(vs:List AV)(H:AH):Option (AV×AH):=
 outR (hd vs fun a vs=>nl vs <|
 bA (bxV 133 a) H fun b H=>
 bV (ldN 4 b H) fun c=>
 bR (f123 D n [c] H) fun d H=>
 bV (qN .sub d (.int .i64 (.ofNat 2))) fun e=>
 bV (qN .quo e (.int .i64 (.ofNat 2))) fun f=>
 bV (fAd 1 b) fun g=>
 bV (ld1 g H) fun h=>
 bV (lnSl h) fun i=>
 bV (qN .sub i (.int .i64 (.ofNat 1))) fun k=>
 bV (fAd 0 b) fun m=>
 bV (ld1 m H) fun o=>
 bV (aun .not o) fun p=>
 jn (cnd p (bV (qN .sub k (.int .i64 (.ofNat 1))) fun r=>
 some (.norm [b,f,r,(.int .i64 (.ofNat 16))],H))
 (some (.norm [b,f,k,(.int .i64 (.ofNat 0))],H))) (VX D n))
def h183:Hint:=(.s .o (.s .o (.s .o (.s .o (.s (.s .o (.c [1,3,4,5] (.s .o .o) .o)) (.s (.s .o (.b [4] (.l [1,3,4,5,20,21] (.s .o (.s (.cr .o .o) (.s (.b0 (.s .o (.s .o (.s (.s .o (.c [1,3,4,5,6,20,21] .o .o)) (.s .o (.cl (.s .o .o) .o)))))) .o)))))) (.s .o .o)))))))
theorem zEM {D:Dyn}(hD:DG D)(n:Nat):FI 183 (f183 D n):=qQ (n:=n) (h:=h183) X_ok hD (sc (KY hD n) (SOk.nil)) Tryz.func183 (by kernel_rfl) (by kernel_rfl)
def s167 (D:Dyn)(n:Nat):Tb:=⟨X,[(107,f107 D n),(183,f183 D n),(109,f109 D n),(77,f77 D n)]⟩
def zER (D:Dyn)(n:Nat)(vs:List AV)(H:AH):Rs:=
 hd vs fun a vs=>hd vs fun b vs=>hd vs fun c vs=>hd vs fun d vs=>
 bV (ldN 4 b H) fun e=>
 bV (fAd 1 a) fun f=>
 bV (ld1 f H) fun g=>
 bV (jW 1 g d) fun h=>
 bV (ld1 h H) fun i=>
 bV (ldN 4 c H) fun k=>
 bR (stN 4 b e H) fun m H=>chk (ld1 f H) g <| chk (ld1 h H) i <| chk (ldN 4 c H) k <|
 bR (stN 4 c k H) fun o H=>
 bV (ldN 4 b H) fun p=>bV (some i) fun r=>bV (ldN 4 c H) fun t=>bV (some (.int .i64 (.ofNat 0))) fun u=>some (.ret (.tuple [p,r,t,u]),H)
def f167 (D:Dyn)(n:Nat)(vs:List AV)(H:AH):Option (AV×AH):=
 outR (hd vs fun a vs=>nl vs <|
 bA (bxV 133 a) H fun b H=>
 bA (bxV 133 (.agg [(.bool false), .nilSlice, .nilSlice, .nilSlice])) H fun c H=>
 bA (bxV 133 (.agg [(.bool false), .nilSlice, .nilSlice, .nilSlice])) H fun d H=>
 bV (ldN 4 b H) fun e=>
 bR (f107 D n [e] H) fun f H=>
 bV (aun .not f) fun g=>
 jn (wnt g false (bV (fAd 1 b) fun h=>
 bV (ld1 h H) fun i=>
 bV (lnSl i) fun k=>
 bV (qN .lss k (.int .i64 (.ofNat 2))) fun m=>
 some (.norm [m],H)) (some (.norm [qL],H))) fun vs H=>hd vs fun o vs=>
 bV (pk3 (some g) (some (.bool true)) (some o)) fun p=>
 jn (wnt p false (bV (fAd 0 b) fun r=>
 bV (ld1 r H) fun t=>
 bV (aun .not t) fun u=>
 some (.norm [u],H)) (some (.norm [qL],H))) fun vs H=>hd vs fun v vs=>
 jn (wnt v true (bV (fAd 1 b) fun w=>
 bV (ld1 w H) fun x=>
 bV (lnSl x) fun y=>
 bV (qN .lss y (.int .i64 (.ofNat 3))) fun z=>
 some (.norm [z],H)) (some (.norm [qL],H))) fun vs H=>hd vs fun B vs=>
 jn (wnt p false (bV (pk3 (some v) (some B) (some (.bool false))) fun C=>
 some (.norm [C],H)) (some (.norm [qL],H))) fun vs H=>hd vs fun E vs=>
 bV (pk3 (some p) (some (.bool true)) (some E)) fun F=>
 cnd F (bV (jT [(0,1),(1,1),(2,1),(3,1)] [(.bool false), .nilSlice, .nilSlice, .nilSlice] []) fun G=>
 bV (jT [(0,1),(1,1),(2,1),(3,1)] [(.bool false), .nilSlice, .nilSlice, .nilSlice] []) fun I=>
 bR (stN 4 c G H) fun J H=>
 bR (stN 4 d I H) fun K H=>
 bV (ldN 4 c H) fun M=>bV (some (.str 0 0)) fun N=>bV (ldN 4 d H) fun O=>bV (some (.int .i64 (.ofNat 1))) fun P=>some (.ret (.tuple [M,N,O,P]),H))
 (bV (ldN 4 b H) fun Q=>
 bR (f183 D n [Q] H) fun R H=>
 bV (fAd 0 b) fun T=>
 bV (ld1 T H) fun U=>
 bV (fAd 0 b) fun V=>
 bV (ld1 V H) fun W=>
 bV (fAd 0 c) fun Y=>
 bR (stN 1 Y U H) fun Z H=>chk (ld1 V H) W <|
 bV (fAd 0 d) fun a0=>
 bR (stN 1 a0 W H) fun a1 H=>
 bV (fAd 1 b) fun a2=>
 bV (ld1 a2 H) fun a3=>
 bV (j6 1 a3 none (some R) (some R) H) fun a4=>
 bR (f109 D n [a4] H) fun a5 H=>
 bV (fAd 1 c) fun a6=>
 bR (stN 1 a6 a5 H) fun a7 H=>
 bV (fAd 0 b) fun a8=>
 bV (ld1 a8 H) fun a9=>
 jn (cnd a9 (bV (fAd 1 b) fun b0=>
 bV (ld1 b0 H) fun b1=>
 bV (j6 1 b1 (some R) none none H) fun b2=>
 bR (f109 D n [b2] H) fun b3 H=>
 bV (fAd 1 d) fun b4=>
 bR (stN 1 b4 b3 H) fun b5 H=>
 bV (fAd 2 b) fun b6=>
 bV (ld1 b6 H) fun b7=>
 bV (j6 1 b7 none (some R) (some R) H) fun b8=>
 bV (fAd 2 b) fun b9=>
 bV (ld1 b9 H) fun c0=>
 bV (j6 1 c0 (some R) none none H) fun c1=>
 bR (f109 D n [b8] H) fun c2 H=>chk (ld1 b9 H) c0 <| chk (j6 1 c0 (some R) none none H) c1 <|
 bV (fAd 2 c) fun c3=>
 bR (f109 D n [c1] H) fun c4 H=>
 bR (stN 1 c3 c2 H) fun c5 H=>
 bV (fAd 2 d) fun c6=>
 bR (stN 1 c6 c4 H) fun c7 H=>
 some (.norm [b,c,d,R],H))
 (bV (fAd 1 b) fun c8=>
 bV (ld1 c8 H) fun c9=>
 bV (qN .add R (.int .i64 (.ofNat 1))) fun d0=>
 bV (j6 1 c9 (some d0) none none H) fun d1=>
 bR (f109 D n [d1] H) fun d2 H=>
 bV (fAd 1 d) fun d3=>
 bR (stN 1 d3 d2 H) fun d4 H=>
 bV (fAd 3 b) fun d5=>
 bV (ld1 d5 H) fun d6=>
 bV (qN .add R (.int .i64 (.ofNat 1))) fun d7=>
 bV (qN .add R (.int .i64 (.ofNat 1))) fun d8=>
 bV (j6 3 d6 none (some d7) (some d8) H) fun d9=>
 bV (fAd 3 b) fun e0=>
 bV (ld1 e0 H) fun e1=>
 bV (qN .add R (.int .i64 (.ofNat 1))) fun e2=>
 bV (j6 3 e1 (some e2) none none H) fun e3=>
 bR (f77 D n [d9] H) fun e4 H=>chk (ld1 e0 H) e1 <| chk (j6 3 e1 (some e2) none none H) e3 <|
 bV (fAd 3 c) fun e5=>
 bR (f77 D n [e3] H) fun e6 H=>
 bR (stN 1 e5 e4 H) fun e7 H=>
 bV (fAd 3 d) fun e8=>
 bR (stN 1 e8 e6 H) fun e9 H=>
 some (.norm [b,c,d,R],H))) (zER D n)))
def h167:Hint:=(.s .o (.s (.s .o (.cl (.s .o .o) .o)) (.s .o (.s .o (.s .o (.s (.s .o (.c [1,2,4,6] (.s .o .o) (.s .o .o))) (.s .o .o)))))))
theorem zES {D:Dyn}(hD:DG D)(n:Nat):FI 167 (f167 D n):=qQ (n:=n) (h:=h167) X_ok hD (sc (QO hD n) (sc (zEM hD n) (sc (WA hD n) (sc (zEG hD n) (SOk.nil))))) Tryz.func167 (by kernel_rfl) (by kernel_rfl)
def s139 (D:Dyn)(n:Nat):Tb:=⟨X,[(123,f123 D n),(167,f167 D n)]⟩
def zBy (D:Dyn)(n:Nat)(vs:List AV)(H:AH):Rs:=
 hd vs fun a vs=>hd vs fun b vs=>hd vs fun c vs=>
 bV (ldN 4 a H) fun d=>
 bR (f123 D n [d] H) fun e H=>
 bV (qN .gtr e (.int .i64 (.ofNat 500))) fun f=>
 cnd f (bV (ldN 4 a H) fun g=>
 bR (f167 D n [g] H) fun h H=>
 bV (qJ h 0) fun i=>
 bV (qJ h 1) fun k=>
 bV (qJ h 2) fun m=>
 bV (qJ h 3) fun o=>
 bA (bxV 133 (.agg [(.bool false), .nilSlice, .nilSlice, .nilSlice])) H fun p H=>
 bA (bxV 133 (.agg [(.bool false), .nilSlice, .nilSlice, .nilSlice])) H fun r H=>
 bR (stN 4 p i H) fun t H=>
 bR (stN 4 r m H) fun u H=>
 bV (qN .neq o (.int .i64 (.ofNat 0))) fun v=>
 cnd v (bV (some .nilSlice) fun w=>bV (some .nilSlice) fun x=>bV (some (.int .i64 (.ofNat 4))) fun y=>some (.ret (.tuple [w,x,y]),H))
 (bV (ldN 4 p H) fun z=>
 bA (u5 133 4 1 [(.bool false), .nilSlice, .nilSlice, .nilSlice] [(0,z)]) H fun B H=>
 bR (apP 133 4 80 b B H) fun C H=>
 bA (u5 9 1 1 [(.str 0 0)] [(0,k)]) H fun E H=>
 bR (apP 9 1 16 c E H) fun F H=>
 bV (ldN 4 r H) fun G=>
 bR (stN 4 a G H) fun I H=>
 some (.norm [a,C,F],H)))
 (some (.exit 0 [a,b,c],H))
def zIu (D:Dyn)(n:Nat)(vs:List AV)(H:AH):Rs:=
 hd vs fun a vs=>hd vs fun b vs=>hd vs fun c vs=>
 bV (ldN 4 a H) fun d=>
 bA (u5 133 4 1 [(.bool false), .nilSlice, .nilSlice, .nilSlice] [(0,d)]) H fun e H=>
 bR (apP 133 4 80 b e H) fun f H=>
 bV (some f) fun g=>bV (some c) fun h=>bV (some (.int .i64 (.ofNat 0))) fun i=>some (.ret (.tuple [g,h,i]),H)
def f139 (D:Dyn)(n:Nat)(vs:List AV)(H:AH):Option (AV×AH):=
 outR (hd vs fun a vs=>nl vs <|
 bA (bxV 133 a) H fun b H=>
 jb 0 (qU n (zBy D n) [b, .nilSlice, .nilSlice] H) (zIu D n))
def h139:Hint:=(.s .o (.s .o (.s .o (.s (.b [1,5,6] (.l [1,5,6] (.s (.s .o (.cr .o .o)) (.b0 (.s .o (.s (.s .o (.cl (.s .o .o) .o)) (.s .o (.s .o .o)))))))) (.s .o .o)))))
theorem zAg {D:Dyn}(hD:DG D)(n:Nat):FI 139 (f139 D n):=qQ (n:=n) (h:=h139) X_ok hD (sc (KY hD n) (sc (zES hD n) (SOk.nil))) Tryz.func139 (by kernel_rfl) (by kernel_rfl)
def s141 (D:Dyn)(n:Nat):Tb:=⟨X,[(102,f102 D n)]⟩
def VZ (D:Dyn)(n:Nat)(vs:List AV)(H:AH):Rs:=
 hd vs fun a vs=>hd vs fun b vs=>hd vs fun c vs=>hd vs fun d vs=>hd vs fun e vs=>
 bV (qN .lss e d) fun f=>
 cnd f (bV (jW 4 c e) fun g=>
 bV (ldN 4 g H) fun h=>
 bA (bxV 133 (.agg [(.bool false), .nilSlice, .nilSlice, .nilSlice])) H fun i H=>
 bR (stN 4 i h H) fun k H=>
 bV (ldN 4 i H) fun m=>
 bR (f102 D n [a,m] H) fun o H=>
 bA (u5 72 3 1 [(.int .i64 (.ofNat 0)),(.int .i64 (.ofNat 0)),(.int .u64 (.ofNat 0))] [(0,o)]) H fun p H=>
 bR (apP 72 3 24 b p H) fun r H=>
 bV (qN .add e (.int .i64 (.ofNat 1))) fun t=>
 some (.norm [a,r,c,d,t],H))
 (some (.exit 0 [b],H))
def zIq (D:Dyn)(n:Nat)(vs:List AV)(H:AH):Rs:=
 hd vs fun a vs=>
 bV (some a) fun b=>some (.ret b,H)
def f141 (D:Dyn)(n:Nat)(vs:List AV)(H:AH):Option (AV×AH):=
 outR (hd vs fun a vs=>hd vs fun b vs=>nl vs <|
 bV (lnSl b) fun c=>
 jb 0 (qU n (VZ D n) [a, .nilSlice,b,c,(.int .i64 (.ofNat 0))] H) (zIq D n))
def h141:Hint:=(.s .o (.s .o (.s (.s .o (.b [5] (.l [0,5,8,9,10] (.s .o (.s (.cr .o .o) (.s (.b0 (.s .o .o)) .o)))))) (.s .o .o))))
theorem zAe {D:Dyn}(hD:DG D)(n:Nat):FI 141 (f141 D n):=qQ (n:=n) (h:=h141) X_ok hD (sc (WC hD n) (SOk.nil)) Tryz.func141 (by kernel_rfl) (by kernel_rfl)
def s106 (D:Dyn)(n:Nat):Tb:=⟨X,[(101,f101 D n),(139,f139 D n),(141,f141 D n),(102,f102 D n)]⟩
def zFa (D:Dyn)(n:Nat)(vs:List AV)(H:AH):Rs:=
 bV (some (.int .i64 (.ofNat 0))) fun a=>some (.ret a,H)
def zF9 (D:Dyn)(n:Nat)(vs:List AV)(H:AH):Rs:=
 bV (some (.int .i64 (.ofNat 0))) fun a=>some (.ret a,H)
def f106 (D:Dyn)(n:Nat)(vs:List AV)(H:AH):Option (AV×AH):=
 outR (hd vs fun a vs=>hd vs fun b vs=>nl vs <|
 bA (bxV 133 b) H fun c H=>
 bV (fAd 1 c) fun d=>
 bV (ld1 d H) fun e=>
 bV (lnSl e) fun f=>
 bV (qN .eql f (.int .i64 (.ofNat 0))) fun g=>
 cnd g (bV (fAd 0 c) fun h=>
 bV (ld1 h H) fun i=>
 jn (cnd i (bV (jT [(0,1),(1,1),(2,1)] [(.int .i64 (.ofNat 0)),(.int .i64 (.ofNat 0)),(.int .u64 (.ofNat 0))] []) fun k=>
 bR (f101 D n [a,k] H) fun m H=>
 some (.norm [],H))
 (bV (fAd 3 c) fun o=>
 bV (ld1 o H) fun p=>
 bV (jW 3 p (.int .i64 (.ofNat 0))) fun r=>
 bV (ldN 3 r H) fun t=>
 bR (f101 D n [a,t] H) fun u H=>
 some (.norm [],H))) (zFa D n))
 (bV (ldN 4 c H) fun v=>
 bR (f139 D n [v] H) fun w H=>
 bV (qJ w 0) fun x=>
 bV (qJ w 1) fun y=>
 bV (qJ w 2) fun z=>
 bV (qN .neq z (.int .i64 (.ofNat 0))) fun B=>
 cnd B (bV (some z) fun C=>some (.ret C,H))
 (bR (f141 D n [a,x] H) fun E H=>
 bV (lnSl E) fun F=>
 bV (qN .eql F (.int .i64 (.ofNat 1))) fun G=>
 jn (cnd G (bV (jW 3 E (.int .i64 (.ofNat 0))) fun I=>
 bV (ldN 3 I H) fun J=>
 bR (f101 D n [a,J] H) fun K H=>
 some (.norm [],H))
 (bV (jT [(0,1),(1,1),(2,1),(3,1)] [(.bool false), .nilSlice, .nilSlice, .nilSlice] [(1,y),(3,E)]) fun M=>
 bR (f102 D n [a,M] H) fun N H=>
 bR (f101 D n [a,N] H) fun O H=>
 some (.norm [],H))) (zF9 D n))))
def h106:Hint:=(.s .o (.s (.s .o (.cl (.s (.s .o (.c [] .o .o)) (.s .o .o)) .o)) (.s .o (.s (.s .o (.cl (.s .o .o) .o)) (.s .o (.s (.s .o (.c [] .o .o)) (.s .o .o)))))))
theorem zFb {D:Dyn}(hD:DG D)(n:Nat):FI 106 (f106 D n):=qQ (n:=n) (h:=h106) X_ok hD (sc (zAk hD n) (sc (zAg hD n) (sc (zAe hD n) (sc (WC hD n) (SOk.nil))))) Tryz.func106 (by kernel_rfl) (by kernel_rfl)
def s68 (D:Dyn)(n:Nat):Tb:=⟨X,[]⟩
def f68 (D:Dyn)(n:Nat)(vs:List AV)(H:AH):Option (AV×AH):=
 outR (hd vs fun a vs=>nl vs <|
 bV (xO a) fun b=>
 bV (fAd 5 b) fun c=>
 bV (ld1 c H) fun d=>
 bV (VG d H) fun e=>
 bV (qN .add (.int .i64 (.ofNat 8192)) e) fun f=>
 bV (some f) fun g=>some (.ret g,H))
def h68:Hint:=(.s .o (.s .o .o))
theorem zIg {D:Dyn}(hD:DG D)(n:Nat):FI 68 (f68 D n):=qQ (n:=n) (h:=h68) X_ok hD (SOk.nil) Tryz.func68 (by kernel_rfl) (by kernel_rfl)
def s105 (D:Dyn)(n:Nat):Tb:=⟨X,[]⟩
def f105 (D:Dyn)(n:Nat)(vs:List AV)(H:AH):Option (AV×AH):=
 outR (hd vs fun a vs=>hd vs fun b vs=>nl vs <|
 bA (bxV 72 b) H fun c H=>
 bV (xO a) fun d=>
 bV (fAd 3 d) fun e=>
 bV (ld1 e H) fun f=>
 bV (ldN 3 c H) fun g=>
 bA (u5 72 3 1 [(.int .i64 (.ofNat 0)),(.int .i64 (.ofNat 0)),(.int .u64 (.ofNat 0))] [(0,g)]) H fun h H=>
 bR (apP 72 3 24 f h H) fun i H=>
 bV (xO a) fun k=>
 bV (fAd 3 k) fun m=>
 bR (stN 1 m i H) fun o H=>
 some (.ret (.tuple []),H))
def h105:Hint:=(.s .o .o)
theorem zAj {D:Dyn}(hD:DG D)(n:Nat):FI 105 (f105 D n):=qQ (n:=n) (h:=h105) X_ok hD (SOk.nil) Tryz.func105 (by kernel_rfl) (by kernel_rfl)
def s166 (D:Dyn)(n:Nat):Tb:=⟨X,[(108,f108 D n)]⟩
def f166 (D:Dyn)(n:Nat)(vs:List AV)(H:AH):Option (AV×AH):=
 outR (hd vs fun a vs=>hd vs fun b vs=>hd vs fun c vs=>nl vs <|
 bA (bxV 133 a) H fun d H=>
 bA (bxV 133 c) H fun e H=>
 bR (f108 D n [b] H) fun f H=>
 bV (aun .not f) fun g=>
 jn (wnt g false (bV (fAd 0 d) fun h=>
 bV (ld1 h H) fun i=>
 bV (fAd 0 e) fun k=>
 bV (ld1 k H) fun m=>
 bV (QX .neq i m) fun o=>
 some (.norm [o],H)) (some (.norm [qL],H))) fun vs H=>hd vs fun p vs=>
 bV (pk3 (some g) (some (.bool true)) (some p)) fun r=>
 cnd r (bV (some (.bool false)) fun t=>some (.ret t,H))
 (bV (fAd 1 d) fun u=>
 bV (ld1 u H) fun v=>
 bV (lnSl v) fun w=>
 bV (qN .gtr w (.int .i64 (.ofNat 0))) fun x=>
 jn (wnt x true (bV (fAd 1 d) fun y=>
 bV (ld1 y H) fun z=>
 bV (qN .sub w (.int .i64 (.ofNat 1))) fun B=>
 bV (jW 1 z B) fun C=>
 bV (ld1 C H) fun E=>
 bV (kD .geq E b) fun F=>
 some (.norm [F],H)) (some (.norm [qL],H))) fun vs H=>hd vs fun G vs=>
 bV (pk3 (some x) (some G) (some (.bool false))) fun I=>
 cnd I (bV (some (.bool false)) fun J=>some (.ret J,H))
 (bV (fAd 1 e) fun K=>
 bV (ld1 K H) fun M=>
 bV (lnSl M) fun N=>
 bV (qN .eql N (.int .i64 (.ofNat 0))) fun O=>
 cnd O (bV (some (.bool true)) fun P=>some (.ret P,H))
 (bV (fAd 1 e) fun Q=>
 bV (ld1 Q H) fun R=>
 bV (jW 1 R (.int .i64 (.ofNat 0))) fun T=>
 bV (ld1 T H) fun U=>
 bV (kD .lss b U) fun V=>
 jn (wnt V false (bV (fAd 0 d) fun W=>
 bV (ld1 W H) fun Y=>
 some (.norm [Y],H)) (some (.norm [qL],H))) fun vs H=>hd vs fun Z vs=>
 jn (wnt Z true (bV (fAd 1 e) fun a0=>
 bV (ld1 a0 H) fun a1=>
 bV (jW 1 a1 (.int .i64 (.ofNat 0))) fun a2=>
 bV (ld1 a2 H) fun a3=>
 bV (kD .eql b a3) fun a4=>
 some (.norm [a4],H)) (some (.norm [qL],H))) fun vs H=>hd vs fun a5 vs=>
 jn (wnt V false (bV (pk3 (some Z) (some a5) (some (.bool false))) fun a6=>
 some (.norm [a6],H)) (some (.norm [qL],H))) fun vs H=>hd vs fun a7 vs=>
 bV (pk3 (some V) (some (.bool true)) (some a7)) fun a8=>
 bV (some a8) fun a9=>some (.ret a9,H)))))
def h166:Hint:=(.s .o (.s (.s .o (.cl (.s .o .o) .o)) (.s (.s .o (.s .o (.cl (.s .o .o) .o))) (.s (.s .o (.cl (.s .o .o) .o)) (.s .o .o)))))
theorem zET {D:Dyn}(hD:DG D)(n:Nat):FI 166 (f166 D n):=qQ (n:=n) (h:=h166) X_ok hD (sc (WB hD n) (SOk.nil)) Tryz.func166 (by kernel_rfl) (by kernel_rfl)
def s144 (D:Dyn)(n:Nat):Tb:=⟨X,[]⟩
def zEY (D:Dyn)(n:Nat)(vs:List AV)(H:AH):Rs:=
 hd vs fun a vs=>
 bV (some a) fun b=>some (.ret b,H)
def zEX (D:Dyn)(n:Nat)(vs:List AV)(H:AH):Rs:=
 hd vs fun a vs=>hd vs fun b vs=>
 bV (zCH X 37 a) fun c=>
 bV (lnSl a) fun d=>
 bV (qN .sub c d) fun e=>
 bV (qN .sub b e) fun f=>
 bV (qN .gtr f (.int .i64 (.ofNat 0))) fun g=>
 jn (cnd g (bV (zCH X 37 a) fun h=>
 bV (j6 1 a none (some h) none H) fun i=>
 bR (apZ 9 1 16 [(.str 0 0)] i f H) fun k H=>
 bV (lnSl a) fun m=>
 bV (j6 1 k none (some m) none H) fun o=>
 some (.norm [o],H))
 (some (.norm [a],H))) (zEY D n)
def f144 (D:Dyn)(n:Nat)(vs:List AV)(H:AH):Option (AV×AH):=
 outR (hd vs fun a vs=>hd vs fun b vs=>nl vs <|
 bV (qN .lss b (.int .i64 (.ofNat 0))) fun c=>
 jn (cnd c (none)
 (some (.norm [a,b],H))) (zEX D n))
def h144:Hint:=(.s .o (.s (.s .o (.c [0,1] .o .o)) (.s (.s .o (.s .o (.c [0] .o .o))) (.s .o .o))))
theorem zEZ {D:Dyn}(hD:DG D)(n:Nat):FI 144 (f144 D n):=qQ (n:=n) (h:=h144) X_ok hD (SOk.nil) Tryz.func144 (by kernel_rfl) (by kernel_rfl)
def s111 (D:Dyn)(n:Nat):Tb:=⟨X,[(144,f144 D n)]⟩
def zIA (D:Dyn)(n:Nat)(vs:List AV)(H:AH):Rs:=
 hd vs fun a vs=>hd vs fun b vs=>hd vs fun c vs=>hd vs fun d vs=>hd vs fun e vs=>
 bV (qN .add e (.int .i64 (.ofNat 1))) fun f=>
 some (.norm [a,b,c,d,f],H)
def zBC (D:Dyn)(n:Nat)(vs:List AV)(H:AH):Rs:=
 hd vs fun a vs=>hd vs fun b vs=>hd vs fun c vs=>hd vs fun d vs=>hd vs fun e vs=>
 bV (qN .lss e d) fun f=>
 cnd f (bV (jW 1 c e) fun g=>
 bV (ld1 g H) fun h=>
 bV (lnSl h) fun i=>
 bV (qN .add b i) fun k=>
 bV (qN .lss k (.int .i64 (.ofNat 0))) fun m=>
 jn (cnd m (none)
 (some (.norm [a,k,c,d,e],H))) (zIA D n))
 (some (.exit 0 [a,b],H))
def U4 (D:Dyn)(n:Nat)(vs:List AV)(H:AH):Rs:=
 hd vs fun a vs=>hd vs fun b vs=>hd vs fun c vs=>hd vs fun d vs=>
 bV (qN .lss d c) fun e=>
 cnd e (bV (jW 1 b d) fun f=>
 bV (ld1 f H) fun g=>
 bR (apP 9 1 16 a g H) fun h H=>
 bV (qN .add d (.int .i64 (.ofNat 1))) fun i=>
 some (.norm [h,b,c,i],H))
 (some (.exit 2 [a],H))
def zIC (D:Dyn)(n:Nat)(vs:List AV)(H:AH):Rs:=
 hd vs fun a vs=>
 bV (some a) fun b=>some (.ret b,H)
def zIB (D:Dyn)(n:Nat)(vs:List AV)(H:AH):Rs:=
 hd vs fun a vs=>hd vs fun b vs=>
 bR (f144 D n [.nilSlice,b] H) fun c H=>
 bV (lnSl a) fun d=>
 jb 2 (qU n (U4 D n) [c,a,d,(.int .i64 (.ofNat 0))] H) (zIC D n)
def f111 (D:Dyn)(n:Nat)(vs:List AV)(H:AH):Option (AV×AH):=
 outR (hd vs fun a vs=>nl vs <|
 bV (lnSl a) fun b=>
 jb 0 (qU n (zBC D n) [a,(.int .i64 (.ofNat 0)),a,b,(.int .i64 (.ofNat 0))] H) (zIB D n))
def h111:Hint:=(.s .o (.s .o (.s (.s .o (.b [0,3] (.l [0,3,9,10,11] (.s .o (.s (.cr .o .o) (.s (.b0 (.s .o (.s .o (.s .o (.c [0,3,9,10,11] .o .o))))) .o)))))) (.s .o (.s (.s .o (.b [6] (.l [6,25,26,27] (.s .o (.s (.cr .o .o) (.s (.b0 (.s .o .o)) .o)))))) (.s .o .o))))))
theorem KZ {D:Dyn}(hD:DG D)(n:Nat):FI 111 (f111 D n):=qQ (n:=n) (h:=h111) X_ok hD (sc (zEZ hD n) (SOk.nil)) Tryz.func111 (by kernel_rfl) (by kernel_rfl)
def s168 (D:Dyn)(n:Nat):Tb:=⟨X,[]⟩
def zEP (D:Dyn)(n:Nat)(vs:List AV)(H:AH):Rs:=
 hd vs fun a vs=>
 bV (some a) fun b=>some (.ret b,H)
def zEO (D:Dyn)(n:Nat)(vs:List AV)(H:AH):Rs:=
 hd vs fun a vs=>hd vs fun b vs=>
 bV (zCH X 77 a) fun c=>
 bV (lnSl a) fun d=>
 bV (qN .sub c d) fun e=>
 bV (qN .sub b e) fun f=>
 bV (qN .gtr f (.int .i64 (.ofNat 0))) fun g=>
 jn (cnd g (bV (zCH X 77 a) fun h=>
 bV (j6 3 a none (some h) none H) fun i=>
 bR (apZ 72 3 24 [(.int .i64 (.ofNat 0)),(.int .i64 (.ofNat 0)),(.int .u64 (.ofNat 0))] i f H) fun k H=>
 bV (lnSl a) fun m=>
 bV (j6 3 k none (some m) none H) fun o=>
 some (.norm [o],H))
 (some (.norm [a],H))) (zEP D n)
def f168 (D:Dyn)(n:Nat)(vs:List AV)(H:AH):Option (AV×AH):=
 outR (hd vs fun a vs=>hd vs fun b vs=>nl vs <|
 bV (qN .lss b (.int .i64 (.ofNat 0))) fun c=>
 jn (cnd c (none)
 (some (.norm [a,b],H))) (zEO D n))
def h168:Hint:=(.s .o (.s (.s .o (.c [0,1] .o .o)) (.s (.s .o (.s .o (.c [0] .o .o))) (.s .o .o))))
theorem zEQ {D:Dyn}(hD:DG D)(n:Nat):FI 168 (f168 D n):=qQ (n:=n) (h:=h168) X_ok hD (SOk.nil) Tryz.func168 (by kernel_rfl) (by kernel_rfl)
def s140 (D:Dyn)(n:Nat):Tb:=⟨X,[(168,f168 D n)]⟩
def zIr (D:Dyn)(n:Nat)(vs:List AV)(H:AH):Rs:=
 hd vs fun a vs=>hd vs fun b vs=>hd vs fun c vs=>hd vs fun d vs=>hd vs fun e vs=>
 bV (qN .add e (.int .i64 (.ofNat 1))) fun f=>
 some (.norm [a,b,c,d,f],H)
def zBx (D:Dyn)(n:Nat)(vs:List AV)(H:AH):Rs:=
 hd vs fun a vs=>hd vs fun b vs=>hd vs fun c vs=>hd vs fun d vs=>hd vs fun e vs=>
 bV (qN .lss e d) fun f=>
 cnd f (bV (jW 1 c e) fun g=>
 bV (ld1 g H) fun h=>
 bV (lnSl h) fun i=>
 bV (qN .add b i) fun k=>
 bV (qN .lss k (.int .i64 (.ofNat 0))) fun m=>
 jn (cnd m (none)
 (some (.norm [a,k,c,d,e],H))) (zIr D n))
 (some (.exit 0 [a,b],H))
def U0 (D:Dyn)(n:Nat)(vs:List AV)(H:AH):Rs:=
 hd vs fun a vs=>hd vs fun b vs=>hd vs fun c vs=>hd vs fun d vs=>
 bV (qN .lss d c) fun e=>
 cnd e (bV (jW 1 b d) fun f=>
 bV (ld1 f H) fun g=>
 bR (apP 72 3 24 a g H) fun h H=>
 bV (qN .add d (.int .i64 (.ofNat 1))) fun i=>
 some (.norm [h,b,c,i],H))
 (some (.exit 2 [a],H))
def zIt (D:Dyn)(n:Nat)(vs:List AV)(H:AH):Rs:=
 hd vs fun a vs=>
 bV (some a) fun b=>some (.ret b,H)
def zIs (D:Dyn)(n:Nat)(vs:List AV)(H:AH):Rs:=
 hd vs fun a vs=>hd vs fun b vs=>
 bR (f168 D n [.nilSlice,b] H) fun c H=>
 bV (lnSl a) fun d=>
 jb 2 (qU n (U0 D n) [c,a,d,(.int .i64 (.ofNat 0))] H) (zIt D n)
def f140 (D:Dyn)(n:Nat)(vs:List AV)(H:AH):Option (AV×AH):=
 outR (hd vs fun a vs=>nl vs <|
 bV (lnSl a) fun b=>
 jb 0 (qU n (zBx D n) [a,(.int .i64 (.ofNat 0)),a,b,(.int .i64 (.ofNat 0))] H) (zIs D n))
def h140:Hint:=(.s .o (.s .o (.s (.s .o (.b [0,3] (.l [0,3,9,10,11] (.s .o (.s (.cr .o .o) (.s (.b0 (.s .o (.s .o (.s .o (.c [0,3,9,10,11] .o .o))))) .o)))))) (.s .o (.s (.s .o (.b [6] (.l [6,25,26,27] (.s .o (.s (.cr .o .o) (.s (.b0 (.s .o .o)) .o)))))) (.s .o .o))))))
theorem zAf {D:Dyn}(hD:DG D)(n:Nat):FI 140 (f140 D n):=qQ (n:=n) (h:=h140) X_ok hD (sc (zEQ hD n) (SOk.nil)) Tryz.func140 (by kernel_rfl) (by kernel_rfl)
def s138 (D:Dyn)(n:Nat):Tb:=⟨X,[(107,f107 D n),(166,f166 D n),(111,f111 D n),(140,f140 D n)]⟩
def f138 (D:Dyn)(n:Nat)(vs:List AV)(H:AH):Option (AV×AH):=
 outR (hd vs fun a vs=>hd vs fun b vs=>hd vs fun c vs=>nl vs <|
 bA (bxV 133 a) H fun d H=>
 bA (bxV 133 c) H fun e H=>
 bA (bxV 133 (.agg [(.bool false), .nilSlice, .nilSlice, .nilSlice])) H fun f H=>
 bV (ldN 4 d H) fun g=>
 bR (f107 D n [g] H) fun h H=>
 bV (aun .not h) fun i=>
 jn (wnt i false (bV (ldN 4 e H) fun k=>
 bR (f107 D n [k] H) fun m H=>
 bV (aun .not m) fun o=>
 some (.norm [o],H)) (some (.norm [qL],H))) fun vs H=>hd vs fun p vs=>
 bV (pk3 (some i) (some (.bool true)) (some p)) fun r=>
 jn (wnt r false (bV (ldN 4 d H) fun t=>
 bV (ldN 4 e H) fun u=>
 bR (f166 D n [t,b,u] H) fun v H=>
 bV (aun .not v) fun w=>
 some (.norm [w],H)) (some (.norm [qL],H))) fun vs H=>hd vs fun x vs=>
 bV (pk3 (some r) (some (.bool true)) (some x)) fun y=>
 cnd y (bV (jT [(0,1),(1,1),(2,1),(3,1)] [(.bool false), .nilSlice, .nilSlice, .nilSlice] []) fun z=>
 bR (stN 4 f z H) fun B H=>
 bV (ldN 4 f H) fun C=>bV (some (.int .i64 (.ofNat 1))) fun E=>some (.ret (.tuple [C,E]),H))
 (bV (fAd 0 d) fun F=>
 bV (ld1 F H) fun G=>
 cnd G (bV (fAd 1 d) fun I=>
 bV (ld1 I H) fun J=>
 bV (fAd 1 e) fun K=>
 bV (ld1 K H) fun M=>
 bA (u5 37 1 2 [.nilSlice] [(0,J),(1,M)]) H fun N H=>
 bV (fAd 2 d) fun O=>
 bV (ld1 O H) fun P=>
 bV (fAd 2 e) fun Q=>
 bV (ld1 Q H) fun R=>
 bA (u5 37 1 2 [.nilSlice] [(0,P),(1,R)]) H fun T H=>
 bR (f111 D n [N] H) fun U H=>chk (ld1 O H) P <| chk (ld1 Q H) R <|
 bR (f111 D n [T] H) fun V H=>
 bV (jT [(0,1),(1,1),(2,1),(3,1)] [(.bool false), .nilSlice, .nilSlice, .nilSlice] [(0,(.bool true)),(1,U),(2,V)]) fun W=>
 bR (stN 4 f W H) fun Y H=>
 bV (ldN 4 f H) fun Z=>bV (some (.int .i64 (.ofNat 0))) fun a0=>some (.ret (.tuple [Z,a0]),H))
 (bV (fAd 1 d) fun a1=>
 bV (ld1 a1 H) fun a2=>
 bA (u5 9 1 1 [(.str 0 0)] [(0,b)]) H fun a3 H=>
 bV (fAd 1 e) fun a4=>
 bV (ld1 a4 H) fun a5=>
 bA (u5 37 1 3 [.nilSlice] [(0,a2),(1,a3),(2,a5)]) H fun a6 H=>
 bV (fAd 3 d) fun a7=>
 bV (ld1 a7 H) fun a8=>
 bV (fAd 3 e) fun a9=>
 bV (ld1 a9 H) fun b0=>
 bA (u5 77 1 2 [.nilSlice] [(0,a8),(1,b0)]) H fun b1 H=>
 bR (f111 D n [a6] H) fun b2 H=>chk (ld1 a7 H) a8 <| chk (ld1 a9 H) b0 <|
 bR (f140 D n [b1] H) fun b3 H=>
 bV (jT [(0,1),(1,1),(2,1),(3,1)] [(.bool false), .nilSlice, .nilSlice, .nilSlice] [(1,b2),(3,b3)]) fun b4=>
 bR (stN 4 f b4 H) fun b5 H=>
 bV (ldN 4 f H) fun b6=>bV (some (.int .i64 (.ofNat 0))) fun b7=>some (.ret (.tuple [b6,b7]),H))))
def h138:Hint:=(.s .o (.s (.s .o (.cl (.s .o .o) .o)) (.s (.s .o (.cl (.s .o .o) .o)) (.s .o .o))))
theorem zF0 {D:Dyn}(hD:DG D)(n:Nat):FI 138 (f138 D n):=qQ (n:=n) (h:=h138) X_ok hD (sc (QO hD n) (sc (zET hD n) (sc (KZ hD n) (sc (zAf hD n) (SOk.nil))))) Tryz.func138 (by kernel_rfl) (by kernel_rfl)
def s104 (D:Dyn)(n:Nat):Tb:=⟨X,[(123,f123 D n),(69,f69 D n),(105,f105 D n),(138,f138 D n),(139,f139 D n),(111,f111 D n),(141,f141 D n),(140,f140 D n)]⟩
def zFd (D:Dyn)(n:Nat)(vs:List AV)(H:AH):Rs:=
 hd vs fun a vs=>hd vs fun b vs=>hd vs fun c vs=>hd vs fun d vs=>hd vs fun e vs=>hd vs fun f vs=>hd vs fun g vs=>
 bV (qN .neq g (.int .i64 (.ofNat 0))) fun h=>
 cnd h (bV (jT [(0,1),(1,1),(2,1),(3,1)] [(.bool false), .nilSlice, .nilSlice, .nilSlice] []) fun i=>
 bR (stN 4 d i H) fun k H=>
 bV (ldN 4 d H) fun m=>bV (some (.int .i64 (.ofNat 4))) fun o=>some (.ret (.tuple [m,o]),H))
 (some (.norm [a,b,c,d,e,f],H))
def zFc (D:Dyn)(n:Nat)(vs:List AV)(H:AH):Rs:=
 hd vs fun a vs=>hd vs fun b vs=>hd vs fun c vs=>hd vs fun d vs=>hd vs fun e vs=>hd vs fun f vs=>
 bV (xO a) fun g=>
 bV (fAd 0 g) fun h=>
 bV (ld1 h H) fun i=>
 bV (fAd 3 c) fun k=>
 bV (ld1 k H) fun m=>
 bV (jW 3 m f) fun o=>
 bV (ldN 3 o H) fun p=>
 bA (bxV 133 (.agg [(.bool false), .nilSlice, .nilSlice, .nilSlice])) H fun r H=>
 bR (f69 D n [i,p] H) fun t H=>
 bV (qJ t 0) fun u=>
 bV (qJ t 1) fun v=>
 bR (stN 4 r u H) fun w H=>
 bV (qN .neq v (.int .i64 (.ofNat 0))) fun x=>
 cnd x (bV (jT [(0,1),(1,1),(2,1),(3,1)] [(.bool false), .nilSlice, .nilSlice, .nilSlice] []) fun y=>
 bR (stN 4 e y H) fun z H=>
 bV (ldN 4 e H) fun B=>bV (some v) fun C=>some (.ret (.tuple [B,C]),H))
 (bV (fAd 3 c) fun E=>
 bV (ld1 E H) fun F=>
 bV (jW 3 F f) fun G=>
 bV (ldN 3 G H) fun I=>
 bR (f105 D n [a,I] H) fun J H=>
 bV (mn2 b f) fun K=>
 bV (mx2 b f) fun M=>
 bV (qN .add M (.int .i64 (.ofNat 1))) fun N=>
 bV (qN .lss f b) fun O=>
 jn (cnd O (bV (ldN 4 r H) fun P=>
 bV (fAd 1 c) fun Q=>
 bV (ld1 Q H) fun R=>
 bV (jW 1 R K) fun T=>
 bV (ld1 T H) fun U=>
 bV (ldN 4 d H) fun V=>
 bR (f138 D n [P,U,V] H) fun W H=>
 bV (qJ W 0) fun Y=>
 bV (qJ W 1) fun Z=>
 bR (stN 4 d Y H) fun a0 H=>
 some (.norm [a,c,d,e,K,N,Z],H))
 (bV (ldN 4 d H) fun a1=>
 bV (fAd 1 c) fun a2=>
 bV (ld1 a2 H) fun a3=>
 bV (jW 1 a3 K) fun a4=>
 bV (ld1 a4 H) fun a5=>
 bV (ldN 4 r H) fun a6=>
 bR (f138 D n [a1,a5,a6] H) fun a7 H=>
 bV (qJ a7 0) fun a8=>
 bV (qJ a7 1) fun a9=>
 bR (stN 4 d a8 H) fun b0 H=>
 some (.norm [a,c,d,e,K,N,a9],H))) (zFd D n))
def U7 (D:Dyn)(n:Nat)(vs:List AV)(H:AH):Rs:=
 hd vs fun a vs=>hd vs fun b vs=>hd vs fun c vs=>hd vs fun d vs=>hd vs fun e vs=>hd vs fun f vs=>
 bV (ldN 4 c H) fun g=>
 bR (f139 D n [g] H) fun h H=>
 bV (qJ h 0) fun i=>
 bV (qJ h 1) fun k=>
 bV (qJ h 2) fun m=>
 bV (qN .neq m (.int .i64 (.ofNat 0))) fun o=>
 cnd o (bV (jT [(0,1),(1,1),(2,1),(3,1)] [(.bool false), .nilSlice, .nilSlice, .nilSlice] []) fun p=>
 bR (stN 4 d p H) fun r H=>
 bV (ldN 4 d H) fun t=>bV (some m) fun u=>some (.ret (.tuple [t,u]),H))
 (bV (fAd 1 b) fun v=>
 bV (ld1 v H) fun w=>
 bV (j6 1 w none (some e) (some e) H) fun x=>
 bV (fAd 1 b) fun y=>
 bV (ld1 y H) fun z=>
 bV (qN .sub f (.int .i64 (.ofNat 1))) fun B=>
 bV (j6 1 z (some B) none none H) fun C=>
 bA (u5 37 1 3 [.nilSlice] [(0,x),(1,k),(2,C)]) H fun E H=>
 bV (fAd 3 b) fun F=>
 bV (ld1 F H) fun G=>
 bV (j6 3 G none (some e) (some e) H) fun I=>
 bV (fAd 3 b) fun J=>
 bV (ld1 J H) fun K=>
 bV (j6 3 K (some f) none none H) fun M=>
 bR (f111 D n [E] H) fun N H=>chk (ld1 F H) G <| chk (j6 3 G none (some e) (some e) H) I <| chk (ld1 J H) K <| chk (j6 3 K (some f) none none H) M <|
 bR (f141 D n [a,i] H) fun O H=>chk (ld1 F H) G <| chk (j6 3 G none (some e) (some e) H) I <| chk (ld1 J H) K <| chk (j6 3 K (some f) none none H) M <|
 bA (u5 77 1 3 [.nilSlice] [(0,I),(1,O),(2,M)]) H fun P H=>
 bR (f140 D n [P] H) fun Q H=>
 bV (jT [(0,1),(1,1),(2,1),(3,1)] [(.bool false), .nilSlice, .nilSlice, .nilSlice] [(1,N),(3,Q)]) fun R=>
 bR (stN 4 d R H) fun T H=>
 bV (ldN 4 d H) fun U=>bV (some (.int .i64 (.ofNat 0))) fun V=>some (.ret (.tuple [U,V]),H))
def f104 (D:Dyn)(n:Nat)(vs:List AV)(H:AH):Option (AV×AH):=
 outR (hd vs fun a vs=>hd vs fun b vs=>hd vs fun c vs=>hd vs fun d vs=>nl vs <|
 bA (bxV 133 b) H fun e H=>
 bA (bxV 133 d) H fun f H=>
 bA (bxV 133 (.agg [(.bool false), .nilSlice, .nilSlice, .nilSlice])) H fun g H=>
 bV (qN .add c (.int .i64 (.ofNat 1))) fun h=>
 bV (ldN 4 f H) fun i=>
 bR (f123 D n [i] H) fun k H=>
 bV (qN .lss k (.int .i64 (.ofNat 160))) fun m=>
 jn (cnd m (bV (qN .sub c (.int .i64 (.ofNat 1))) fun o=>
 bV (qN .eql c (.int .i64 (.ofNat 0))) fun p=>
 jn (cnd p (some (.norm [a,c,e,f,g,(.int .i64 (.ofNat 1))],H))
 (some (.norm [a,c,e,f,g,o],H))) (zFc D n))
 (some (.norm [a,e,f,g,c,h],H))) (U7 D n))
def h104:Hint:=(.s .o (.s .o (.s (.s .o (.c [0,5,7,8,10,11] (.s .o (.s (.s .o (.c [0,2,5,7,8,12] .o .o)) (.s .o (.s (.s .o (.cl (.s .o .o) .o)) (.s .o (.s .o (.s (.s .o (.c [0,5,7,8,10,11,14] .o .o)) (.s .o (.cl (.s .o .o) .o))))))))) .o)) (.s .o (.s (.s .o (.cl (.s .o .o) .o)) (.s .o .o))))))
theorem zFe {D:Dyn}(hD:DG D)(n:Nat):FI 104 (f104 D n):=qQ (n:=n) (h:=h104) X_ok hD (sc (KY hD n) (sc (zBo hD n) (sc (zAj hD n) (sc (zF0 hD n) (sc (zAg hD n) (sc (KZ hD n) (sc (zAe hD n) (sc (zAf hD n) (SOk.nil))))))))) Tryz.func104 (by kernel_rfl) (by kernel_rfl)
def zKs (D:Dyn)(n:Nat):Tb:=⟨X,[(68,f68 D n),(69,f69 D n),(70,f70 D n),(104,f104 D n),(105,f105 D n)]⟩
def U8 (D:Dyn)(n:Nat)(vs:List AV)(H:AH):Rs:=
 hd vs fun a vs=>hd vs fun b vs=>hd vs fun c vs=>hd vs fun d vs=>hd vs fun e vs=>
 some (.norm [a,b,c,d,e],H)
def aK (D:Dyn)(n:Nat)(vs:List AV)(H:AH):Rs:=
 hd vs fun a vs=>hd vs fun b vs=>hd vs fun c vs=>hd vs fun d vs=>hd vs fun e vs=>
 bV (qN .neq e (.int .i64 (.ofNat 0))) fun f=>
 cnd f (bV (jT [(0,1),(1,1),(2,1),(3,1)] [(.bool false), .nilSlice, .nilSlice, .nilSlice] []) fun g=>
 bR (stN 4 c g H) fun h H=>
 bV (ldN 4 c H) fun i=>bV (some e) fun k=>some (.ret (.tuple [i,k]),H))
 (bV (ld1 a H) fun m=>
 bV (ldN 3 b H) fun o=>
 bR (f105 D n [m,o] H) fun p H=>
 bV (ldN 4 d H) fun r=>
 bR (stN 4 c r H) fun t H=>
 bV (ldN 4 c H) fun u=>bV (some (.int .i64 (.ofNat 0))) fun v=>some (.ret (.tuple [u,v]),H))
def f103 (D:Dyn)(n:Nat)(vs:List AV)(H:AH):Option (AV×AH):=
 outR (hd vs fun a vs=>hd vs fun b vs=>hd vs fun c vs=>hd vs fun d vs=>hd vs fun e vs=>hd vs fun f vs=>hd vs fun g vs=>nl vs <|
 bA (bxV 72 a) H fun h H=>
 bA (bxV 133 (.agg [(.bool false), .nilSlice, .nilSlice, .nilSlice])) H fun i H=>
 bV (ld1 b H) fun k=>
 bV (qN .add k (.int .i64 (.ofNat 1))) fun m=>
 bR (stN 1 b m H) fun o H=>
 bV (ld1 b H) fun p=>
 bV (ld1 c H) fun r=>
 bR (f68 D n [r] H) fun t H=>chk (ld1 b H) p <|
 bV (qN .gtr p t) fun u=>
 cnd u (bV (jT [(0,1),(1,1),(2,1),(3,1)] [(.bool false), .nilSlice, .nilSlice, .nilSlice] []) fun v=>
 bR (stN 4 i v H) fun w H=>
 bV (ldN 4 i H) fun x=>bV (some (.int .i64 (.ofNat 4))) fun y=>some (.ret (.tuple [x,y]),H))
 (bV (ld1 c H) fun z=>
 bV (ldN 3 h H) fun B=>
 bR (f69 D n [z,B] H) fun C H=>
 bV (qJ C 0) fun E=>
 bV (qJ C 1) fun F=>
 bA (bxV 133 (.agg [(.bool false), .nilSlice, .nilSlice, .nilSlice])) H fun G H=>
 bR (stN 4 G E H) fun I H=>
 bV (qN .neq F (.int .i64 (.ofNat 0))) fun J=>
 cnd J (bV (jT [(0,1),(1,1),(2,1),(3,1)] [(.bool false), .nilSlice, .nilSlice, .nilSlice] []) fun K=>
 bR (stN 4 i K H) fun M H=>
 bV (ldN 4 i H) fun N=>bV (some F) fun O=>some (.ret (.tuple [N,O]),H))
 (bV (fAd 0 G) fun P=>
 bV (ld1 P H) fun Q=>
 jn (cnd Q (bV (ld1 d H) fun R=>
 bV (ldN 4 G H) fun T=>
 bR (callV (zKs D n).S D R [T] H) fun U H=>
 bV (qJ U 0) fun V=>
 bV (qJ U 1) fun W=>
 bR (stN 4 G V H) fun Y H=>
 some (.norm [g,h,i,G,W],H))
 (bV (ldN 4 G H) fun Z=>
 bV (ld1 e H) fun a0=>
 bR (f70 D n [Z,a0] H) fun a1 H=>
 bA (bxV 133 (.agg [(.bool false), .nilSlice, .nilSlice, .nilSlice])) H fun a2 H=>
 bV (ld1 f H) fun a3=>
 bV (fAd 3 G) fun a4=>
 bV (ld1 a4 H) fun a5=>
 bV (jW 3 a5 a1) fun a6=>
 bV (ldN 3 a6 H) fun a7=>
 bR (callV (zKs D n).S D a3 [a7] H) fun a8 H=>
 bV (qJ a8 0) fun a9=>
 bV (qJ a8 1) fun b0=>
 bR (stN 4 a2 a9 H) fun b1 H=>
 bV (qN .eql b0 (.int .i64 (.ofNat 0))) fun b2=>
 jn (cnd b2 (bV (ld1 g H) fun b3=>
 bV (ldN 4 G H) fun b4=>
 bV (ldN 4 a2 H) fun b5=>
 bR (f104 D n [b3,b4,a1,b5] H) fun b6 H=>
 bV (qJ b6 0) fun b7=>
 bV (qJ b6 1) fun b8=>
 bR (stN 4 G b7 H) fun b9 H=>
 some (.norm [g,h,i,G,b8],H))
 (some (.norm [g,h,i,G,b0],H))) (U8 D n))) (aK D n))))
def h103:Hint:=(.s .o (.s (.s .o (.s .o (.cl (.s .o .o) .o))) (.s .o (.s (.s .o (.cl (.s .o .o) .o)) (.s (.s .o (.c [6,7,8,10,11] .o (.s .o (.s .o (.s .o (.s .o (.c [6,7,8,10,11] .o .o))))))) (.s (.s .o (.cl (.s .o .o) .o)) (.s .o (.s .o .o))))))))
theorem zJV {D:Dyn}(hD:DG D)(n:Nat):FI 103 (f103 D n):=qQ (n:=n) (h:=h103) X_ok hD (sc (zIg hD n) (sc (zBo hD n) (sc (QK hD n) (sc (zFe hD n) (sc (zAj hD n) (SOk.nil)))))) Tryz.func103 (by kernel_rfl) (by kernel_rfl)
def s63 (D:Dyn)(n:Nat):Tb:=⟨X,[(102,f102 D n),(101,f101 D n),(106,f106 D n)]⟩
def f63 (D:Dyn)(n:Nat)(vs:List AV)(H:AH):Option (AV×AH):=
 outR (hd vs fun a vs=>hd vs fun b vs=>hd vs fun c vs=>nl vs <|
 bA (bxV 22 a) H fun d H=>
 bA (bxV 9 b) H fun e H=>
 bA (bxV 136 c) H fun f H=>
 bV (ld1 d H) fun g=>
 bV (ld1 d H) fun h=>
 bV (xO h) fun i=>
 bV (fAd 6 i) fun k=>
 bV (ld1 k H) fun m=>
 bA (mkM [10]) H fun o H=>
 bV (jT [(0,1),(1,1),(2,1),(3,1)] [.nilPtr,(.int .u64 (.ofNat 0)), .nilMap, .nilSlice] [(0,g),(1,m),(2,o)]) fun p=>
 bA (bxV 209 p) H fun r H=>
 bA (bxV 207 .nilPtr) H fun t H=>
 bR (stN 1 t r H) fun u H=>
 bV (ld1 d H) fun v=>
 bV (xO v) fun w=>
 bV (fAd 2 w) fun x=>
 bV (fAd 0 x) fun y=>
 bV (ld1 y H) fun z=>
 bV (qN .eql z (.int .i64 (.ofNat 0))) fun B=>
 cnd B (bV (ld1 f H) fun C=>
 bV (jT [(0,1),(1,1),(2,1),(3,1)] [(.bool false), .nilSlice, .nilSlice, .nilSlice] [(0,(.bool true))]) fun E=>
 bR (callV (s63 D n).S D C [E] H) fun F H=>
 bV (qJ F 0) fun G=>
 bV (qJ F 1) fun I=>
 bA (bxV 133 (.agg [(.bool false), .nilSlice, .nilSlice, .nilSlice])) H fun J H=>
 bR (stN 4 J G H) fun K H=>
 bV (qN .neq I (.int .i64 (.ofNat 0))) fun M=>
 cnd M (bV (some I) fun N=>some (.ret N,H))
 (bV (ld1 t H) fun O=>
 bV (ld1 t H) fun P=>
 bV (ldN 4 J H) fun Q=>
 bR (f102 D n [P,Q] H) fun R H=>chk (ld1 t H) O <|
 bR (f101 D n [O,R] H) fun T H=>
 bV (some (.int .i64 (.ofNat 0))) fun U=>some (.ret U,H)))
 (bA (bxV 3 (.int .i64 (.ofNat 0))) H fun V H=>
 bR (stN 1 V (.int .i64 (.ofNat 0)) H) fun W H=>
 bA (bxV 142 .nilFunc) H fun Y H=>
 bR (stN 1 Y (.func 103 [] [V,d,f,e,Y,t]) H) fun Z H=>
 bV (ld1 Y H) fun a0=>
 bV (ld1 d H) fun a1=>
 bV (xO a1) fun a2=>
 bV (fAd 2 a2) fun a3=>
 bV (ldN 3 a3 H) fun a4=>
 bA (bxV 133 (.agg [(.bool false), .nilSlice, .nilSlice, .nilSlice])) H fun a5 H=>
 bR (callV (s63 D n).S D a0 [a4] H) fun a6 H=>
 bV (qJ a6 0) fun a7=>
 bV (qJ a6 1) fun a8=>
 bR (stN 4 a5 a7 H) fun a9 H=>
 bV (qN .neq a8 (.int .i64 (.ofNat 0))) fun b0=>
 cnd b0 (bV (some a8) fun b1=>some (.ret b1,H))
 (bV (ld1 t H) fun b2=>
 bV (ldN 4 a5 H) fun b3=>
 bR (f106 D n [b2,b3] H) fun b4 H=>
 bV (some b4) fun b5=>some (.ret b5,H))))
def h63:Hint:=(.s .o (.s .o (.s (.s .o (.cl (.s .o (.s (.s .o (.cl (.s .o .o) .o)) (.s .o (.s .o .o)))) .o)) (.s .o (.s .o (.s .o (.s .o (.s (.s .o (.cl (.s .o .o) .o)) (.s .o .o)))))))))
theorem zEI {D:Dyn}(hD:DG D)(n:Nat):FI 63 (f63 D n):=qQ (n:=n) (h:=h63) X_ok hD (sc (WC hD n) (sc (zAk hD n) (sc (zFb hD n) (SOk.nil)))) Tryz.func63 (by kernel_rfl) (by kernel_rfl)
end Go.Eng.Sh
end
end
section
noncomputable section
namespace Go.Eng.Sh
open Go.Proofs
set_option maxRecDepth 100000
def s110 (D:Dyn)(n:Nat):Tb:=⟨X,[]⟩
def f110 (D:Dyn)(n:Nat)(vs:List AV)(H:AH):Option (AV×AH):=
 outR (hd vs fun a vs=>hd vs fun b vs=>hd vs fun c vs=>nl vs <|
 bV (j6 1 a (some b) none none H) fun d=>
 bV (lnSl c) fun e=>
 bV (qN .eql e (.int .i64 (.ofNat 0))) fun f=>
 cnd f (bV (some a) fun g=>some (.ret g,H))
 (bV (lnSl a) fun h=>
 bV (qN .eql b h) fun i=>
 cnd i (bR (apP 9 1 16 a c H) fun k H=>
 bV (some k) fun m=>some (.ret m,H))
 (bV (qN .add h e) fun o=>
 bV (zCH X 37 a) fun p=>
 bV (qN .gtr o p) fun r=>
 cnd r (bV (j6 1 a none (some b) none H) fun t=>
 bV (qN .add h e) fun u=>
 bV (qN .sub u b) fun v=>
 bR (apZ 9 1 16 [(.str 0 0)] t v H) fun w H=>
 bV (j6 1 w (some b) none none H) fun x=>
 bR (cpy 1 x c H) fun y H=>
 bV (qN .add b e) fun z=>
 bV (j6 1 w (some z) none none H) fun B=>
 bV (j6 1 a (some b) none none H) fun C=>
 bR (cpy 1 B C H) fun E H=>
 bV (some w) fun F=>some (.ret F,H))
 (bV (qN .add h e) fun G=>
 bV (j6 1 a none (some G) none H) fun I=>
 bV (qN .add b e) fun J=>
 bV (j6 1 I (some J) none none H) fun K=>
 bR (D.fn 142 [c,K] H) fun M H=>
 bV (aun .not M) fun N=>
 cnd N (bV (qN .add b e) fun O=>
 bV (j6 1 I (some O) none none H) fun P=>
 bV (j6 1 I (some b) none none H) fun Q=>
 bR (cpy 1 P Q H) fun R H=>
 bV (j6 1 I (some b) none none H) fun T=>
 bR (cpy 1 T c H) fun U H=>
 bV (some I) fun V=>some (.ret V,H))
 (bV (j6 1 I (some h) none none H) fun W=>
 bR (cpy 1 W c H) fun Y H=>
 bV (j6 1 I (some b) none none H) fun Z=>
 bR (D.fn 143 [Z,e] H) fun a0 H=>
 bV (some I) fun a1=>some (.ret a1,H))))))
def h110:Hint:=(.s .o (.s .o (.s .o (.s (.s .o (.cl (.s .o .o) .o)) (.s .o (.s (.s .o (.cl (.s .o .o) .o)) (.s (.s .o (.cl (.s .o (.s .o (.s .o (.s .o .o)))) .o)) (.s .o (.s (.s .o (.cl (.s .o (.s .o (.s .o .o))) .o)) (.s .o (.s .o (.s .o .o))))))))))))
theorem zJU {D:Dyn}(hD:DG D)(n:Nat):FI 110 (f110 D n):=qQ (n:=n) (h:=h110) X_ok hD (SOk.nil) Tryz.func110 (by kernel_rfl) (by kernel_rfl)
def zKw (D:Dyn)(n:Nat)(vs:List AV)(H:AH):Option (AV×AH):=zJH (f110 D n) vs H
theorem zEb {D:Dyn}(hD:DG D)(n:Nat):FI 110 (zKw D n):=zJG (by kernel_rfl) (zJU hD n)
def s65 (D:Dyn)(n:Nat):Tb:=⟨X,[(107,f107 D n),(108,f108 D n),(109,f109 D n),(70,f70 D n),(110,zKw D n)]⟩
def f65 (D:Dyn)(n:Nat)(vs:List AV)(H:AH):Option (AV×AH):=
 outR (hd vs fun a vs=>hd vs fun b vs=>hd vs fun c vs=>nl vs <|
 bA (bxV 133 a) H fun d H=>
 bA (bxV 133 (.agg [(.bool false), .nilSlice, .nilSlice, .nilSlice])) H fun e H=>
 bV (ldN 4 d H) fun f=>
 bR (f107 D n [f] H) fun g H=>
 bV (aun .not g) fun h=>
 jn (wnt h false (bV (fAd 0 d) fun i=>
 bV (ld1 i H) fun k=>
 bV (aun .not k) fun m=>
 some (.norm [m],H)) (some (.norm [qL],H))) fun vs H=>hd vs fun o vs=>
 bV (pk3 (some h) (some (.bool true)) (some o)) fun p=>
 jn (wnt p false (bR (f108 D n [b] H) fun r H=>
 bV (aun .not r) fun t=>
 some (.norm [t],H)) (some (.norm [qL],H))) fun vs H=>hd vs fun u vs=>
 bV (pk3 (some p) (some (.bool true)) (some u)) fun v=>
 jn (wnt v false (bV (kJ c) fun w=>
 bV (qN .gtr w (.int .i64 (.ofNat 200))) fun x=>
 some (.norm [x],H)) (some (.norm [qL],H))) fun vs H=>hd vs fun y vs=>
 bV (pk3 (some v) (some (.bool true)) (some y)) fun z=>
 cnd z (bV (jT [(0,1),(1,1),(2,1),(3,1)] [(.bool false), .nilSlice, .nilSlice, .nilSlice] []) fun B=>
 bR (stN 4 e B H) fun C H=>
 bV (ldN 4 e H) fun E=>bV (some (.int .i64 (.ofNat 1))) fun F=>some (.ret (.tuple [E,F]),H))
 (bV (fAd 1 d) fun G=>
 bV (ld1 G H) fun I=>
 bV (fAd 2 d) fun J=>
 bV (ld1 J H) fun K=>
 bA (bxV 133 (.agg [(.bool false), .nilSlice, .nilSlice, .nilSlice])) H fun M H=>
 bR (f109 D n [I] H) fun N H=>chk (ld1 J H) K <|
 bR (f109 D n [K] H) fun O H=>
 bV (jT [(0,1),(1,1),(2,1),(3,1)] [(.bool false), .nilSlice, .nilSlice, .nilSlice] [(0,(.bool true)),(1,N),(2,O)]) fun P=>
 bR (stN 4 M P H) fun Q H=>
 bV (ldN 4 d H) fun R=>
 bR (f70 D n [R,b] H) fun T H=>
 bV (fAd 1 d) fun U=>
 bV (ld1 U H) fun V=>
 bV (lnSl V) fun W=>
 bV (qN .lss T W) fun Y=>
 jn (wnt Y true (bV (fAd 1 d) fun Z=>
 bV (ld1 Z H) fun a0=>
 bV (jW 1 a0 T) fun a1=>
 bV (ld1 a1 H) fun a2=>
 bV (kD .eql a2 b) fun a3=>
 some (.norm [a3],H)) (some (.norm [qL],H))) fun vs H=>hd vs fun a4 vs=>
 bV (pk3 (some Y) (some a4) (some (.bool false))) fun a5=>
 cnd a5 (bV (fAd 2 M) fun a6=>
 bV (ld1 a6 H) fun a7=>
 bV (jW 1 a7 T) fun a8=>
 bR (stN 1 a8 c H) fun a9 H=>
 bV (ldN 4 M H) fun b0=>
 bR (stN 4 e b0 H) fun b1 H=>
 bV (ldN 4 e H) fun b2=>bV (some (.int .i64 (.ofNat 0))) fun b3=>some (.ret (.tuple [b2,b3]),H))
 (bV (fAd 1 M) fun b4=>
 bV (ld1 b4 H) fun b5=>
 bA (u5 9 1 1 [(.str 0 0)] [(0,b)]) H fun b6 H=>
 bR (zKw D n [b5,T,b6] H) fun b7 H=>
 bV (fAd 1 M) fun b8=>
 bR (stN 1 b8 b7 H) fun b9 H=>
 bV (fAd 2 M) fun c0=>
 bV (ld1 c0 H) fun c1=>
 bA (u5 9 1 1 [(.str 0 0)] [(0,c)]) H fun c2 H=>
 bR (zKw D n [c1,T,c2] H) fun c3 H=>
 bV (fAd 2 M) fun c4=>
 bR (stN 1 c4 c3 H) fun c5 H=>
 bV (ldN 4 M H) fun c6=>
 bR (stN 4 e c6 H) fun c7 H=>
 bV (ldN 4 e H) fun c8=>bV (some (.int .i64 (.ofNat 0))) fun c9=>some (.ret (.tuple [c8,c9]),H))))
def h65:Hint:=(.s .o (.s (.s .o (.cl (.s .o .o) .o)) (.s .o (.s .o (.s (.s .o (.cl (.s .o (.s .o .o)) .o)) (.s .o (.s .o (.s .o .o))))))))
theorem zIi {D:Dyn}(hD:DG D)(n:Nat):FI 65 (f65 D n):=qQ (n:=n) (h:=h65) X_ok hD (sc (QO hD n) (sc (WB hD n) (sc (WA hD n) (sc (QK hD n) (sc (zEb hD n) (SOk.nil)))))) Tryz.func65 (by kernel_rfl) (by kernel_rfl)
def s64 (D:Dyn)(n:Nat):Tb:=⟨X,[(65,f65 D n)]⟩
def f64 (D:Dyn)(n:Nat)(vs:List AV)(H:AH):Option (AV×AH):=
 outR (hd vs fun a vs=>hd vs fun b vs=>hd vs fun c vs=>nl vs <|
 bA (bxV 133 a) H fun d H=>
 bA (bxV 133 (.agg [(.bool false), .nilSlice, .nilSlice, .nilSlice])) H fun e H=>
 bV (ldN 4 d H) fun f=>
 bV (ld1 b H) fun g=>
 bV (ld1 c H) fun h=>
 bR (f65 D n [f,g,h] H) fun i H=>
 bV (qJ i 0) fun k=>
 bV (qJ i 1) fun m=>
 bR (stN 4 e k H) fun o H=>
 bV (ldN 4 e H) fun p=>bV (some m) fun r=>some (.ret (.tuple [p,r]),H))
def h64:Hint:=(.s .o (.s .o .o))
theorem zLN {D:Dyn}(hD:DG D)(n:Nat):FI 64 (f64 D n):=qQ (n:=n) (h:=h64) X_ok hD (sc (zIi hD n) (SOk.nil)) Tryz.func64 (by kernel_rfl) (by kernel_rfl)
def s20 (D:Dyn)(n:Nat):Tb:=⟨X,[(62,f62 D n),(63,f63 D n)]⟩
def f20 (D:Dyn)(n:Nat)(vs:List AV)(H:AH):Option (AV×AH):=
 outR (hd vs fun a vs=>hd vs fun b vs=>hd vs fun c vs=>nl vs <|
 bA (bxV 9 b) H fun d H=>
 bA (bxV 9 c) H fun e H=>
 bR (f62 D n [a] H) fun f H=>
 cnd f (bV (some (.int .i64 (.ofNat 2))) fun g=>some (.ret g,H))
 (bV (ld1 d H) fun h=>
 bV (kJ h) fun i=>
 bV (qN .lss i (.int .i64 (.ofNat 1))) fun k=>
 jn (wnt k false (bV (ld1 d H) fun m=>
 bV (kJ m) fun o=>
 bV (qN .gtr o (.int .i64 (.ofNat 40))) fun p=>
 some (.norm [p],H)) (some (.norm [qL],H))) fun vs H=>hd vs fun r vs=>
 bV (pk3 (some k) (some (.bool true)) (some r)) fun t=>
 jn (wnt t false (bV (ld1 e H) fun u=>
 bV (kJ u) fun v=>
 bV (qN .gtr v (.int .i64 (.ofNat 200))) fun w=>
 some (.norm [w],H)) (some (.norm [qL],H))) fun vs H=>hd vs fun x vs=>
 bV (pk3 (some t) (some (.bool true)) (some x)) fun y=>
 cnd y (bV (some (.int .i64 (.ofNat 1))) fun z=>some (.ret z,H))
 (bV (ld1 d H) fun B=>
 bR (f63 D n [a,B,(.func 64 [] [d,e])] H) fun C H=>
 bV (some C) fun E=>some (.ret E,H))))
def h20:Hint:=(.s .o (.s (.s .o (.cl (.s .o .o) .o)) (.s (.s .o (.cl (.s .o .o) .o)) (.s .o .o))))
theorem zIo {D:Dyn}(hD:DG D)(n:Nat):FI 20 (f20 D n):=qQ (n:=n) (h:=h20) X_ok hD (sc (JF hD n) (sc (zEI hD n) (SOk.nil))) Tryz.func20 (by kernel_rfl) (by kernel_rfl)
def s87 (D:Dyn)(n:Nat):Tb:=⟨X,[]⟩
def f87 (D:Dyn)(n:Nat)(vs:List AV)(H:AH):Option (AV×AH):=
 outR (hd vs fun a vs=>hd vs fun b vs=>hd vs fun c vs=>hd vs fun d vs=>nl vs <|
 bA (bxV 174 a) H fun e H=>
 bV (fAd 0 e) fun f=>
 bV (fAd 2 f) fun g=>
 bV (ld1 g H) fun h=>
 bV (qN .sub h (.int .i64 (.ofNat 1))) fun i=>
 bV (qN .rem i (.int .i64 (.ofNat 256))) fun k=>
 bV (QD 256 1 b k) fun m=>
 bR (stN 1 m (.bool true) H) fun o H=>
 bV (ld1 c H) fun p=>
 jn (wnt p false (bV (fAd 4 e) fun r=>
 bV (ld1 r H) fun t=>
 some (.norm [t],H)) (some (.norm [qL],H))) fun vs H=>hd vs fun u vs=>
 jn (wnt u true (bV (fAd 0 e) fun v=>
 bV (fAd 0 v) fun w=>
 bV (ld1 w H) fun x=>
 bV (ld1 d H) fun y=>
 bV (kD .eql x y) fun z=>
 some (.norm [z],H)) (some (.norm [qL],H))) fun vs H=>hd vs fun B vs=>
 jn (wnt p false (bV (pk3 (some u) (some B) (some (.bool false))) fun C=>
 some (.norm [C],H)) (some (.norm [qL],H))) fun vs H=>hd vs fun E vs=>
 bV (pk3 (some p) (some (.bool true)) (some E)) fun F=>
 bR (stN 1 c F H) fun G H=>
 bV (ld1 c H) fun I=>
 bV (aun .not I) fun J=>
 bV (some J) fun K=>some (.ret K,H))
def h87:Hint:=(.s .o (.s .o (.s .o (.s .o .o))))
theorem zLK {D:Dyn}(hD:DG D)(n:Nat):FI 87 (f87 D n):=qQ (n:=n) (h:=h87) X_ok hD (SOk.nil) Tryz.func87 (by kernel_rfl) (by kernel_rfl)
def s44 (D:Dyn)(n:Nat):Tb:=⟨X,[(84,f84 D n),(85,f85 D n),(83,f83 D n),(86,f86 D n),(88,f88 D n),(89,f89 D n),(20,f20 D n)]⟩
def zEK (D:Dyn)(n:Nat)(vs:List AV)(H:AH):Rs:=
 hd vs fun a vs=>hd vs fun b vs=>hd vs fun c vs=>hd vs fun d vs=>hd vs fun e vs=>hd vs fun f vs=>hd vs fun g vs=>
 bV (qN .lss g (.int .i64 (.ofNat 256))) fun h=>
 jn (wnt h true (bV (QD 256 1 e g) fun i=>
 bV (ld1 i H) fun k=>
 some (.norm [k],H)) (some (.norm [qL],H))) fun vs H=>hd vs fun m vs=>
 bV (pk3 (some h) (some m) (some (.bool false))) fun o=>
 cnd o (bV (qN .add g (.int .i64 (.ofNat 1))) fun p=>
 some (.norm [a,b,c,d,e,f,p],H))
 (some (.exit 0 [a,b,c,d,f,g],H))
def zJO (D:Dyn)(n:Nat)(vs:List AV)(H:AH):Rs:=
 hd vs fun a vs=>hd vs fun b vs=>hd vs fun c vs=>hd vs fun d vs=>hd vs fun e vs=>hd vs fun f vs=>
 bV (qN .eql f (.int .i64 (.ofNat 256))) fun g=>
 cnd g (bV (some (.int .i64 (.ofNat 0))) fun h=>bV (some (.int .i64 (.ofNat 3))) fun i=>some (.ret (.tuple [h,i]),H))
 (bV (qN .mul e (.int .i64 (.ofNat 256))) fun k=>
 bV (qN .add k f) fun m=>
 bV (qN .add m (.int .i64 (.ofNat 1))) fun o=>
 bV (ld1 d H) fun p=>
 bR (f88 D n [b,o] H) fun r H=>chk (ld1 d H) p <|
 bR (f89 D n [c] H) fun t H=>chk (ld1 d H) p <|
 bV (kD .add t p) fun u=>
 bR (f20 D n [a,r,u] H) fun v H=>
 bV (qN .neq v (.int .i64 (.ofNat 0))) fun w=>
 cnd w (bV (some (.int .i64 (.ofNat 0))) fun x=>bV (some v) fun y=>some (.ret (.tuple [x,y]),H))
 (bV (some o) fun z=>bV (some (.int .i64 (.ofNat 0))) fun B=>some (.ret (.tuple [z,B]),H)))
def f44 (D:Dyn)(n:Nat)(vs:List AV)(H:AH):Option (AV×AH):=
 outR (hd vs fun a vs=>hd vs fun b vs=>hd vs fun c vs=>hd vs fun d vs=>nl vs <|
 bA (bxV 9 c) H fun e H=>
 bV (xN .eql (eqP a .nilPtr)) fun f=>
 cnd f (bV (some (.int .i64 (.ofNat 0))) fun g=>bV (some (.int .i64 (.ofNat 2))) fun h=>some (.ret (.tuple [g,h]),H))
 (bR (f84 D n [b] H) fun i H=>
 bV (aun .not i) fun k=>
 jn (wnt k false (bR (f84 D n [d] H) fun m H=>
 bV (aun .not m) fun o=>
 some (.norm [o],H)) (some (.norm [qL],H))) fun vs H=>hd vs fun p vs=>
 bV (pk3 (some k) (some (.bool true)) (some p)) fun r=>
 cnd r (bV (some (.int .i64 (.ofNat 0))) fun t=>bV (some (.int .i64 (.ofNat 1))) fun u=>some (.ret (.tuple [t,u]),H))
 (bV (ld1 e H) fun v=>
 bR (f85 D n [v] H) fun w H=>
 bV (aun .not w) fun x=>
 cnd x (bV (some (.int .i64 (.ofNat 0))) fun y=>bV (some (.int .i64 (.ofNat 56))) fun z=>some (.ret (.tuple [y,z]),H))
 (bA (bxV 171 (.agg (rep 256 [(.bool false)]))) H fun B H=>
 bA (bxV 4 (.bool false)) H fun C H=>
 bR (stN 1 C (.bool false) H) fun E H=>
 bV (ld1 e H) fun F=>
 bR (f83 D n [F] H) fun G H=>
 bR (f86 D n [a,b,G,(.func 87 [] [B,C,e])] H) fun I H=>
 bV (qN .neq I (.int .i64 (.ofNat 0))) fun J=>
 cnd J (bV (some (.int .i64 (.ofNat 0))) fun K=>bV (some I) fun M=>some (.ret (.tuple [K,M]),H))
 (bV (ld1 C H) fun N=>
 cnd N (bV (some (.int .i64 (.ofNat 0))) fun O=>bV (some (.int .i64 (.ofNat 6))) fun P=>some (.ret (.tuple [O,P]),H))
 (jb 0 (qU n (zEK D n) [a,b,d,e,B,G,(.int .i64 (.ofNat 0))] H) (zJO D n)))))))
def h44:Hint:=(.s .o (.s (.s .o (.cl (.s .o .o) .o)) (.s (.s .o (.cl (.s .o .o) .o)) (.s (.s .o (.cl (.s .o .o) .o)) (.s .o (.s .o (.s .o (.s .o (.s (.s .o (.cl (.s .o .o) .o)) (.s (.s .o (.cl (.s .o .o) .o)) (.s .o (.s (.b [0,1,3,6,12,14] (.l [0,1,3,6,10,12,14] (.s (.s .o (.cr .o .o)) (.b0 .o)))) (.s (.s .o (.cl (.s .o .o) .o)) (.s .o (.s (.s .o (.s .o (.cl (.s .o .o) .o))) (.s .o .o))))))))))))))))
theorem zBr {D:Dyn}(hD:DG D)(n:Nat):FI 44 (f44 D n):=qQ (n:=n) (h:=h44) X_ok hD (sc (VU hD n) (sc (zBn hD n) (sc (VV hD n) (sc (zEF hD n) (sc (zBm hD n) (sc (zBl hD n) (sc (zIo hD n) (SOk.nil)))))))) Tryz.func44 (by kernel_rfl) (by kernel_rfl)
def s130 (D:Dyn)(n:Nat):Tb:=⟨X,[]⟩
def zF1 (D:Dyn)(n:Nat)(vs:List AV)(H:AH):Rs:=
 hd vs fun a vs=>
 bV (fAd 4 a) fun b=>
 bV (ld1 b H) fun c=>
 bV (aun .not c) fun d=>
 bV (some d) fun e=>some (.ret e,H)
def f130 (D:Dyn)(n:Nat)(vs:List AV)(H:AH):Option (AV×AH):=
 outR (hd vs fun a vs=>hd vs fun b vs=>hd vs fun c vs=>nl vs <|
 bA (bxV 174 a) H fun d H=>
 bV (fAd 4 d) fun e=>
 bV (ld1 e H) fun f=>
 jn (wnt f true (bV (fAd 0 d) fun g=>
 bV (fAd 0 g) fun h=>
 bV (ld1 h H) fun i=>
 bV (ld1 b H) fun k=>
 bV (kD .eql i k) fun m=>
 some (.norm [m],H)) (some (.norm [qL],H))) fun vs H=>hd vs fun o vs=>
 bV (pk3 (some f) (some o) (some (.bool false))) fun p=>
 jn (cnd p (bV (ldN 5 d H) fun r=>
 bR (stN 5 c r H) fun t H=>
 some (.norm [c],H))
 (some (.norm [c],H))) (zF1 D n))
def h130:Hint:=(.s .o (.s (.s .o (.c [2] .o .o)) (.s .o .o)))
theorem zJR {D:Dyn}(hD:DG D)(n:Nat):FI 130 (f130 D n):=qQ (n:=n) (h:=h130) X_ok hD (SOk.nil) Tryz.func130 (by kernel_rfl) (by kernel_rfl)
def s93 (D:Dyn)(n:Nat):Tb:=⟨X,[(84,f84 D n),(85,f85 D n),(83,f83 D n),(86,f86 D n)]⟩
def f93 (D:Dyn)(n:Nat)(vs:List AV)(H:AH):Option (AV×AH):=
 outR (hd vs fun a vs=>hd vs fun b vs=>hd vs fun c vs=>nl vs <|
 bA (bxV 9 c) H fun d H=>
 bA (bxV 174 (.agg [(.str 0 0),(.int .i64 (.ofNat 0)),(.int .i64 (.ofNat 0)),(.str 0 0),(.bool false)])) H fun e H=>
 bV (xN .eql (eqP a .nilPtr)) fun f=>
 cnd f (bV (jT [(0,3),(3,1),(4,1)] [(.str 0 0),(.int .i64 (.ofNat 0)),(.int .i64 (.ofNat 0)),(.str 0 0),(.bool false)] []) fun g=>
 bR (stN 5 e g H) fun h H=>
 bV (ldN 5 e H) fun i=>bV (some (.int .i64 (.ofNat 2))) fun k=>some (.ret (.tuple [i,k]),H))
 (bR (f84 D n [b] H) fun m H=>
 bV (aun .not m) fun o=>
 cnd o (bV (jT [(0,3),(3,1),(4,1)] [(.str 0 0),(.int .i64 (.ofNat 0)),(.int .i64 (.ofNat 0)),(.str 0 0),(.bool false)] []) fun p=>
 bR (stN 5 e p H) fun r H=>
 bV (ldN 5 e H) fun t=>bV (some (.int .i64 (.ofNat 1))) fun u=>some (.ret (.tuple [t,u]),H))
 (bV (ld1 d H) fun v=>
 bR (f85 D n [v] H) fun w H=>
 bV (aun .not w) fun x=>
 cnd x (bV (jT [(0,3),(3,1),(4,1)] [(.str 0 0),(.int .i64 (.ofNat 0)),(.int .i64 (.ofNat 0)),(.str 0 0),(.bool false)] []) fun y=>
 bR (stN 5 e y H) fun z H=>
 bV (ldN 5 e H) fun B=>bV (some (.int .i64 (.ofNat 56))) fun C=>some (.ret (.tuple [B,C]),H))
 (bA (bxV 174 (.agg [(.str 0 0),(.int .i64 (.ofNat 0)),(.int .i64 (.ofNat 0)),(.str 0 0),(.bool false)])) H fun E H=>
 bV (ld1 d H) fun F=>
 bR (f83 D n [F] H) fun G H=>
 bR (f86 D n [a,b,G,(.func 130 [] [d,E])] H) fun I H=>
 bV (qN .neq I (.int .i64 (.ofNat 0))) fun J=>
 cnd J (bV (jT [(0,3),(3,1),(4,1)] [(.str 0 0),(.int .i64 (.ofNat 0)),(.int .i64 (.ofNat 0)),(.str 0 0),(.bool false)] []) fun K=>
 bR (stN 5 e K H) fun M H=>
 bV (ldN 5 e H) fun N=>bV (some I) fun O=>some (.ret (.tuple [N,O]),H))
 (bV (fAd 4 E) fun P=>
 bV (ld1 P H) fun Q=>
 bV (aun .not Q) fun R=>
 cnd R (bV (jT [(0,3),(3,1),(4,1)] [(.str 0 0),(.int .i64 (.ofNat 0)),(.int .i64 (.ofNat 0)),(.str 0 0),(.bool false)] []) fun T=>
 bR (stN 5 e T H) fun U H=>
 bV (ldN 5 e H) fun V=>bV (some (.int .i64 (.ofNat 5))) fun W=>some (.ret (.tuple [V,W]),H))
 (bV (ldN 5 E H) fun Y=>
 bR (stN 5 e Y H) fun Z H=>
 bV (ldN 5 e H) fun a0=>bV (some (.int .i64 (.ofNat 0))) fun a1=>some (.ret (.tuple [a0,a1]),H)))))))
def h93:Hint:=(.s .o (.s (.s .o (.cl (.s .o .o) .o)) (.s (.s .o (.cl (.s .o .o) .o)) (.s (.s .o (.cl (.s .o .o) .o)) (.s .o (.s .o (.s (.s .o (.cl (.s .o .o) .o)) (.s (.s .o (.cl (.s .o .o) .o)) (.s .o .o)))))))))
theorem zEB {D:Dyn}(hD:DG D)(n:Nat):FI 93 (f93 D n):=qQ (n:=n) (h:=h93) X_ok hD (sc (VU hD n) (sc (zBn hD n) (sc (VV hD n) (sc (zEF hD n) (SOk.nil))))) Tryz.func93 (by kernel_rfl) (by kernel_rfl)
def s46 (D:Dyn)(n:Nat):Tb:=⟨X,[(93,f93 D n)]⟩
def f46 (D:Dyn)(n:Nat)(vs:List AV)(H:AH):Option (AV×AH):=
 outR (hd vs fun a vs=>hd vs fun b vs=>hd vs fun c vs=>nl vs <|
 bR (f93 D n [a,b,c] H) fun d H=>
 bV (qJ d 0) fun e=>
 bV (qJ d 1) fun f=>
 bA (bxV 174 (.agg [(.str 0 0),(.int .i64 (.ofNat 0)),(.int .i64 (.ofNat 0)),(.str 0 0),(.bool false)])) H fun g H=>
 bR (stN 5 g e H) fun h H=>
 bV (fAd 0 g) fun i=>
 bV (fAd 1 i) fun k=>
 bV (ld1 k H) fun m=>
 bV (fAd 0 g) fun o=>
 bV (fAd 2 o) fun p=>
 bV (ld1 p H) fun r=>
 bV (some m) fun t=>bV (some r) fun u=>bV (some f) fun v=>some (.ret (.tuple [t,u,v]),H))
def h46:Hint:=(.s .o (.s .o (.s .o .o)))
theorem zBq {D:Dyn}(hD:DG D)(n:Nat):FI 46 (f46 D n):=qQ (n:=n) (h:=h46) X_ok hD (sc (zEB hD n) (SOk.nil)) Tryz.func46 (by kernel_rfl) (by kernel_rfl)
def s91 (D:Dyn)(n:Nat):Tb:=⟨X,[]⟩
def zJN (D:Dyn)(n:Nat)(vs:List AV)(H:AH):Rs:=
 hd vs fun a vs=>hd vs fun b vs=>
 bV (qN .geq b (.int .i64 (.ofNat 0))) fun c=>
 cnd c (bV (YF a b) fun d=>
 bV (qN .neq d (.int .u8 (.ofNat 255))) fun e=>
 cnd e (bV (aU a none (some b)) fun f=>
 bV (YF a b) fun g=>
 bV (qN .add g (.int .u8 (.ofNat 1))) fun h=>
 bA (u5 5 1 1 [(.int .u8 (.ofNat 0))] [(0,h)]) H fun i H=>
 bV (zGi i H) fun k=>
 bV (kD .add f k) fun m=>
 bV (some m) fun o=>some (.ret o,H))
 (bV (qN .sub b (.int .i64 (.ofNat 1))) fun p=>
 some (.norm [a,p],H)))
 (some (.exit 0 [],H))
def f91b1 (D:Dyn)(n:Nat)(vs:List AV)(H:AH):Rs:=
 bV (some (.str 0 0)) fun a=>some (.ret a,H)
def f91 (D:Dyn)(n:Nat)(vs:List AV)(H:AH):Option (AV×AH):=
 outR (hd vs fun a vs=>nl vs <|
 bV (kJ a) fun b=>
 bV (qN .sub b (.int .i64 (.ofNat 1))) fun c=>
 jb 0 (qU n (zJN D n) [a,c] H) (f91b1 D n))
def h91:Hint:=(.s .o (.s (.s .o (.b [] (.l [0,3] (.s (.s .o (.cr .o .o)) (.s (.b0 (.s .o (.cl (.s .o .o) .o))) .o))))) (.s .o .o)))
theorem zIc {D:Dyn}(hD:DG D)(n:Nat):FI 91 (f91 D n):=qQ (n:=n) (h:=h91) X_ok hD (SOk.nil) Tryz.func91 (by kernel_rfl) (by kernel_rfl)
def s45 (D:Dyn)(n:Nat):Tb:=⟨X,[(84,f84 D n),(88,f88 D n),(89,f89 D n),(91,f91 D n),(90,f90 D n),(92,f92 D n)]⟩
def zLO (D:Dyn)(n:Nat)(vs:List AV)(H:AH):Rs:=
 hd vs fun a vs=>hd vs fun b vs=>hd vs fun c vs=>hd vs fun d vs=>hd vs fun e vs=>
 bV (qN .add e (.int .i64 (.ofNat 1))) fun f=>
 some (.norm [a,b,c,d,f],H)
def zEJ (D:Dyn)(n:Nat)(vs:List AV)(H:AH):Rs:=
 hd vs fun a vs=>hd vs fun b vs=>hd vs fun c vs=>hd vs fun d vs=>hd vs fun e vs=>
 bV (qN .lss e d) fun f=>
 cnd f (bV (jW 2 c e) fun g=>
 bV (ldN 2 g H) fun h=>
 bA (bxV 48 (.agg [(.str 0 0),(.str 0 0)])) H fun i H=>
 bR (stN 2 i h H) fun k H=>
 bV (ldN 2 i H) fun m=>
 bR (f92 D n [m] H) fun o H=>
 bV (qJ o 0) fun p=>
 bV (qJ o 1) fun r=>
 bA (bxV 174 (.agg [(.str 0 0),(.int .i64 (.ofNat 0)),(.int .i64 (.ofNat 0)),(.str 0 0),(.bool false)])) H fun t H=>
 bR (stN 5 t p H) fun u H=>
 jn (wnt r true (bV (fAd 4 t) fun v=>
 bV (ld1 v H) fun w=>
 some (.norm [w],H)) (some (.norm [qL],H))) fun vs H=>hd vs fun x vs=>
 bV (pk3 (some r) (some x) (some (.bool false))) fun y=>
 jn (cnd y (bV (fAd 0 t) fun z=>
 bV (ldN 3 z H) fun B=>
 bA (u5 99 3 1 [(.str 0 0),(.int .i64 (.ofNat 0)),(.int .i64 (.ofNat 0))] [(0,B)]) H fun C H=>
 bR (apP 99 3 32 b C H) fun E H=>
 some (.norm [a,E,c,d,e],H))
 (some (.norm [a,b,c,d,e],H))) (zLO D n))
 (some (.exit 0 [a,b],H))
def zLP (D:Dyn)(n:Nat)(vs:List AV)(H:AH):Rs:=
 hd vs fun a vs=>hd vs fun b vs=>
 bV (aun .not a) fun c=>
 bV (some b) fun d=>bV (some c) fun e=>bV (some (.int .i64 (.ofNat 0))) fun f=>some (.ret (.tuple [d,e,f]),H)
def f45 (D:Dyn)(n:Nat)(vs:List AV)(H:AH):Option (AV×AH):=
 outR (hd vs fun a vs=>hd vs fun b vs=>hd vs fun c vs=>hd vs fun d vs=>nl vs <|
 bV (xN .eql (eqP a .nilPtr)) fun e=>
 cnd e (bV (some .nilSlice) fun f=>bV (some (.bool false)) fun g=>bV (some (.int .i64 (.ofNat 2))) fun h=>some (.ret (.tuple [f,g,h]),H))
 (bR (f84 D n [b] H) fun i H=>
 bV (aun .not i) fun k=>
 jn (wnt k false (bV (qN .lss c (.int .i64 (.ofNat 0))) fun m=>
 some (.norm [m],H)) (some (.norm [qL],H))) fun vs H=>hd vs fun o vs=>
 bV (pk3 (some k) (some (.bool true)) (some o)) fun p=>
 jn (wnt p false (bV (qN .lss d (.int .i64 (.ofNat 0))) fun r=>
 some (.norm [r],H)) (some (.norm [qL],H))) fun vs H=>hd vs fun t vs=>
 bV (pk3 (some p) (some (.bool true)) (some t)) fun u=>
 cnd u (bV (some .nilSlice) fun v=>bV (some (.bool false)) fun w=>bV (some (.int .i64 (.ofNat 1))) fun x=>some (.ret (.tuple [v,w,x]),H))
 (bV (mn2 c (.int .i64 (.ofNat 262144))) fun y=>
 bV (qN .add y (.int .i64 (.ofNat 1))) fun z=>
 bR (f88 D n [b,z] H) fun B H=>
 bR (f89 D n [b] H) fun C H=>
 bV (kD .add (.str 1 101) C) fun E=>
 bR (f91 D n [E] H) fun F H=>
 bR (f90 D n [a,B,F,d] H) fun G H=>
 bV (qJ G 0) fun I=>
 bV (qJ G 1) fun J=>
 bV (qJ G 2) fun K=>
 bV (qN .neq K (.int .i64 (.ofNat 0))) fun M=>
 cnd M (bV (some .nilSlice) fun N=>bV (some (.bool false)) fun O=>bV (some K) fun P=>some (.ret (.tuple [N,O,P]),H))
 (bV (lnSl I) fun Q=>
 jb 0 (qU n (zEJ D n) [J, .nilSlice,I,Q,(.int .i64 (.ofNat 0))] H) (zLP D n)))))
def h45:Hint:=(.s .o (.s (.s .o (.cl (.s .o .o) .o)) (.s (.s .o (.cl (.s .o .o) .o)) (.s .o (.s .o (.s (.s .o (.cl (.s .o .o) .o)) (.s .o (.s (.s .o (.b [13,15] (.l [13,15,53,54,55] (.s .o (.s (.cr .o .o) (.s (.b0 (.s .o (.s .o (.s .o (.c [13,15,53,54,55] .o .o))))) .o)))))) (.s .o .o)))))))))
theorem VW {D:Dyn}(hD:DG D)(n:Nat):FI 45 (f45 D n):=qQ (n:=n) (h:=h45) X_ok hD (sc (VU hD n) (sc (zBm hD n) (sc (zBl hD n) (sc (zIc hD n) (sc (zED hD n) (sc (zEC hD n) (SOk.nil))))))) Tryz.func45 (by kernel_rfl) (by kernel_rfl)
def s82 (D:Dyn)(n:Nat):Tb:=⟨X,[(45,f45 D n)]⟩
def f82 (D:Dyn)(n:Nat)(vs:List AV)(H:AH):Option (AV×AH):=
 outR (hd vs fun a vs=>hd vs fun b vs=>nl vs <|
 bR (f45 D n [a,b,(.int .i64 (.ofNat 0)),(.int .i64 (.ofNat 1))] H) fun c H=>
 bV (qJ c 0) fun d=>
 bV (qJ c 1) fun e=>
 bV (qJ c 2) fun f=>
 bV (qN .eql f (.int .i64 (.ofNat 0))) fun g=>
 jn (wnt g true (some (.norm [e],H)) (some (.norm [qL],H))) fun vs H=>hd vs fun h vs=>
 bV (pk3 (some g) (some h) (some (.bool false))) fun i=>
 jn (wnt i true (bV (lnSl d) fun k=>
 bV (qN .eql k (.int .i64 (.ofNat 0))) fun m=>
 some (.norm [m],H)) (some (.norm [qL],H))) fun vs H=>hd vs fun o vs=>
 bV (pk3 (some i) (some o) (some (.bool false))) fun p=>
 bV (some p) fun r=>bV (some f) fun t=>some (.ret (.tuple [r,t]),H))
def h82:Hint:=(.s .o (.s .o (.s .o .o)))
theorem zId {D:Dyn}(hD:DG D)(n:Nat):FI 82 (f82 D n):=qQ (n:=n) (h:=h82) X_ok hD (sc (VW hD n) (SOk.nil)) Tryz.func82 (by kernel_rfl) (by kernel_rfl)
def s67 (D:Dyn)(n:Nat):Tb:=⟨X,[(107,f107 D n),(70,f70 D n),(111,f111 D n)]⟩
def f67 (D:Dyn)(n:Nat)(vs:List AV)(H:AH):Option (AV×AH):=
 outR (hd vs fun a vs=>hd vs fun b vs=>nl vs <|
 bA (bxV 133 a) H fun c H=>
 bA (bxV 133 (.agg [(.bool false), .nilSlice, .nilSlice, .nilSlice])) H fun d H=>
 bV (ldN 4 c H) fun e=>
 bR (f107 D n [e] H) fun f H=>
 bV (aun .not f) fun g=>
 jn (wnt g false (bV (fAd 0 c) fun h=>
 bV (ld1 h H) fun i=>
 bV (aun .not i) fun k=>
 some (.norm [k],H)) (some (.norm [qL],H))) fun vs H=>hd vs fun m vs=>
 bV (pk3 (some g) (some (.bool true)) (some m)) fun o=>
 cnd o (bV (jT [(0,1),(1,1),(2,1),(3,1)] [(.bool false), .nilSlice, .nilSlice, .nilSlice] []) fun p=>
 bR (stN 4 d p H) fun r H=>
 bV (ldN 4 d H) fun t=>bV (some (.int .i64 (.ofNat 1))) fun u=>some (.ret (.tuple [t,u]),H))
 (bV (ldN 4 c H) fun v=>
 bR (f70 D n [v,b] H) fun w H=>
 bV (fAd 1 c) fun x=>
 bV (ld1 x H) fun y=>
 bV (lnSl y) fun z=>
 bV (qN .geq w z) fun B=>
 jn (wnt B false (bV (fAd 1 c) fun C=>
 bV (ld1 C H) fun E=>
 bV (jW 1 E w) fun F=>
 bV (ld1 F H) fun G=>
 bV (kD .neq G b) fun I=>
 some (.norm [I],H)) (some (.norm [qL],H))) fun vs H=>hd vs fun J vs=>
 bV (pk3 (some B) (some (.bool true)) (some J)) fun K=>
 cnd K (bV (jT [(0,1),(1,1),(2,1),(3,1)] [(.bool false), .nilSlice, .nilSlice, .nilSlice] []) fun M=>
 bR (stN 4 d M H) fun N H=>
 bV (ldN 4 d H) fun O=>bV (some (.int .i64 (.ofNat 5))) fun P=>some (.ret (.tuple [O,P]),H))
 (bV (fAd 1 c) fun Q=>
 bV (ld1 Q H) fun R=>
 bV (j6 1 R none (some w) (some w) H) fun T=>
 bV (fAd 1 c) fun U=>
 bV (ld1 U H) fun V=>
 bV (qN .add w (.int .i64 (.ofNat 1))) fun W=>
 bV (j6 1 V (some W) none none H) fun Y=>
 bA (u5 37 1 2 [.nilSlice] [(0,T),(1,Y)]) H fun Z H=>
 bV (fAd 2 c) fun a0=>
 bV (ld1 a0 H) fun a1=>
 bV (j6 1 a1 none (some w) (some w) H) fun a2=>
 bV (fAd 2 c) fun a3=>
 bV (ld1 a3 H) fun a4=>
 bV (qN .add w (.int .i64 (.ofNat 1))) fun a5=>
 bV (j6 1 a4 (some a5) none none H) fun a6=>
 bA (u5 37 1 2 [.nilSlice] [(0,a2),(1,a6)]) H fun a7 H=>
 bR (f111 D n [Z] H) fun a8 H=>chk (ld1 a0 H) a1 <| chk (j6 1 a1 none (some w) (some w) H) a2 <| chk (ld1 a3 H) a4 <| chk (j6 1 a4 (some a5) none none H) a6 <|
 bR (f111 D n [a7] H) fun a9 H=>
 bV (jT [(0,1),(1,1),(2,1),(3,1)] [(.bool false), .nilSlice, .nilSlice, .nilSlice] [(0,(.bool true)),(1,a8),(2,a9)]) fun b0=>
 bR (stN 4 d b0 H) fun b1 H=>
 bV (ldN 4 d H) fun b2=>bV (some (.int .i64 (.ofNat 0))) fun b3=>some (.ret (.tuple [b2,b3]),H))))
def h67:Hint:=(.s .o (.s (.s .o (.cl (.s .o .o) .o)) (.s .o (.s (.s .o (.cl (.s .o .o) .o)) (.s .o .o)))))
theorem zIh {D:Dyn}(hD:DG D)(n:Nat):FI 67 (f67 D n):=qQ (n:=n) (h:=h67) X_ok hD (sc (QO hD n) (sc (QK hD n) (sc (KZ hD n) (SOk.nil)))) Tryz.func67 (by kernel_rfl) (by kernel_rfl)
def s66 (D:Dyn)(n:Nat):Tb:=⟨X,[(67,f67 D n)]⟩
def f66 (D:Dyn)(n:Nat)(vs:List AV)(H:AH):Option (AV×AH):=
 outR (hd vs fun a vs=>hd vs fun b vs=>nl vs <|
 bA (bxV 133 a) H fun c H=>
 bA (bxV 133 (.agg [(.bool false), .nilSlice, .nilSlice, .nilSlice])) H fun d H=>
 bV (ldN 4 c H) fun e=>
 bV (ld1 b H) fun f=>
 bR (f67 D n [e,f] H) fun g H=>
 bV (qJ g 0) fun h=>
 bV (qJ g 1) fun i=>
 bR (stN 4 d h H) fun k H=>
 bV (ldN 4 d H) fun m=>bV (some i) fun o=>some (.ret (.tuple [m,o]),H))
def h66:Hint:=(.s .o (.s .o .o))
theorem zLM {D:Dyn}(hD:DG D)(n:Nat):FI 66 (f66 D n):=qQ (n:=n) (h:=h66) X_ok hD (sc (zIh hD n) (SOk.nil)) Tryz.func66 (by kernel_rfl) (by kernel_rfl)
def s23 (D:Dyn)(n:Nat):Tb:=⟨X,[(62,f62 D n),(63,f63 D n)]⟩
def f23 (D:Dyn)(n:Nat)(vs:List AV)(H:AH):Option (AV×AH):=
 outR (hd vs fun a vs=>hd vs fun b vs=>nl vs <|
 bA (bxV 9 b) H fun c H=>
 bR (f62 D n [a] H) fun d H=>
 cnd d (bV (some (.int .i64 (.ofNat 2))) fun e=>some (.ret e,H))
 (bV (ld1 c H) fun f=>
 bV (kJ f) fun g=>
 bV (qN .lss g (.int .i64 (.ofNat 1))) fun h=>
 jn (wnt h false (bV (ld1 c H) fun i=>
 bV (kJ i) fun k=>
 bV (qN .gtr k (.int .i64 (.ofNat 40))) fun m=>
 some (.norm [m],H)) (some (.norm [qL],H))) fun vs H=>hd vs fun o vs=>
 bV (pk3 (some h) (some (.bool true)) (some o)) fun p=>
 cnd p (bV (some (.int .i64 (.ofNat 1))) fun r=>some (.ret r,H))
 (bV (ld1 c H) fun t=>
 bR (f63 D n [a,t,(.func 66 [] [c])] H) fun u H=>
 bV (some u) fun v=>some (.ret v,H))))
def h23:Hint:=(.s .o (.s (.s .o (.cl (.s .o .o) .o)) (.s (.s .o (.cl (.s .o .o) .o)) (.s .o .o))))
theorem zIn {D:Dyn}(hD:DG D)(n:Nat):FI 23 (f23 D n):=qQ (n:=n) (h:=h23) X_ok hD (sc (JF hD n) (sc (zEI hD n) (SOk.nil))) Tryz.func23 (by kernel_rfl) (by kernel_rfl)
def s47 (D:Dyn)(n:Nat):Tb:=⟨X,[(93,f93 D n),(23,f23 D n)]⟩
def f47 (D:Dyn)(n:Nat)(vs:List AV)(H:AH):Option (AV×AH):=
 outR (hd vs fun a vs=>hd vs fun b vs=>hd vs fun c vs=>nl vs <|
 bR (f93 D n [a,b,c] H) fun d H=>
 bV (qJ d 0) fun e=>
 bV (qJ d 1) fun f=>
 bA (bxV 174 (.agg [(.str 0 0),(.int .i64 (.ofNat 0)),(.int .i64 (.ofNat 0)),(.str 0 0),(.bool false)])) H fun g H=>
 bR (stN 5 g e H) fun h H=>
 bV (qN .neq f (.int .i64 (.ofNat 0))) fun i=>
 cnd i (bV (some (.int .i64 (.ofNat 0))) fun k=>bV (some f) fun m=>some (.ret (.tuple [k,m]),H))
 (bV (fAd 3 g) fun o=>
 bV (ld1 o H) fun p=>
 bR (f23 D n [a,p] H) fun r H=>
 bV (qN .neq r (.int .i64 (.ofNat 0))) fun t=>
 cnd t (bV (some (.int .i64 (.ofNat 0))) fun u=>bV (some r) fun v=>some (.ret (.tuple [u,v]),H))
 (bV (fAd 0 g) fun w=>
 bV (fAd 1 w) fun x=>
 bV (ld1 x H) fun y=>
 bV (some y) fun z=>bV (some (.int .i64 (.ofNat 0))) fun B=>some (.ret (.tuple [z,B]),H))))
def h47:Hint:=(.s .o (.s .o (.s (.s .o (.cl (.s .o .o) .o)) (.s (.s .o (.s .o (.cl (.s .o .o) .o))) (.s .o .o)))))
theorem zBp {D:Dyn}(hD:DG D)(n:Nat):FI 47 (f47 D n):=qQ (n:=n) (h:=h47) X_ok hD (sc (zEB hD n) (sc (zIn hD n) (SOk.nil))) Tryz.func47 (by kernel_rfl) (by kernel_rfl)
def s43 (D:Dyn)(n:Nat):Tb:=⟨X,[(42,f42 D n),(44,f44 D n),(46,f46 D n),(45,f45 D n),(82,f82 D n),(47,f47 D n),(83,f83 D n)]⟩
def f43 (D:Dyn)(n:Nat)(vs:List AV)(H:AH):Option (AV×AH):=
 outR (nl vs <|
 bR (f42 D n [] H) fun a H=>
 bV (xN .eql (eqP a .nilPtr)) fun b=>
 cnd b (bV (some (.bool false)) fun c=>some (.ret c,H))
 (bR (f44 D n [a,(.int .i64 (.ofNat 1)),(.str 1 97),(.int .i64 (.ofNat 7))] H) fun d H=>
 bV (qJ d 0) fun e=>
 bV (qJ d 1) fun f=>
 bR (f44 D n [a,(.int .i64 (.ofNat 1)),(.str 1 97),(.int .i64 (.ofNat 8))] H) fun g H=>
 bV (qJ g 0) fun h=>
 bV (qJ g 1) fun i=>
 bR (f46 D n [a,(.int .i64 (.ofNat 1)),(.str 1 98)] H) fun k H=>
 bV (qJ k 0) fun m=>
 bV (qJ k 1) fun o=>
 bV (qJ k 2) fun p=>
 bR (f46 D n [a,(.int .i64 (.ofNat 1)),(.str 2 11822)] H) fun r H=>
 bV (qJ r 0) fun t=>
 bV (qJ r 1) fun u=>
 bV (qJ r 2) fun v=>
 bR (f46 D n [a,(.int .i64 (.ofNat 1)),(.str 1 97)] H) fun w H=>
 bV (qJ w 0) fun x=>
 bV (qJ w 1) fun y=>
 bV (qJ w 2) fun z=>
 bR (f45 D n [a,(.int .i64 (.ofNat 1)),(.int .i64 (.ofNat 0)),(.int .i64 (.ofNat 9))] H) fun B H=>
 bV (qJ B 0) fun C=>
 bV (qJ B 1) fun E=>
 bV (qJ B 2) fun F=>
 bR (f82 D n [a,(.int .i64 (.ofNat 2))] H) fun G H=>
 bV (qJ G 0) fun I=>
 bV (qJ G 1) fun J=>
 bR (f47 D n [a,(.int .i64 (.ofNat 1)),(.str 1 97)] H) fun K H=>
 bV (qJ K 0) fun M=>
 bV (qJ K 1) fun N=>
 bR (f83 D n [(.str 1 97)] H) fun O H=>
 bV (qN .mul (.int .i64 (.ofNat 256)) O) fun P=>
 bV (qN .add P (.int .i64 (.ofNat 1))) fun Q=>
 bV (qN .eql e Q) fun R=>
 jn (wnt R true (bV (qN .eql f (.int .i64 (.ofNat 0))) fun T=>
 some (.norm [T],H)) (some (.norm [qL],H))) fun vs H=>hd vs fun U vs=>
 bV (pk3 (some R) (some U) (some (.bool false))) fun V=>
 jn (wnt V true (bV (qN .eql i (.int .i64 (.ofNat 6))) fun W=>
 some (.norm [W],H)) (some (.norm [qL],H))) fun vs H=>hd vs fun Y vs=>
 bV (pk3 (some V) (some Y) (some (.bool false))) fun Z=>
 jn (wnt Z true (bV (qN .eql p (.int .i64 (.ofNat 5))) fun a0=>
 some (.norm [a0],H)) (some (.norm [qL],H))) fun vs H=>hd vs fun a1 vs=>
 bV (pk3 (some Z) (some a1) (some (.bool false))) fun a2=>
 jn (wnt a2 true (bV (qN .eql v (.int .i64 (.ofNat 56))) fun a3=>
 some (.norm [a3],H)) (some (.norm [qL],H))) fun vs H=>hd vs fun a4 vs=>
 bV (pk3 (some a2) (some a4) (some (.bool false))) fun a5=>
 jn (wnt a5 true (bV (qN .eql x (.int .i64 (.ofNat 7))) fun a6=>
 some (.norm [a6],H)) (some (.norm [qL],H))) fun vs H=>hd vs fun a7 vs=>
 bV (pk3 (some a5) (some a7) (some (.bool false))) fun a8=>
 jn (wnt a8 true (bV (qN .eql y e) fun a9=>
 some (.norm [a9],H)) (some (.norm [qL],H))) fun vs H=>hd vs fun b0 vs=>
 bV (pk3 (some a8) (some b0) (some (.bool false))) fun b1=>
 jn (wnt b1 true (bV (qN .eql z (.int .i64 (.ofNat 0))) fun b2=>
 some (.norm [b2],H)) (some (.norm [qL],H))) fun vs H=>hd vs fun b3 vs=>
 bV (pk3 (some b1) (some b3) (some (.bool false))) fun b4=>
 jn (wnt b4 true (bV (lnSl C) fun b5=>
 bV (qN .eql b5 (.int .i64 (.ofNat 1))) fun b6=>
 some (.norm [b6],H)) (some (.norm [qL],H))) fun vs H=>hd vs fun b7 vs=>
 bV (pk3 (some b4) (some b7) (some (.bool false))) fun b8=>
 jn (wnt b8 true (bV (jW 3 C (.int .i64 (.ofNat 0))) fun b9=>
 bV (ldN 3 b9 H) fun c0=>
 bV (jT [(0,1),(1,1),(2,1)] [(.str 0 0),(.int .i64 (.ofNat 0)),(.int .i64 (.ofNat 0))] [(0,(.str 1 97)),(1,(.int .i64 (.ofNat 7))),(2,e)]) fun c1=>
 bV (xN .eql (eqA [2,6,6] c0 c1)) fun c2=>
 some (.norm [c2],H)) (some (.norm [qL],H))) fun vs H=>hd vs fun c3 vs=>
 bV (pk3 (some b8) (some c3) (some (.bool false))) fun c4=>
 jn (wnt c4 true (some (.norm [E],H)) (some (.norm [qL],H))) fun vs H=>hd vs fun c5 vs=>
 bV (pk3 (some c4) (some c5) (some (.bool false))) fun c6=>
 jn (wnt c6 true (bV (qN .eql F (.int .i64 (.ofNat 0))) fun c7=>
 some (.norm [c7],H)) (some (.norm [qL],H))) fun vs H=>hd vs fun c8 vs=>
 bV (pk3 (some c6) (some c8) (some (.bool false))) fun c9=>
 jn (wnt c9 true (some (.norm [I],H)) (some (.norm [qL],H))) fun vs H=>hd vs fun d0 vs=>
 bV (pk3 (some c9) (some d0) (some (.bool false))) fun d1=>
 jn (wnt d1 true (bV (qN .eql J (.int .i64 (.ofNat 0))) fun d2=>
 some (.norm [d2],H)) (some (.norm [qL],H))) fun vs H=>hd vs fun d3 vs=>
 bV (pk3 (some d1) (some d3) (some (.bool false))) fun d4=>
 jn (wnt d4 true (bV (qN .eql M (.int .i64 (.ofNat 7))) fun d5=>
 some (.norm [d5],H)) (some (.norm [qL],H))) fun vs H=>hd vs fun d6 vs=>
 bV (pk3 (some d4) (some d6) (some (.bool false))) fun d7=>
 jn (wnt d7 true (bV (qN .eql N (.int .i64 (.ofNat 0))) fun d8=>
 some (.norm [d8],H)) (some (.norm [qL],H))) fun vs H=>hd vs fun d9 vs=>
 bV (pk3 (some d7) (some d9) (some (.bool false))) fun e0=>
 bV (some e0) fun e1=>some (.ret e1,H)))
def h43:Hint:=(.s .o (.s .o (.s (.s .o (.cl (.s .o .o) .o)) (.s .o (.s .o (.s .o (.s .o (.s .o (.s .o (.s .o (.s .o (.s .o .o))))))))))))
theorem zBs {D:Dyn}(hD:DG D)(n:Nat):FI 43 (f43 D n):=qQ (n:=n) (h:=h43) X_ok hD (sc (zBt hD n) (sc (zBr hD n) (sc (zBq hD n) (sc (VW hD n) (sc (zId hD n) (sc (zBp hD n) (sc (VV hD n) (SOk.nil)))))))) Tryz.func43 (by kernel_rfl) (by kernel_rfl)
def s11 (D:Dyn)(n:Nat):Tb:=⟨X,[(42,f42 D n),(43,f43 D n),(44,f44 D n),(45,f45 D n),(46,f46 D n),(47,f47 D n)]⟩
def f11l0 (D:Dyn)(n:Nat)(vs:List AV)(H:AH):Rs:=
 hd vs fun a vs=>hd vs fun b vs=>hd vs fun c vs=>hd vs fun d vs=>
 bV (lnSl a) fun e=>
 bV (qN .lss d e) fun f=>
 cnd f (bV (jW 1 a d) fun g=>
 bV (ld1 g H) fun h=>
 bV (kJ h) fun i=>
 bV (qN .gtr i (.int .i64 (.ofNat 500))) fun k=>
 cnd k (bV (some (.bool true)) fun m=>some (.ret m,H))
 (bV (jW 1 a d) fun o=>
 bV (ld1 o H) fun p=>
 bV (qN .add (.int .i64 (.ofNat 10)) d) fun r=>
 bR (f44 D n [c,(.int .i64 (.ofNat 3)),p,r] H) fun t H=>
 bV (qN .add d (.int .i64 (.ofNat 1))) fun u=>
 some (.norm [a,b,c,u],H)))
 (some (.exit 0 [b,c],H))
def f11l1 (D:Dyn)(n:Nat)(vs:List AV)(H:AH):Rs:=
 hd vs fun a vs=>hd vs fun b vs=>hd vs fun c vs=>
 bV (lnSl b) fun d=>
 bV (qN .lss c d) fun e=>
 cnd e (bV (jW 3 b c) fun f=>
 bV (ldN 3 f H) fun g=>
 bV (jW 3 a c) fun h=>
 bV (ldN 3 h H) fun i=>
 bV (xN .neq (eqA [2,6,6] g i)) fun k=>
 cnd k (bV (some (.bool false)) fun m=>some (.ret m,H))
 (bV (qN .add c (.int .i64 (.ofNat 1))) fun o=>
 some (.norm [a,b,o],H)))
 (some (.exit 2 [],H))
def f11b2 (D:Dyn)(n:Nat)(vs:List AV)(H:AH):Rs:=
 bV (some (.bool true)) fun a=>some (.ret a,H)
def f11j3 (D:Dyn)(n:Nat)(vs:List AV)(H:AH):Rs:=
 hd vs fun a vs=>hd vs fun b vs=>hd vs fun c vs=>hd vs fun d vs=>
 bR (f45 D n [a,(.int .i64 (.ofNat 3)),(.int .i64 (.ofNat 0)),(.int .i64 (.ofNat 64))] H) fun e H=>
 bV (qJ e 0) fun f=>
 bV (qJ e 1) fun g=>
 bV (qJ e 2) fun h=>
 bV (qN .neq d h) fun i=>
 jn (wnt i false (bV (QX .neq c g) fun k=>
 some (.norm [k],H)) (some (.norm [qL],H))) fun vs H=>hd vs fun m vs=>
 bV (pk3 (some i) (some (.bool true)) (some m)) fun o=>
 jn (wnt o false (bV (lnSl b) fun p=>
 bV (lnSl f) fun r=>
 bV (qN .neq p r) fun t=>
 some (.norm [t],H)) (some (.norm [qL],H))) fun vs H=>hd vs fun u vs=>
 bV (pk3 (some o) (some (.bool true)) (some u)) fun v=>
 cnd v (bV (some (.bool false)) fun w=>some (.ret w,H))
 (jb 2 (qU n (f11l1 D n) [b,f,(.int .i64 (.ofNat 0))] H) (f11b2 D n))
def f11b4 (D:Dyn)(n:Nat)(vs:List AV)(H:AH):Rs:=
 hd vs fun a vs=>hd vs fun b vs=>
 bR (f45 D n [b,(.int .i64 (.ofNat 3)),(.int .i64 (.ofNat 0)),(.int .i64 (.ofNat 64))] H) fun c H=>
 bV (qJ c 0) fun d=>
 bV (qJ c 1) fun e=>
 bV (qJ c 2) fun f=>
 bR (f44 D n [b,(.int .i64 (.ofNat 3)),a,(.int .i64 (.ofNat 9))] H) fun g H=>
 bV (qJ g 0) fun h=>
 bV (qJ g 1) fun i=>
 bV (qN .eql i (.int .i64 (.ofNat 0))) fun k=>
 jn (cnd k (bR (f46 D n [b,(.int .i64 (.ofNat 3)),a] H) fun m H=>
 bV (qJ m 0) fun o=>
 bV (qJ m 1) fun p=>
 bV (qJ m 2) fun r=>
 bR (f44 D n [b,(.int .i64 (.ofNat 3)),a,(.int .i64 (.ofNat 8))] H) fun t H=>
 bV (qJ t 0) fun u=>
 bV (qJ t 1) fun v=>
 bR (f47 D n [b,(.int .i64 (.ofNat 3)),a] H) fun w H=>
 bV (qJ w 0) fun x=>
 bV (qJ w 1) fun y=>
 bV (qN .neq r (.int .i64 (.ofNat 0))) fun z=>
 jn (wnt z false (bV (qN .neq o (.int .i64 (.ofNat 9))) fun B=>
 some (.norm [B],H)) (some (.norm [qL],H))) fun vs H=>hd vs fun C vs=>
 bV (pk3 (some z) (some (.bool true)) (some C)) fun E=>
 jn (wnt E false (bV (qN .neq v (.int .i64 (.ofNat 6))) fun F=>
 some (.norm [F],H)) (some (.norm [qL],H))) fun vs H=>hd vs fun G vs=>
 bV (pk3 (some E) (some (.bool true)) (some G)) fun I=>
 jn (wnt I false (bV (qN .neq y (.int .i64 (.ofNat 0))) fun J=>
 some (.norm [J],H)) (some (.norm [qL],H))) fun vs H=>hd vs fun K vs=>
 bV (pk3 (some I) (some (.bool true)) (some K)) fun M=>
 jn (wnt M false (bV (qN .neq x (.int .i64 (.ofNat 9))) fun N=>
 some (.norm [N],H)) (some (.norm [qL],H))) fun vs H=>hd vs fun O vs=>
 bV (pk3 (some M) (some (.bool true)) (some O)) fun P=>
 cnd P (bV (some (.bool false)) fun Q=>some (.ret Q,H))
 (some (.norm [b,d,e,f],H)))
 (some (.norm [b,d,e,f],H))) (f11j3 D n)
def f11 (D:Dyn)(n:Nat)(vs:List AV)(H:AH):Option (AV×AH):=
 outR (hd vs fun a vs=>hd vs fun b vs=>nl vs <|
 bR (f42 D n [] H) fun c H=>
 bR (f43 D n [] H) fun d H=>
 bV (aun .not d) fun e=>
 jn (wnt e false (bV (xN .eql (eqP c .nilPtr)) fun f=>
 some (.norm [f],H)) (some (.norm [qL],H))) fun vs H=>hd vs fun g vs=>
 bV (pk3 (some e) (some (.bool true)) (some g)) fun h=>
 jn (wnt h false (bV (lnSl a) fun i=>
 bV (qN .gtr i (.int .i64 (.ofNat 60))) fun k=>
 some (.norm [k],H)) (some (.norm [qL],H))) fun vs H=>hd vs fun m vs=>
 bV (pk3 (some h) (some (.bool true)) (some m)) fun o=>
 jn (wnt o false (bV (kJ b) fun p=>
 bV (qN .gtr p (.int .i64 (.ofNat 500))) fun r=>
 some (.norm [r],H)) (some (.norm [qL],H))) fun vs H=>hd vs fun t vs=>
 bV (pk3 (some o) (some (.bool true)) (some t)) fun u=>
 cnd u (bR (f43 D n [] H) fun v H=>
 bV (some v) fun w=>some (.ret w,H))
 (jb 0 (qU n (f11l0 D n) [a,b,c,(.int .i64 (.ofNat 0))] H) (f11b4 D n)))
def h11:Hint:=(.s .o (.s .o (.s (.s .o (.cl (.s .o .o) .o)) (.s (.s .o (.b [1,5] (.l [0,1,5,6] (.s (.s .o (.cr .o .o)) (.s (.b0 (.s (.s .o (.cl (.s .o .o) .o)) .o)) .o))))) (.s .o (.s .o (.s (.s .o (.c [5,7,8,9] (.s .o (.s .o (.s .o (.s .o (.cl (.s .o .o) .o))))) .o)) (.s .o (.s (.s .o (.cl (.s .o .o) .o)) (.s (.s .o (.b [] (.l [7,19,22] (.s (.s .o (.cr .o .o)) (.s (.b0 (.s .o (.cl (.s .o .o) .o))) .o))))) (.s .o .o)))))))))))
theorem zLQ {D:Dyn}(hD:DG D)(n:Nat):FI 11 (f11 D n):=qQ (n:=n) (h:=h11) X_ok hD (sc (zBt hD n) (sc (zBs hD n) (sc (zBr hD n) (sc (VW hD n) (sc (zBq hD n) (sc (zBp hD n) (SOk.nil))))))) Tryz.func11 (by kernel_rfl) (by kernel_rfl)
end Go.Eng.Sh
end
end
section
noncomputable section
namespace Go.Eng.Sh
open Go.Proofs
set_option maxRecDepth 100000
def tab (D:Dyn)(n:Nat):List (Nat×(List AV→AH→Option (AV×AH))):=[(11,f11 D n),(20,f20 D n),(23,f23 D n),(31,f31 D n),(32,f32 D n),(36,f36 D n),(42,f42 D n),(43,f43 D n),(44,f44 D n),(45,f45 D n),(46,f46 D n),(47,f47 D n),(49,f49 D n),(62,f62 D n),(63,f63 D n),(64,f64 D n),(65,f65 D n),(66,f66 D n),(67,f67 D n),(68,f68 D n),(69,f69 D n),(70,f70 D n),(75,f75 D n),(77,f77 D n),(80,f80 D n),(82,f82 D n),(83,f83 D n),(84,f84 D n),(85,f85 D n),(86,f86 D n),(87,f87 D n),(88,f88 D n),(89,f89 D n),(90,f90 D n),(91,f91 D n),(92,f92 D n),(93,f93 D n),(94,f94 D n),(101,f101 D n),(102,f102 D n),(103,f103 D n),(104,f104 D n),(105,f105 D n),(106,f106 D n),(107,f107 D n),(108,f108 D n),(109,f109 D n),(110,zKw D n),(111,f111 D n),(118,f118 D n),(119,f119 D n),(123,f123 D n),(124,f124 D n),(125,zKv D n),(126,f126 D n),(127,f127 D n),(128,f128 D n),(129,f129 D n),(130,f130 D n),(138,f138 D n),(139,f139 D n),(140,f140 D n),(141,f141 D n),(144,f144 D n),(153,f153 D n),(155,f155 D n),(156,f156 D n),(166,f166 D n),(167,f167 D n),(168,f168 D n),(179,f179 D n),(180,f180 D n),(183,f183 D n)]
def tabR (D:Dyn)(n:Nat):List ((Nat×Nat)×(Nat→ALoop→List AV→AH→Option (AV×AH))):=[((90,0),zCe D n),((155,0),ZT D n)]
theorem zKO (D:Dyn)(n:Nat)(hD:DG D):SOk (tab D n):=sc (zLQ hD n) (sc (zIo hD n) (sc (zIn hD n) (sc (zIm hD n) (sc (zIl hD n) (sc (zIk hD n) (sc (zBt hD n) (sc (zBs hD n) (sc (zBr hD n) (sc (VW hD n) (sc (zBq hD n) (sc (zBp hD n) (sc (zIj hD n) (sc (JF hD n) (sc (zEI hD n) (sc (zLN hD n) (sc (zIi hD n) (sc (zLM hD n) (sc (zIh hD n) (sc (zIg hD n) (sc (zBo hD n) (sc (QK hD n) (sc (zIf hD n) (sc (zEG hD n) (sc (zIe hD n) (sc (zId hD n) (sc (VV hD n) (sc (VU hD n) (sc (zBn hD n) (sc (zEF hD n) (sc (zLK hD n) (sc (zBm hD n) (sc (zBl hD n) (sc (zED hD n) (sc (zIc hD n) (sc (zEC hD n) (sc (zEB hD n) (sc (zIb hD n) (sc (zAk hD n) (sc (WC hD n) (sc (zJV hD n) (sc (zFe hD n) (sc (zAj hD n) (sc (zFb hD n) (sc (QO hD n) (sc (WB hD n) (sc (WA hD n) (sc (zEb hD n) (sc (KZ hD n) (sc (zF6 hD n) (sc (zF5 hD n) (sc (KY hD n) (sc (zF3 hD n) (sc (zEa hD n) (sc (zAi hD n) (sc (zAh hD n) (sc (zJS hD n) (sc (zF2 hD n) (sc (zJR hD n) (sc (zF0 hD n) (sc (zAg hD n) (sc (zAf hD n) (sc (zAe hD n) (sc (zEZ hD n) (sc (zEW hD n) (sc (zJQ hD n) (sc (zAd hD n) (sc (zET hD n) (sc (zES hD n) (sc (zEQ hD n) (sc (zJP hD n) (sc (zEN hD n) (sc (zEM hD n) (SOk.nil)))))))))))))))))))))))))))))))))))))))))))))))))))))))))))))))))))))))))
theorem zIS (D:Dyn)(n:Nat)(hD:DG D):ROk (tabR D n):=ROk.cons (zGB hD n) (ROk.cons (zDL hD n) (ROk.nil))
def dy (n:Nat):Dyn:=dyOf tab tabR n
theorem dy_ok (n:Nat):DG (dy n):=zFo zKO zIS n
end Go.Eng.Sh
end
end
section
noncomputable section
namespace Go.Eng.Sh
open Go.Proofs
set_option maxRecDepth 1000000
theorem c43_r:zJ9 (f43 (dy 100000) 100000 [] ⟨.leaf,0⟩)=true:=by kernel_rfl
theorem c43 (w:World):Calls PP 43 #[] w fun e w'=>e= .returned (.bool true)∧RowKit.Below w.heap.size w w':=zHv (zBs (dy_ok 100000) 100000) c43_r w
end Go.Eng.Sh
end
end
section
noncomputable section
namespace Go.Eng.Sh
open Go.Proofs
set_option maxRecDepth 1000000
def z43 (D:Dyn)(n:Nat)(vs:List AV)(H:AH):Option (AV×AH):=cloK (f43 D n) vs H
theorem zKH {D:Dyn}(hD:DG D)(n:Nat):FI 43 (z43 D n):=zK9 ⟨_,Tryz.func43,rfl⟩ c43 (zBs hD n)
def s11z (D:Dyn)(n:Nat):Tb:=⟨X,[(42,f42 D n),(43,z43 D n),(44,f44 D n),(45,f45 D n),(46,f46 D n),(47,f47 D n)]⟩
def QN (D:Dyn)(n:Nat)(vs:List AV)(H:AH):Rs:=
 hd vs fun a vs=>hd vs fun b vs=>hd vs fun c vs=>hd vs fun d vs=>
 bV (lnSl a) fun e=>
 bV (qN .lss d e) fun f=>
 cnd f (bV (jW 1 a d) fun g=>
 bV (ld1 g H) fun h=>
 bV (kJ h) fun i=>
 bV (qN .gtr i (.int .i64 (.ofNat 500))) fun k=>
 cnd k (bV (some (.bool true)) fun m=>some (.ret m,H))
 (bV (jW 1 a d) fun o=>
 bV (ld1 o H) fun p=>
 bV (qN .add (.int .i64 (.ofNat 10)) d) fun r=>
 bR (f44 D n [c,(.int .i64 (.ofNat 3)),p,r] H) fun t H=>
 bV (qN .add d (.int .i64 (.ofNat 1))) fun u=>
 some (.norm [a,b,c,u],H)))
 (some (.exit 0 [b,c],H))
def zBA (D:Dyn)(n:Nat)(vs:List AV)(H:AH):Rs:=
 hd vs fun a vs=>hd vs fun b vs=>hd vs fun c vs=>
 bV (lnSl b) fun d=>
 bV (qN .lss c d) fun e=>
 cnd e (bV (jW 3 b c) fun f=>
 bV (ldN 3 f H) fun g=>
 bV (jW 3 a c) fun h=>
 bV (ldN 3 h H) fun i=>
 bV (xN .neq (eqA [2,6,6] g i)) fun k=>
 cnd k (bV (some (.bool false)) fun m=>some (.ret m,H))
 (bV (qN .add c (.int .i64 (.ofNat 1))) fun o=>
 some (.norm [a,b,o],H)))
 (some (.exit 2 [],H))
def zIy (D:Dyn)(n:Nat)(vs:List AV)(H:AH):Rs:=
 bV (some (.bool true)) fun a=>some (.ret a,H)
def zF4 (D:Dyn)(n:Nat)(vs:List AV)(H:AH):Rs:=
 hd vs fun a vs=>hd vs fun b vs=>hd vs fun c vs=>hd vs fun d vs=>
 bR (f45 D n [a,(.int .i64 (.ofNat 3)),(.int .i64 (.ofNat 0)),(.int .i64 (.ofNat 64))] H) fun e H=>
 bV (qJ e 0) fun f=>
 bV (qJ e 1) fun g=>
 bV (qJ e 2) fun h=>
 bV (qN .neq d h) fun i=>
 jn (wnt i false (bV (QX .neq c g) fun k=>
 some (.norm [k],H)) (some (.norm [qL],H))) fun vs H=>hd vs fun m vs=>
 bV (pk3 (some i) (some (.bool true)) (some m)) fun o=>
 jn (wnt o false (bV (lnSl b) fun p=>
 bV (lnSl f) fun r=>
 bV (qN .neq p r) fun t=>
 some (.norm [t],H)) (some (.norm [qL],H))) fun vs H=>hd vs fun u vs=>
 bV (pk3 (some o) (some (.bool true)) (some u)) fun v=>
 cnd v (bV (some (.bool false)) fun w=>some (.ret w,H))
 (jb 2 (qU n (zBA D n) [b,f,(.int .i64 (.ofNat 0))] H) (zIy D n))
def zBB (D:Dyn)(n:Nat)(vs:List AV)(H:AH):Rs:=
 hd vs fun a vs=>hd vs fun b vs=>
 bR (f45 D n [b,(.int .i64 (.ofNat 3)),(.int .i64 (.ofNat 0)),(.int .i64 (.ofNat 64))] H) fun c H=>
 bV (qJ c 0) fun d=>
 bV (qJ c 1) fun e=>
 bV (qJ c 2) fun f=>
 bR (f44 D n [b,(.int .i64 (.ofNat 3)),a,(.int .i64 (.ofNat 9))] H) fun g H=>
 bV (qJ g 0) fun h=>
 bV (qJ g 1) fun i=>
 bV (qN .eql i (.int .i64 (.ofNat 0))) fun k=>
 jn (cnd k (bR (f46 D n [b,(.int .i64 (.ofNat 3)),a] H) fun m H=>
 bV (qJ m 0) fun o=>
 bV (qJ m 1) fun p=>
 bV (qJ m 2) fun r=>
 bR (f44 D n [b,(.int .i64 (.ofNat 3)),a,(.int .i64 (.ofNat 8))] H) fun t H=>
 bV (qJ t 0) fun u=>
 bV (qJ t 1) fun v=>
 bR (f47 D n [b,(.int .i64 (.ofNat 3)),a] H) fun w H=>
 bV (qJ w 0) fun x=>
 bV (qJ w 1) fun y=>
 bV (qN .neq r (.int .i64 (.ofNat 0))) fun z=>
 jn (wnt z false (bV (qN .neq o (.int .i64 (.ofNat 9))) fun B=>
 some (.norm [B],H)) (some (.norm [qL],H))) fun vs H=>hd vs fun C vs=>
 bV (pk3 (some z) (some (.bool true)) (some C)) fun E=>
 jn (wnt E false (bV (qN .neq v (.int .i64 (.ofNat 6))) fun F=>
 some (.norm [F],H)) (some (.norm [qL],H))) fun vs H=>hd vs fun G vs=>
 bV (pk3 (some E) (some (.bool true)) (some G)) fun I=>
 jn (wnt I false (bV (qN .neq y (.int .i64 (.ofNat 0))) fun J=>
 some (.norm [J],H)) (some (.norm [qL],H))) fun vs H=>hd vs fun K vs=>
 bV (pk3 (some I) (some (.bool true)) (some K)) fun M=>
 jn (wnt M false (bV (qN .neq x (.int .i64 (.ofNat 9))) fun N=>
 some (.norm [N],H)) (some (.norm [qL],H))) fun vs H=>hd vs fun O vs=>
 bV (pk3 (some M) (some (.bool true)) (some O)) fun P=>
 cnd P (bV (some (.bool false)) fun Q=>some (.ret Q,H))
 (some (.norm [b,d,e,f],H)))
 (some (.norm [b,d,e,f],H))) (zF4 D n)
def zKA (D:Dyn)(n:Nat)(vs:List AV)(H:AH):Option (AV×AH):=
 outR (hd vs fun a vs=>hd vs fun b vs=>nl vs <|
 bR (f42 D n [] H) fun c H=>
 bR (z43 D n [] H) fun d H=>
 bV (aun .not d) fun e=>
 jn (wnt e false (bV (xN .eql (eqP c .nilPtr)) fun f=>
 some (.norm [f],H)) (some (.norm [qL],H))) fun vs H=>hd vs fun g vs=>
 bV (pk3 (some e) (some (.bool true)) (some g)) fun h=>
 jn (wnt h false (bV (lnSl a) fun i=>
 bV (qN .gtr i (.int .i64 (.ofNat 60))) fun k=>
 some (.norm [k],H)) (some (.norm [qL],H))) fun vs H=>hd vs fun m vs=>
 bV (pk3 (some h) (some (.bool true)) (some m)) fun o=>
 jn (wnt o false (bV (kJ b) fun p=>
 bV (qN .gtr p (.int .i64 (.ofNat 500))) fun r=>
 some (.norm [r],H)) (some (.norm [qL],H))) fun vs H=>hd vs fun t vs=>
 bV (pk3 (some o) (some (.bool true)) (some t)) fun u=>
 cnd u (bR (z43 D n [] H) fun v H=>
 bV (some v) fun w=>some (.ret w,H))
 (jb 0 (qU n (QN D n) [a,b,c,(.int .i64 (.ofNat 0))] H) (zBB D n)))
def h11z:Hint:=(.s .o (.s .o (.s (.s .o (.cl (.s .o .o) .o)) (.s (.s .o (.b [1,5] (.l [0,1,5,6] (.s (.s .o (.cr .o .o)) (.s (.b0 (.s (.s .o (.cl (.s .o .o) .o)) .o)) .o))))) (.s .o (.s .o (.s (.s .o (.c [5,7,8,9] (.s .o (.s .o (.s .o (.s .o (.cl (.s .o .o) .o))))) .o)) (.s .o (.s (.s .o (.cl (.s .o .o) .o)) (.s (.s .o (.b [] (.l [7,19,22] (.s (.s .o (.cr .o .o)) (.s (.b0 (.s .o (.cl (.s .o .o) .o))) .o))))) (.s .o .o)))))))))))
theorem f11z_ok {D:Dyn}(hD:DG D)(n:Nat):FI 11 (zKA D n):=qQ (n:=n) (h:=h11z) X_ok hD (sc (zBt hD n) (sc (zKH hD n) (sc (zBr hD n) (sc (VW hD n) (sc (zBq hD n) (sc (zBp hD n) (SOk.nil))))))) Tryz.func11 (by kernel_rfl) (by kernel_rfl)
end Go.Eng.Sh
end
end
section
namespace Go.Nd
abbrev Str:=List UInt8
structure Ptr where
 at_:Int
 birth:Int
 sum:Int
 deriving DecidableEq
structure Node where
 leaf:Bool
 keys:List Str
 vals:List Str
 kids:List Ptr
 deriving DecidableEq
def be:Nat→Nat→Str
 | 0,_=>[]
 | k+1,n=>be k (n / 256)++[UInt8.ofNat n]
theorem be_length: ∀k n,(be k n).length=k
 | 0,_=>rfl
 | k+1,n=>by simp[be,be_length k]
def zJs (p:Ptr):Bool:=if p.at_=0 then decide (p.birth=0)&&decide (p.sum=0)else decide (0<p.at_)&&decide (p.at_<8192)&&decide (0≤p.birth)&&decide (p.birth≤2147483647)
def encP (p:Ptr):Str:=be 4 p.at_.toNat++(be 4 p.birth.toNat++be 8 p.sum.toNat)
theorem encP_length (p:Ptr):(encP p).length=16:=by simp[encP,be_length]
def sumOk (p:Ptr):Prop:=0≤p.sum∧p.sum<18446744073709551616
def encT (s:Str):Str:=UInt8.ofNat s.length::s
def mayK (k:Str):Bool:=decide (1≤k.length)&&decide (k.length≤40)
def rising (lt:Str→Str→Bool):List Str→Bool
 | []=>true
 | [_]=>true
 | a::b::l=>lt a b&&rising lt (b::l)
def kidOk (p:Ptr):Bool:=decide (1≤p.at_)&&decide (p.at_<8192)&&decide (0≤p.birth)&&decide (p.birth≤2147483647)
def shaped (lt:Str→Str→Bool)(n:Node):Bool:=
 n.keys.all mayK&&rising lt n.keys&&
 (if n.leaf then decide (n.vals.length=n.keys.length)&&decide (n.kids=[])&&n.vals.all (fun v=>decide (v.length≤200))
  else decide (n.keys≠[])&&decide (n.vals=[])&&decide (n.kids.length=n.keys.length+1)&&n.kids.all kidOk)
def yF (l:List Str):Nat:=l.foldl (fun n s=>n+(1+s.length)) 0
theorem XH (l:List Str)(a:Nat):l.foldl (fun n s=>n+(1+s.length)) a=a+yF l:=by
 induction l generalizing a with
 | nil=>simp[yF]
 | cons s l ih=>simp only[List.foldl_cons,yF];rw[ih,ih];omega
theorem sumL_cons (s:Str)(l:List Str):yF (s::l)=1+s.length+yF l:=by
 simp only[yF,List.foldl_cons];rw[XH,XH];simp[yF]
theorem sumL_append (l m:List Str):yF (l++m)=yF l+yF m:=by
 induction l with
 | nil=>simp[yF]
 | cons s l ih=>rw[List.cons_append,sumL_cons,sumL_cons,ih];omega
def size (n:Node):Nat:=2+16*n.kids.length+yF n.keys+yF n.vals
def may (lt:Str→Str→Bool)(n:Node):Bool:=shaped lt n&&decide (size n≤500)
def encL:List Str→List Str→Str
 | k::ks,v::vs=>encT k++(encT v++encL ks vs)
 | _,_=>[]
def encI:List Str→List Ptr→Str
 | k::ks,p::ps=>encT k++(encP p++encI ks ps)
 | _,_=>[]
def encB (n:Node):Str:=if n.leaf then encL n.keys n.vals else match n.kids with
 | p::ps=>encP p++encI n.keys ps
 | []=>[]
def encN (n:Node):Str:=be 2 n.keys.length++encB n
theorem sumL_ge (l:List Str):l.length≤yF l:=by
 induction l with
 | nil=>simp
 | cons s l ih=>rw[sumL_cons,zF];omega
end Go.Nd
end
section
namespace Go.Eng
theorem wM {b:List AV→AH→Rs}{H:AH}{r:Rs}(st:Nat→List AV)(N:Nat)(step: ∀i,i<N→b (st i) H=some (.norm (st (i+1)),H))(last: ∀n,qU (n+1) b (st N) H=r): ∀n,N<n→qU n b (st 0) H=r:=by
 suffices h: ∀(m i n:Nat),i+m=N→m<n→qU n b (st i) H=r from fun n hn=>h N 0 n (by omega) hn
 intro m
 induction m with
 | zero=>
  intro i n hi hn
  obtain⟨n,rfl⟩: ∃k,n=k+1:=⟨n - 1,by omega⟩
  rw[show i=N by omega];exact last n
 | succ m ih=>
  intro i n hi hn
  obtain⟨n,rfl⟩: ∃k,n=k+1:=⟨n - 1,by omega⟩
  rw[xC (step i (by omega))]
  exact ih (i+1) n (by omega) (by omega)
theorem fO {α:Type}(l:List α)(i:Nat)(h:i<l.length):l.take (i+1)=l.take i++[l[i]]:=by
 rw[zM h]
theorem aZ (H:AH)(l:List AV)(e sz o:Nat)(g:Bool):ld1 (.ptr H.next o) (H.push (.cells l e sz g))=l[o]? :=by simp only[ld1,AH.push_get_eq,fV]
theorem zGW (H:AH)(l:List AV)(e sz o n:Nat)(g:Bool):ldN n (.ptr H.next o) (H.push (.cells l e sz g))=(vI l o n).map .agg:=by
 simp only[ldN,AH.push_get_eq];cases vI l o n<;>rfl
theorem zEf {H:AH}{A:Nat}(o:Nat)(x:AObj)(h:A<H.next):ld1 (.ptr A o) (H.push x)=ld1 (.ptr A o) H:=by simp only[ld1,AH.push_get_ne _ _ h]
theorem zJy {H:AH}{A:Nat}(o n:Nat)(x:AObj)(h:A<H.next):ldN n (.ptr A o) (H.push x)=ldN n (.ptr A o) H:=by simp only[ldN,AH.push_get_ne _ _ h]
theorem vO {b:List AV→AH→Rs}(N:Nat)(I:Nat→List AV→AH→Prop)(step: ∀i vs H,i<N→I i vs H→ ∃vs' H',b vs H=some (.norm vs',H')∧I (i+1) vs' H'):
  ∀(n:Nat) (vs:List AV) (H:AH),I 0 vs H→N<n→ ∃m vs' H',qU n b vs H=qU (m+1) b vs' H'∧I N vs' H':=by
 suffices h: ∀(m i n:Nat) (vs:List AV) (H:AH),i+m=N→m<n→I i vs H→ ∃m vs' H',qU n b vs H=qU (m+1) b vs' H'∧I N vs' H' from fun n vs H h0 hn=>h N 0 n vs H (by omega) hn h0
 intro m
 induction m with
 | zero=>
  intro i n vs H hi hn hI
  obtain⟨n,rfl⟩: ∃k,n=k+1:=⟨n - 1,by omega⟩
  exact⟨n,vs,H,rfl,by rw[show N=i by omega];exact hI⟩
 | succ m ih=>
  intro i n vs H hi hn hI
  obtain⟨n,rfl⟩: ∃k,n=k+1:=⟨n - 1,by omega⟩
  obtain⟨vs',H',h1,h2⟩:=step i vs H (by omega) hI
  rw[xC h1]
  exact ih (i+1) n vs' H' (by omega) (by omega) h2
def notN:Ex→Bool
 | .norm _=>false
 | _=>true
theorem zEi {e:Ex}{H:AH}{K:List AV→AH→Rs}(h:notN e=true):jn (some (e,H)) K=some (e,H):=by cases e<;>first | rfl | (simp[notN]at h)
theorem KN {b:List AV→AH→Rs}(N:Nat)(good:Nat→Bool)(I:Nat→List AV→AH→Prop)(Good Bad:Ex→AH→Prop)
  (step: ∀i vs H,i<N→I i vs H→good i=true→ ∃vs' H',b vs H=some (.norm vs',H')∧I (i+1) vs' H')
  (bad: ∀i vs H,i<N→I i vs H→good i=false→ ∃e H',b vs H=some (e,H')∧notN e=true∧Bad e H')
  (last: ∀vs H,I N vs H→ ∃e H',b vs H=some (e,H')∧notN e=true∧Good e H'):
  ∀(n:Nat) (vs:List AV) (H:AH),I 0 vs H→N<n→ ∃e H',qU n b vs H=some (e,H')∧if(List.range N).all good then Good e H' else Bad e H':=by
 suffices h: ∀(m i n:Nat) (vs:List AV) (H:AH),i+m=N→m<n→I i vs H→(∀j,j<i→good j=true)→ ∃e H',qU n b vs H=some (e,H')∧if(List.range N).all good then Good e H' else Bad e H' from
  fun n vs H h0 hn=>h N 0 n vs H (by omega) hn h0 (fun j hj=>by omega)
 intro m
 induction m with
 | zero=>
  intro i n vs H hi hn hI hg
  obtain⟨n,rfl⟩: ∃k,n=k+1:=⟨n - 1,by omega⟩
  rw[show i=N by omega]at hI hg
  obtain⟨e,H',h1,h2,h3⟩:=last vs H hI
  refine⟨e,H', ?_, ?_⟩
  ·show jn (b vs H) _=_
   rw[h1,zEi h2]
  ·rw[if_pos (by simpa[List.all_eq_true]using hg)];exact h3
 | succ m ih=>
  intro i n vs H hi hn hI hg
  obtain⟨n,rfl⟩: ∃k,n=k+1:=⟨n - 1,by omega⟩
  cases hgi:good i with
  | true=>
   obtain⟨vs',H',h1,h2⟩:=step i vs H (by omega) hI hgi
   rw[xC h1]
   exact ih (i+1) n vs' H' (by omega) (by omega) h2 (fun j hj=>by
    rcases Nat.lt_succ_iff_lt_or_eq.1 hj with h | rfl
    ·exact hg j h
    ·exact hgi)
  | false=>
   obtain⟨e,H',h1,h2,h3⟩:=bad i vs H (by omega) hI hgi
   refine⟨e,H', ?_, ?_⟩
   ·show jn (b vs H) _=_
    rw[h1,zEi h2]
   ·rw[if_neg (by
     simp only[List.all_eq_true,List.mem_range];intro h
     have:=h i (by omega)
     rw[hgi]at this;cases this)];exact h3
theorem zCI (want:Bool)(x y:Rs):wnt qL want x y=y:=by cases want<;>rfl
theorem zBO (k k':IntKind){a:Int}{s:Nat}(ha:0≤a)(hs:s≤k.bits):qN .shr (.int k a) (.int k' (s:Int))=some (.int k (a / 2 ^ s)):=by
 show fI (a.fdiv ((2 ^ (Nat.min s k.bits):Nat):Int)) (fun r=>some (AV.int k r))=_
 rw[zA7,show Nat.min s k.bits=s from Nat.min_eq_left hs,Int.fdiv_eq_ediv_of_nonneg _ (Int.natCast_nonneg _)]
 simp
theorem zHD (k k':IntKind)(a:Int){s:Nat}(hs:s≤k.bits):qN .shl (.int k a) (.int k' (s:Int))=some (.int k (k.wrap (a*2 ^ s))):=by
 show mkI k (a*(2 ^ (Nat.min s k.bits):Nat))=_
 rw[kU,show Nat.min s k.bits=s from Nat.min_eq_left hs];simp
theorem yH {v:AV}(h:isCell v=true):qS v=[v]:=by cases v<;>first | rfl | (simp[isCell]at h)
theorem Rw.isCell {k n:Nat}{H:AH}{v:AV}{l:List AV}(h:Rw k H v n l):Eng.isCell v=true:=by
 obtain⟨_,⟨rfl,_⟩ | ⟨rfl,_⟩ | ⟨A,off,cc,c,e,sz,g,rfl,_⟩⟩:=h<;>rfl
theorem cT (k:IntKind)(a b:Int):QV (gO k) (.int k a) (.int k b)=some (decide (a=b)):=by
 have:keq k k=true:=by rw[k9];simp
 simp only[QV,Nat.beq_refl,this,Bool.and_self,cond_true,kB]
 congr 1
theorem yI {k n:Nat}{H:AH}{v:AV}{l:List AV}(h:Rw k H v n l):aveq v v=true:=by
 obtain⟨_,⟨rfl,_⟩ | ⟨rfl,_⟩ | ⟨A,off,cc,c,e,sz,g,rfl,_⟩⟩:=h
 ·rfl
 ·rfl
 ·simp[aveq]
theorem yZ {x:Option AV}{v:AV}{K:Rs}(h:x=some v)(hv:aveq v v=true):chk x v K=K:=by subst h;simp[chk,hv]
theorem qK {H:AH}{A:Nat}{l:List AV}{e:TypeId}{sz:Nat}{g:Bool}(h:H.h.get A=some (.cells l e sz g))(o:Nat):ld1 (.ptr A o) H=l[o]? :=by simp only[ld1,h,fV]
theorem qP {H:AH}{A:Nat}{l:List AV}{e:TypeId}{sz:Nat}{g:Bool}(h:H.h.get A=some (.cells l e sz g))(o n:Nat):ldN n (.ptr A o) H=(vI l o n).map .agg:=by simp only[ldN,h];cases vI l o n<;>rfl
theorem zLu (b c:Bool)(H:AH)(K:AV→AH→Rs):
  jn (if b=false then some (.norm [.bool c],H)else some (.norm [qL],H)) (fun vs H=>hd vs fun y _=>bV (if b=true then some (.bool true)else some y) fun x=>K x H)=K (.bool (b||c)) H:=by
 cases b<;>simp[jn,hd,bV]
theorem zLt (p:Prop)[Decidable p](b:Bool)(H:AH)(K:AV→AH→Rs):
  jn (if ¬p then some (.norm [.bool b],H)else some (.norm [qL],H)) (fun vs H=>hd vs fun y _=>bV (if p then some (.bool true)else some y) fun x=>K x H)=K (.bool (decide p||b)) H:=by
 by_cases h:p<;>simp[h,jn,hd,bV]
theorem lg:(∀(p:Prop) [Decidable p] (b:Bool) (H:AH) (K:AV→AH→Rs),jn (if ¬p then some (.norm [.bool b],H)else some (.norm [qL],H)) (fun vs H=>hd vs fun y _=>bV (if p then some (.bool true)else some y) fun x=>K x H)=K (.bool (decide p||b)) H)∧
  (∀(p:Prop) [Decidable p] (b:Bool) (H:AH) (K:AV→AH→Rs),jn (if p then some (.norm [.bool b],H)else some (.norm [qL],H)) (fun vs H=>hd vs fun y _=>bV (if p then some y else some (.bool false)) fun x=>K x H)=K (.bool (decide p&&b)) H)∧
  (∀(p:Prop) [Decidable p] (b:Bool) (H:AH) (K:AV→AH→Rs),jn (if p then some (.norm [qL],H)else some (.norm [.bool b],H)) (fun vs H=>hd vs fun y _=>bV (if p then some (.bool true)else some y) fun x=>K x H)=K (.bool (decide p||b)) H)∧
  (∀(b c:Bool) (H:AH) (K:AV→AH→Rs),jn (if b=false then some (.norm [.bool c],H)else some (.norm [qL],H)) (fun vs H=>hd vs fun y _=>bV (if b=true then some (.bool true)else some y) fun x=>K x H)=K (.bool (b||c)) H)∧
  (∀(p:Prop) [Decidable p],(decide p=true)=p)∧(∀(p:Prop) [Decidable p],(decide p=false)= ¬p)∧(∀(b:Bool),decide (b=true)=b):=
 ⟨fun p _ b H K=>zLt p b H K,fun p _ b H K=>zLw p b H K,fun p _ b H K=>jn_or p b H K,zLu,fun p _=>zD,fun p _=>by simp,fun b=>by simp⟩
theorem ev:(∀(v:AV) (vs:List AV) (K:AV→List AV→Rs),hd (v::vs) K=K v vs)∧
 (∀(K:Rs),nl [] K=K)∧
 (∀(v:AV) (K:AV→Rs),bV (some v) K=K v)∧
 (∀(v:AV) (H:AH) (K:AV→AH→Rs),bR (some (v,H)) K=K v H)∧
 (∀(vs:List AV) (H:AH) (K:List AV→AH→Rs),jn (some (.norm vs,H)) K=K vs H)∧
 (∀(v:AV) (H:AH) (K:List AV→AH→Rs),jn (some (.ret v,H)) K=some (.ret v,H))∧
 (∀(i:Nat) (vs:List AV) (H:AH) (K:List AV→AH→Rs),jn (some (.exit i vs,H)) K=some (.exit i vs,H))∧
 (∀(id:Nat) (vs:List AV) (H:AH) (K:List AV→AH→Rs),jb id (some (.norm vs,H)) K=K vs H)∧
 (∀(id:Nat) (v:AV) (H:AH) (K:List AV→AH→Rs),jb id (some (.ret v,H)) K=some (.ret v,H))∧
 (∀(id:Nat) (vs:List AV) (H:AH) (K:List AV→AH→Rs),jb id (some (.exit id vs,H)) K=K vs H)∧
 (∀(v:AV) (H:AH),outR (some (.ret v,H))=some (v,H))∧
 (∀(b:Bool) (x y:Rs),cnd (.bool b) x y=if b then x else y)∧
 (∀(b want:Bool) (x y:Rs),wnt (.bool b) want x y=if b=want then x else y)∧
 (∀(b:Bool) (x y:Option AV),pk3 (some (.bool b)) x y=if b then x else y)∧
 (∀(k:IntKind) (a b:Int),qN .add (.int k a) (.int k b)=some (.int k (k.wrap (a+b))))∧
 (∀(k:IntKind) (a b:Int),qN .sub (.int k a) (.int k b)=some (.int k (k.wrap (a - b))))∧
 (∀(k:IntKind) (a b:Int),qN .mul (.int k a) (.int k b)=some (.int k (k.wrap (a*b))))∧
 (∀(k:IntKind) (a b:Int),qN .eql (.int k a) (.int k b)=some (.bool (decide (a=b))))∧
 (∀(k:IntKind) (a b:Int),qN .neq (.int k a) (.int k b)=some (.bool (decide (a≠b))))∧
 (∀(k:IntKind) (a b:Int),qN .lss (.int k a) (.int k b)=some (.bool (decide (a<b))))∧
 (∀(k:IntKind) (a b:Int),qN .leq (.int k a) (.int k b)=some (.bool (decide (a≤b))))∧
 (∀(k:IntKind) (a b:Int),qN .gtr (.int k a) (.int k b)=some (.bool (decide (b<a))))∧
 (∀(k:IntKind) (a b:Int),qN .geq (.int k a) (.int k b)=some (.bool (decide (b≤a))))∧
 (∀(k k':IntKind) (z:Int),cvI k (.int k' z)=some (.int k (k.wrap z)))∧
 (∀(a b:Bool),QX .eql (.bool a) (.bool b)=some (.bool (a==b)))∧
 (∀(a b:Bool),QX .neq (.bool a) (.bool b)=some (.bool (!(a==b))))∧
 (∀(b:Bool),aun .not (.bool b)=some (.bool !b))∧
 (∀(l:Str),kJ (S l)=some (.int .i64 (l.length:Nat)))∧
 (∀(l m:Str),kD .eql (S l) (S m)=some (.bool (decide (l=m))))∧
 (∀(l m:Str),kD .neq (S l) (S m)=some (.bool (decide (l≠m))))∧
 (∀(l m:Str),kD .lss (S l) (S m)=some (.bool (ltS l m)))∧
 (∀(l m:Str),kD .geq (S l) (S m)=some (.bool (!ltS l m)))∧
 (∀(A o:Nat),xO (.ptr A o)=some (.ptr A o))∧
 (∀(f A o:Nat),fAd f (.ptr A o)=some (.ptr A (o+f)))∧
 (∀(e:TypeId) (x:AV),bxV e x=some (.cells (qS x) e 1 false,fun A=> .ptr A 0))∧
 (∀(l:List AV),qS (.agg l)=l)∧
 (∀(H:AH) (l:List AV) (e sz o:Nat) (g:Bool),ld1 (.ptr H.next o) (H.push (.cells l e sz g))=l[o]?)∧
 (∀(H:AH) (l:List AV) (e sz o n:Nat) (g:Bool),ldN n (.ptr H.next o) (H.push (.cells l e sz g))=(vI l o n).map .agg)∧
 (∀(a:AV) (l:List AV),(a::l)[0]? =some a)∧
 (∀(a:AV) (l:List AV) (i:Nat),(a::l)[i+1]? =l[i]?)∧
 (∀(n:Nat),0+n=n)∧
 (∀(n:Nat),Int.ofNat n=(n:Int))∧
 (∀(z:Int), -9223372036854775808≤z→z≤9223372036854775807→IntKind.wrap .i64 z=z):=
 ⟨gP,zE6,bVs,bRs,KR,zLs,zJB,zJC,zLx,zJD,zAW,zCv,zKJ,zLc,Z7,zHC,zBR,zHG,zBQ,dQ,zBS,zBT,zBU,zK6,zFR,zFQ,zKe,jY,jK,vQ,WP,dO,zGH,zJM,fun _ _=>rfl,fun _=>rfl,aZ,zGW,fun _ _=>List.getElem?_cons_zero,fun _ _ _=>List.getElem?_cons_succ,Nat.zero_add,fun _=>rfl,fun _ h1 h2=>wrap_i64 h1 h2⟩
def eZ:=And.intro zCI (And.intro ev (And.intro lg ew))
def jA (k e:Nat)(H:AH)(v:AV)(n:Nat)(l:List AV):Prop:=
 Own k e H v n l∨(l.length=n*k∧ ∃A e' g,v= .slice A 0 n (2*n)∧A<H.next∧H.h.get A=some (.cells l e' k g))
theorem jA.len {k e n:Nat}{H:AH}{v:AV}{l:List AV}(h:jA k e H v n l):l.length=n*k:=by
 rcases h with h | h
 ·exact h.1
 ·exact h.1
theorem jA.row {k e n:Nat}{H:AH}{v:AV}{l:List AV}(h:jA k e H v n l):Rw k H v n l:=by
 rcases h with h | ⟨h0,A,e',g,rfl,hA,hg⟩
 ·exact h.row
 ·exact⟨h0, .inr (.inr ⟨A,0,2*n,l,e',k,g,rfl,hg,hA,by omega,by rw[List.drop_zero,zK (by omega)]⟩)⟩
theorem jA.mono {k e n:Nat}{S:Nat→Prop}{H H':AH}{v:AV}{l:List AV}(h:jA k e H v n l)(s:Stp S H H')(hS: ∀A,Blk v A→ ¬S A):jA k e H' v n l:=by
 rcases h with h | ⟨h0,A,e',g,rfl,hA,hg⟩
 ·exact .inl (h.mono s hS)
 ·exact .inr ⟨h0,A,e',g,rfl,zP hA s.next,by rw[s.keep A hA (hS A (Blk.slice.2 rfl))];exact hg⟩
theorem jA.lt {k e n:Nat}{H:AH}{v:AV}{l:List AV}(h:jA k e H v n l){B:Nat}(hB:Blk v B):B<H.next:=by
 rcases h with⟨_,⟨rfl,_⟩ | ⟨A,rfl,hA,_⟩⟩ | ⟨_,A,e',g,rfl,hA,_⟩
 ·exact(Blk.nil.1 hB).elim
 ·rw[Blk.slice.1 hB];exact hA
 ·rw[Blk.slice.1 hB];exact hA
theorem jA.app1 {k e bytes n m:Nat}{H:AH}{v:AV}{l new:List AV}(hk:H.ok)(hpos:0<k)(h:jA k e H v n l)(hm:new.length=m*k)(hn:n+m≤1000000000)(hb:bytes≤1000):
  ∃v' H',Eng.app1 e k bytes m new v H=some (v',H')∧jA k e H' v' (n+m) (l++new)∧Stp (Blk v) H H'∧(∀B,Blk v' B→Blk v B∨H.next≤B):=by
 by_cases h0:m=0
 ·subst h0
  have:new=[]:=zE (by simpa using hm)
  subst this
  rcases h with h | ⟨h0,A,e',g,rfl,hA,hg⟩
  ·obtain⟨H',h1,h2,h3,h4⟩:=UX (bytes:=bytes) hk hpos h
   exact⟨v,H',h1, .inl (by simpa using h2),h3.mono (fun _ _ x=>x.elim),fun B hB=> .inl hB⟩
  ·have hroom:yD l g k 0 (2*n) k=n:=by
    simp only[yD,show((2*n) % 2).beq 0=true by rw[Nat.mul_mod_right];rfl,cond_true,Nat.mul_div_cancel_left n (show 0<2 by omega)]
   have hz:Nat.blt 0 k=true:=by rw[zH];exact hpos
   have hset:setAt l (0+n*k) []=some l:=by rw[vD (by simp;omega)];simp
   have hg':(H.put A (.cells l e' k g)).h.get A=some (.cells l e' k g):=by rw[AH.put_get,if_pos rfl]
   refine⟨.slice A 0 n (2*n),H.put A (.cells l e' k g), ?_, .inr ⟨by simpa using h0,A,e',g,rfl,hA,by simpa using hg'⟩,(Stp.refl hk).put hA _ (.inr (Blk.slice.2 rfl)),fun B hB=> .inl hB⟩
   simp only[Eng.app1,hg,zFU,hroom,Nat.add_zero,Nat.ble_eq_true_of_le (Nat.le_refl n),cond_true,hz,hset,zAv,jC,y7]
 ·rcases h with h | ⟨hl,A,e',g,rfl,hA,hg⟩
  ·obtain⟨H',h1,h2,h3,h4⟩:=WS (bytes:=bytes) hk hpos h hm (by omega) hn hb
   exact⟨_,H',h1, .inl h2,h3,fun B hB=> .inr (by rw[Blk.slice.1 hB];exact Nat.le_refl _)⟩
  ·have h1:=UZ (k:=k) (e:=e) (bytes:=bytes) (n:=n) (m:=m) (off:=0) (new:=new) hk hg (by omega) (by omega) hn hb
   rw[List.drop_zero,zK (by omega)]at h1
   refine⟨_,_,h1, .inl ⟨by simp[hl,hm,Nat.add_mul], .inr ⟨H.next,rfl,Nat.lt_succ_self _,AH.push_get_eq _ _⟩⟩,(Stp.refl hk).push _,fun B hB=> .inr (by rw[Blk.slice.1 hB];exact Nat.le_refl _)⟩
theorem jA.app {k e bytes n m:Nat}{H:AH}{v s:AV}{l new:List AV}(hk:H.ok)(hpos:0<k)(h:jA k e H v n l)(hs:srcOf k s H=some (m,new))(hm:new.length=m*k)(hc:qM new=true)(hn:n+m≤1000000000)(hb:bytes≤1000):
  ∃v' H',apP e k bytes v s H=some (v',H')∧jA k e H' v' (n+m) (l++new)∧Stp (Blk v) H H'∧(∀B,Blk v' B→Blk v B∨H.next≤B):=by
 obtain⟨v',H',h1,h2⟩:=h.app1 (bytes:=bytes) (e:=e) hk hpos hm hn hb
 exact⟨v',H',by simp only[apP,hs,hc,cond_true,h1],h2⟩
theorem jA.isCell {k e n:Nat}{H:AH}{v:AV}{l:List AV}(h:jA k e H v n l):isCell v=true:=h.row.isCell
def Box (H:AH)(A:Nat)(v:AV):Prop:= ∃e,H.h.get A=some (.cells [v] e 1 false)
theorem Box.ld {H:AH}{A:Nat}{v:AV}(h:Box H A v):ld1 (.ptr A 0) H=some v:=by
 obtain⟨e,h⟩:=h;rw[qK h];rfl
theorem Box.st {H:AH}{A:Nat}{v x:AV}(h:Box H A v)(hk:H.ok)(hx:Eng.isCell x=true): ∃H',stN 1 (.ptr A 0) x H=some (qL,H')∧Box H' A x∧Stp (fun B=>B=A) H H':=by
 obtain⟨e,h⟩:=h
 exact⟨_,YT h (by decide) hx (by simp),⟨e,by rw[AH.put_get,if_pos rfl];rfl⟩,(Stp.refl hk).put (hk.lt h) _ (.inr rfl)⟩
theorem Box.mono {S:Nat→Prop}{H H':AH}{A:Nat}{v:AV}(h:Box H A v)(hk:H.ok)(s:Stp S H H')(hA: ¬S A):Box H' A v:=by
 obtain⟨e,h⟩:=h;exact⟨e,by rw[s.keep A (hk.lt h) hA];exact h⟩
theorem Box.lt {H:AH}{A:Nat}{v:AV}(h:Box H A v)(hk:H.ok):A<H.next:=by obtain⟨e,h⟩:=h;exact hk.lt h
end Go.Eng
end
section
namespace Go.Nd
theorem rising_ix (lt:Str→Str→Bool): ∀l:List Str,rising lt l=true↔ ∀i (h:i+1<l.length),lt l[i] l[i+1]=true
 | []=>by simp[rising]
 | [a]=>by simp[rising]
 | a::b::l=>by
  have ih:=rising_ix lt (b::l)
  simp only[rising,z7,ih]
  constructor
  ·rintro⟨h1,h2⟩ i h
   cases i with
   | zero=>exact h1
   | succ i=>exact h2 i (by simpa using h)
  ·intro h
   exact⟨h 0 (by simp),fun i hi=>h (i+1) (by simpa using hi)⟩
theorem rising_take {lt:Str→Str→Bool}{l:List Str}(h:rising lt l=true)(k:Nat):rising lt (l.take k)=true:=by
 rw[rising_ix]at h⊢
 intro i hi
 simp only[zG]at hi
 simp only[List.getElem_take]
 exact h i (by omega)
theorem rising_drop {lt:Str→Str→Bool}{l:List Str}(h:rising lt l=true)(k:Nat):rising lt (l.drop k)=true:=by
 rw[rising_ix]at h⊢
 intro i hi
 simp only[zN]at hi
 simp only[List.getElem_drop]
 exact h (k+i) (by omega)
theorem Z8 {α:Type}{f:α→Bool}{l:List α}(h:l.all f=true)(k:Nat):(l.take k).all f=true:=by
 simp only[List.all_eq_true]at h⊢
 exact fun x hx=>h x (List.mem_of_mem_take hx)
theorem Z9 {α:Type}{f:α→Bool}{l:List α}(h:l.all f=true)(k:Nat):(l.drop k).all f=true:=by
 simp only[List.all_eq_true]at h⊢
 exact fun x hx=>h x (List.mem_of_mem_drop hx)
def cutA (n:Node)(k:Nat):Node:=if n.leaf then⟨true,n.keys.take k,n.vals.take k,[]⟩else⟨false,n.keys.take k,[],n.kids.take (k+1)⟩
def fF (n:Node)(k:Nat):Node:=if n.leaf then⟨true,n.keys.drop k,n.vals.drop k,[]⟩else⟨false,n.keys.drop (k+1),[],n.kids.drop (k+1)⟩
def bK (a:Node)(sep:Str)(b:Node):Node:=if a.leaf then⟨true,a.keys++b.keys,a.vals++b.vals,[]⟩else⟨false,a.keys++([sep]++b.keys),[],a.kids++b.kids⟩
def cutOk (n:Node)(k:Nat):Prop:=1≤k∧k+(if n.leaf then 1 else 2)≤n.keys.length
theorem cut_shaped {lt:Str→Str→Bool}{n:Node}{k:Nat}(h:shaped lt n=true)(hk:cutOk n k):shaped lt (cutA n k)=true∧shaped lt (fF n k)=true:=by
 obtain⟨leaf,keys,vals,kids⟩:=n
 obtain⟨k1,k2⟩:=hk
 cases leaf with
 | true=>
  simp only[shaped,if_true,z7,zD]at h k2
  obtain⟨⟨h1,h2⟩,⟨h3,h4⟩,h5⟩:=h
  simp only[shaped,cutA,fF,if_true,z7,zD]
  exact⟨⟨⟨Z8 h1 k,rising_take h2 k⟩,⟨by simp[h3],trivial⟩,Z8 h5 k⟩,⟨Z9 h1 k,rising_drop h2 k⟩,⟨by simp[h3],trivial⟩,Z9 h5 k⟩
 | false=>
  simp only[shaped,Bool.false_eq_true,if_false,z7,zD]at h k2
  obtain⟨⟨h1,h2⟩,⟨⟨h3,h4⟩,h5⟩,h6⟩:=h
  simp only[shaped,cutA,fF,Bool.false_eq_true,if_false,z7,zD]
  refine⟨⟨⟨Z8 h1 k,rising_take h2 k⟩,⟨⟨?_,trivial⟩, ?_⟩,Z8 h6 _⟩,⟨Z9 h1 _,rising_drop h2 _⟩,⟨⟨?_,trivial⟩, ?_⟩,Z9 h6 _⟩
  ·intro e;have:=congrArg List.length e;rw[zG]at this;simp only[zU]at this;omega
  ·rw[zG,zG];omega
  ·intro e;have:=congrArg List.length e;rw[zN]at this;simp only[zU]at this;omega
  ·rw[zN,zN];omega
theorem sumL_drop_le (l:List Str)(k:Nat):yF (l.drop k)≤yF l:=by
 have:yF l=yF (l.take k)+yF (l.drop k):=by rw[← sumL_append,List.take_append_drop]
 omega
theorem sumL_take_le (l:List Str)(k:Nat):yF (l.take k)≤yF l:=by
 have:yF l=yF (l.take k)+yF (l.drop k):=by rw[← sumL_append,List.take_append_drop]
 omega
theorem cB (l:List Str)(k:Nat):yF l=yF (l.take k)+yF (l.drop k):=by rw[← sumL_append,List.take_append_drop]
theorem cut_size {lt:Str→Str→Bool}{n:Node}{k:Nat}(h:shaped lt n=true)(hk:cutOk n k):size (cutA n k)<size n∧size (fF n k)<size n:=by
 obtain⟨leaf,keys,vals,kids⟩:=n
 obtain⟨k1,k2⟩:=hk
 have p1:=cB keys k
 have g1:=sumL_ge (keys.take k)
 have g2:=sumL_ge (keys.drop k)
 simp only[zG,zN]at g1 g2
 cases leaf with
 | true=>
  simp only[if_true]at k2
  simp only[shaped,if_true,z7,zD]at h
  have p2:=cB vals k
  simp only[cutA,fF,if_true,size,zU,h.2.1.2]
  omega
 | false=>
  simp only[Bool.false_eq_true,if_false]at k2
  simp only[shaped,Bool.false_eq_true,if_false,z7,zD]at h
  have h5:=h.2.1.2
  have p3:=cB keys (k+1)
  have g3:=sumL_ge (keys.take (k+1))
  simp only[zG]at g3
  simp only[cutA,fF,Bool.false_eq_true,if_false,size,h.2.1.1.2,zG,zN]
  have:yF []=0:=rfl
  omega
end Go.Nd
end
section
section
namespace Go.Eng.Sh
open Go.Nd (Ptr yF)
theorem yO (D:Dyn)(n:Nat)(s:Str)(H:AH):f108 D n [S s] H=some (.bool (Nd.mayK s),H):=by
 simp only[f108,gP,zE6,jY,bVs,zBU,zBS,zKJ,zLv,KR,zLc,zGI,zAW]
 have h1:(Int.ofNat 1≤((s.length:Nat):Int))=(1≤s.length):=by simp;omega
 have h2:(((s.length:Nat):Int)≤Int.ofNat 40)=(s.length≤40):=by simp;omega
 simp only[h1,h2,Nd.mayK]
 by_cases h:1≤s.length<;>simp[h,bVs,outR]
theorem sumL_nil:yF []=0:=rfl
theorem zDf (l:List Str)(i:Nat)(hi:i<l.length):yF (l.take (i+1))=yF (l.take i)+(1+l[i].length)∧yF (l.take i)+(1+l[i].length)≤yF l:=by
 have hs:yF l=yF (l.take i)+(1+l[i].length+yF (l.drop (i+1))):=by
  rw[← Nd.sumL_cons, ← zL hi, ← Nd.sumL_append,List.take_append_drop]
 refine⟨?_,by omega⟩
 rw[fO l i hi,Nd.sumL_append,Nd.sumL_cons];simp[yF]
theorem size0 (D:Dyn)(n0:Nat){H:AH}{ks:AV}{l:List Str}(h:Strs H ks l)(x:AV)(a:Int)(n:Nat)(ha:0≤a)(hn:l.length<n)(hb:a+yF l≤1000000000000):
  qU n (U2 D n0) [x, .int .i64 a,ks, .int .i64 (l.length:Nat), .int .i64 (0:Nat)] H=some (.exit 0 [x, .int .i64 (a+yF l)],H):=by
 have key:=wM (b:=U2 D n0) (H:=H) (r:=some (.exit 0 [x, .int .i64 (a+yF l)],H)) (fun i=>[x, .int .i64 (a+yF (l.take i)),ks, .int .i64 (l.length:Nat), .int .i64 (i:Nat)]) l.length (fun i hi=>by
  obtain⟨p,h1,h2⟩:=h.at hi
  obtain⟨hs1,hs⟩:=zDf l i hi
  have hge:=Nd.sumL_ge l
  simp(disch:=omega) [U2,gP,bVs,dQ,zCv,hi,h1,h2,jY,Z7,wrap_i64,hs1,Int.add_assoc]) (fun n=>yB (by
  simp[U2,gP,bVs,dQ,zCv])) n hn
 simpa[sumL_nil]using key
theorem size1 (D:Dyn)(n0:Nat){H:AH}{ks:AV}{l:List Str}(h:Strs H ks l)(a:Int)(n:Nat)(ha:0≤a)(hn:l.length<n)(hb:a+yF l≤1000000000000):
  qU n (U1 D n0) [.int .i64 a,ks, .int .i64 (l.length:Nat), .int .i64 (0:Nat)] H=some (.exit 2 [.int .i64 (a+yF l)],H):=by
 have key:=wM (b:=U1 D n0) (H:=H) (r:=some (.exit 2 [.int .i64 (a+yF l)],H)) (fun i=>[.int .i64 (a+yF (l.take i)),ks, .int .i64 (l.length:Nat), .int .i64 (i:Nat)]) l.length (fun i hi=>by
  obtain⟨p,h1,h2⟩:=h.at hi
  obtain⟨hs1,hs⟩:=zDf l i hi
  have hge:=Nd.sumL_ge l
  simp(disch:=omega) [U1,gP,bVs,dQ,zCv,hi,h1,h2,jY,Z7,wrap_i64,hs1,Int.add_assoc]) (fun n=>yB (by
  simp[U1,gP,bVs,dQ,zCv])) n hn
 simpa[sumL_nil]using key
def qV (p:Ptr):List AV:=[.int .i64 p.at_, .int .i64 p.birth, .int .u64 p.sum]
def u6 (H:AH)(v:AV)(l:List Ptr):Prop:=Rw 3 H v l.length (l.flatMap qV)
def fC (H:AH)(v:AV)(n:Nd.Node):Prop:= ∃ks vs ps,v= .agg [.bool n.leaf,ks,vs,ps]∧Strs H ks n.keys∧Strs H vs n.vals∧u6 H ps n.kids
theorem u6.lnSl {H:AH}{v:AV}{l:List Ptr}(h:u6 H v l):Eng.lnSl v=some (.int .i64 (l.length:Int)):=Rw.lnSl h
theorem u6.prs {H H':AH}{v:AV}{l:List Ptr}(h:u6 H v l)(s:Prs H H'):u6 H' v l:=Rw.prs h s
theorem zLH: ∀(l:List Ptr) (i:Nat) (hi:i<l.length),((l.flatMap qV).drop (i*3)).take 3=qV l[i]
 | [],i,hi=>by simp at hi
 | p::l,0,_=>rfl
 | p::l,i+1,hi=>by
  have:=zLH l i (by simpa using hi)
  rw[show(i+1)*3=i*3+3 from by omega]
  exact this
theorem u6.at {H:AH}{v:AV}{l:List Ptr}(h:u6 H v l){i:Nat}(hi:i<l.length): ∃p,(∀κ (z:Int),z=(i:Int)→jW 3 v (.int κ z)=some p)∧Eng.ldN 3 p H=some (.agg (qV l[i])):=by
 obtain⟨p,h1,h2⟩:=Rw.ldN h hi
 rw[zLH l i hi]at h2
 exact⟨p,h1,h2⟩
theorem fC.prs {H H':AH}{v:AV}{n:Nd.Node}(h:fC H v n)(s:Prs H H'):fC H' v n:=by
 obtain⟨ks,vs,ps,rfl,h1,h2,h3⟩:=h;exact⟨ks,vs,ps,rfl,h1.prs s,h2.prs s,h3.prs s⟩
def small (n:Nd.Node):Prop:=n.kids.length≤100000∧yF n.keys≤100000000∧yF n.vals≤100000000
theorem BL (D:Dyn)(n:Nat){H:AH}(hk:H.ok){v:AV}{nd:Nd.Node}(h:fC H v nd)(hs:small nd)(hn:200000000≤n):
  Ret (f123 D n [v] H) fun r H'=>r= .int .i64 (Nd.size nd:Nat)∧Prs H H':=by
 obtain⟨ks,vs,ps,rfl,h1,h2,h3⟩:=h
 obtain⟨s1,s2,s3⟩:=hs
 have hP:Prs H (H.push (.cells [.bool nd.leaf,ks,vs,ps] 133 1 false)):=(Stp.refl hk).push _
 have hkl:=Nd.sumL_ge nd.keys
 have hvl:=Nd.sumL_ge nd.vals
 simp(disch:=omega) only[f123,ev,vS hk,h1.lnSl,h2.lnSl,h3.lnSl,size0 D n (h1.prs hP),zIw,size1 D n (h2.prs hP),zIx]
 apply Ret.pure;refine⟨?_,hP⟩
 simp only[Nd.size,AV.int.injEq,true_and];omega
open Go.Nd (be zJs encP)
theorem YW (lt:Str→Str→Bool): ∀l:List Str,Nd.rising lt l=true↔ ∀i (h:i+1<l.length),lt l[i] l[i+1]=true
 | []=>by simp[Nd.rising]
 | [a]=>by simp[Nd.rising]
 | a::b::l=>by
  have ih:=YW lt (b::l)
  simp only[Nd.rising,z7,ih]
  constructor
  ·rintro⟨h1,h2⟩ i h
   cases i with
   | zero=>exact h1
   | succ i=>exact h2 i (by simpa using h)
  ·intro h
   exact⟨h 0 (by simp),fun i hi=>h (i+1) (by simpa using hi)⟩
def zCp (l:List Str)(i:Nat):Bool:=Nd.mayK (l.getD i [])&&(decide (i=0)||ltS (l.getD (i - 1) []) (l.getD i []))
theorem zEw (l:List Str):(List.range l.length).all (zCp l)=(l.all Nd.mayK&&Nd.rising ltS l):=by
 rw[Bool.eq_iff_iff,z7,YW]
 simp only[List.all_eq_true,List.mem_range,zCp,z7,Bool.or_eq_true,zD]
 constructor
 ·intro h
  refine⟨fun x hx=> ?_,fun i hi=> ?_⟩
  ·obtain⟨i,hi,rfl⟩:=List.mem_iff_getElem.1 hx
   have:=(h i hi).1
   rwa[zJ,zB hi]at this
  ·have:=(h (i+1) hi).2
   simp only[Nat.add_eq_zero_iff,Nat.one_ne_zero,and_false,false_or,Nat.add_sub_cancel]at this
   rwa[zJ,zB (by omega),zJ,zB hi]at this
 ·rintro⟨h1,h2⟩ i hi
  refine⟨?_, ?_⟩
  ·rw[zJ,zB hi];exact h1 _ (zS hi)
  ·by_cases h0:i=0
   ·exact .inl h0
   ·right
    have:=h2 (i - 1) (by omega)
    rw[zJ,zB (show i - 1<l.length by omega),zJ,zB hi]
    simpa[show i - 1+1=i by omega]using this
theorem B0 {α:Type}(l:List α)(d:α)(f:α→Bool):(List.range l.length).all (fun i=>f (l.getD i d))=l.all f:=by
 rw[Bool.eq_iff_iff]
 simp only[List.all_eq_true,List.mem_range]
 constructor
 ·intro h x hx
  obtain⟨i,hi,rfl⟩:=List.mem_iff_getElem.1 hx
  have:=h i hi
  rwa[zJ,zB hi]at this
 ·intro h i hi
  rw[zJ,zB hi];exact h _ (zS hi)
theorem kL {α:Type}{l:List α}{i:Nat}{d:α}(h:i<l.length):l.getD i d=l[i]:=by rw[zJ,zB h];rfl
theorem zJ6 (D:Dyn)(n:Nat){H:AH}{ks:AV}{l:List Str}(h:Strs H ks l){A e:Nat}{c:List AV}(hA:H.h.get A=some (.cells c e 1 false))(hc:c[1]? =some ks)(hl:l.length≤1000000000)(n':Nat)(hn:l.length<n'):
  ∃e H',qU n' (aI D n) [.ptr A 0,ks, .int .i64 (l.length:Nat), .int .i64 (0:Nat)] H=some (e,H')∧if(List.range l.length).all (zCp l)then(e= .exit 0 [.ptr A 0]∧H'=H)else(e= .ret (.bool false)∧H'=H):=by
 refine KN l.length (zCp l) (fun i vs H'=>H'=H∧vs=[.ptr A 0,ks, .int .i64 (l.length:Nat), .int .i64 (i:Nat)]) (fun e H'=>e= .exit 0 [.ptr A 0]∧H'=H) (fun e H'=>e= .ret (.bool false)∧H'=H) ?_ ?_ ?_ n' _ H ⟨rfl,rfl⟩ hn
 ·rintro i vs H' hi ⟨rfl,rfl⟩ hg
  obtain⟨p,h1,h2⟩:=h.at hi
  simp only[zCp,kL hi,z7,Bool.or_eq_true,zD]at hg
  refine⟨_,H', ?_,rfl,rfl⟩
  have hiI:((i:Nat):Int)< ((l.length:Nat):Int):=by omega
  by_cases h0:i=0
  ·subst h0
   simp(disch:=omega) only[aI,eZ,hiI,h1,h2,yO,hg.1,zX,show((0:Nat):Int)+((1:Nat):Int)=((0+1:Nat):Int)from rfl]
  ·have hlt:i - 1<l.length:=by omega
   obtain⟨q,q1,q2⟩:=h.at hlt
   have hg2:=hg.2.resolve_left h0
   rw[kL hlt]at hg2
   have hsub:((i:Nat):Int) - ((1:Nat):Int)=((i - 1:Nat):Int):=by omega
   have hpos:((0:Nat):Int)< (i:Int):=by omega
   simp(disch:=omega) only[aI,eZ,hiI,hpos,h1,h2,yO,hg.1,qK hA,hc,hsub,q1,q2,hg2,Int.natCast_add]
 ·rintro i vs H' hi ⟨rfl,rfl⟩ hg
  obtain⟨p,h1,h2⟩:=h.at hi
  have hiI:((i:Nat):Int)< ((l.length:Nat):Int):=by omega
  refine⟨.ret (.bool false),H', ?_,rfl,rfl,rfl⟩
  simp only[zCp,kL hi]at hg
  cases hm:Nd.mayK l[i]with
  | false=>simp(disch:=omega) only[aI,eZ,hiI,h1,h2,yO,hm]
  | true=>
   simp only[hm,Bool.true_and,Bool.or_eq_false_iff,decide_eq_false_iff_not]at hg
   have hlt:i - 1<l.length:=by omega
   obtain⟨q,q1,q2⟩:=h.at hlt
   have hg2:=hg.2
   rw[kL hlt]at hg2
   have hsub:((i:Nat):Int) - ((1:Nat):Int)=((i - 1:Nat):Int):=by omega
   have hpos:((0:Nat):Int)< (i:Int):=by omega
   simp(disch:=omega) only[aI,eZ,hiI,hpos,h1,h2,yO,hm,qK hA,hc,hsub,q1,q2,hg2]
 ·rintro vs H' ⟨rfl,rfl⟩
  refine⟨.exit 0 [.ptr A 0],H', ?_,rfl,rfl,rfl⟩
  simp only[aI,eZ,zX]
theorem zJ5 (D:Dyn)(n:Nat){H:AH}{vs:AV}{l:List Str}(h:Strs H vs l)(hl:l.length≤1000000000)(n':Nat)(hn:l.length<n'):
  ∃e H',qU n' (U6 D n) [vs, .int .i64 (l.length:Nat), .int .i64 (0:Nat)] H=some (e,H')∧if(List.range l.length).all (fun i=>decide ((l.getD i []).length≤200))then(e= .exit 2 []∧H'=H)else(e= .ret (.bool false)∧H'=H):=by
 refine KN l.length _ (fun i us H'=>H'=H∧us=[vs, .int .i64 (l.length:Nat), .int .i64 (i:Nat)]) (fun e H'=>e= .exit 2 []∧H'=H) (fun e H'=>e= .ret (.bool false)∧H'=H) ?_ ?_ ?_ n' _ H ⟨rfl,rfl⟩ hn
 ·rintro i us H' hi ⟨rfl,rfl⟩ hg
  obtain⟨p,h1,h2⟩:=h.at hi
  simp only[kL hi,zD]at hg
  refine⟨_,H', ?_,rfl,rfl⟩
  have hiI:((i:Nat):Int)< ((l.length:Nat):Int):=by omega
  have hg': ¬((200:Nat):Int)< ((l[i].length:Nat):Int):=by omega
  simp(disch:=omega) only[U6,eZ,hiI,h1,h2,hg',Int.natCast_add]
 ·rintro i us H' hi ⟨rfl,rfl⟩ hg
  obtain⟨p,h1,h2⟩:=h.at hi
  simp only[kL hi,decide_eq_false_iff_not]at hg
  refine⟨.ret (.bool false),H', ?_,rfl,rfl,rfl⟩
  have hiI:((i:Nat):Int)< ((l.length:Nat):Int):=by omega
  have hg':((200:Nat):Int)< ((l[i].length:Nat):Int):=by omega
  simp(disch:=omega) only[U6,eZ,hiI,h1,h2,hg',Int.natCast_add]
 ·rintro us H' ⟨rfl,rfl⟩
  refine⟨.exit 2 [],H', ?_,rfl,rfl,rfl⟩
  simp only[U6,eZ,zX]
def pz:Ptr:=⟨0,0,0⟩
theorem zLq (x:Ptr):(((decide (x.at_< ((1:Nat):Int))||decide (((8192:Nat):Int)≤x.at_))||decide (x.birth< ((0:Nat):Int)))||decide (((2147483647:Nat):Int)<x.birth))= !(Nd.kidOk x):=by
 rw[Bool.eq_iff_iff];simp only[Nd.kidOk,Bool.or_eq_true,zD,Bool.not_eq_true',Bool.and_eq_false_iff,decide_eq_false_iff_not];omega
theorem zFK {H':AH}(hk:H'.ok)(x:Ptr): ∃H2,stN 3 (.ptr H'.next 0) (.agg (qV x)) (H'.push (.cells [.int .i64 (0:Nat), .int .i64 (0:Nat), .int .u64 (0:Nat)] 72 1 false))=some (qL,H2)∧Prs H' H2∧H2.next=H'.next+1∧H2.h.get H'.next=some (.cells (qV x) 72 1 false):=by
 refine⟨_,XM (AH.push_get_eq _ _) (by decide) rfl rfl (by decide), ?_,rfl,by rw[AH.put_get,if_pos rfl];rfl⟩
 exact((Stp.refl hk).push _).fresh ((Stp.refl (hk.push _)).put (by rw[AH.push_next];omega) _ (.inr rfl)) (fun A hA=>by omega)
theorem zJ4 (D:Dyn)(n:Nat){H:AH}(hk:H.ok){vs:AV}{l:List Ptr}(h:u6 H vs l)(hl:l.length≤1000000000)(n':Nat)(hn:l.length<n'):
  ∃e H',qU n' (U5 D n) [vs, .int .i64 (l.length:Nat), .int .i64 (0:Nat)] H=some (e,H')∧if(List.range l.length).all (fun i=>Nd.kidOk (l.getD i pz))then(e= .exit 4 []∧Prs H H')else(e= .ret (.bool false)∧Prs H H'):=by
 refine KN l.length _ (fun i us H'=>Prs H H'∧us=[vs, .int .i64 (l.length:Nat), .int .i64 (i:Nat)]) (fun e H'=>e= .exit 4 []∧Prs H H') (fun e H'=>e= .ret (.bool false)∧Prs H H') ?_ ?_ ?_ n' _ H ⟨Stp.refl hk,rfl⟩ hn
 ·rintro i us H' hi ⟨hP,rfl⟩ hg
  obtain⟨p,h1,h2⟩:=(h.prs hP).at hi
  simp only[kL hi]at hg
  generalize l[i]=x at hg h2
  obtain⟨H2,hH2,hP2,n2,g2⟩:=zFK hP.ok x
  have hiI:((i:Nat):Int)< ((l.length:Nat):Int):=by omega
  have hb:=zLq x
  rw[hg]at hb
  simp only[qV]at g2 hH2 h2
  refine⟨_,H2, ?_,hP.trans hP2,rfl⟩
  simp(disch:=omega) only[U5,eZ,hiI,h1,h2,vS hP.ok,hH2,qK g2,hb,Int.natCast_add]
 ·rintro i us H' hi ⟨hP,rfl⟩ hg
  obtain⟨p,h1,h2⟩:=(h.prs hP).at hi
  simp only[kL hi]at hg
  generalize l[i]=x at hg h2
  obtain⟨H2,hH2,hP2,n2,g2⟩:=zFK hP.ok x
  have hiI:((i:Nat):Int)< ((l.length:Nat):Int):=by omega
  have hb:=zLq x
  rw[hg]at hb
  simp only[qV]at g2 hH2 h2
  refine⟨.ret (.bool false),H2, ?_,rfl,rfl,hP.trans hP2⟩
  simp(disch:=omega) only[U5,eZ,hiI,h1,h2,vS hP.ok,hH2,qK g2,hb]
 ·rintro us H' ⟨hP,rfl⟩
  refine⟨.exit 4 [],H', ?_,rfl,rfl,hP⟩
  simp only[U5,eZ,zX]
theorem uE (D:Dyn)(n:Nat){H:AH}(hk:H.ok){v:AV}{nd:Nd.Node}(h:fC H v nd)(hs:small nd)(hn:200000000≤n):
  ∃H',f107 D n [v] H=some (.bool (Nd.shaped ltS nd),H')∧Prs H H':=by
 obtain⟨ks,vs,ps,rfl,h1,h2,h3⟩:=h
 obtain⟨s1,s2,s3⟩:=hs
 have hP:Prs H (H.push (.cells [.bool nd.leaf,ks,vs,ps] 133 1 false)):=(Stp.refl hk).push _
 have hg:(H.push (.cells [.bool nd.leaf,ks,vs,ps] 133 1 false)).h.get H.next=some (.cells [.bool nd.leaf,ks,vs,ps] 133 1 false):=AH.push_get_eq _ _
 have hkl:=Nd.sumL_ge nd.keys
 have hvl:=Nd.sumL_ge nd.vals
 have hf:f107 D n [.agg [.bool nd.leaf,ks,vs,ps]] H=outR (jb 0 (qU n (aI D n) [.ptr H.next 0,ks, .int .i64 (nd.keys.length:Nat), .int .i64 (0:Nat)] (H.push (.cells [.bool nd.leaf,ks,vs,ps] 133 1 false))) (aJ D n)):=by
  simp only[f107,eZ,vS hk,h1.lnSl]
 rw[hf]
 generalize H.push (.cells [.bool nd.leaf,ks,vs,ps] 133 1 false)=H1 at hP hg
 obtain⟨e0,H2,e1,e2⟩:=zJ6 D n (h1.prs hP) hg (by rfl) (by omega) n (by omega)
 rw[e1]
 rw[zEw]at e2
 split at e2
 ·rename_i hgood
  obtain⟨rfl,rfl⟩:=e2
  simp only[Nd.shaped,hgood,Bool.true_and]
  obtain⟨leaf,keys,vals,kids⟩:=nd
  simp only at h1 h2 h3 hg hkl hvl s1 s2 s3 hgood⊢
  cases leaf with
  | true=>
   by_cases hc:vals.length=keys.length∧kids.length=0
   ·obtain⟨hc1,hc2⟩:=hc
    obtain⟨e3,H3,e4,e5⟩:=zJ5 D n (h2.prs hP) (by omega) n (by omega)
    have hz: ¬(((vals.length:Nat):Int)≠((keys.length:Nat):Int)):=by omega
    have hz2: ¬(((kids.length:Nat):Int)≠((0:Nat):Int)):=by omega
    have hkn:kids=[]:=zE hc2
    rw[B0 vals ([]:Str) (fun v=>decide (v.length≤200))]at e5
    split at e5
    ·rename_i hv
     obtain⟨rfl,rfl⟩:=e5
     refine⟨H3, ?_,hP⟩
     have hr:(decide (vals.length=keys.length)&&decide (kids=[])&&vals.all fun v=>decide (v.length≤200))=true:=by simp only[hc1,hkn,hv,decide_true,Bool.and_self]
     simp only[aJ,eZ,qK hg,h1.lnSl,h2.lnSl,h3.lnSl,hz,hz2,e4,zF8,hr]
    ·rename_i hv
     obtain⟨rfl,rfl⟩:=e5
     refine⟨H3, ?_,hP⟩
     have hr:(decide (vals.length=keys.length)&&decide (kids=[])&&vals.all fun v=>decide (v.length≤200))=false:=by simp only[Bool.eq_false_iff.2 hv,Bool.and_false]
     simp only[aJ,eZ,qK hg,h1.lnSl,h2.lnSl,h3.lnSl,hz,hz2,e4,zF8,hr]
   ·refine⟨H2, ?_,hP⟩
    have hr:(decide (vals.length=keys.length)&&decide (kids=[]))=false:=by
     rw[Bool.and_eq_false_iff,decide_eq_false_iff_not,decide_eq_false_iff_not]
     by_cases ha:vals.length=keys.length
     ·right;intro hb;exact hc ⟨ha,by rw[hb];rfl⟩
     ·exact .inl ha
    simp only[aJ,eZ,qK hg,h1.lnSl,h2.lnSl,h3.lnSl,hr]
    rw[if_pos (by simp only[Bool.or_eq_true,zD];omega)]
    simp only[eZ]
  | false=>
   by_cases hc:keys.length≠0∧vals.length=0∧kids.length=keys.length+1
   ·obtain⟨hc1,hc2,hc3⟩:=hc
    obtain⟨e3,H3,e4,e5⟩:=zJ4 D n hP.ok (h3.prs hP) (by omega) n (by omega)
    have hz: ¬(((keys.length:Nat):Int)=((0:Nat):Int)):=by omega
    have hz2: ¬(((vals.length:Nat):Int)≠((0:Nat):Int)):=by omega
    have hz3: ¬(((kids.length:Nat):Int)≠((keys.length:Nat):Int)+((1:Nat):Int)):=by omega
    have hvn:vals=[]:=zE hc2
    have hkn:keys≠[]:=fun e=>hc1 (by rw[e];rfl)
    rw[B0 kids pz Nd.kidOk]at e5
    split at e5
    ·rename_i hv
     obtain⟨rfl,hP3⟩:=e5
     refine⟨H3, ?_,hP.trans hP3⟩
     have hr:(decide (keys≠[])&&decide (vals=[])&&decide (kids.length=keys.length+1)&&kids.all Nd.kidOk)=true:=by simp only[hc3,hvn,hv,decide_eq_true hkn,decide_true,Bool.and_self]
     simp(disch:=omega) only[aJ,eZ,qK hg,h1.lnSl,h2.lnSl,h3.lnSl,hz,hz2,hz3,e4,zF7,hr]
    ·rename_i hv
     obtain⟨rfl,hP3⟩:=e5
     refine⟨H3, ?_,hP.trans hP3⟩
     have hr:(decide (keys≠[])&&decide (vals=[])&&decide (kids.length=keys.length+1)&&kids.all Nd.kidOk)=false:=by simp only[Bool.eq_false_iff.2 hv,Bool.and_false]
     simp(disch:=omega) only[aJ,eZ,qK hg,h1.lnSl,h2.lnSl,h3.lnSl,hz,hz2,hz3,e4,zF7,hr]
   ·refine⟨H2, ?_,hP⟩
    have hr:(decide (keys≠[])&&decide (vals=[])&&decide (kids.length=keys.length+1))=false:=by
     rw[Bool.eq_false_iff];intro hh
     simp only[z7,zD]at hh
     exact hc ⟨fun e=>hh.1.1 (zE e),by rw[hh.1.2];rfl,hh.2⟩
    simp(disch:=omega) only[aJ,eZ,qK hg,h1.lnSl,h2.lnSl,h3.lnSl,hr]
    rw[if_pos (by simp only[Bool.or_eq_true,zD];omega)]
    simp only[eZ]
 ·rename_i hbad
  obtain⟨rfl,rfl⟩:=e2
  refine⟨H2, ?_,hP⟩
  simp only[Nd.shaped,Bool.eq_false_iff.2 hbad,eZ]
open Go.Nd (encT)
def zM5 (P:Nat→Prop)(H:AH)(A:Nat)(l:Str):Prop:= ∃v,Box H A v∧jA 1 5 H v l.length (yN l)∧(∀B,Blk v B→ ¬P B∧B≠A)∧ ¬P A
theorem zM5.app {P:Nat→Prop}{H:AH}{A:Nat}{l m:Str}(h:zM5 P H A l)(hk:H.ok)(hP: ∀B,P B→B<H.next){s:AV}(hs:srcOf 1 s H=some (m.length,yN m))(hn:l.length+m.length≤1000000000):
  ∃v v' H' H'',ld1 (.ptr A 0) H=some v∧apP 5 1 1 v s H=some (v',H')∧stN 1 (.ptr A 0) v' H'=some (qL,H'')∧zM5 P H'' A (l++m)∧Stp (fun B=> ¬P B) H H'':=by
 obtain⟨v,hb,hg,hv,hA⟩:=h
 obtain⟨v',H',e1,g1,s1,n1⟩:=hg.app (bytes:=1) hk (by decide) hs (by simp[yN]) (UQ m) hn (by decide)
 have hb':Box H' A v:=hb.mono hk s1 (fun x=>(hv A x).2 rfl)
 obtain⟨H'',e2,b2,s2⟩:=hb'.st s1.ok g1.isCell
 have hlt:=hb.lt hk
 have hne: ∀B,Blk v' B→B≠A:=fun B hB e=>by
  rcases n1 B hB with h | h
  ·exact(hv B h).2 e
  ·omega
 refine⟨v,v',H',H'',hb.ld,e1,e2,⟨v',b2, ?_,fun B hB=>⟨fun hp=> ?_,hne B hB⟩,hA⟩, ?_⟩
 ·have:=g1.mono s2 (fun B hB=>hne B hB)
  simpa[yN]using this
 ·rcases n1 B hB with h | h
  ·exact(hv B h).1 hp
  ·have:=hP B hp;omega
 ·exact(s1.mono (fun B _ hB=>(hv B hB).1)).trans (s2.mono (fun B _ hB=>by rw[hB];exact hA))
structure EncI (N E:Nat)(A:Nat)(H0 H:AH)(l:Str):Prop where
 prs:Prs H0 H
 n:H0.next=N
 out:zM5 (fun B=>B<N∨B=E) H A l
 err:Box H E (.int .i64 (0:Nat))
theorem EncI.step {N E A:Nat}{H0 H H':AH}{l l':Str}(h:EncI N E A H0 H l)(h1:zM5 (fun B=>B<N∨B=E) H' A l')(h2:Stp (fun B=> ¬(B<N∨B=E)) H H'):EncI N E A H0 H' l':=
 ⟨h.prs.fresh h2 (fun B hB=>by rw[h.n];omega),h.n,h1,h.err.mono h.prs.ok h2 (fun hh=>hh (.inr rfl))⟩
theorem EncI.lt {N E A:Nat}{H0 H:AH}{l:Str}(h:EncI N E A H0 H l): ∀B,(B<N∨B=E)→B<H.next:=by
 rintro B (hB | rfl)
 ·have:=h.prs.next;rw[h.n]at this;omega
 ·exact h.err.lt h.prs.ok
theorem Box.new (H:AH)(v:AV)(e:TypeId):Box (H.push (.cells [v] e 1 false)) H.next v:=⟨e,AH.push_get_eq _ _⟩
theorem cE (a b c d:AV):vI [a,b,c,d] 0 4=some [a,b,c,d]:=rfl
theorem qX {H:AH}(hk:H.ok){A:Nat}{l l':List AV}{e:TypeId}(h:H.h.get A=some (.cells l e 1 false))(hl:l'.length=l.length)(hc:qM l'=true):
  ∃H',stN l.length (.ptr A 0) (.agg l') H=some (qL,H')∧H'.h.get A=some (.cells l' e 1 false)∧Stp (fun B=>B=A) H H'∧H'.next=H.next:=by
 refine⟨_,XM h (by decide) hl hc (by omega), ?_,(Stp.refl hk).put (hk.lt h) _ (.inr rfl),rfl⟩
 rw[AH.put_get,if_pos rfl]
 simp[qS]
structure RdI (R:Nat)(H0 H:AH)(rest:Str)(bad leaf:Bool)(kv vv pv:AV)(ks vs:List Str)(ps:List Ptr):Prop where
 prs:Stp (fun B=>B=R) H0 H
 get: ∃e,H.h.get R=some (.cells [S rest, .bool bad, .bool leaf,kv,vv,pv] e 1 false)
 k:Own 1 9 H kv ks.length (ks.map S)
 v:Own 1 9 H vv vs.length (vs.map S)
 p:Own 3 72 H pv ps.length (ps.flatMap qV)
 kb: ∀B,Blk kv B→H0.next≤B∧B≠R∧ ¬Blk vv B∧ ¬Blk pv B
 vb: ∀B,Blk vv B→H0.next≤B∧B≠R∧ ¬Blk pv B
 pb: ∀B,Blk pv B→H0.next≤B∧B≠R
 small:rest.length≤10000∧ks.length≤1000000∧vs.length≤1000000∧ps.length≤1000000
theorem RdI.put {R:Nat}{H0 H:AH}{rest:Str}{bad leaf:Bool}{kv vv pv:AV}{ks vs:List Str}{ps:List Ptr}(h:RdI R H0 H rest bad leaf kv vv pv ks vs ps){o:Nat}{x:AV}(hx:isCell x=true)(ho:o<6){rest':Str}{bad':Bool}(hr:rest'.length≤10000)
  (hl:[S rest, .bool bad, .bool leaf,kv,vv,pv].set o x=[S rest', .bool bad', .bool leaf,kv,vv,pv]): ∃H',stN 1 (.ptr R o) x H=some (qL,H')∧RdI R H0 H' rest' bad' leaf kv vv pv ks vs ps:=by
 obtain⟨e,hg⟩:=h.get
 have hlt:=h.prs.ok.lt hg
 have hst:Stp (fun B=>B=R) H (H.put R (.cells ([S rest, .bool bad, .bool leaf,kv,vv,pv].set o x) e 1 false)):=(Stp.refl h.prs.ok).put hlt _ (.inr rfl)
 refine⟨_,YT hg (by decide) hx ho,⟨h.prs.trans hst,⟨e,by rw[AH.put_get,if_pos rfl,hl]⟩,h.k.mono hst (fun B hB=>(h.kb B hB).2.1),h.v.mono hst (fun B hB=>(h.vb B hB).2.1),h.p.mono hst (fun B hB=>(h.pb B hB).2),h.kb,h.vb,h.pb,hr,h.small.2⟩⟩
theorem RdI.lt {R:Nat}{H0 H:AH}{rest:Str}{bad leaf:Bool}{kv vv pv:AV}{ks vs:List Str}{ps:List Ptr}(h:RdI R H0 H rest bad leaf kv vv pv ks vs ps):R<H.next:=by
 obtain⟨e,hg⟩:=h.get;exact h.prs.ok.lt hg
theorem Own.lt {k e n:Nat}{H:AH}{v:AV}{l:List AV}(h:Own k e H v n l){B:Nat}(hB:Blk v B):B<H.next:=(jA.lt (.inl h) hB)
def Y6 (H0 H:AH)(v:AV)(nd:Nd.Node):Prop:= ∃ks vs ps,v= .agg [.bool nd.leaf,ks,vs,ps]∧Own 1 9 H ks nd.keys.length (nd.keys.map S)∧Own 1 9 H vs nd.vals.length (nd.vals.map S)∧Own 3 72 H ps nd.kids.length (nd.kids.flatMap qV)∧(∀B,Blk ks B∨Blk vs B∨Blk ps B→H0.next≤B)∧(∀B,Blk ks B→ ¬Blk vs B∧ ¬Blk ps B)∧ ∀B,Blk vs B→ ¬Blk ps B
theorem Y6.node {H0 H:AH}{v:AV}{nd:Nd.Node}(h:Y6 H0 H v nd):fC H v nd:=by
 obtain⟨ks,vs,ps,e,h1,h2,h3,_⟩:=h;exact⟨ks,vs,ps,e,h1.row,h2.row,h3.row⟩
theorem dT (x:Bool)(a b c:AV)(ha:isCell a=true)(hb:isCell b=true)(hc:isCell c=true):qM [.bool x,a,b,c]=true:=by
 simp only[qM,ha,hb,hc];rfl
theorem jA.zero (k e:Nat){H:AH}{A:Nat}{e':TypeId}{g:Bool}(h:H.h.get A=some (.cells [] e' k g))(hk:H.ok):jA k e H (.slice A 0 0 0) 0 []:= .inr ⟨by simp,A,e',g,rfl,hk.lt h,h⟩
theorem UT (b:Bool):aveq (.bool b) (.bool b)=true:=by cases b<;>rfl
theorem kI (l:List Str):qM (l.map S)=true:=by
 rw[kC];intro x hx;obtain⟨s,_,rfl⟩:=List.mem_map.1 hx;rfl
theorem wU (l:List Ptr):qM (l.flatMap qV)=true:=by
 rw[kC];intro x hx
 obtain⟨p,_,hp⟩:=List.mem_flatMap.1 hx
 simp only[qV,List.mem_cons,List.not_mem_nil,or_false]at hp
 rcases hp with rfl | rfl | rfl<;>rfl
theorem Rw.blk {k n:Nat}{H:AH}{v:AV}{l:List AV}(h:Rw k H v n l){B:Nat}(hB:Blk v B):B<H.next:=by
 obtain⟨_,⟨rfl,_⟩ | ⟨rfl,_⟩ | ⟨A,off,cc,c,e,sz,g,rfl,_,hlt,_⟩⟩:=h
 ·exact(Blk.nil.1 hB).elim
 ·obtain⟨_,_,_,h⟩:=hB;cases h
 ·rw[Blk.slice.1 hB];exact hlt
def y5 (H:AH)(v:AV)(nd:Nd.Node):Prop:= ∃ks vs ps,v= .agg [.bool nd.leaf,ks,vs,ps]∧jA 1 9 H ks nd.keys.length (nd.keys.map S)∧jA 1 9 H vs nd.vals.length (nd.vals.map S)∧jA 3 72 H ps nd.kids.length (nd.kids.flatMap qV)
theorem y5.node {H:AH}{v:AV}{nd:Nd.Node}(h:y5 H v nd):fC H v nd:=by
 obtain⟨ks,vs,ps,e,h1,h2,h3⟩:=h;exact⟨ks,vs,ps,e,h1.row,h2.row,h3.row⟩
theorem y5.prs {H H':AH}{v:AV}{nd:Nd.Node}(h:y5 H v nd)(s:Prs H H'):y5 H' v nd:=by
 obtain⟨ks,vs,ps,e,h1,h2,h3⟩:=h;exact⟨ks,vs,ps,e,h1.mono s (fun _ _ x=>x),h2.mono s (fun _ _ x=>x),h3.mono s (fun _ _ x=>x)⟩
theorem Own.st {k e n:Nat}{H:AH}{v:AV}{l:List AV}(h:Own k e H v n l)(hk:H.ok)(hpos:0<k){i:Nat}(hi:i<n){x:AV}(hx:(qS x).length=k)(hc:qM (qS x)=true):
  ∃p H' l',(∀κ (z:Int),z=(i:Int)→jW k v (.int κ z)=some p)∧stN k p x H=some (qL,H')∧Own k e H' v n l'∧Stp (Blk v) H H':=by
 obtain⟨h0,⟨_,rfl⟩ | ⟨A,rfl,hA,hg⟩⟩:=h
 ·omega
 ·have hik:i*k+k≤n*k:=by rw[← Nat.succ_mul];exact zT _ hi
  have hb:Nat.blt i n=true:=by rw[zH];exact hi
  refine⟨.ptr A (0+i*k),_,_,fun κ z hz=> ?_,XM hg hpos hx hc (by omega),⟨?_, .inr ⟨A,rfl,hA,by rw[AH.put_get,if_pos rfl]⟩⟩,(Stp.refl hk).put hA _ (.inr (Blk.slice.2 rfl))⟩
  ·subst hz
   simp only[jW,yJ κ (show(0:Int)≤(i:Int)by omega),zW,hb,cond_true,y7]
  ·simp only[zI,zG,zN,hx];omega
theorem zLZ (x:Nat):Nat.ble 0 x=true:=by rw[zQ];omega
theorem K9 {k e n:Nat}{H:AH}{v:AV}{l:List AV}(h:jA k e H v n l)(hpos:0<k){i:Nat}(hi:i≤n)(κ κ':IntKind):
  ∃r,j6 k v none (some (.int κ (i:Nat))) (some (.int κ' (i:Nat))) H=some r∧Rw k H r i (l.take (i*k))∧(0<i→r≠ .nilSlice∧r≠ .emptySl):=by
 have n1:=yJ κ (z:=((i:Nat):Int)) (by omega)
 have n2:=yJ κ' (z:=((i:Nat):Int)) (by omega)
 simp only[zW]at n1 n2
 have hb:Nat.blt 0 k=true:=by rw[zH];exact hpos
 have hz:Nat.beq i 0=decide (i=0):=by rw[Bool.eq_iff_iff];simp
 have hmul:i*k≤n*k:=zT _ hi
 have b1:Nat.ble i n=true:=by rw[zQ];exact hi
 have b2:Nat.ble i i=true:=by rw[zQ];exact Nat.le_refl _
 have b3:Nat.ble 0 i=true:=by rw[zQ];omega
 rcases h with⟨h0,⟨rfl,rfl⟩ | ⟨A,rfl,hA,hg⟩⟩ | ⟨h0,A,e',g,rfl,hA,hg⟩
 ·obtain rfl:i=0:=by omega
  exact⟨.nilSlice,by simp only[j6,yK,n1,n2];simp,⟨by simp, .inl ⟨rfl,rfl⟩⟩,fun h=>absurd h (by omega)⟩
 ·have hroom:yD l true k 0 1 k=n:=by
   simp only[yD,show((1 % 2).beq 0)=false from rfl,cond_false,Nat.beq_refl,show Nat.beq 0 (1 / 2*k)=true from by simp,Bool.and_self,cond_true,qW,h0,Nat.sub_zero]
   exact Nat.mul_div_cancel _ hpos
  by_cases hi0:i=0
  ·subst hi0
   refine⟨.slice A 0 0 0, ?_,⟨by simp, .inr (.inr ⟨A,0,0,l,e,k,true,rfl,hg,hA,by simp,by simp⟩)⟩,fun h=>absurd h (by omega)⟩
   simp only[j6,yK,n1,n2,hg,hb,cond_true];simp[ZA,hroom,y7,zLZ]
  ·have hz0:Nat.beq i 0=false:=by rw[hz];simpa using hi0
   refine⟨.slice A 0 i (2*i), ?_,⟨by rw[zG,h0,Nat.min_eq_left hmul], .inr (.inr ⟨A,0,2*i,l,e,k,true,rfl,hg,hA,by omega,by simp⟩)⟩,fun _=>⟨by simp,by simp⟩⟩
   simp only[j6,yK,n1,n2,hg,hb,cond_true];simp[ZA,hroom,b1,b2,hz0,y7,zLZ]
 ·have hroom:yD l g k 0 (2*n) k=n:=by
   simp only[yD,show((2*n) % 2).beq 0=true by rw[Nat.mul_mod_right];rfl,cond_true,Nat.mul_div_cancel_left n (show 0<2 by omega)]
  by_cases hi0:i=0
  ·subst hi0
   refine⟨.slice A 0 0 0, ?_,⟨by simp, .inr (.inr ⟨A,0,0,l,e',k,g,rfl,hg,hA,by simp,by simp⟩)⟩,fun h=>absurd h (by omega)⟩
   simp only[j6,yK,n1,n2,hg,hb,cond_true];simp[ZA,hroom,y7,zLZ]
  ·have hz0:Nat.beq i 0=false:=by rw[hz];simpa using hi0
   refine⟨.slice A 0 i (2*i), ?_,⟨by rw[zG,h0,Nat.min_eq_left hmul], .inr (.inr ⟨A,0,2*i,l,e',k,g,rfl,hg,hA,by omega,by simp⟩)⟩,fun _=>⟨by simp,by simp⟩⟩
   simp only[j6,yK,n1,n2,hg,hb,cond_true];simp[ZA,hroom,b1,b2,hz0,y7,zLZ]
theorem ZO {k e n:Nat}{H:AH}{v:AV}{l:List AV}(h:jA k e H v n l)(hpos:0<k){i:Nat}(hi:i<n)(κ:IntKind):
  ∃r,j6 k v (some (.int κ (i:Nat))) none none H=some r∧Rw k H r (n - i) (l.drop (i*k))∧r≠ .nilSlice∧r≠ .emptySl:=by
 have n1:=yJ κ (z:=((i:Nat):Int)) (by omega)
 simp only[zW]at n1
 have hb:Nat.blt 0 k=true:=by rw[zH];exact hpos
 have hmul:i*k≤n*k:=zT _ (by omega)
 have hsub:(n - i)*k=n*k - i*k:=Nat.sub_mul _ _ _
 have b1:Nat.ble n n=true:=by rw[zQ];exact Nat.le_refl _
 have b2:Nat.ble i n=true:=by rw[zQ];omega
 have b3:Nat.blt i n=true:=by rw[zH];exact hi
 have b4:Nat.beq n i=false:=by rw[Bool.eq_false_iff];intro h;have:=Nat.eq_of_beq_eq_true h;omega
 rcases h with⟨h0,⟨rfl,rfl⟩ | ⟨A,rfl,hA,hg⟩⟩ | ⟨h0,A,e',g,rfl,hA,hg⟩
 ·omega
 ·have hroom:yD l true k 0 1 k=n:=by
   simp only[yD,show((1 % 2).beq 0)=false from rfl,cond_false,Nat.beq_refl,show Nat.beq 0 (1 / 2*k)=true from by simp,Bool.and_self,cond_true,qW,h0,Nat.sub_zero]
   exact Nat.mul_div_cancel _ hpos
  by_cases hi0:i=0
  ·subst hi0
   refine⟨.slice A 0 n 1, ?_,⟨by simp[h0], .inr (.inr ⟨A,0,1,l,e,k,true,by simp,hg,hA,by simp[h0],by rw[Nat.sub_zero,Nat.zero_mul,List.drop_zero,zK (by omega)]⟩)⟩,by simp,by simp⟩
   simp only[j6,yK,n1,hg,hb,cond_true];simp[ZA,hroom,b1,y7,zLZ,show Nat.beq 1 0=false from rfl]
  ·have hz0:Nat.beq i 0=false:=by rw[Bool.eq_false_iff];intro h;exact hi0 (Nat.eq_of_beq_eq_true h)
   refine⟨.slice A (0+i*k) (n - i) (1+2*i), ?_,⟨by simp[h0,hsub], .inr (.inr ⟨A,0+i*k,1+2*i,l,e,k,true,rfl,hg,hA,by omega,by rw[Nat.zero_add,zK (by simp[h0,hsub])]⟩)⟩,by simp,by simp⟩
   simp only[j6,yK,n1,hg,hb,cond_true];simp[ZA,hroom,b1,b2,b3,hz0,y7,show Nat.beq 1 0=false from rfl]
 ·have hroom:yD l g k 0 (2*n) k=n:=by
   simp only[yD,show((2*n) % 2).beq 0=true by rw[Nat.mul_mod_right];rfl,cond_true,Nat.mul_div_cancel_left n (show 0<2 by omega)]
  have b4':Nat.beq (2*n / 2) i=false:=by rw[Nat.mul_div_cancel_left n (show 0<2 by omega)];exact b4
  refine⟨.slice A (0+i*k) (n - i) (2*(2*n / 2 - i)), ?_,⟨by simp[h0,hsub], .inr (.inr ⟨A,0+i*k,2*(2*n / 2 - i),l,e',k,g,rfl,hg,hA,by omega,by rw[Nat.zero_add,zK (by simp[h0,hsub])]⟩)⟩,by simp,by simp⟩
  simp only[j6,yK,n1,hg,hb,cond_true];simp[ZA,hroom,b1,b2,b4',y7,b4]
theorem dH (D:Dyn)(n:Nat){H:AH}(hk:H.ok){v:AV}{l:List Str}(h:Strs H v l)(hn:v≠ .nilSlice)(he:v≠ .emptySl)(hl:l.length≤1000000000):
  ∃v' H',f109 D n [v] H=some (v',H')∧Prs H H'∧jA 1 9 H' v' l.length (l.map S)∧ ∀B,Blk v' B→H.next≤B:=by
 have p1:Prs H (H.push (.cells [] 9 1 false)):=(Stp.refl hk).push _
 have g1:(H.push (.cells [] 9 1 false)).h.get H.next=some (.cells [] 9 1 false):=AH.push_get_eq _ _
 have n1:(H.push (.cells [] 9 1 false)).next=H.next+1:=rfl
 generalize hH1:H.push (.cells [] 9 1 false)=H1 at p1 g1 n1
 obtain⟨v',H2,e2,w2,s2,f2⟩:=(jA.zero 1 9 g1 p1.ok).app (bytes:=16) p1.ok (by decide) (Rw.srcOf (h.prs p1)) (by simp) (kI _) (by omega) (by decide)
 have hz1:u5 9 1 0 [.str 0 0] []=some (.cells [] 9 1 false,fun A=> .slice A 0 0 0):=rfl
 have heq:xN .eql (eqS v .nilSlice)=some (.bool false):=by
  obtain⟨_,⟨rfl,_⟩ | ⟨rfl,_⟩ | ⟨A,off,cc,c,e,sz,g,rfl,_⟩⟩:=h
  ·exact absurd rfl hn
  ·exact absurd rfl he
  ·rfl
 refine⟨v',H2, ?_,p1.fresh s2 (fun B hB=>by rw[Blk.slice.1 hB];exact Nat.le_refl _),by simpa using w2,fun B hB=> ?_⟩
 ·simp only[f109,eZ,heq,hz1,vS hk,hH1,e2]
 ·rcases f2 B hB with h | h
  ·rw[Blk.slice.1 h];exact Nat.le_refl _
  ·omega
theorem QT (D:Dyn)(n:Nat){H:AH}(hk:H.ok){v:AV}{l:List Ptr}(h:u6 H v l)(hn:v≠ .nilSlice)(he:v≠ .emptySl)(hl:l.length≤1000000000):
  ∃v' H',f77 D n [v] H=some (v',H')∧Prs H H'∧jA 3 72 H' v' l.length (l.flatMap qV)∧ ∀B,Blk v' B→H.next≤B:=by
 have p1:Prs H (H.push (.cells [] 72 3 false)):=(Stp.refl hk).push _
 have g1:(H.push (.cells [] 72 3 false)).h.get H.next=some (.cells [] 72 3 false):=AH.push_get_eq _ _
 have n1:(H.push (.cells [] 72 3 false)).next=H.next+1:=rfl
 generalize hH1:H.push (.cells [] 72 3 false)=H1 at p1 g1 n1
 obtain⟨v',H2,e2,w2,s2,f2⟩:=(jA.zero 3 72 g1 p1.ok).app (bytes:=24) p1.ok (by decide) (Rw.srcOf (h.prs p1)) h.1 (wU _) (by omega) (by decide)
 have hz1: ∀a b c:AV,u5 72 3 0 [a,b,c] []=some (.cells [] 72 3 false,fun A=> .slice A 0 0 0):=fun _ _ _=>rfl
 have heq:xN .eql (eqS v .nilSlice)=some (.bool false):=by
  obtain⟨_,⟨rfl,_⟩ | ⟨rfl,_⟩ | ⟨A,off,cc,c,e,sz,g,rfl,_⟩⟩:=h
  ·exact absurd rfl hn
  ·exact absurd rfl he
  ·rfl
 refine⟨v',H2, ?_,p1.fresh s2 (fun B hB=>by rw[Blk.slice.1 hB];exact Nat.le_refl _),by simpa using w2,fun B hB=> ?_⟩
 ·simp only[f77,eZ,heq,hz1,vS hk,hH1,e2]
 ·rcases f2 B hB with h | h
  ·rw[Blk.slice.1 h];exact Nat.le_refl _
  ·omega
end Go.Eng.Sh
end
end
section
namespace Go.Eng.Sh
open Go.Nd (Ptr yF cutOk)
def xS (nd:Nd.Node):Prop:=2≤nd.keys.length∧(nd.leaf=true∨3≤nd.keys.length)
def hbnd (nd:Nd.Node)(k:Nat):Prop:=
 (k=1∨Nd.size (Nd.cutA nd k)≤(Nd.size nd - 2) / 2+2)∧(k+(if nd.leaf then 1 else 2)=nd.keys.length∨(Nd.size nd - 2) / 2+2<Nd.size (Nd.cutA nd (k+1)))
theorem ZJ (l:List Str){i:Nat}(h:i<l.length):yF (l.take (i+1))=yF (l.take i)+(1+(l[i]).length):=by
 rw[zM h,Nd.sumL_append,Nd.sumL_cons];rfl
theorem size_leaf {nd:Nd.Node}(hl:nd.leaf=true)(hv:nd.vals.length=nd.keys.length){i:Nat}(h:i<nd.keys.length):Nd.size (Nd.cutA nd (i+1))=Nd.size (Nd.cutA nd i)+(1+(nd.keys[i]).length)+(1+(nd.vals[i]'(by omega)).length):=by
 simp only[Nd.cutA,hl,if_true,Nd.size,ZJ nd.keys h,ZJ nd.vals (i:=i) (by omega)];omega
theorem size_inner {nd:Nd.Node}(hl:nd.leaf=false)(hv:nd.kids.length=nd.keys.length+1){i:Nat}(h:i<nd.keys.length):Nd.size (Nd.cutA nd (i+1))=Nd.size (Nd.cutA nd i)+(1+(nd.keys[i]).length)+16:=by
 simp only[Nd.cutA,hl,Bool.false_eq_true,if_false,Nd.size,ZJ nd.keys h,zG];omega
theorem KC (nd:Nd.Node):2≤Nd.size nd:=by simp only[Nd.size];omega
theorem zBf (D:Dyn)(n:Nat){H:AH}{ks vs ps:AV}{nd:Nd.Node}(h1:Strs H ks nd.keys)(h2:Strs H vs nd.vals)(hv:nd.leaf=true→nd.vals.length=nd.keys.length)(hp:nd.leaf=false→nd.kids.length=nd.keys.length+1){A:Nat}{e:TypeId}(hA:H.h.get A=some (.cells [.bool nd.leaf,ks,vs,ps] e 1 false))
  (most:Nat) (L:Nat) (hL:L≤nd.keys.length) (hb:nd.keys.length≤1000000000) (hz:Nd.size nd≤1000000000) (n':Nat) (hn:L<n'):
  Fin (qU n' (QL D n) [.ptr A 0, .int .i64 (most:Nat), .int .i64 (L:Nat), .int .i64 ((Nd.size (Nd.cutA nd 0) - 2:Nat):Int), .int .i64 (L:Nat), .int .i64 (0:Nat)] H) fun x H'=>H'=H∧((∃j:Nat,0<j∧j<L∧x= .ret (.int .i64 (j:Nat))∧(j=1∨Nd.size (Nd.cutA nd j)≤most+2)∧most+2<Nd.size (Nd.cutA nd (j+1)))∨(x= .exit 0 [.int .i64 (L:Nat)]∧(L≤1∨Nd.size (Nd.cutA nd L)≤most+2))):=by
 refine Fin.loop (fun k us H'=>H'=H∧ ∃(i:Nat),us=[.ptr A 0, .int .i64 (most:Nat), .int .i64 (L:Nat), .int .i64 ((Nd.size (Nd.cutA nd i) - 2:Nat):Int), .int .i64 (L:Nat), .int .i64 (i:Nat)]∧i≤L∧k=L - i∧(i≤1∨Nd.size (Nd.cutA nd i)≤most+2)) ?_ n' L _ H ⟨rfl,0,rfl,by omega,by omega, .inl (by omega)⟩ hn
 rintro k us H' ⟨rfl,i,rfl,hi,rfl,hpre⟩
 by_cases hlt:i<L
 ·have hik:i<nd.keys.length:=by omega
  obtain⟨p,p1,p2⟩:=h1.at hik
  have hiI:((i:Nat):Int)< ((L:Nat):Int):=by omega
  have z2:=KC (Nd.cutA nd i)
  have z2':=KC (Nd.cutA nd (i+1))
  have tail:Fin (aH D n [.ptr A 0, .int .i64 (most:Nat), .int .i64 (L:Nat), .int .i64 ((Nd.size (Nd.cutA nd (i+1)) - 2:Nat):Int), .int .i64 (i:Nat), .int .i64 (L:Nat), .int .i64 (i:Nat)] H')
    (orN (fun us' H''=> ∃k',k'<L - i∧H''=H'∧ ∃(i:Nat),us'=[.ptr A 0, .int .i64 (most:Nat), .int .i64 (L:Nat), .int .i64 ((Nd.size (Nd.cutA nd i) - 2:Nat):Int), .int .i64 (L:Nat), .int .i64 (i:Nat)]∧i≤L∧k'=L - i∧(i≤1∨Nd.size (Nd.cutA nd i)≤most+2))
     (fun x H''=>H''=H'∧((∃j:Nat,0<j∧j<L∧x= .ret (.int .i64 (j:Nat))∧(j=1∨Nd.size (Nd.cutA nd j)≤most+2)∧most+2<Nd.size (Nd.cutA nd (j+1)))∨(x= .exit 0 [.int .i64 (L:Nat)]∧(L≤1∨Nd.size (Nd.cutA nd L)≤most+2))))):=by
   by_cases hc:0<i∧most<Nd.size (Nd.cutA nd (i+1)) - 2
   ·have c1:((0:Nat):Int)< (i:Int):=by omega
    have c2:((most:Nat):Int)< ((Nd.size (Nd.cutA nd (i+1)) - 2:Nat):Int):=by omega
    have:aH D n [.ptr A 0, .int .i64 (most:Nat), .int .i64 (L:Nat), .int .i64 ((Nd.size (Nd.cutA nd (i+1)) - 2:Nat):Int), .int .i64 (i:Nat), .int .i64 (L:Nat), .int .i64 (i:Nat)] H'=some (.ret (.int .i64 (i:Nat)),H'):=by
     simp(disch:=omega) only[aH,eZ,c1,c2]
    rw[this]
    exact⟨_,_,rfl,rfl, .inl ⟨i,hc.1,hlt,rfl,by omega,by omega⟩⟩
   ·have hcb:(decide (((0:Nat):Int)< (i:Int))&&decide (((most:Nat):Int)< ((Nd.size (Nd.cutA nd (i+1)) - 2:Nat):Int)))=false:=by
     rw[Bool.eq_false_iff];intro hh
     simp only[z7,zD]at hh
     exact hc ⟨by omega,by omega⟩
    have:aH D n [.ptr A 0, .int .i64 (most:Nat), .int .i64 (L:Nat), .int .i64 ((Nd.size (Nd.cutA nd (i+1)) - 2:Nat):Int), .int .i64 (i:Nat), .int .i64 (L:Nat), .int .i64 (i:Nat)] H'=some (.norm [.ptr A 0, .int .i64 (most:Nat), .int .i64 (L:Nat), .int .i64 ((Nd.size (Nd.cutA nd (i+1)) - 2:Nat):Int), .int .i64 (L:Nat), .int .i64 ((i+1:Nat):Int)],H'):=by
     simp(disch:=omega) only[aH,eZ,hcb,Int.natCast_add]
    rw[this]
    exact⟨_,_,rfl,L - (i+1),by omega,rfl,i+1,rfl,by omega,rfl,by omega⟩
  have hsz:Nd.size (Nd.cutA nd i)≤1000000002:=by
   have t1:=Nd.sumL_take_le nd.keys i;have t2:=Nd.sumL_take_le nd.vals i
   have:Nd.size nd=2+16*nd.kids.length+yF nd.keys+yF nd.vals:=rfl
   have z0:yF []=0:=rfl
   simp only[Nd.cutA]
   split<;>simp only[Nd.size,zU,zG,z0]<;>omega
  have hkl:(nd.keys[i]).length≤1000000000:=by
   have:=Nd.sumL_drop_le nd.keys i
   rw[zL hik,Nd.sumL_cons]at this
   have:Nd.size nd=2+16*nd.kids.length+yF nd.keys+yF nd.vals:=rfl
   omega
  cases hl:nd.leaf with
  | true=>
   rw[hl]at hA
   obtain⟨q,q1,q2⟩:=h2.at (i:=i) (by rw[hv hl];exact hik)
   have hs:=size_leaf hl (hv hl) hik
   have hvl:(nd.vals[i]'(by rw[hv hl];exact hik)).length≤1000000000:=by
    have:=Nd.sumL_drop_le nd.vals i
    rw[zL (by rw[hv hl];exact hik),Nd.sumL_cons]at this
    have:Nd.size nd=2+16*nd.kids.length+yF nd.keys+yF nd.vals:=rfl
    omega
   have hz:((Nd.size (Nd.cutA nd (i+1)) - 2:Nat):Int)=((Nd.size (Nd.cutA nd i) - 2:Nat):Int)+(((1:Nat):Int)+(((nd.keys[i]).length:Nat):Int))+(((1:Nat):Int)+(((nd.vals[i]'(by rw[hv hl];exact hik)).length:Nat):Int)):=by omega
   have:QL D n [.ptr A 0, .int .i64 (most:Nat), .int .i64 (L:Nat), .int .i64 ((Nd.size (Nd.cutA nd i) - 2:Nat):Int), .int .i64 (L:Nat), .int .i64 (i:Nat)] H'=jn (some (.norm [.ptr A 0, .int .i64 (most:Nat), .int .i64 (L:Nat), .int .i64 ((Nd.size (Nd.cutA nd (i+1)) - 2:Nat):Int), .int .i64 (i:Nat), .int .i64 (L:Nat), .int .i64 (i:Nat)],H')) (aH D n):=by
    rw[hz]
    simp(disch:=omega) only[QL,eZ,hiI,qK hA,p1,p2,q1,q2]
   rw[this,KR];exact tail
  | false=>
   rw[hl]at hA
   have hs:=size_inner hl (hp hl) hik
   have hz:((Nd.size (Nd.cutA nd (i+1)) - 2:Nat):Int)=((Nd.size (Nd.cutA nd i) - 2:Nat):Int)+(((1:Nat):Int)+(((nd.keys[i]).length:Nat):Int))+((16:Nat):Int):=by omega
   have:QL D n [.ptr A 0, .int .i64 (most:Nat), .int .i64 (L:Nat), .int .i64 ((Nd.size (Nd.cutA nd i) - 2:Nat):Int), .int .i64 (L:Nat), .int .i64 (i:Nat)] H'=jn (some (.norm [.ptr A 0, .int .i64 (most:Nat), .int .i64 (L:Nat), .int .i64 ((Nd.size (Nd.cutA nd (i+1)) - 2:Nat):Int), .int .i64 (i:Nat), .int .i64 (L:Nat), .int .i64 (i:Nat)],H')) (aH D n):=by
    rw[hz]
    simp(disch:=omega) only[QL,eZ,hiI,qK hA,p1,p2]
   rw[this,KR];exact tail
 ·have hiI: ¬((i:Nat):Int)< ((L:Nat):Int):=by omega
  have hiL:i=L:=by omega
  subst hiL
  refine⟨.exit 0 [.int .i64 (i:Nat)],H', ?_,rfl, .inr ⟨rfl,hpre⟩⟩
  simp only[QL,eZ,hiI]
theorem zEu (D:Dyn)(n:Nat)(hn:200000000≤n){H:AH}(hk:H.ok){v:AV}{nd:Nd.Node}(h:fC H v nd)(hs:small nd)(hsh:Nd.shaped ltS nd=true)(hc:xS nd):
  ∃(k:Nat) (H':AH),f183 D n [v] H=some (.int .i64 (k:Nat),H')∧Prs H H'∧cutOk nd k∧hbnd nd k:=by
 have h0:=h
 obtain⟨ks,vs,ps,rfl,h1,h2,h3⟩:=h
 have hkl:=Nd.sumL_ge nd.keys
 obtain⟨s1,s2,s3⟩:=id hs
 obtain⟨c1,c2⟩:=hc
 have hv:nd.leaf=true→nd.vals.length=nd.keys.length:=by
  intro hl
  simp only[Nd.shaped,hl,if_true,z7,zD]at hsh
  exact hsh.2.1.1
 have hp:nd.leaf=false→nd.kids.length=nd.keys.length+1:=by
  intro hl
  simp only[Nd.shaped,hl,Bool.false_eq_true,if_false,z7,zD]at hsh
  exact hsh.2.1.2
 have p1:Prs H (H.push (.cells [.bool nd.leaf,ks,vs,ps] 133 1 false)):=(Stp.refl hk).push _
 have g1:(H.push (.cells [.bool nd.leaf,ks,vs,ps] 133 1 false)).h.get H.next=some (.cells [.bool nd.leaf,ks,vs,ps] 133 1 false):=AH.push_get_eq _ _
 generalize hH1:H.push (.cells [.bool nd.leaf,ks,vs,ps] 133 1 false)=H1 at p1 g1
 obtain⟨z,H2,e2,rfl,p2⟩:=BL D n p1.ok (h0.prs p1) hs hn
 have g2:=p2.get p1.ok g1
 have P:Prs H H2:=p1.trans p2
 have hq:=zBP .i64 (((Nd.size nd:Nat):Int) - ((2:Nat):Int)) ((2:Nat):Int) (by omega)
 have hsz:Nd.size nd≤1000000000:=by simp only[Nd.size];omega
 have hz2:=KC nd
 have hmost:IntKind.wrap .i64 ((((Nd.size nd:Nat):Int) - ((2:Nat):Int)).tdiv ((2:Nat):Int))=(((Nd.size nd - 2) / 2:Nat):Int):=by
  rw[show((Nd.size nd:Nat):Int) - ((2:Nat):Int)=((Nd.size nd - 2:Nat):Int)by omega,Int.tdiv_eq_ediv_of_nonneg (by omega)]
  rw[wrap_i64 (by omega) (by omega)];omega
 rw[hmost]at hq
 cases hl:nd.leaf with
 | true=>
  obtain⟨x,H3,e3,rfl,hx⟩:=zBf D n (h1.prs P) (h2.prs P) hv hp g2 ((Nd.size nd - 2) / 2) (nd.keys.length - 1) (by omega) (by omega) hsz n (by omega)
  have hL:((nd.keys.length:Nat):Int) - ((1:Nat):Int)=((nd.keys.length - 1:Nat):Int):=by omega
  rw[hl]at g2 hH1 e2
  rw[show Nd.size (Nd.cutA nd 0) - 2=0 by simp[Nd.cutA,hl,Nd.size,yF]]at e3
  rcases hx with⟨j,j1,j2,rfl,j3,j4⟩ | ⟨rfl,j3⟩
  ·refine⟨j,H3, ?_,P,⟨j1,by rw[hl];simp only[if_true];omega⟩,j3, .inr j4⟩
   simp(disch:=omega) only[f183,eZ,vS hk,hH1,cE,Option.map_some,hl,e2,hq,qK g2,h1.lnSl,hL,VX,e3]
  ·refine⟨nd.keys.length - 1,H3, ?_,P,⟨by omega,by rw[hl];simp only[if_true];omega⟩,by omega, .inl (by rw[hl];simp only[if_true];omega)⟩
   simp(disch:=omega) only[f183,eZ,vS hk,hH1,cE,Option.map_some,hl,e2,hq,qK g2,h1.lnSl,hL,VX,e3,zEL]
 | false=>
  have c3:3≤nd.keys.length:=by rcases c2 with h | h;rw[hl]at h;cases h;exact h
  obtain⟨x,H3,e3,rfl,hx⟩:=zBf D n (h1.prs P) (h2.prs P) hv hp g2 ((Nd.size nd - 2) / 2) (nd.keys.length - 2) (by omega) (by omega) hsz n (by omega)
  have hL:((nd.keys.length:Nat):Int) - ((1:Nat):Int) - ((1:Nat):Int)=((nd.keys.length - 2:Nat):Int):=by omega
  rw[hl]at g2 hH1 e2
  rw[show Nd.size (Nd.cutA nd 0) - 2=16 by have hpl:=hp hl;simp only[Nd.cutA,hl,Bool.false_eq_true,if_false,Nd.size,List.take_zero,zG,Nat.zero_add,show yF []=0 from rfl];omega]at e3
  rcases hx with⟨j,j1,j2,rfl,j3,j4⟩ | ⟨rfl,j3⟩
  ·refine⟨j,H3, ?_,P,⟨j1,by rw[hl];simp only[Bool.false_eq_true,if_false];omega⟩,j3, .inr j4⟩
   simp(disch:=omega) only[f183,eZ,vS hk,hH1,cE,Option.map_some,hl,e2,hq,qK g2,h1.lnSl,hL,VX,e3]
  ·refine⟨nd.keys.length - 2,H3, ?_,P,⟨by omega,by rw[hl];simp only[Bool.false_eq_true,if_false];omega⟩,by omega, .inl (by rw[hl];simp only[Bool.false_eq_true,if_false];omega)⟩
   simp(disch:=omega) only[f183,eZ,vS hk,hH1,cE,Option.map_some,hl,e2,hq,qK g2,h1.lnSl,hL,VX,e3,zEL]
open Go.Nd (cutA fF)
theorem vC {k e n:Nat}{H H':AH}{v:AV}{l l':List AV}(h:jA k e H v n l)(h':jA k e H' v n l')(hpos:0<k)(lo hi mx:Option AV):j6 k v lo hi mx H'=j6 k v lo hi mx H:=by
 have room1: ∀l:List AV,l.length=n*k→yD l true k 0 1 k=n:=fun l h0=>by
  simp only[yD,show((1 % 2).beq 0)=false from rfl,cond_false,Nat.beq_refl,show Nat.beq 0 (1 / 2*k)=true from by simp,Bool.and_self,cond_true,qW,h0,Nat.sub_zero]
  exact Nat.mul_div_cancel _ hpos
 have room2: ∀(l:List AV) (g:Bool),yD l g k 0 (2*n) k=n:=fun l g=>by
  simp only[yD,show((2*n) % 2).beq 0=true by rw[Nat.mul_mod_right];rfl,cond_true,Nat.mul_div_cancel_left n (show 0<2 by omega)]
 rcases h with⟨h0,⟨rfl,_⟩ | ⟨A,rfl,hA,hg⟩⟩ | ⟨h0,A,e',g,rfl,hA,hg⟩
 ·rfl
 ·rcases h' with⟨h0',⟨hv,_⟩ | ⟨A',hv,hA',hg'⟩⟩ | ⟨h0',A',e'',g',hv,hA',hg'⟩
  ·cases hv
  ·simp only[AV.slice.injEq]at hv;obtain⟨rfl,_⟩:=hv
   simp only[j6,hg,hg',room1 l h0,room1 l' h0']
  ·simp only[AV.slice.injEq]at hv;omega
 ·rcases h' with⟨h0',⟨hv,_⟩ | ⟨A',hv,hA',hg'⟩⟩ | ⟨h0',A',e'',g',hv,hA',hg'⟩
  ·cases hv
  ·simp only[AV.slice.injEq]at hv;omega
  ·simp only[AV.slice.injEq]at hv;obtain⟨rfl,_⟩:=hv
   simp only[j6,hg,hg',room2]
theorem ZN {H:AH}(hk:H.ok){A o:Nat}{l:List AV}{e:TypeId}{x:AV}(h:H.h.get A=some (.cells l e 1 false))(hx:isCell x=true)(ho:o<l.length):
  ∃H',stN 1 (.ptr A o) x H=some (qL,H')∧H'.h.get A=some (.cells (l.set o x) e 1 false)∧Stp (fun B=>B=A) H H'∧H'.next=H.next:=
 ⟨_,YT h (by decide) hx ho,by rw[AH.put_get,if_pos rfl],(Stp.refl hk).put (hk.lt h) _ (.inr rfl),rfl⟩
theorem map_take (l:List Str)(k:Nat):(l.map S).take (k*1)=(l.take k).map S:=by simp
theorem map_drop (l:List Str)(k:Nat):(l.map S).drop (k*1)=(l.drop k).map S:=by simp
theorem QH: ∀(l:List Ptr) (k:Nat),(l.flatMap qV).take (k*3)=(l.take k).flatMap qV
 | _,0=>by simp
 | [],k+1=>by simp
 | p::l,k+1=>by
  have ih:=QH l k
  rw[show(k+1)*3=k*3+3 from by omega]
  show((qV p)++l.flatMap qV).take (k*3+3)=qV p++(l.take k).flatMap qV
  rw[← ih];rfl
theorem QI: ∀(l:List Ptr) (k:Nat),(l.flatMap qV).drop (k*3)=(l.drop k).flatMap qV
 | _,0=>by simp
 | [],k+1=>by simp
 | p::l,k+1=>by
  have ih:=QI l k
  rw[show(k+1)*3=k*3+3 from by omega]
  show((qV p)++l.flatMap qV).drop (k*3+3)=(l.drop k).flatMap qV
  rw[← ih];rfl
structure CutI (H0:AH)(A1 A2 A4:Nat)(H:AH)(l1 l2 l4:List AV):Prop where
 prs:Prs H0 H
 a1:H.h.get A1=some (.cells l1 133 1 false)
 a2:H.h.get A2=some (.cells l2 133 1 false)
 a4:H.h.get A4=some (.cells l4 133 1 false)
 o1:H0.next≤A1
 o2:A1<A2
 o4:A2<A4
theorem CutI.lt {H0 H:AH}{A1 A2 A4:Nat}{l1 l2 l4:List AV}(h:CutI H0 A1 A2 A4 H l1 l2 l4):A4<H.next:=h.prs.ok.lt h.a4
theorem CutI.step {H0 H H':AH}{A1 A2 A4:Nat}{l1 l2 l4:List AV}(h:CutI H0 A1 A2 A4 H l1 l2 l4)(s:Prs H H'):CutI H0 A1 A2 A4 H' l1 l2 l4:=
 ⟨h.prs.trans s,s.get h.prs.ok h.a1,s.get h.prs.ok h.a2,s.get h.prs.ok h.a4,h.o1,h.o2,h.o4⟩
theorem CutI.st2 {H0 H:AH}{A1 A2 A4:Nat}{l1 l2 l4:List AV}(h:CutI H0 A1 A2 A4 H l1 l2 l4){o:Nat}{x:AV}(hx:isCell x=true)(ho:o<l2.length):
  ∃H',stN 1 (.ptr A2 o) x H=some (qL,H')∧CutI H0 A1 A2 A4 H' l1 (l2.set o x) l4∧Stp (fun B=>B=A2) H H':=by
 obtain⟨H',e,g,s,n⟩:=ZN h.prs.ok h.a2 hx ho
 have:=h.o1;have:=h.o2;have:=h.o4;have l4:=h.lt
 exact⟨H',e,⟨h.prs.fresh s (fun B hB=>by omega),by rw[s.keep _ (by omega) (by omega)];exact h.a1,g,by rw[s.keep _ l4 (by omega)];exact h.a4,h.o1,h.o2,h.o4⟩,s⟩
theorem CutI.st4 {H0 H:AH}{A1 A2 A4:Nat}{l1 l2 l4:List AV}(h:CutI H0 A1 A2 A4 H l1 l2 l4){o:Nat}{x:AV}(hx:isCell x=true)(ho:o<l4.length):
  ∃H',stN 1 (.ptr A4 o) x H=some (qL,H')∧CutI H0 A1 A2 A4 H' l1 l2 (l4.set o x)∧Stp (fun B=>B=A4) H H':=by
 obtain⟨H',e,g,s,n⟩:=ZN h.prs.ok h.a4 hx ho
 have:=h.o1;have:=h.o2;have:=h.o4;have l4:=h.lt
 exact⟨H',e,⟨h.prs.fresh s (fun B hB=>by omega),by rw[s.keep _ (by omega) (by omega)];exact h.a1,by rw[s.keep _ (by omega) (by omega)];exact h.a2,g,h.o1,h.o2,h.o4⟩,s⟩
theorem CutI.all2 {H0 H:AH}{A1 A2 A4:Nat}{l1 l2 l4 l':List AV}(h:CutI H0 A1 A2 A4 H l1 l2 l4)(hl:l'.length=l2.length)(hc:qM l'=true):
  ∃H',stN l2.length (.ptr A2 0) (.agg l') H=some (qL,H')∧CutI H0 A1 A2 A4 H' l1 l' l4∧Stp (fun B=>B=A2) H H':=by
 obtain⟨H',e,g,s,n⟩:=qX h.prs.ok h.a2 hl hc
 have:=h.o1;have:=h.o2;have:=h.o4;have l4:=h.lt
 exact⟨H',e,⟨h.prs.fresh s (fun B hB=>by omega),by rw[s.keep _ (by omega) (by omega)];exact h.a1,g,by rw[s.keep _ l4 (by omega)];exact h.a4,h.o1,h.o2,h.o4⟩,s⟩
theorem CutI.all4 {H0 H:AH}{A1 A2 A4:Nat}{l1 l2 l4 l':List AV}(h:CutI H0 A1 A2 A4 H l1 l2 l4)(hl:l'.length=l4.length)(hc:qM l'=true):
  ∃H',stN l4.length (.ptr A4 0) (.agg l') H=some (qL,H')∧CutI H0 A1 A2 A4 H' l1 l2 l'∧Stp (fun B=>B=A4) H H':=by
 obtain⟨H',e,g,s,n⟩:=qX h.prs.ok h.a4 hl hc
 have:=h.o1;have:=h.o2;have:=h.o4;have l4:=h.lt
 exact⟨H',e,⟨h.prs.fresh s (fun B hB=>by omega),by rw[s.keep _ (by omega) (by omega)];exact h.a1,by rw[s.keep _ (by omega) (by omega)];exact h.a2,g,h.o1,h.o2,h.o4⟩,s⟩
def xI (u:AV)(B:Nat):Prop:= ∃x ks vs ps,u= .agg [x,ks,vs,ps]∧(Blk ks B∨Blk vs B∨Blk ps B)
theorem jS {x ks vs ps:AV}{B:Nat} :xI (.agg [x,ks,vs,ps]) B↔(Blk ks B∨Blk vs B∨Blk ps B):=
 ⟨fun⟨_,_,_,_,e,h⟩=>by simp only[AV.agg.injEq,List.cons.injEq,and_true]at e;obtain⟨rfl,rfl,rfl,rfl⟩:=e;exact h,fun h=>⟨_,_,_,_,rfl,h⟩⟩
def kQ (N:Nat)(H:AH)(v:AV)(nd:Nd.Node):Prop:=y5 H v nd∧ ∀B,xI v B→N≤B
structure FrG (A k e:Nat)(H:AH)(v:AV)(n:Nat)(l:List AV):Prop where
 g:jA k e H v n l
 f: ∀B,Blk v B→A<B
theorem FrG.prs {A k e n:Nat}{H H':AH}{v:AV}{l:List AV}(h:FrG A k e H v n l)(s:Prs H H'):FrG A k e H' v n l:=⟨h.g.mono s (fun _ _ x=>x),h.f⟩
theorem FrG.stp {A A' k e n:Nat}{H H':AH}{v:AV}{l:List AV}(h:FrG A k e H v n l)(s:Stp (fun B=>B=A') H H')(hA:A'≤A):FrG A k e H' v n l:=
 ⟨h.g.mono s (fun B hB e=>by have:=h.f B hB;omega),h.f⟩
theorem zM1 (l:Str):aveq (S l) (S l)=true:=by simp[S,aveq]
theorem FrG.nil (A k e:Nat)(H:AH):FrG A k e H .nilSlice 0 []:=⟨.inl ⟨by simp, .inl ⟨rfl,rfl⟩⟩,fun B hB=>(Blk.nil.1 hB).elim⟩
theorem FrG.isCell {A k e n:Nat}{H:AH}{v:AV}{l:List AV}(h:FrG A k e H v n l):isCell v=true:=h.g.isCell
theorem FrG.aveq {A k e n:Nat}{H:AH}{v:AV}{l:List AV}(h:FrG A k e H v n l):aveq v v=true:=yI h.g.row
structure FrN (A:Nat)(H:AH)(a b c:AV)(nd:Nd.Node):Prop where
 k:FrG A 1 9 H a nd.keys.length (nd.keys.map S)
 v:FrG A 1 9 H b nd.vals.length (nd.vals.map S)
 p:FrG A 3 72 H c nd.kids.length (nd.kids.flatMap qV)
theorem FrN.stp {A A':Nat}{H H':AH}{a b c:AV}{nd:Nd.Node}(h:FrN A H a b c nd)(s:Stp (fun B=>B=A') H H')(hA:A'≤A):FrN A H' a b c nd:=⟨h.k.stp s hA,h.v.stp s hA,h.p.stp s hA⟩
theorem FrN.fresh {A N:Nat}{H:AH}{x a b c:AV}{nd:Nd.Node}(h:FrN A H a b c nd)(hN:N≤A): ∀B,xI (.agg [x,a,b,c]) B→N≤B:=fun B hB=>by
 rcases jS.1 hB with k | k | k
 ·have:=h.k.f B k;omega
 ·have:=h.v.f B k;omega
 ·have:=h.p.f B k;omega
theorem zFz (D:Dyn)(n:Nat){H0 H:AH}{A1 A2 A4 k:Nat}{b:Bool}{ks vs ps k2 v2 p2 k4 v4 p4:AV}{keys:List Str}{na nb:Nd.Node}
  (h:CutI H0 A1 A2 A4 H [.bool b,ks,vs,ps] [.bool b,k2,v2,p2] [.bool b,k4,v4,p4]) (hks:Strs H ks keys) (hR: ∀B,Blk ks B→B<H0.next) (hk:k<keys.length) (ha:FrN A4 H k2 v2 p2 na) (hb:FrN A4 H k4 v4 p4 nb):
  ∃H',zER D n [.ptr A1 0, .ptr A2 0, .ptr A4 0, .int .i64 (k:Nat)] H=some (.ret (.tuple [.agg [.bool b,k2,v2,p2],S (keys.getD k []), .agg [.bool b,k4,v4,p4], .int .i64 ((0:Nat):Int)]),H')∧Prs H0 H'∧FrN A4 H' k2 v2 p2 na∧FrN A4 H' k4 v4 p4 nb:=by
 have o1:=h.o1;have o2:=h.o2;have o4:=h.o4
 obtain⟨q,q1,q2⟩:=hks.at hk
 obtain⟨H1,e1,h1,s1⟩:=h.all2 (l':=[.bool b,k2,v2,p2]) rfl (dT _ _ _ _ ha.k.isCell ha.v.isCell ha.p.isCell)
 have hks1:Strs H1 ks keys:=Rw.stp hks s1 (fun B hB e=>by have:=hR B hB;omega)
 obtain⟨q',q1',q2'⟩:=hks1.at hk
 obtain rfl:q=q':=by have:=q1 .i64 k rfl;rw[q1' .i64 k rfl]at this;cases this;rfl
 obtain⟨H2,e2,h2,s2⟩:=h1.all4 (l':=[.bool b,k4,v4,p4]) rfl (dT _ _ _ _ hb.k.isCell hb.v.isCell hb.p.isCell)
 have e1':stN 4 (.ptr A2 0) (.agg [.bool b,k2,v2,p2]) H=some (qL,H1):=e1
 have e2':stN 4 (.ptr A4 0) (.agg [.bool b,k4,v4,p4]) H1=some (qL,H2):=e2
 have hagg:aveq (.agg [.bool b,k4,v4,p4]) (.agg [.bool b,k4,v4,p4])=true:=by simp[Eng.aveq,cX,hb.k.aveq,hb.v.aveq,hb.p.aveq]
 have hg:keys.getD k []=keys[k]:=by rw[zJ,zB hk];rfl
 have l4:ldN 4 (.ptr A4 0) H1=some (.agg [.bool b,k4,v4,p4]):=by rw[qP h1.a4];rfl
 refine⟨H2, ?_,h2.prs,(ha.stp s1 (by omega)).stp s2 (by omega),(hb.stp s1 (by omega)).stp s2 (by omega)⟩
 rw[hg]
 simp(disch:=omega) only[zER,eZ,qP h.a2,qP h.a4,qK h.a1,q1,q2,e1',e2',yZ (qK h1.a1 1) (yI hks),yZ q2' (zM1 _),yZ l4 hagg,qP h2.a2,qP h2.a4,cE,Option.map_some]
theorem zEs (D:Dyn)(n:Nat){H:AH}(hk:H.ok){v:AV}{l:List Str}(h:jA 1 9 H v l.length (l.map S))(hl:l.length≤1000000000){i:Nat}(h0:0<i)(hi:i≤l.length)(A:Nat)(hA:A<H.next):
  ∃r v' H',j6 1 v none (some (.int .i64 (i:Nat))) (some (.int .i64 (i:Nat))) H=some r∧f109 D n [r] H=some (v',H')∧Prs H H'∧FrG A 1 9 H' v' (l.take i).length ((l.take i).map S):=by
 obtain⟨r,e1,w,hz⟩:=K9 h (by decide) hi .i64 .i64
 rw[map_take]at w
 have hlen:(l.take i).length=i:=by rw[zG];omega
 have w':Strs H r (l.take i):=by rw[Strs,hlen];exact w
 obtain⟨v',H',e2,p,g,f⟩:=dH D n hk w' (hz h0).1 (hz h0).2 (by omega)
 exact⟨r,v',H',e1,e2,p,g,fun B hB=>by have:=f B hB;omega⟩
theorem zEd (D:Dyn)(n:Nat){H:AH}(hk:H.ok){v:AV}{l:List Str}(h:jA 1 9 H v l.length (l.map S))(hl:l.length≤1000000000){i:Nat}(hi:i<l.length)(A:Nat)(hA:A<H.next):
  ∃r v' H',aveq r r=true∧j6 1 v (some (.int .i64 (i:Nat))) none none H=some r∧f109 D n [r] H=some (v',H')∧Prs H H'∧FrG A 1 9 H' v' (l.drop i).length ((l.drop i).map S):=by
 obtain⟨r,e1,w,z1,z2⟩:=ZO h (by decide) hi .i64
 rw[map_drop]at w
 have hlen:(l.drop i).length=l.length - i:=by rw[zN]
 have w':Strs H r (l.drop i):=by rw[Strs,hlen];exact w
 obtain⟨v',H',e2,p,g,f⟩:=dH D n hk w' z1 z2 (by omega)
 exact⟨r,v',H',yI w,e1,e2,p,g,fun B hB=>by have:=f B hB;omega⟩
theorem zLD (D:Dyn)(n:Nat){H:AH}(hk:H.ok){v:AV}{l:List Ptr}(h:jA 3 72 H v l.length (l.flatMap qV))(hl:l.length≤1000000000){i:Nat}(h0:0<i)(hi:i≤l.length)(A:Nat)(hA:A<H.next):
  ∃r v' H',j6 3 v none (some (.int .i64 (i:Nat))) (some (.int .i64 (i:Nat))) H=some r∧f77 D n [r] H=some (v',H')∧Prs H H'∧FrG A 3 72 H' v' (l.take i).length ((l.take i).flatMap qV):=by
 obtain⟨r,e1,w,hz⟩:=K9 h (by decide) hi .i64 .i64
 rw[QH]at w
 have hlen:(l.take i).length=i:=by rw[zG];omega
 have w':u6 H r (l.take i):=by rw[u6,hlen];exact w
 obtain⟨v',H',e2,p,g,f⟩:=QT D n hk w' (hz h0).1 (hz h0).2 (by omega)
 exact⟨r,v',H',e1,e2,p,g,fun B hB=>by have:=f B hB;omega⟩
theorem zLl (D:Dyn)(n:Nat){H:AH}(hk:H.ok){v:AV}{l:List Ptr}(h:jA 3 72 H v l.length (l.flatMap qV))(hl:l.length≤1000000000){i:Nat}(hi:i<l.length)(A:Nat)(hA:A<H.next):
  ∃r v' H',aveq r r=true∧j6 3 v (some (.int .i64 (i:Nat))) none none H=some r∧f77 D n [r] H=some (v',H')∧Prs H H'∧FrG A 3 72 H' v' (l.drop i).length ((l.drop i).flatMap qV):=by
 obtain⟨r,e1,w,z1,z2⟩:=ZO h (by decide) hi .i64
 rw[QI]at w
 have hlen:(l.drop i).length=l.length - i:=by rw[zN]
 have w':u6 H r (l.drop i):=by rw[u6,hlen];exact w
 obtain⟨v',H',e2,p,g,f⟩:=QT D n hk w' z1 z2 (by omega)
 exact⟨r,v',H',yI w,e1,e2,p,g,fun B hB=>by have:=f B hB;omega⟩
theorem zAp (D:Dyn)(n:Nat)(hn:200000000≤n){H:AH}(hk:H.ok){b:Bool}{ks vs ps:AV}{nd:Nd.Node}(hb:nd.leaf=b)(h:fC H (.agg [.bool b,ks,vs,ps]) nd)(hs:small nd):
  ∃H1 H2 H3 H4 A1 A2 A4,(∀K,bA (some (AObj.cells [.bool b,ks,vs,ps] 133 1 false,fun A=>AV.ptr A 0)) H K=K (.ptr A1 0) H1)∧(∀K,bA (some (AObj.cells [.bool false, .nilSlice, .nilSlice, .nilSlice] 133 1 false,fun A=>AV.ptr A 0)) H1 K=K (.ptr A2 0) H2)∧
   (∀K,bA (some (AObj.cells [.bool false, .nilSlice, .nilSlice, .nilSlice] 133 1 false,fun A=>AV.ptr A 0)) H2 K=K (.ptr A4 0) H3)∧f107 D n [.agg [.bool b,ks,vs,ps]] H3=some (.bool (Nd.shaped ltS nd),H4)∧
   CutI H A1 A2 A4 H3 [.bool b,ks,vs,ps] [.bool false, .nilSlice, .nilSlice, .nilSlice] [.bool false, .nilSlice, .nilSlice, .nilSlice]∧CutI H A1 A2 A4 H4 [.bool b,ks,vs,ps] [.bool false, .nilSlice, .nilSlice, .nilSlice] [.bool false, .nilSlice, .nilSlice, .nilSlice]:=by
 have p1:Prs H (H.push (.cells [.bool b,ks,vs,ps] 133 1 false)):=(Stp.refl hk).push _
 have g1:(H.push (.cells [.bool b,ks,vs,ps] 133 1 false)).h.get H.next=some (.cells [.bool b,ks,vs,ps] 133 1 false):=AH.push_get_eq _ _
 have n1:(H.push (.cells [.bool b,ks,vs,ps] 133 1 false)).next=H.next+1:=rfl
 generalize hH1:H.push (.cells [.bool b,ks,vs,ps] 133 1 false)=H1 at p1 g1 n1
 have p2:Prs H1 (H1.push (.cells [.bool false, .nilSlice, .nilSlice, .nilSlice] 133 1 false)):=(Stp.refl p1.ok).push _
 have g2:(H1.push (.cells [.bool false, .nilSlice, .nilSlice, .nilSlice] 133 1 false)).h.get H1.next=some (.cells [.bool false, .nilSlice, .nilSlice, .nilSlice] 133 1 false):=AH.push_get_eq _ _
 have n2:(H1.push (.cells [.bool false, .nilSlice, .nilSlice, .nilSlice] 133 1 false)).next=H1.next+1:=rfl
 have g12:=p2.get p1.ok g1
 generalize hH2:H1.push (.cells [.bool false, .nilSlice, .nilSlice, .nilSlice] 133 1 false)=H2 at p2 g2 n2 g12
 have p3:Prs H2 (H2.push (.cells [.bool false, .nilSlice, .nilSlice, .nilSlice] 133 1 false)):=(Stp.refl p2.ok).push _
 have g3:(H2.push (.cells [.bool false, .nilSlice, .nilSlice, .nilSlice] 133 1 false)).h.get H2.next=some (.cells [.bool false, .nilSlice, .nilSlice, .nilSlice] 133 1 false):=AH.push_get_eq _ _
 have g13:=p3.get p2.ok g12
 have g23:=p3.get p2.ok g2
 generalize hH3:H2.push (.cells [.bool false, .nilSlice, .nilSlice, .nilSlice] 133 1 false)=H3 at p3 g3 g13 g23
 have P3:Prs H H3:=(p1.trans p2).trans p3
 obtain⟨H4,e4,p4⟩:=uE D n p3.ok (h.prs P3) hs hn
 have c3:CutI H H.next H1.next H2.next H3 [.bool b,ks,vs,ps] [.bool false, .nilSlice, .nilSlice, .nilSlice] [.bool false, .nilSlice, .nilSlice, .nilSlice]:=⟨P3,g13,g23,g3,by omega,by omega,by omega⟩
 refine⟨H1,H2,H3,H4,H.next,H1.next,H2.next,fun K=> ?_,fun K=> ?_,fun K=> ?_,e4,c3,c3.step p4⟩
 ·simp only[eZ,vS hk,hH1]
 ·simp only[eZ,vS p1.ok,hH2]
 ·simp only[eZ,vS p2.ok,hH3]
theorem zK7 (D:Dyn)(n:Nat)(hn:200000000≤n){H:AH}(hk:H.ok){v:AV}{nd:Nd.Node}(h:y5 H v nd)(hs:small nd)(hsh:Nd.shaped ltS nd=true)(hc:xS nd)(hl:nd.leaf=true):
  ∃k va vb H',f167 D n [v] H=some (.tuple [va,S (nd.keys.getD k []),vb, .int .i64 ((0:Nat):Int)],H')∧Prs H H'∧kQ H.next H' va (cutA nd k)∧kQ H.next H' vb (fF nd k)∧cutOk nd k∧hbnd nd k:=by
 have h0:=h.node
 obtain⟨ks,vs,ps,rfl,h1,h2,h3⟩:=h
 rw[hl]at h0
 have hkl:=Nd.sumL_ge nd.keys
 have hvl:nd.vals.length=nd.keys.length:=by
  simp only[Nd.shaped,hl,if_true,z7,zD]at hsh
  exact hsh.2.1.1
 obtain⟨s1,s2,s3⟩:=id hs
 obtain⟨c1,c2⟩:=id hc
 obtain⟨H1,H2,H3,H4,A1,A2,A4,b1,b2,b3,e4,i3,i4⟩:=zAp D n hn hk hl h0 hs
 obtain⟨k,H5,e5,p5,⟨k1,k2⟩,kb⟩:=zEu D n hn i4.prs.ok (h0.prs i4.prs) hs hsh hc
 simp only[hl,if_true]at k2
 have i5:=i4.step p5
 obtain⟨H6,e6,i6,t6⟩:=i5.st2 (o:=0) (x:= .bool true) rfl (by simp)
 obtain⟨H7,e7,i7,t7⟩:=i6.st4 (o:=0) (x:= .bool true) rfl (by simp)
 have m {H':AH} (p:Prs H H'):=h1.mono p (fun _ _ x=>x)
 have m2 {H':AH} (p:Prs H H'):=h2.mono p (fun _ _ x=>x)
 obtain⟨r8,k8,H8,c8,e8,p8,f8⟩:=zEs D n i7.prs.ok (m i7.prs) (by omega) k1 (by omega) A4 i7.lt
 have i8:=i7.step p8
 obtain⟨H9,e9,i9,t9⟩:=i8.st2 (o:=1) (x:=k8) f8.isCell (by simp)
 have f9:=f8.stp t9 (by have:=i8.o4;omega)
 obtain⟨r10,k10,H10,_,c10,e10,p10,f10⟩:=zEd D n i9.prs.ok (m i9.prs) (by omega) (show k< _ by omega) A4 i9.lt
 have i10:=i9.step p10
 obtain⟨H11,e11,i11,t11⟩:=i10.st4 (o:=1) (x:=k10) f10.isCell (by simp)
 have f11:=f10.stp t11 (by omega)
 obtain⟨r12,k12,H12,c12,e12,p12,f12⟩:=zEs D n i11.prs.ok (m2 i11.prs) (by omega) k1 (by omega) A4 i11.lt
 have i12:=i11.step p12
 obtain⟨r13,k13,H13,q13,c13,e13,p13,f13⟩:=zEd D n i12.prs.ok (m2 i12.prs) (by omega) (show k< _ by omega) A4 i12.lt
 have c13':j6 1 vs (some (.int .i64 (k:Nat))) none none H11=some r13:=by rw[vC (m2 i12.prs) (m2 i11.prs) (by decide)];exact c13
 have i13:=i12.step p13
 obtain⟨H14,e14,i14,t14⟩:=i13.st2 (o:=2) (x:=k12) f12.isCell (by simp)
 obtain⟨H15,e15,i15,t15⟩:=i14.st4 (o:=2) (x:=k13) f13.isCell (by simp)
 have o4:=i15.o4
 have h24:=i15.o1
 have h12:=i15.o2
 have F8:FrG A4 1 9 H15 k8 _ _:=(((((f9.prs p10).stp t11 (by omega)).prs p12).prs p13).stp t14 (by omega)).stp t15 (by omega)
 have F10:FrG A4 1 9 H15 k10 _ _:=(((f11.prs p12).prs p13).stp t14 (by omega)).stp t15 (by omega)
 have F12:FrG A4 1 9 H15 k12 _ _:=((f12.prs p13).stp t14 (by omega)).stp t15 (by omega)
 have F13:FrG A4 1 9 H15 k13 _ _:=(f13.stp t14 (by omega)).stp t15 (by omega)
 have na:FrN A4 H15 k8 k12 .nilSlice (cutA nd k):=by
  simp only[cutA,hl,if_true];exact⟨F8,F12,FrG.nil ..⟩
 have nb:FrN A4 H15 k10 k13 .nilSlice (fF nd k):=by
  simp only[fF,hl,if_true];exact⟨F10,F13,FrG.nil ..⟩
 obtain⟨H16,e16,P,fa,fb⟩:=zFz D n i15 ((m i15.prs).row) (fun B hB=>h1.lt hB) (show k<nd.keys.length by omega) na nb
 refine⟨k, .agg [.bool true,k8,k12, .nilSlice], .agg [.bool true,k10,k13, .nilSlice],H16, ?_,P, ?_, ?_,⟨k1,by rw[hl];simp only[if_true];omega⟩,kb⟩
 ·have t2: ¬((nd.keys.length:Nat):Int)< ((2:Nat):Int):=by omega
  simp(maxSteps:=999999)(disch:=omega) only[f167,eZ,hl,b1,b2,b3,qP i3.a1,qP i4.a1,cE,Option.map_some,e4,hsh,qK i4.a1,h1.row.lnSl,t2,e5,qK i5.a1,e6,yZ (qK i6.a1 0) (UT _),e7,qK i7.a1,c8,e8,e9,qK i9.a1,c10,e10,e11,qK i11.a1,c12,c13',e12,yZ (qK i12.a1 2) (yI h2.row),yZ c13 q13,e13,e14,e15,e16]
 ·exact⟨⟨k8,k12, .nilSlice,by simp only[cutA,hl,if_true],fa.k.g,fa.v.g,fa.p.g⟩,fa.fresh (by omega)⟩
 ·exact⟨⟨k10,k13, .nilSlice,by simp only[fF,hl,if_true],fb.k.g,fb.v.g,fb.p.g⟩,fb.fresh (by omega)⟩
theorem zHm (D:Dyn)(n:Nat)(hn:200000000≤n){H:AH}(hk:H.ok){v:AV}{nd:Nd.Node}(h:y5 H v nd)(hs:small nd)(hsh:Nd.shaped ltS nd=true)(hc:xS nd)(hl:nd.leaf=false):
  ∃k va vb H',f167 D n [v] H=some (.tuple [va,S (nd.keys.getD k []),vb, .int .i64 ((0:Nat):Int)],H')∧Prs H H'∧kQ H.next H' va (cutA nd k)∧kQ H.next H' vb (fF nd k)∧cutOk nd k∧hbnd nd k:=by
 have h0:=h.node
 obtain⟨ks,vs,ps,rfl,h1,h2,h3⟩:=h
 rw[hl]at h0
 have hkl:=Nd.sumL_ge nd.keys
 have hpl:nd.kids.length=nd.keys.length+1:=by
  simp only[Nd.shaped,hl,Bool.false_eq_true,if_false,z7,zD]at hsh
  exact hsh.2.1.2
 obtain⟨s1,s2,s3⟩:=id hs
 obtain⟨c1,c2⟩:=id hc
 obtain⟨H1,H2,H3,H4,A1,A2,A4,b1,b2,b3,e4,i3,i4⟩:=zAp D n hn hk hl h0 hs
 obtain⟨k,H5,e5,p5,⟨k1,k2⟩,kb⟩:=zEu D n hn i4.prs.ok (h0.prs i4.prs) hs hsh hc
 simp only[hl,Bool.false_eq_true,if_false]at k2
 have i5:=i4.step p5
 obtain⟨H6,e6,i6,t6⟩:=i5.st2 (o:=0) (x:= .bool false) rfl (by simp)
 obtain⟨H7,e7,i7,t7⟩:=i6.st4 (o:=0) (x:= .bool false) rfl (by simp)
 have m {H':AH} (p:Prs H H'):=h1.mono p (fun _ _ x=>x)
 have m2 {H':AH} (p:Prs H H'):=h3.mono p (fun _ _ x=>x)
 obtain⟨r8,k8,H8,c8,e8,p8,f8⟩:=zEs D n i7.prs.ok (m i7.prs) (by omega) k1 (by omega) A4 i7.lt
 have i8:=i7.step p8
 obtain⟨H9,e9,i9,t9⟩:=i8.st2 (o:=1) (x:=k8) f8.isCell (by simp)
 have f9:=f8.stp t9 (by have:=i8.o4;omega)
 obtain⟨r10,k10,H10,_,c10,e10,p10,f10⟩:=zEd D n i9.prs.ok (m i9.prs) (by omega) (show k+1< _ by omega) A4 i9.lt
 have i10:=i9.step p10
 obtain⟨H11,e11,i11,t11⟩:=i10.st4 (o:=1) (x:=k10) f10.isCell (by simp)
 have f11:=f10.stp t11 (by omega)
 obtain⟨r12,k12,H12,c12,e12,p12,f12⟩:=zLD D n i11.prs.ok (m2 i11.prs) (by omega) (show 0<k+1 by omega) (by omega) A4 i11.lt
 have i12:=i11.step p12
 obtain⟨r13,k13,H13,q13,c13,e13,p13,f13⟩:=zLl D n i12.prs.ok (m2 i12.prs) (by omega) (show k+1< _ by omega) A4 i12.lt
 have c13':j6 3 ps (some (.int .i64 ((k+1:Nat):Int))) none none H11=some r13:=by rw[vC (m2 i12.prs) (m2 i11.prs) (by decide)];exact c13
 have i13:=i12.step p13
 obtain⟨H14,e14,i14,t14⟩:=i13.st2 (o:=3) (x:=k12) f12.isCell (by simp)
 obtain⟨H15,e15,i15,t15⟩:=i14.st4 (o:=3) (x:=k13) f13.isCell (by simp)
 simp only[Int.natCast_add]at c10 c12 c13 c13'
 have o4:=i15.o4
 have h24:=i15.o1
 have h12:=i15.o2
 have F8:FrG A4 1 9 H15 k8 _ _:=(((((f9.prs p10).stp t11 (by omega)).prs p12).prs p13).stp t14 (by omega)).stp t15 (by omega)
 have F10:FrG A4 1 9 H15 k10 _ _:=(((f11.prs p12).prs p13).stp t14 (by omega)).stp t15 (by omega)
 have F12:FrG A4 3 72 H15 k12 _ _:=((f12.prs p13).stp t14 (by omega)).stp t15 (by omega)
 have F13:FrG A4 3 72 H15 k13 _ _:=(f13.stp t14 (by omega)).stp t15 (by omega)
 have na:FrN A4 H15 k8 .nilSlice k12 (cutA nd k):=by
  simp only[cutA,hl,Bool.false_eq_true,if_false];exact⟨F8,FrG.nil ..,F12⟩
 have nb:FrN A4 H15 k10 .nilSlice k13 (fF nd k):=by
  simp only[fF,hl,Bool.false_eq_true,if_false];exact⟨F10,FrG.nil ..,F13⟩
 obtain⟨H16,e16,P,fa,fb⟩:=zFz D n i15 ((m i15.prs).row) (fun B hB=>h1.lt hB) (show k<nd.keys.length by omega) na nb
 refine⟨k, .agg [.bool false,k8, .nilSlice,k12], .agg [.bool false,k10, .nilSlice,k13],H16, ?_,P, ?_, ?_,⟨k1,by rw[hl];simp only[Bool.false_eq_true,if_false];omega⟩,kb⟩
 ·have t2: ¬((nd.keys.length:Nat):Int)< ((2:Nat):Int):=by omega
  have t3: ¬((nd.keys.length:Nat):Int)< ((3:Nat):Int):=by omega
  simp(maxSteps:=999999)(disch:=omega) only[f167,eZ,hl,b1,b2,b3,qP i3.a1,qP i4.a1,cE,Option.map_some,e4,hsh,qK i4.a1,h1.row.lnSl,t2,t3,e5,qK i5.a1,e6,yZ (qK i6.a1 0) (UT _),e7,qK i7.a1,c8,e8,e9,qK i9.a1,c10,e10,e11,qK i11.a1,c12,c13',e12,yZ (qK i12.a1 3) (yI h3.row),yZ c13 q13,e13,e14,e15,e16]
 ·exact⟨⟨k8, .nilSlice,k12,by simp only[cutA,hl,Bool.false_eq_true,if_false],fa.k.g,fa.v.g,fa.p.g⟩,fa.fresh (by omega)⟩
 ·exact⟨⟨k10, .nilSlice,k13,by simp only[fF,hl,Bool.false_eq_true,if_false],fb.k.g,fb.v.g,fb.p.g⟩,fb.fresh (by omega)⟩
end Go.Eng.Sh
end
section
namespace Go.Eng
namespace T
variable {α:Type}
noncomputable def st (t:T α)(n:Nat)(a:α):T α:=(T.set 40 t n a).getD .leaf
end T
theorem Stp.ld1 {S:Nat→Prop}{H H':AH}(s:Stp S H H'){A:Nat}(o:Nat)(h:A<H.next)(hS: ¬S A):Eng.ld1 (.ptr A o) H'=Eng.ld1 (.ptr A o) H:=by simp only[Eng.ld1,s.keep A h hS]
theorem Stp.ldN {S:Nat→Prop}{H H':AH}(s:Stp S H H'){A:Nat}(o n:Nat)(h:A<H.next)(hS: ¬S A):Eng.ldN n (.ptr A o) H'=Eng.ldN n (.ptr A o) H:=by simp only[Eng.ldN,s.keep A h hS]
theorem Prs.l1 {H H':AH}(s:Prs H H')(A:Nat)(o:Nat)(h:A<H.next):Eng.ld1 (.ptr A o) H'=Eng.ld1 (.ptr A o) H:=s.ld1 o h (fun x=>x)
theorem Prs.b1 {H H':AH}{l:List AV}{e sz:Nat}{g:Bool}(s:Prs (H.push (.cells l e sz g)) H')(o:Nat):Eng.ld1 (.ptr H.next o) H'=l[o]? :=by
 rw[s.l1 _ _ (by rw[AH.push_next];omega),aZ]
theorem Prs.refl {H:AH}(h:H.ok):Prs H H:=Stp.refl h
theorem Prs.pushed {H:AH}(h:H.ok)(o:AObj):Prs H (H.push o):=(Stp.refl h).push o
end Go.Eng
end
