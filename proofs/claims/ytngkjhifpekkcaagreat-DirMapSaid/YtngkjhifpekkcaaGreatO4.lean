/- A checked evaluator for the program, and what it tells, part 4: no condition. -/
import Derived.Test.YtngkjhifpekkcaaGreatO3
import Derived.Test.YtngkjhifpekkcaaGreatProg
import Derived.KernelRfl
set_option linter.all false
set_option linter.unusedVariables false
set_option linter.unusedSimpArgs false
set_option maxHeartbeats 8000000
set_option maxRecDepth 20000
section
noncomputable section
namespace Go.Eng.Sh
open Go.Proofs
set_option maxRecDepth 100000
theorem sc {i:Nat}{m:List AV→AH→Option (AV×AH)}{S:List (Nat×(List AV→AH→Option (AV×AH)))}(h:FI i m)(k:SOk S):SOk ((i,m)::S):=SOk.cons h.fs k
def s94 (D:Dyn)(n:Nat):Tb:=⟨X,[]⟩
def f94 (D:Dyn)(n:Nat)(vs:List AV)(H:AH):Option (AV×AH):=
 outR (hd vs fun a vs=>hd vs fun b vs=>nl vs <|
 bA (mkM [6]) H fun c H=>
 bV (jX [(0,1),(1,1),(2,1),(3,1),(4,1),(5,1),(6,1)] [(.int .i64 (.ofNat 0)), .nilMap, .nilSlice, .nilMap,(.int .i64 (.ofNat 0)), .nilSlice,(.bool false)] [(0,a),(1,b),(3,c)]) fun d=>
 bA (bxV 163 d) H fun e H=>
 bV (some e) fun f=>some (.ret f,H))
def h94:Hint:=(.s .o (.s .o .o))
theorem zJd {D:Dyn}(hD:DG D)(n:Nat):FI 94 (f94 D n):=qR (n:=n) (h:=h94) X_ok hD (SOk.nil) Tryz.func94 (by kernel_rfl) (by kernel_rfl)
def s49 (D:Dyn)(n:Nat):Tb:=⟨X,[(94,f94 D n)]⟩
def f49 (D:Dyn)(n:Nat)(vs:List AV)(H:AH):Option (AV×AH):=
 outR (hd vs fun a vs=>nl vs <|
 bV (qO .lss a (.int .i64 (.ofNat 64))) fun b=>
 jn (wnt b false (bV (qO .gtr a (.int .i64 (.ofNat 8192))) fun c=>
 some (.norm [c],H)) (some (.norm [qM],H))) fun vs H=>hd vs fun d vs=>
 bV (pk3 (some b) (some (.bool true)) (some d)) fun e=>
 cnd e (bV (some .nilPtr) fun f=>bV (some (.int .i64 (.ofNat 1))) fun g=>some (.ret (.tuple [f,g]),H))
 (bA (mkM [6]) H fun h H=>
 bR (f94 D n [a,h] H) fun i H=>
 bV (some i) fun k=>bV (some (.int .i64 (.ofNat 0))) fun m=>some (.ret (.tuple [k,m]),H)))
def h49:Hint:=(.s .o (.s (.s .o (.cl (.s .o .o) .o)) (.s .o .o)))
theorem zJl {D:Dyn}(hD:DG D)(n:Nat):FI 49 (f49 D n):=qR (n:=n) (h:=h49) X_ok hD (sc (zJd hD n) (SOk.nil)) Tryz.func49 (by kernel_rfl) (by kernel_rfl)
def s118 (D:Dyn)(n:Nat):Tb:=⟨X,[]⟩
def f118 (D:Dyn)(n:Nat)(vs:List AV)(H:AH):Option (AV×AH):=
 outR (hd vs fun a vs=>nl vs <|
 bA (bxV 72 a) H fun b H=>
 bV (fAd 0 b) fun c=>
 bV (ld1 c H) fun d=>
 bV (qO .eql d (.int .i64 (.ofNat 0))) fun e=>
 cnd e (bV (ldN 3 b H) fun f=>
 bV (jX [(0,1),(1,1),(2,1)] [(.int .i64 (.ofNat 0)),(.int .i64 (.ofNat 0)),(.int .u64 (.ofNat 0))] []) fun g=>
 bV (u6 .eql (eqA [6,6,10] f g)) fun h=>
 bV (some h) fun i=>some (.ret i,H))
 (bV (fAd 0 b) fun k=>
 bV (ld1 k H) fun m=>
 bV (qO .gtr m (.int .i64 (.ofNat 0))) fun o=>
 jn (wnt o true (bV (fAd 0 b) fun p=>
 bV (ld1 p H) fun r=>
 bV (qO .lss r (.int .i64 (.ofNat 8192))) fun t=>
 some (.norm [t],H)) (some (.norm [qM],H))) fun vs H=>hd vs fun u vs=>
 bV (pk3 (some o) (some u) (some (.bool false))) fun v=>
 jn (wnt v true (bV (fAd 1 b) fun w=>
 bV (ld1 w H) fun x=>
 bV (qO .geq x (.int .i64 (.ofNat 0))) fun y=>
 some (.norm [y],H)) (some (.norm [qM],H))) fun vs H=>hd vs fun z vs=>
 bV (pk3 (some v) (some z) (some (.bool false))) fun B=>
 jn (wnt B true (bV (fAd 1 b) fun C=>
 bV (ld1 C H) fun E=>
 bV (qO .leq E (.int .i64 (.ofNat 2147483647))) fun F=>
 some (.norm [F],H)) (some (.norm [qM],H))) fun vs H=>hd vs fun G vs=>
 bV (pk3 (some B) (some G) (some (.bool false))) fun I=>
 bV (some I) fun J=>some (.ret J,H)))
def h118:Hint:=(.s .o (.s (.s .o (.cl (.s .o .o) .o)) (.s .o .o)))
theorem zFZ {D:Dyn}(hD:DG D)(n:Nat):FI 118 (f118 D n):=qR (n:=n) (h:=h118) X_ok hD (SOk.nil) Tryz.func118 (by kernel_rfl) (by kernel_rfl)
def s119 (D:Dyn)(n:Nat):Tb:=⟨X,[]⟩
def UY (D:Dyn)(n:Nat)(vs:List AV)(H:AH):Rs:=
 hd vs fun a vs=>hd vs fun b vs=>hd vs fun c vs=>hd vs fun d vs=>
 bV (qO .lss d c) fun e=>
 cnd e (bV (lnSl a) fun f=>
 bV (qO .sub f (.int .i64 (.ofNat 1))) fun g=>
 bV (qO .sub g d) fun h=>
 bV (qO .mul (.int .i64 (.ofNat 8)) d) fun i=>
 bV (qO .shr b i) fun k=>
 bV (cvI .u8 k) fun m=>
 bV (jP 1 a h) fun o=>
 bR (stN 1 o m H) fun p H=>
 bV (qO .add d (.int .i64 (.ofNat 1))) fun r=>
 some (.norm [a,b,c,r],H))
 (some (.exit 0 [],H))
def zJA (D:Dyn)(n:Nat)(vs:List AV)(H:AH):Rs:=
 some (.ret (.tuple []),H)
def f119 (D:Dyn)(n:Nat)(vs:List AV)(H:AH):Option (AV×AH):=
 outR (hd vs fun a vs=>hd vs fun b vs=>nl vs <|
 bV (lnSl a) fun c=>
 jb 0 (qV n (UY D n) [a,b,c,(.int .i64 (.ofNat 0))] H) (zJA D n))
def h119:Hint:=(.s .o (.b [] (.l [0,1,6,7] (.s .o (.s (.cr .o .o) (.s (.b0 (.s .o .o)) .o))))))
theorem zFY {D:Dyn}(hD:DG D)(n:Nat):FI 119 (f119 D n):=qR (n:=n) (h:=h119) X_ok hD (SOk.nil) Tryz.func119 (by kernel_rfl) (by kernel_rfl)
def s75 (D:Dyn)(n:Nat):Tb:=⟨X,[(118,f118 D n),(119,f119 D n)]⟩
def f75 (D:Dyn)(n:Nat)(vs:List AV)(H:AH):Option (AV×AH):=
 outR (hd vs fun a vs=>nl vs <|
 bA (bxV 72 a) H fun b H=>
 bV (ldN 3 b H) fun c=>
 bR (f118 D n [c] H) fun d H=>
 bV (aun .not d) fun e=>
 cnd e (bV (some (.str 0 0)) fun f=>bV (some (.int .i64 (.ofNat 4))) fun g=>some (.ret (.tuple [f,g]),H))
 (bA (bxV 225 (.agg (rep 16 [(.int .u8 (.ofNat 0))]))) H fun h H=>
 bV (fH 16 1 h none (some (.int .i64 (.ofNat 4))) none) fun i=>
 bV (fAd 0 b) fun k=>
 bV (ld1 k H) fun m=>
 bV (cvI .u64 m) fun o=>
 bR (f119 D n [i,o] H) fun p H=>
 bV (fH 16 1 h (some (.int .i64 (.ofNat 4))) (some (.int .i64 (.ofNat 8))) none) fun r=>
 bV (fAd 1 b) fun t=>
 bV (ld1 t H) fun u=>
 bV (cvI .u64 u) fun v=>
 bR (f119 D n [r,v] H) fun w H=>
 bV (fH 16 1 h (some (.int .i64 (.ofNat 8))) none none) fun x=>
 bV (fAd 2 b) fun y=>
 bV (ld1 y H) fun z=>
 bR (f119 D n [x,z] H) fun B H=>
 bV (fH 16 1 h none none none) fun C=>
 bV (zHd C H) fun E=>
 bV (some E) fun F=>bV (some (.int .i64 (.ofNat 0))) fun G=>some (.ret (.tuple [F,G]),H)))
def h75:Hint:=(.s .o (.s (.s .o (.cl (.s .o .o) .o)) (.s .o (.s .o (.s .o (.s .o (.s .o .o)))))))
theorem zJh {D:Dyn}(hD:DG D)(n:Nat):FI 75 (f75 D n):=qR (n:=n) (h:=h75) X_ok hD (sc (zFZ hD n) (sc (zFY hD n) (SOk.nil))) Tryz.func75 (by kernel_rfl) (by kernel_rfl)
def s31 (D:Dyn)(n:Nat):Tb:=⟨X,[(75,f75 D n)]⟩
def f31 (D:Dyn)(n:Nat)(vs:List AV)(H:AH):Option (AV×AH):=
 outR (hd vs fun a vs=>hd vs fun b vs=>hd vs fun c vs=>nl vs <|
 bA (bxV 72 c) H fun d H=>
 bV (u6 .eql (eqP a .nilPtr)) fun e=>
 cnd e (bV (some .nilPtr) fun f=>bV (some (.int .i64 (.ofNat 2))) fun g=>some (.ret (.tuple [f,g]),H))
 (bV (ldN 3 d H) fun h=>
 bR (f75 D n [h] H) fun i H=>
 bV (qK i 0) fun k=>
 bV (qK i 1) fun m=>
 bV (qO .neq m (.int .i64 (.ofNat 0))) fun o=>
 jn (wnt o false (bV (fAd 0 d) fun p=>
 bV (ld1 p H) fun r=>
 bV (qO .eql r (.int .i64 (.ofNat 1))) fun t=>
 some (.norm [t],H)) (some (.norm [qM],H))) fun vs H=>hd vs fun u vs=>
 bV (pk3 (some o) (some (.bool true)) (some u)) fun v=>
 cnd v (bV (some .nilPtr) fun w=>bV (some (.int .i64 (.ofNat 1))) fun x=>some (.ret (.tuple [w,x]),H))
 (bV (ldN 3 d H) fun y=>
 bA (mkM [10]) H fun z H=>
 bV (jX [(0,1),(1,1),(2,3),(5,1),(6,1),(7,1)] [.nilPtr, .nilPtr,(.int .i64 (.ofNat 0)),(.int .i64 (.ofNat 0)),(.int .u64 (.ofNat 0)), .nilMap,(.int .u64 (.ofNat 0)), .nilSlice] [(0,a),(1,b),(2,y),(3,z)]) fun B=>
 bA (bxV 141 B) H fun C H=>
 bV (some C) fun E=>bV (some (.int .i64 (.ofNat 0))) fun F=>some (.ret (.tuple [E,F]),H))))
def h31:Hint:=(.s .o (.s (.s .o (.cl (.s .o .o) .o)) (.s (.s .o (.s .o (.cl (.s .o .o) .o))) (.s .o .o))))
theorem zJo {D:Dyn}(hD:DG D)(n:Nat):FI 31 (f31 D n):=qR (n:=n) (h:=h31) X_ok hD (sc (zJh hD n) (SOk.nil)) Tryz.func31 (by kernel_rfl) (by kernel_rfl)
def s42 (D:Dyn)(n:Nat):Tb:=⟨X,[(49,f49 D n),(31,f31 D n)]⟩
def f42 (D:Dyn)(n:Nat)(vs:List AV)(H:AH):Option (AV×AH):=
 outR (nl vs <|
 bR (f49 D n [(.int .i64 (.ofNat 64))] H) fun a H=>
 bV (qK a 0) fun b=>
 bV (qK a 1) fun c=>
 bV (qO .neq c (.int .i64 (.ofNat 0))) fun d=>
 cnd d (bV (some .nilPtr) fun e=>some (.ret e,H))
 (bV (jX [(0,1),(1,1),(2,1)] [(.int .i64 (.ofNat 0)),(.int .i64 (.ofNat 0)),(.int .u64 (.ofNat 0))] []) fun f=>
 bR (f31 D n [b, .nilPtr,f] H) fun g H=>
 bV (qK g 0) fun h=>
 bV (qK g 1) fun i=>
 bV (qO .neq i (.int .i64 (.ofNat 0))) fun k=>
 cnd k (bV (some .nilPtr) fun m=>some (.ret m,H))
 (bV (some h) fun o=>some (.ret o,H))))
def h42:Hint:=(.s .o (.s .o (.s (.s .o (.cl (.s .o .o) .o)) (.s .o (.s (.s .o (.cl (.s .o .o) .o)) (.s .o .o))))))
theorem zC4 {D:Dyn}(hD:DG D)(n:Nat):FI 42 (f42 D n):=qR (n:=n) (h:=h42) X_ok hD (sc (zJl hD n) (sc (zJo hD n) (SOk.nil))) Tryz.func42 (by kernel_rfl) (by kernel_rfl)
def s84 (D:Dyn)(n:Nat):Tb:=⟨X,[]⟩
def f84 (D:Dyn)(n:Nat)(vs:List AV)(H:AH):Option (AV×AH):=
 outR (hd vs fun a vs=>nl vs <|
 bV (qO .geq a (.int .i64 (.ofNat 1))) fun b=>
 jn (wnt b true (bV (qO .leq a (.int .i64 (.ofNat 2147483647))) fun c=>
 some (.norm [c],H)) (some (.norm [qM],H))) fun vs H=>hd vs fun d vs=>
 bV (pk3 (some b) (some d) (some (.bool false))) fun e=>
 bV (some e) fun f=>some (.ret f,H))
def h84:Hint:=(.s .o (.s .o .o))
theorem UN {D:Dyn}(hD:DG D)(n:Nat):FI 84 (f84 D n):=qR (n:=n) (h:=h84) X_ok hD (SOk.nil) Tryz.func84 (by kernel_rfl) (by kernel_rfl)
def s125 (D:Dyn)(n:Nat):Tb:=⟨X,[]⟩
def f125 (D:Dyn)(n:Nat)(vs:List AV)(H:AH):Option (AV×AH):=
 outR (hd vs fun a vs=>hd vs fun b vs=>nl vs <|
 bR (D.fn 154 [a,b] H) fun c H=>
 bV (qO .geq c (.int .i64 (.ofNat 0))) fun d=>
 bV (some d) fun e=>some (.ret e,H))
def h125:Hint:=(.s .o (.s .o .o))
theorem zKV {D:Dyn}(hD:DG D)(n:Nat):FI 125 (f125 D n):=qR (n:=n) (h:=h125) X_ok hD (SOk.nil) Tryz.func125 (by kernel_rfl) (by kernel_rfl)
def zLz (D:Dyn)(n:Nat)(vs:List AV)(H:AH):Option (AV×AH):=zIz (f125 D n) vs H
theorem zEW {D:Dyn}(hD:DG D)(n:Nat):FI 125 (zLz D n):=zIy (by kernel_rfl) (zKV hD n)
def s85 (D:Dyn)(n:Nat):Tb:=⟨X,[(125,zLz D n)]⟩
def zAI (D:Dyn)(n:Nat)(vs:List AV)(H:AH):Rs:=
 hd vs fun a vs=>hd vs fun b vs=>
 some (.norm [a,b],H)
def zAH (D:Dyn)(n:Nat)(vs:List AV)(H:AH):Rs:=
 hd vs fun a vs=>hd vs fun b vs=>
 some (.norm [a,b],H)
def zAG (D:Dyn)(n:Nat)(vs:List AV)(H:AH):Rs:=
 hd vs fun a vs=>hd vs fun b vs=>
 cnd b (bV (some (.bool false)) fun c=>some (.ret c,H))
 (bV (kS a) fun d=>
 bV (qO .leq d (.int .i64 (.ofNat 32))) fun e=>
 jn (wnt e true (bR (zLz D n [a,(.str 2 12032)] H) fun f H=>
 bV (aun .not f) fun g=>
 some (.norm [g],H)) (some (.norm [qM],H))) fun vs H=>hd vs fun h vs=>
 bV (pk3 (some e) (some h) (some (.bool false))) fun i=>
 bV (some i) fun k=>some (.ret k,H))
def f85 (D:Dyn)(n:Nat)(vs:List AV)(H:AH):Option (AV×AH):=
 outR (hd vs fun a vs=>nl vs <|
 bV (k7 .eql a (.str 0 0)) fun b=>
 jn (cnd b (some (.norm [a,b],H))
 (bV (k7 .eql a (.str 1 46)) fun c=>
 jn (cnd c (some (.norm [a,c],H))
 (bV (k7 .eql a (.str 2 11822)) fun d=>
 jn (cnd d (some (.norm [a,d],H))
 (bV (k7 .eql a (.str 9 2147850105812604056366)) fun e=>
 some (.norm [a,e],H))) (zAI D n))) (zAH D n))) (zAG D n))
def h85:Hint:=(.s .o (.s (.s .o (.b0 (.s (.s .o (.c [0,4] .o (.s .o (.c [0,4] .o (.s .o (.c [0,4] .o .o)))))) (.cl (.s .o .o) .o)))) (.s .o .o)))
theorem zBZ {D:Dyn}(hD:DG D)(n:Nat):FI 85 (f85 D n):=qR (n:=n) (h:=h85) X_ok hD (sc (zEW hD n) (SOk.nil)) Tryz.func85 (by kernel_rfl) (by kernel_rfl)
def s153 (D:Dyn)(n:Nat):Tb:=⟨X,[]⟩
def zC8 (D:Dyn)(n:Nat)(vs:List AV)(H:AH):Rs:=
 hd vs fun a vs=>hd vs fun b vs=>hd vs fun c vs=>hd vs fun d vs=>
 bV (qO .lss d c) fun e=>
 cnd e (bV (YW b d) fun f=>
 bV (cvI .u64 f) fun g=>
 bV (qO .xor a g) fun h=>
 bV (qO .mul h (.int .u64 (.ofNat 1099511628211))) fun i=>
 bV (qO .add d (.int .i64 (.ofNat 1))) fun k=>
 some (.norm [i,b,c,k],H))
 (some (.exit 0 [a],H))
def zJq (D:Dyn)(n:Nat)(vs:List AV)(H:AH):Rs:=
 hd vs fun a vs=>
 bV (some a) fun b=>some (.ret b,H)
def f153 (D:Dyn)(n:Nat)(vs:List AV)(H:AH):Option (AV×AH):=
 outR (hd vs fun a vs=>hd vs fun b vs=>nl vs <|
 bV (kS b) fun c=>
 jb 0 (qV n (zC8 D n) [a,b,c,(.int .i64 (.ofNat 0))] H) (zJq D n))
def h153:Hint:=(.s .o (.s (.s .o (.b [0] (.l [0,1,7,8] (.s .o (.s (.cr .o .o) (.s (.b0 (.s .o .o)) .o)))))) (.s .o .o)))
theorem zFO {D:Dyn}(hD:DG D)(n:Nat):FI 153 (f153 D n):=qR (n:=n) (h:=h153) X_ok hD (SOk.nil) Tryz.func153 (by kernel_rfl) (by kernel_rfl)
def s124 (D:Dyn)(n:Nat):Tb:=⟨X,[(153,f153 D n)]⟩
def f124 (D:Dyn)(n:Nat)(vs:List AV)(H:AH):Option (AV×AH):=
 outR (hd vs fun a vs=>nl vs <|
 bR (f153 D n [(.int .u64 (.ofNat 14695981039346656037)),a] H) fun b H=>
 bV (some b) fun c=>some (.ret c,H))
def h124:Hint:=(.s .o (.s .o .o))
theorem zFX {D:Dyn}(hD:DG D)(n:Nat):FI 124 (f124 D n):=qR (n:=n) (h:=h124) X_ok hD (sc (zFO hD n) (SOk.nil)) Tryz.func124 (by kernel_rfl) (by kernel_rfl)
def s83 (D:Dyn)(n:Nat):Tb:=⟨X,[(124,f124 D n)]⟩
def f83 (D:Dyn)(n:Nat)(vs:List AV)(H:AH):Option (AV×AH):=
 outR (hd vs fun a vs=>nl vs <|
 bR (f124 D n [a] H) fun b H=>
 bV (qO .and b (.int .u64 (.ofNat 1023))) fun c=>
 bV (cvI .i64 c) fun d=>
 bV (some d) fun e=>some (.ret e,H))
def h83:Hint:=(.s .o (.s .o .o))
theorem UO {D:Dyn}(hD:DG D)(n:Nat):FI 83 (f83 D n):=qR (n:=n) (h:=h83) X_ok hD (sc (zFX hD n) (SOk.nil)) Tryz.func83 (by kernel_rfl) (by kernel_rfl)
def s89 (D:Dyn)(n:Nat):Tb:=⟨X,[]⟩
def zFs (D:Dyn)(n:Nat)(vs:List AV)(H:AH):Rs:=
 hd vs fun a vs=>hd vs fun b vs=>hd vs fun c vs=>
 bV (qO .lss c (.int .i64 (.ofNat 4))) fun d=>
 cnd d (bV (qO .sub (.int .i64 (.ofNat 3)) c) fun e=>
 bV (qO .mul (.int .i64 (.ofNat 8)) e) fun f=>
 bV (qO .shr a f) fun g=>
 bV (cvI .u8 g) fun h=>
 bV (QW 4 1 b c) fun i=>
 bR (stN 1 i h H) fun k H=>
 bV (qO .add c (.int .i64 (.ofNat 1))) fun m=>
 some (.norm [a,b,m],H))
 (some (.exit 0 [b],H))
def zMO (D:Dyn)(n:Nat)(vs:List AV)(H:AH):Rs:=
 hd vs fun a vs=>
 bV (fH 4 1 a none none none) fun b=>
 bV (zHd b H) fun c=>
 bV (some c) fun d=>some (.ret d,H)
def f89 (D:Dyn)(n:Nat)(vs:List AV)(H:AH):Option (AV×AH):=
 outR (hd vs fun a vs=>nl vs <|
 bA (bxV 232 (.agg [(.int .u8 (.ofNat 0)),(.int .u8 (.ofNat 0)),(.int .u8 (.ofNat 0)),(.int .u8 (.ofNat 0))])) H fun b H=>
 jb 0 (qV n (zFs D n) [a,b,(.int .i64 (.ofNat 0))] H) (zMO D n))
def h89:Hint:=(.s .o (.s .o (.s (.s .o (.b [3] (.l [0,3,5] (.s .o (.s (.cr .o .o) (.s (.b0 (.s .o .o)) .o)))))) (.s .o .o))))
theorem zBX {D:Dyn}(hD:DG D)(n:Nat):FI 89 (f89 D n):=qR (n:=n) (h:=h89) X_ok hD (SOk.nil) Tryz.func89 (by kernel_rfl) (by kernel_rfl)
def s88 (D:Dyn)(n:Nat):Tb:=⟨X,[(89,f89 D n)]⟩
def f88 (D:Dyn)(n:Nat)(vs:List AV)(H:AH):Option (AV×AH):=
 outR (hd vs fun a vs=>hd vs fun b vs=>nl vs <|
 bR (f89 D n [a] H) fun c H=>
 bV (k7 .add (.str 1 101) c) fun d=>
 bR (f89 D n [b] H) fun e H=>
 bV (k7 .add d e) fun f=>
 bV (some f) fun g=>some (.ret g,H))
def h88:Hint:=(.s .o (.s .o .o))
theorem zBY {D:Dyn}(hD:DG D)(n:Nat):FI 88 (f88 D n):=qR (n:=n) (h:=h88) X_ok hD (sc (zBX hD n) (SOk.nil)) Tryz.func88 (by kernel_rfl) (by kernel_rfl)
def s62 (D:Dyn)(n:Nat):Tb:=⟨X,[]⟩
def f62 (D:Dyn)(n:Nat)(vs:List AV)(H:AH):Option (AV×AH):=
 outR (hd vs fun a vs=>nl vs <|
 bV (u6 .eql (eqP a .nilPtr)) fun b=>
 jn (wnt b false (bV (xL a) fun c=>
 bV (fAd 0 c) fun d=>
 bV (ld1 d H) fun e=>
 bV (u6 .eql (eqP e .nilPtr)) fun f=>
 some (.norm [f],H)) (some (.norm [qM],H))) fun vs H=>hd vs fun g vs=>
 bV (pk3 (some b) (some (.bool true)) (some g)) fun h=>
 jn (wnt h false (bV (xL a) fun i=>
 bV (fAd 5 i) fun k=>
 bV (ld1 k H) fun m=>
 bV (u6 .eql (eqM m .nilMap)) fun o=>
 some (.norm [o],H)) (some (.norm [qM],H))) fun vs H=>hd vs fun p vs=>
 bV (pk3 (some h) (some (.bool true)) (some p)) fun r=>
 bV (some r) fun t=>some (.ret t,H))
def h62:Hint:=(.s .o (.s .o .o))
theorem Y3 {D:Dyn}(hD:DG D)(n:Nat):FI 62 (f62 D n):=qR (n:=n) (h:=h62) X_ok hD (SOk.nil) Tryz.func62 (by kernel_rfl) (by kernel_rfl)
def s36 (D:Dyn)(n:Nat):Tb:=⟨X,[(62,f62 D n)]⟩
def f36 (D:Dyn)(n:Nat)(vs:List AV)(H:AH):Option (AV×AH):=
 outR (hd vs fun a vs=>nl vs <|
 bR (f62 D n [a] H) fun b H=>
 cnd b (bV (some (.int .i64 (.ofNat 0))) fun c=>some (.ret c,H))
 (bV (xL a) fun d=>
 bV (fAd 5 d) fun e=>
 bV (ld1 e H) fun f=>
 bV (ZG f H) fun g=>
 bV (some g) fun h=>some (.ret h,H)))
def h36:Hint:=(.s .o (.s (.s .o (.cl (.s .o .o) .o)) (.s .o .o)))
theorem zJm {D:Dyn}(hD:DG D)(n:Nat):FI 36 (f36 D n):=qR (n:=n) (h:=h36) X_ok hD (sc (Y3 hD n) (SOk.nil)) Tryz.func36 (by kernel_rfl) (by kernel_rfl)
def s126 (D:Dyn)(n:Nat):Tb:=⟨X,[(36,f36 D n)]⟩
def f126 (D:Dyn)(n:Nat)(vs:List AV)(H:AH):Option (AV×AH):=
 outR (hd vs fun a vs=>nl vs <|
 bR (f36 D n [a] H) fun b H=>
 bV (qO .add (.int .i64 (.ofNat 8192)) b) fun c=>
 bV (jX [(0,1),(1,1),(2,1),(3,1)] [.nilPtr, .nilMap,(.int .i64 (.ofNat 0)),(.int .i64 (.ofNat 0))] [(0,a),(2,c)]) fun d=>
 bA (bxV 240 d) H fun e H=>
 bV (some e) fun f=>some (.ret f,H))
def h126:Hint:=(.s .o (.s .o .o))
theorem zAQ {D:Dyn}(hD:DG D)(n:Nat):FI 126 (f126 D n):=qR (n:=n) (h:=h126) X_ok hD (sc (zJm hD n) (SOk.nil)) Tryz.func126 (by kernel_rfl) (by kernel_rfl)
def s32 (D:Dyn)(n:Nat):Tb:=⟨X,[(62,f62 D n)]⟩
def f32 (D:Dyn)(n:Nat)(vs:List AV)(H:AH):Option (AV×AH):=
 outR (hd vs fun a vs=>nl vs <|
 bA (bxV 72 (.agg [(.int .i64 (.ofNat 0)),(.int .i64 (.ofNat 0)),(.int .u64 (.ofNat 0))])) H fun b H=>
 bR (f62 D n [a] H) fun c H=>
 cnd c (bV (jX [(0,1),(1,1),(2,1)] [(.int .i64 (.ofNat 0)),(.int .i64 (.ofNat 0)),(.int .u64 (.ofNat 0))] []) fun d=>
 bR (stN 3 b d H) fun e H=>
 bV (ldN 3 b H) fun f=>some (.ret f,H))
 (bV (xL a) fun g=>
 bV (fAd 2 g) fun h=>
 bV (ldN 3 h H) fun i=>
 bR (stN 3 b i H) fun k H=>
 bV (ldN 3 b H) fun m=>some (.ret m,H)))
def h32:Hint:=(.s .o (.s (.s .o (.cl (.s .o .o) .o)) (.s .o .o)))
theorem zJn {D:Dyn}(hD:DG D)(n:Nat):FI 32 (f32 D n):=qR (n:=n) (h:=h32) X_ok hD (sc (Y3 hD n) (SOk.nil)) Tryz.func32 (by kernel_rfl) (by kernel_rfl)
def s69 (D:Dyn)(n:Nat):Tb:=⟨X,[]⟩
def f69 (D:Dyn)(n:Nat)(vs:List AV)(H:AH):Option (AV×AH):=
 outR (hd vs fun a vs=>hd vs fun b vs=>nl vs <|
 bA (bxV 72 b) H fun c H=>
 bA (bxV 133 (.agg [(.bool false), .nilSlice, .nilSlice, .nilSlice])) H fun d H=>
 bV (fAd 0 c) fun e=>
 bV (ld1 e H) fun f=>
 bV (qO .eql f (.int .i64 (.ofNat 1))) fun g=>
 cnd g (bV (xL a) fun h=>
 bV (fAd 5 h) fun i=>
 bV (ld1 i H) fun k=>
 bV (fAd 2 c) fun m=>
 bV (ld1 m H) fun o=>
 bV (lkM [10] (.agg [(.bool false), .nilSlice, .nilSlice, .nilSlice]) true k o H) fun p=>
 bV (qK p 0) fun r=>
 bV (qK p 1) fun t=>
 bA (bxV 133 (.agg [(.bool false), .nilSlice, .nilSlice, .nilSlice])) H fun u H=>
 bR (stN 4 u r H) fun v H=>
 bV (aun .not t) fun w=>
 jn (wnt w false (bV (fAd 1 c) fun x=>
 bV (ld1 x H) fun y=>
 bV (qO .neq y (.int .i64 (.ofNat 0))) fun z=>
 some (.norm [z],H)) (some (.norm [qM],H))) fun vs H=>hd vs fun B vs=>
 bV (pk3 (some w) (some (.bool true)) (some B)) fun C=>
 cnd C (bV (jX [(0,1),(1,1),(2,1),(3,1)] [(.bool false), .nilSlice, .nilSlice, .nilSlice] []) fun E=>
 bR (stN 4 d E H) fun F H=>
 bV (ldN 4 d H) fun G=>bV (some (.int .i64 (.ofNat 1))) fun I=>some (.ret (.tuple [G,I]),H))
 (bV (ldN 4 u H) fun J=>
 bR (stN 4 d J H) fun K H=>
 bV (ldN 4 d H) fun M=>bV (some (.int .i64 (.ofNat 0))) fun N=>some (.ret (.tuple [M,N]),H)))
 (bV (ldN 3 c H) fun O=>
 bR (D.fn 112 [a,O] H) fun P H=>
 bV (qK P 0) fun Q=>
 bV (qK P 1) fun R=>
 bV (qK P 2) fun T=>
 bV (qO .neq T (.int .i64 (.ofNat 0))) fun U=>
 cnd U (bV (jX [(0,1),(1,1),(2,1),(3,1)] [(.bool false), .nilSlice, .nilSlice, .nilSlice] []) fun V=>
 bR (stN 4 d V H) fun W H=>
 bV (ldN 4 d H) fun Y=>bV (some T) fun Z=>some (.ret (.tuple [Y,Z]),H))
 (bV (qO .neq Q (.int .u8 (.ofNat 1))) fun a0=>
 jn (wnt a0 true (bV (qO .neq Q (.int .u8 (.ofNat 2))) fun a1=>
 some (.norm [a1],H)) (some (.norm [qM],H))) fun vs H=>hd vs fun a2 vs=>
 bV (pk3 (some a0) (some a2) (some (.bool false))) fun a3=>
 cnd a3 (bV (jX [(0,1),(1,1),(2,1),(3,1)] [(.bool false), .nilSlice, .nilSlice, .nilSlice] []) fun a4=>
 bR (stN 4 d a4 H) fun a5 H=>
 bV (ldN 4 d H) fun a6=>bV (some (.int .i64 (.ofNat 4))) fun a7=>some (.ret (.tuple [a6,a7]),H))
 (bV (qO .eql Q (.int .u8 (.ofNat 1))) fun a8=>
 bR (D.fn 113 [a8,R] H) fun a9 H=>
 bV (qK a9 0) fun b0=>
 bV (qK a9 1) fun b1=>
 bR (stN 4 d b0 H) fun b2 H=>
 bV (ldN 4 d H) fun b3=>bV (some b1) fun b4=>some (.ret (.tuple [b3,b4]),H)))))
def h69:Hint:=(.s .o (.s (.s .o (.cl (.s .o (.s (.s .o (.cl (.s .o .o) .o)) (.s .o .o))) .o)) (.s .o (.s (.s .o (.cl (.s .o .o) .o)) (.s (.s .o (.cl (.s .o .o) .o)) (.s .o .o))))))
theorem UP {D:Dyn}(hD:DG D)(n:Nat):FI 69 (f69 D n):=qR (n:=n) (h:=h69) X_ok hD (SOk.nil) Tryz.func69 (by kernel_rfl) (by kernel_rfl)
def s109 (D:Dyn)(n:Nat):Tb:=⟨X,[]⟩
def f109 (D:Dyn)(n:Nat)(vs:List AV)(H:AH):Option (AV×AH):=
 outR (hd vs fun a vs=>nl vs <|
 bV (u6 .eql (eqS a .nilSlice)) fun b=>
 cnd b (bV (some .nilSlice) fun c=>some (.ret c,H))
 (bA (uM 9 1 0 [(.str 0 0)] []) H fun d H=>
 bR (apP 9 1 16 d a H) fun e H=>
 bV (some e) fun f=>some (.ret f,H)))
def h109:Hint:=(.s .o (.s (.s .o (.cl (.s .o .o) .o)) (.s .o .o)))
theorem WZ {D:Dyn}(hD:DG D)(n:Nat):FI 109 (f109 D n):=qR (n:=n) (h:=h109) X_ok hD (SOk.nil) Tryz.func109 (by kernel_rfl) (by kernel_rfl)
def s77 (D:Dyn)(n:Nat):Tb:=⟨X,[]⟩
def f77 (D:Dyn)(n:Nat)(vs:List AV)(H:AH):Option (AV×AH):=
 outR (hd vs fun a vs=>nl vs <|
 bV (u6 .eql (eqS a .nilSlice)) fun b=>
 cnd b (bV (some .nilSlice) fun c=>some (.ret c,H))
 (bA (uM 72 3 0 [(.int .i64 (.ofNat 0)),(.int .i64 (.ofNat 0)),(.int .u64 (.ofNat 0))] []) H fun d H=>
 bR (apP 72 3 24 d a H) fun e H=>
 bV (some e) fun f=>some (.ret f,H)))
def h77:Hint:=(.s .o (.s (.s .o (.cl (.s .o .o) .o)) (.s .o .o)))
theorem zFu {D:Dyn}(hD:DG D)(n:Nat):FI 77 (f77 D n):=qR (n:=n) (h:=h77) X_ok hD (SOk.nil) Tryz.func77 (by kernel_rfl) (by kernel_rfl)
def s80 (D:Dyn)(n:Nat):Tb:=⟨X,[(62,f62 D n),(69,f69 D n),(109,f109 D n),(77,f77 D n)]⟩
def f80 (D:Dyn)(n:Nat)(vs:List AV)(H:AH):Option (AV×AH):=
 outR (hd vs fun a vs=>hd vs fun b vs=>nl vs <|
 bA (bxV 72 b) H fun c H=>
 bA (bxV 133 (.agg [(.bool false), .nilSlice, .nilSlice, .nilSlice])) H fun d H=>
 bR (f62 D n [a] H) fun e H=>
 cnd e (bV (jX [(0,1),(1,1),(2,1),(3,1)] [(.bool false), .nilSlice, .nilSlice, .nilSlice] []) fun f=>
 bR (stN 4 d f H) fun g H=>
 bV (ldN 4 d H) fun h=>bV (some (.int .i64 (.ofNat 2))) fun i=>some (.ret (.tuple [h,i]),H))
 (bV (fAd 0 c) fun k=>
 bV (ld1 k H) fun m=>
 bV (qO .eql m (.int .i64 (.ofNat 0))) fun o=>
 cnd o (bV (jX [(0,1),(1,1),(2,1),(3,1)] [(.bool false), .nilSlice, .nilSlice, .nilSlice] []) fun p=>
 bR (stN 4 d p H) fun r H=>
 bV (ldN 4 d H) fun t=>bV (some (.int .i64 (.ofNat 1))) fun u=>some (.ret (.tuple [t,u]),H))
 (bV (ldN 3 c H) fun v=>
 bR (f69 D n [a,v] H) fun w H=>
 bV (qK w 0) fun x=>
 bV (qK w 1) fun y=>
 bA (bxV 133 (.agg [(.bool false), .nilSlice, .nilSlice, .nilSlice])) H fun z H=>
 bR (stN 4 z x H) fun B H=>
 bV (qO .neq y (.int .i64 (.ofNat 0))) fun C=>
 cnd C (bV (jX [(0,1),(1,1),(2,1),(3,1)] [(.bool false), .nilSlice, .nilSlice, .nilSlice] []) fun E=>
 bR (stN 4 d E H) fun F H=>
 bV (ldN 4 d H) fun G=>bV (some y) fun I=>some (.ret (.tuple [G,I]),H))
 (bV (fAd 0 z) fun J=>
 bV (ld1 J H) fun K=>
 bV (fAd 1 z) fun M=>
 bV (ld1 M H) fun N=>
 bV (fAd 2 z) fun O=>
 bV (ld1 O H) fun P=>
 bV (fAd 3 z) fun Q=>
 bV (ld1 Q H) fun R=>
 bR (f109 D n [N] H) fun T H=>chk (ld1 J H) K <| chk (ld1 O H) P <| chk (ld1 Q H) R <|
 bR (f109 D n [P] H) fun U H=>chk (ld1 J H) K <| chk (ld1 Q H) R <|
 bR (f77 D n [R] H) fun V H=>chk (ld1 J H) K <|
 bV (jX [(0,1),(1,1),(2,1),(3,1)] [(.bool false), .nilSlice, .nilSlice, .nilSlice] [(0,K),(1,T),(2,U),(3,V)]) fun W=>
 bR (stN 4 d W H) fun Y H=>
 bV (ldN 4 d H) fun Z=>bV (some (.int .i64 (.ofNat 0))) fun a0=>some (.ret (.tuple [Z,a0]),H)))))
def h80:Hint:=(.s .o (.s (.s .o (.cl (.s .o .o) .o)) (.s (.s .o (.cl (.s .o .o) .o)) (.s .o (.s (.s .o (.cl (.s .o .o) .o)) (.s .o .o))))))
theorem zJg {D:Dyn}(hD:DG D)(n:Nat):FI 80 (f80 D n):=qR (n:=n) (h:=h80) X_ok hD (sc (Y3 hD n) (sc (UP hD n) (sc (WZ hD n) (sc (zFu hD n) (SOk.nil))))) Tryz.func80 (by kernel_rfl) (by kernel_rfl)
def s70 (D:Dyn)(n:Nat):Tb:=⟨X,[]⟩
def zFv (D:Dyn)(n:Nat)(vs:List AV)(H:AH):Rs:=
 hd vs fun a vs=>hd vs fun b vs=>hd vs fun c vs=>hd vs fun d vs=>hd vs fun e vs=>hd vs fun f vs=>
 bV (qO .add f (.int .i64 (.ofNat 1))) fun g=>
 some (.norm [a,b,c,d,e,g],H)
def zAJ (D:Dyn)(n:Nat)(vs:List AV)(H:AH):Rs:=
 hd vs fun a vs=>hd vs fun b vs=>hd vs fun c vs=>hd vs fun d vs=>hd vs fun e vs=>hd vs fun f vs=>
 bV (qO .lss f e) fun g=>
 cnd g (bV (jP 1 d f) fun h=>
 bV (ld1 h H) fun i=>
 bV (k7 .lss i a) fun k=>
 jn (wnt k false (bV (fAd 0 b) fun m=>
 bV (ld1 m H) fun o=>
 bV (aun .not o) fun p=>
 some (.norm [p],H)) (some (.norm [qM],H))) fun vs H=>hd vs fun r vs=>
 jn (wnt r true (bV (k7 .eql i a) fun t=>
 some (.norm [t],H)) (some (.norm [qM],H))) fun vs H=>hd vs fun u vs=>
 jn (wnt k false (bV (pk3 (some r) (some u) (some (.bool false))) fun v=>
 some (.norm [v],H)) (some (.norm [qM],H))) fun vs H=>hd vs fun w vs=>
 bV (pk3 (some k) (some (.bool true)) (some w)) fun x=>
 jn (cnd x (bV (qO .add c (.int .i64 (.ofNat 1))) fun y=>
 some (.norm [a,b,y,d,e,f],H))
 (some (.norm [a,b,c,d,e,f],H))) (zFv D n))
 (some (.exit 0 [c],H))
def zMQ (D:Dyn)(n:Nat)(vs:List AV)(H:AH):Rs:=
 hd vs fun a vs=>
 bV (some a) fun b=>some (.ret b,H)
def f70 (D:Dyn)(n:Nat)(vs:List AV)(H:AH):Option (AV×AH):=
 outR (hd vs fun a vs=>hd vs fun b vs=>nl vs <|
 bA (bxV 133 a) H fun c H=>
 bV (fAd 1 c) fun d=>
 bV (ld1 d H) fun e=>
 bV (lnSl e) fun f=>
 jb 0 (qV n (zAJ D n) [b,c,(.int .i64 (.ofNat 0)),e,f,(.int .i64 (.ofNat 0))] H) (zMQ D n))
def h70:Hint:=(.s .o (.s .o (.s (.s .o (.b [5] (.l [1,2,5,9,10,11] (.s .o (.s (.cr .o .o) (.s (.b0 (.s .o (.s .o (.c [1,2,5,9,10,11] .o .o)))) .o)))))) (.s .o .o))))
theorem Z1 {D:Dyn}(hD:DG D)(n:Nat):FI 70 (f70 D n):=qR (n:=n) (h:=h70) X_ok hD (SOk.nil) Tryz.func70 (by kernel_rfl) (by kernel_rfl)
def zM2 (D:Dyn)(n:Nat):Tb:=⟨X,[(80,f80 D n),(70,f70 D n)]⟩
def gY (D:Dyn)(n:Nat)(vs:List AV)(H:AH):Rs:=
 hd vs fun a vs=>hd vs fun b vs=>hd vs fun c vs=>hd vs fun d vs=>hd vs fun e vs=>hd vs fun f vs=>hd vs fun g vs=>hd vs fun h vs=>
 bV (fAd 3 f) fun i=>
 bV (ld1 i H) fun k=>
 bV (lnSl k) fun m=>
 bV (qO .lss h m) fun o=>
 cnd o (bV (qO .gtr h g) fun p=>
 jn (wnt p true (bV (k7 .neq c (.str 0 0)) fun r=>
 some (.norm [r],H)) (some (.norm [qM],H))) fun vs H=>hd vs fun t vs=>
 bV (pk3 (some p) (some t) (some (.bool false))) fun u=>
 jn (wnt u true (bV (fAd 1 f) fun v=>
 bV (ld1 v H) fun w=>
 bV (qO .sub h (.int .i64 (.ofNat 1))) fun x=>
 bV (jP 1 w x) fun y=>
 bV (ld1 y H) fun z=>
 bV (k7 .geq z c) fun B=>
 some (.norm [B],H)) (some (.norm [qM],H))) fun vs H=>hd vs fun C vs=>
 bV (pk3 (some u) (some C) (some (.bool false))) fun E=>
 cnd E (some (.exit 0 [],H))
 (bV (fAd 3 f) fun F=>
 bV (ld1 F H) fun G=>
 bV (jP 3 G h) fun I=>
 bV (ldN 3 I H) fun J=>
 bR (D.fn 180 [a,J,b,c,d,e] H) fun K H=>
 bV (aun .not K) fun M=>
 cnd M (bV (some (.bool false)) fun N=>some (.ret N,H))
 (bV (qO .add h (.int .i64 (.ofNat 1))) fun O=>
 some (.norm [a,b,c,d,e,f,g,O],H))))
 (some (.exit 0 [],H))
def zC7 (D:Dyn)(n:Nat)(vs:List AV)(H:AH):Rs:=
 bV (some (.bool true)) fun a=>some (.ret a,H)
def zC6 (D:Dyn)(n:Nat)(vs:List AV)(H:AH):Rs:=
 hd vs fun a vs=>hd vs fun b vs=>hd vs fun c vs=>hd vs fun d vs=>hd vs fun e vs=>hd vs fun f vs=>hd vs fun g vs=>
 bV (xL a) fun h=>
 bV (fAd 3 h) fun i=>
 bV (ld1 i H) fun k=>
 bV (qO .neq k (.int .i64 (.ofNat 0))) fun m=>
 jn (wnt m false (bV (ldN 3 f H) fun o=>
 bV (ldN 4 g H) fun p=>
 bR (callV (zM2 D n).S D e [o,p] H) fun r H=>
 bV (aun .not r) fun t=>
 some (.norm [t],H)) (some (.norm [qM],H))) fun vs H=>hd vs fun u vs=>
 bV (pk3 (some m) (some (.bool true)) (some u)) fun v=>
 cnd v (bV (some (.bool false)) fun w=>some (.ret w,H))
 (bV (fAd 0 g) fun x=>
 bV (ld1 x H) fun y=>
 cnd y (bV (some (.bool true)) fun z=>some (.ret z,H))
 (bV (ldN 4 g H) fun B=>
 bR (f70 D n [B,b] H) fun C H=>
 jb 0 (qV n (gY D n) [a,b,c,d,e,g,C,C] H) (zC7 D n)))
def f180 (D:Dyn)(n:Nat)(vs:List AV)(H:AH):Option (AV×AH):=
 outR (hd vs fun a vs=>hd vs fun b vs=>hd vs fun c vs=>hd vs fun d vs=>hd vs fun e vs=>hd vs fun f vs=>nl vs <|
 bA (bxV 72 b) H fun g H=>
 bV (ldN 3 g H) fun h=>
 bR (callV (zM2 D n).S D e [h] H) fun i H=>
 cnd i (bV (some (.bool true)) fun k=>some (.ret k,H))
 (bV (xL a) fun m=>
 bV (fAd 2 m) fun o=>
 bV (ld1 o H) fun p=>
 bV (qO .sub p (.int .i64 (.ofNat 1))) fun r=>
 bV (xL a) fun t=>
 bV (fAd 2 t) fun u=>
 bR (stN 1 u r H) fun v H=>
 bV (xL a) fun w=>
 bV (fAd 2 w) fun x=>
 bV (ld1 x H) fun y=>
 bV (qO .lss y (.int .i64 (.ofNat 0))) fun z=>
 cnd z (bV (xL a) fun B=>
 bV (fAd 3 B) fun C=>
 bR (stN 1 C (.int .i64 (.ofNat 4)) H) fun E H=>
 bV (some (.bool false)) fun F=>some (.ret F,H))
 (bV (xL a) fun G=>
 bV (fAd 1 G) fun I=>
 bV (ld1 I H) fun J=>
 bV (ldN 3 g H) fun K=>
 bV (lkM (1::[6,6,10]) (.agg [(.bool false), .nilSlice, .nilSlice, .nilSlice]) true J K H) fun M=>
 bV (qK M 0) fun N=>
 bV (qK M 1) fun O=>
 bA (bxV 133 (.agg [(.bool false), .nilSlice, .nilSlice, .nilSlice])) H fun P H=>
 bR (stN 4 P N H) fun Q H=>
 bV (aun .not O) fun R=>
 jn (cnd R (bV (xL a) fun T=>
 bV (fAd 0 T) fun U=>
 bV (ld1 U H) fun V=>
 bV (ldN 3 g H) fun W=>
 bR (f80 D n [V,W] H) fun Y H=>
 bV (qK Y 0) fun Z=>
 bV (qK Y 1) fun a0=>
 bR (stN 4 P Z H) fun a1 H=>
 bV (xL a) fun a2=>
 bV (fAd 3 a2) fun a3=>
 bR (stN 1 a3 a0 H) fun a4 H=>
 some (.norm [a,c,d,e,f,g,P],H))
 (some (.norm [a,c,d,e,f,g,P],H))) (zC6 D n))))
def h180:Hint:=(.s .o (.s (.s .o (.cl (.s .o .o) .o)) (.s (.s .o (.s .o (.cl (.s .o (.s .o .o)) .o))) (.s .o (.s (.s .o (.c [0,2,3,4,5,7,13] .o .o)) (.s (.s .o (.cl (.s .o .o) .o)) (.s (.s .o (.cl (.s .o .o) .o)) (.s .o (.s (.s .o (.b [] (.l [0,2,3,4,5,13,15,16] (.s (.s .o (.cr .o .o)) (.s (.b0 (.s (.s .o (.cl .o .o)) (.s .o (.cl (.s .o .o) .o)))) .o))))) (.s .o .o))))))))))
theorem zFF {D:Dyn}(hD:DG D)(n:Nat):FI 180 (f180 D n):=qR (n:=n) (h:=h180) X_ok hD (sc (zJg hD n) (sc (Z1 hD n) (SOk.nil))) Tryz.func180 (by kernel_rfl) (by kernel_rfl)
def s179 (D:Dyn)(n:Nat):Tb:=⟨X,[(32,f32 D n),(180,f180 D n)]⟩
def US (D:Dyn)(n:Nat)(vs:List AV)(H:AH):Rs:=
 some (.ret (.tuple []),H)
def f179 (D:Dyn)(n:Nat)(vs:List AV)(H:AH):Option (AV×AH):=
 outR (hd vs fun a vs=>hd vs fun b vs=>hd vs fun c vs=>hd vs fun d vs=>hd vs fun e vs=>nl vs <|
 bV (ld1 b H) fun f=>
 bV (xL f) fun g=>
 bV (fAd 0 g) fun h=>
 bV (ld1 h H) fun i=>
 bR (f32 D n [i] H) fun k H=>
 bA (bxV 72 (.agg [(.int .i64 (.ofNat 0)),(.int .i64 (.ofNat 0)),(.int .u64 (.ofNat 0))])) H fun m H=>
 bR (stN 3 m k H) fun o H=>
 bV (fAd 0 m) fun p=>
 bV (ld1 p H) fun r=>
 bV (qO .neq r (.int .i64 (.ofNat 0))) fun t=>
 jn (wnt t true (bV (ld1 c H) fun u=>
 bV (k7 .eql u (.str 0 0)) fun v=>
 some (.norm [v],H)) (some (.norm [qM],H))) fun vs H=>hd vs fun w vs=>
 jn (wnt w false (bV (ld1 d H) fun x=>
 bV (ld1 c H) fun y=>
 bV (k7 .lss x y) fun z=>
 some (.norm [z],H)) (some (.norm [qM],H))) fun vs H=>hd vs fun B vs=>
 jn (wnt t true (bV (pk3 (some w) (some (.bool true)) (some B)) fun C=>
 some (.norm [C],H)) (some (.norm [qM],H))) fun vs H=>hd vs fun E vs=>
 bV (pk3 (some t) (some E) (some (.bool false))) fun F=>
 jn (cnd F (bV (ld1 b H) fun G=>
 bV (ldN 3 m H) fun I=>
 bV (ld1 d H) fun J=>
 bV (ld1 c H) fun K=>
 bV (ld1 e H) fun M=>
 bR (f180 D n [G,I,J,K,M,a] H) fun N H=>
 some (.norm [],H))
 (some (.norm [],H))) (US D n))
def h179:Hint:=(.s .o (.s .o (.c [] .o .o)))
theorem zKR {D:Dyn}(hD:DG D)(n:Nat):FI 179 (f179 D n):=qR (n:=n) (h:=h179) X_ok hD (sc (zJn hD n) (sc (zFF hD n) (SOk.nil))) Tryz.func179 (by kernel_rfl) (by kernel_rfl)
def s156 (D:Dyn)(n:Nat):Tb:=⟨X,[]⟩
def f156 (D:Dyn)(n:Nat)(vs:List AV)(H:AH):Option (AV×AH):=
 outR (hd vs fun a vs=>hd vs fun b vs=>hd vs fun c vs=>hd vs fun d vs=>nl vs <|
 bA (bxV 233 a) H fun e H=>
 bA (bxV 9 b) H fun f H=>
 bA (bxV 9 c) H fun g H=>
 bA (bxV 224 d) H fun h H=>
 bV (some (.func 179 [] [e,g,f,h])) fun i=>some (.ret i,H))
def h156:Hint:=(.s .o (.s .o .o))
theorem zAL {D:Dyn}(hD:DG D)(n:Nat):FI 156 (f156 D n):=qR (n:=n) (h:=h156) X_ok hD (SOk.nil) Tryz.func156 (by kernel_rfl) (by kernel_rfl)
def zM3 (D:Dyn)(n:Nat):Tb:=⟨X,[(156,f156 D n),(70,f70 D n)]⟩
def f155 (D:Dyn)(n:Nat)(vs:List AV)(H:AH):Option (AV×AH):=
 outR (hd vs fun a vs=>hd vs fun b vs=>hd vs fun c vs=>hd vs fun d vs=>hd vs fun e vs=>nl vs <|
 bA (bxV 266 a) H fun f H=>
 bV (ld1 b H) fun g=>
 bV (ld1 c H) fun h=>
 bV (ld1 d H) fun i=>
 bV (ld1 e H) fun k=>
 bR (f156 D n [g,h,i,k] H) fun m H=>
 zBF H (.loop ⟨.ready,none,155,0,[2,3,5],[c,d,f]⟩) fun A H=>bR (rfC (zM3 D n).S D m A H) fun _ H=>XB A H fun j H=>zLB j (
 some (.ret (.tuple []),H))
 (fun id=>none) (some (.ret (.tuple []),H)))
def h155:Hint:=(.s .o (.s .o (.b0 (.rf 0 [2,3,5]))))
theorem zKS {D:Dyn}(hD:DG D)(n:Nat):FI 155 (f155 D n):=qR (n:=n) (h:=h155) X_ok hD (sc (zAL hD n) (sc (Z1 hD n) (SOk.nil))) Tryz.func155 (by kernel_rfl) (by kernel_rfl)
def Y5 (D:Dyn)(n:Nat)(vs:List AV)(H:AH):Rs:=
 hd vs fun a vs=>hd vs fun b vs=>hd vs fun c vs=>hd vs fun d vs=>
 bV (fAd 1 c) fun e=>
 bV (ld1 e H) fun f=>
 bV (lnSl f) fun g=>
 bV (qO .lss d g) fun h=>
 cnd h (bV (ld1 a H) fun i=>
 bV (k7 .neq i (.str 0 0)) fun k=>
 jn (wnt k true (bV (fAd 1 c) fun m=>
 bV (ld1 m H) fun o=>
 bV (jP 1 o d) fun p=>
 bV (ld1 p H) fun r=>
 bV (ld1 a H) fun t=>
 bV (k7 .geq r t) fun u=>
 some (.norm [u],H)) (some (.norm [qM],H))) fun vs H=>hd vs fun v vs=>
 bV (pk3 (some k) (some v) (some (.bool false))) fun w=>
 jn (wnt w false (bV (ld1 b H) fun x=>
 bV (fAd 1 c) fun y=>
 bV (ld1 y H) fun z=>
 bV (jP 1 z d) fun B=>
 bV (ld1 B H) fun C=>
 bV (fAd 2 c) fun E=>
 bV (ld1 E H) fun F=>
 bV (jP 1 F d) fun G=>
 bV (ld1 G H) fun I=>
 bV (jX [(0,1),(1,1)] [(.str 0 0),(.str 0 0)] [(0,C),(1,I)]) fun J=>
 bR (callV (zM3 D n).S D x [J] H) fun K H=>
 bV (aun .not K) fun M=>
 some (.norm [M],H)) (some (.norm [qM],H))) fun vs H=>hd vs fun N vs=>
 bV (pk3 (some w) (some (.bool true)) (some N)) fun O=>
 cnd O (some (.ret (.tuple []),H))
 (bV (qO .add d (.int .i64 (.ofNat 1))) fun P=>
 some (.norm [a,b,c,P],H)))
 (some (.exit 2 [],H))
def zFN (D:Dyn)(n:Nat)(vs:List AV)(H:AH):Rs:=
 some (.norm [],H)
def zFM (D:Dyn)(n:Nat)(vs:List AV)(H:AH):Rs:=
 some (.norm [],H)
def QG (D:Dyn)(n:Nat)(A:Nat)(l:ALoop)(az:List AV)(H:AH):Option (AV×AH):=
 bif Z7 [2,3,5] l.live then zMW A (hd l.vals fun a vs=>hd vs fun b vs=>hd vs fun c vs=>hd az fun d az=>hd az fun e az=>nl az <|
 bA (bxV 133 (.agg [(.bool false), .nilSlice, .nilSlice, .nilSlice])) H fun f H=>
 bR (stN 4 f e H) fun g H=>
 cI A H fun H=>
 jb 1 (bV (fAd 0 f) fun h=>
 bV (ld1 h H) fun i=>
 bV (aun .not i) fun k=>
 cnd k (some (.exit 1 [],H))
 (bV (ldN 4 f H) fun m=>
 bV (ld1 a H) fun o=>
 bR (f70 D n [m,o] H) fun p H=>
 jb 2 (qV n (Y5 D n) [b,c,f,p] H) (zFN D n))) (zFM D n))else none
def zKj:Hint:= .o
def zKi:Hint:=(.b [] (.s (.s .o (.cl .o .o)) (.s .o (.b [] (.l [3,5,7,8] (.s (.s .o (.cr .o .o)) (.s (.b0 (.s .o (.cl .o .o))) .o)))))))
theorem zEv (D:Dyn)(n:Nat):QG D n=zM6 (zM3 D n) D n 155 0 [2,3,5] [] zKj zKi:=by kernel_rfl
theorem zEu {D:Dyn}(hD:DG D)(n:Nat):RS 155 0 (QG D n):=zBs X_ok hD (sc (zAL hD n) (sc (Z1 hD n) (SOk.nil))) (by kernel_rfl) (zEv D n)
def s127 (D:Dyn)(n:Nat):Tb:=⟨X,[]⟩
def f127 (D:Dyn)(n:Nat)(vs:List AV)(H:AH):Option (AV×AH):=
 outR (hd vs fun a vs=>hd vs fun b vs=>hd vs fun c vs=>hd vs fun d vs=>nl vs <|
 bA (bxV 233 a) H fun e H=>
 bA (bxV 9 b) H fun f H=>
 bA (bxV 9 c) H fun g H=>
 bA (bxV 224 d) H fun h H=>
 bV (some (.func 155 [] [e,f,g,h])) fun i=>some (.ret i,H))
def h127:Hint:=(.s .o (.s .o .o))
theorem zAP {D:Dyn}(hD:DG D)(n:Nat):FI 127 (f127 D n):=qR (n:=n) (h:=h127) X_ok hD (SOk.nil) Tryz.func127 (by kernel_rfl) (by kernel_rfl)
def s128 (D:Dyn)(n:Nat):Tb:=⟨X,[]⟩
def f128 (D:Dyn)(n:Nat)(vs:List AV)(H:AH):Option (AV×AH):=
 outR (hd vs fun a vs=>nl vs <|
 bA (bxV 72 a) H fun b H=>
 bV (some (.bool false)) fun c=>some (.ret c,H))
def h128:Hint:=(.s .o (.s .o .o))
theorem zKU {D:Dyn}(hD:DG D)(n:Nat):FI 128 (f128 D n):=qR (n:=n) (h:=h128) X_ok hD (SOk.nil) Tryz.func128 (by kernel_rfl) (by kernel_rfl)
def s90 (D:Dyn)(n:Nat):Tb:=⟨X,[(126,f126 D n),(127,f127 D n)]⟩
def zMN (D:Dyn)(n:Nat)(vs:List AV)(H:AH):Rs:=
 hd vs fun a vs=>hd vs fun b vs=>hd vs fun c vs=>
 bV (xL a) fun d=>
 bV (fAd 3 d) fun e=>
 bV (ld1 e H) fun f=>
 bV (qO .neq f (.int .i64 (.ofNat 0))) fun g=>
 cnd g (bV (xL a) fun h=>
 bV (fAd 3 h) fun i=>
 bV (ld1 i H) fun k=>
 bV (some .nilSlice) fun m=>bV (some (.bool false)) fun o=>bV (some k) fun p=>some (.ret (.tuple [m,o,p]),H))
 (bV (ld1 b H) fun r=>
 bV (ld1 c H) fun t=>
 bV (some r) fun u=>bV (some t) fun v=>bV (some (.int .i64 (.ofNat 0))) fun w=>some (.ret (.tuple [u,v,w]),H))
def f90 (D:Dyn)(n:Nat)(vs:List AV)(H:AH):Option (AV×AH):=
 outR (hd vs fun a vs=>hd vs fun b vs=>hd vs fun c vs=>hd vs fun d vs=>nl vs <|
 bA (bxV 3 d) H fun e H=>
 bV (u6 .eql (eqP a .nilPtr)) fun f=>
 cnd f (bV (some .nilSlice) fun g=>bV (some (.bool false)) fun h=>bV (some (.int .i64 (.ofNat 2))) fun i=>some (.ret (.tuple [g,h,i]),H))
 (bV (ld1 e H) fun k=>
 bV (qO .lss k (.int .i64 (.ofNat 0))) fun m=>
 cnd m (bV (some .nilSlice) fun o=>bV (some (.bool false)) fun p=>bV (some (.int .i64 (.ofNat 1))) fun r=>some (.ret (.tuple [o,p,r]),H))
 (bR (f126 D n [a] H) fun t H=>
 bA (bxV 40 .nilSlice) H fun u H=>
 bA (bxV 4 (.bool false)) H fun v H=>
 bR (stN 1 v (.bool false) H) fun w H=>
 bR (f127 D n [t,b,c,(.func 128 [] [])] H) fun x H=>
 jb 0 (zBF H (.loop ⟨.ready,none,90,0,[7,12,13],[e,u,v]⟩) fun A H=>bR (rfC (s90 D n).S D x A H) fun _ H=>XB A H fun j H=>zLB j (
 some (.norm [t,u,v],H))
 (fun id=>cond (Nat.beq 0 id) (some (.exit id [t,u,v],H)) (none)) (bV (some .nilSlice) fun y=>bV (some (.bool false)) fun z=>bV (some (.int .i64 (.ofNat 0))) fun B=>some (.ret (.tuple [y,z,B]),H))) (zMN D n))))
def h90:Hint:=(.s .o (.s (.s .o (.cl (.s .o .o) .o)) (.s (.s .o (.cl (.s .o .o) .o)) (.s .o (.s .o (.s .o (.s (.s .o (.b [11,12,13] (.rf 0 [7,12,13]))) (.s (.s .o (.cl (.s .o .o) .o)) (.s .o .o)))))))))
theorem zFr {D:Dyn}(hD:DG D)(n:Nat):FI 90 (f90 D n):=qR (n:=n) (h:=h90) X_ok hD (sc (zAQ hD n) (sc (zAP hD n) (SOk.nil))) Tryz.func90 (by kernel_rfl) (by kernel_rfl)
def zCS (D:Dyn)(n:Nat)(A:Nat)(l:ALoop)(az:List AV)(H:AH):Option (AV×AH):=
 bif Z7 [7,12,13] l.live then zMW A (hd l.vals fun a vs=>hd vs fun b vs=>hd vs fun c vs=>hd az fun d az=>nl az <|
 bA (bxV 48 (.agg [(.str 0 0),(.str 0 0)])) H fun e H=>
 bR (stN 2 e d H) fun f H=>
 cI A H fun H=>
 bV (ld1 b H) fun g=>
 bV (lnSl g) fun h=>
 bV (ld1 a H) fun i=>
 bV (qO .eql h i) fun k=>
 cnd k (bR (stN 1 c (.bool true) H) fun m H=>
 some (.exit 0 [],H))
 (bV (ld1 b H) fun o=>
 bV (ldN 2 e H) fun p=>
 bA (uM 48 2 1 [(.str 0 0),(.str 0 0)] [(0,p)]) H fun r H=>
 bR (apP 48 2 32 o r H) fun t H=>
 bR (stN 1 b t H) fun u H=>
 some (.norm [],H)))else none
def zMd:Hint:= .o
def zMc:Hint:=(.b0 (.s (.s .o (.cl (.s .o .o) .o)) .o))
theorem zHy (D:Dyn)(n:Nat):zCS D n=zM6 (s90 D n) D n 90 0 [7,12,13] [0] zMd zMc:=by kernel_rfl
theorem zHx {D:Dyn}(hD:DG D)(n:Nat):RS 90 0 (zCS D n):=zBs X_ok hD (sc (zAQ hD n) (sc (zAP hD n) (SOk.nil))) (by kernel_rfl) (zHy D n)
def s129 (D:Dyn)(n:Nat):Tb:=⟨X,[]⟩
def zCd (D:Dyn)(n:Nat)(vs:List AV)(H:AH):Rs:=
 hd vs fun a vs=>hd vs fun b vs=>hd vs fun c vs=>
 bV (qO .lss c (.int .i64 (.ofNat 4))) fun d=>
 cnd d (bV (qO .shl b (.int .u64 (.ofNat 8))) fun e=>
 bV (YW a c) fun f=>
 bV (cvI .i64 f) fun g=>
 bV (qO .or e g) fun h=>
 bV (qO .add c (.int .i64 (.ofNat 1))) fun i=>
 some (.norm [a,h,i],H))
 (some (.exit 0 [b],H))
def zJx (D:Dyn)(n:Nat)(vs:List AV)(H:AH):Rs:=
 hd vs fun a vs=>
 bV (some a) fun b=>some (.ret b,H)
def f129 (D:Dyn)(n:Nat)(vs:List AV)(H:AH):Option (AV×AH):=
 outR (hd vs fun a vs=>nl vs <|
 jb 0 (qV n (zCd D n) [a,(.int .i64 (.ofNat 0)),(.int .i64 (.ofNat 0))] H) (zJx D n))
def h129:Hint:=(.s .o (.s .o (.s (.s .o (.b [3] (.l [0,3,5] (.s .o (.s (.cr .o .o) (.s (.b0 (.s .o .o)) .o)))))) (.s .o .o))))
theorem zFW {D:Dyn}(hD:DG D)(n:Nat):FI 129 (f129 D n):=qR (n:=n) (h:=h129) X_ok hD (SOk.nil) Tryz.func129 (by kernel_rfl) (by kernel_rfl)
def s92 (D:Dyn)(n:Nat):Tb:=⟨X,[(129,f129 D n),(84,f84 D n),(85,f85 D n),(83,f83 D n)]⟩
def f92 (D:Dyn)(n:Nat)(vs:List AV)(H:AH):Option (AV×AH):=
 outR (hd vs fun a vs=>nl vs <|
 bA (bxV 48 a) H fun b H=>
 bA (bxV 174 (.agg [(.str 0 0),(.int .i64 (.ofNat 0)),(.int .i64 (.ofNat 0)),(.str 0 0),(.bool false)])) H fun c H=>
 bV (fAd 0 b) fun d=>
 bV (ld1 d H) fun e=>
 bV (kS e) fun f=>
 bV (qO .neq f (.int .i64 (.ofNat 9))) fun g=>
 cnd g (bV (jX [(0,3),(3,1),(4,1)] [(.str 0 0),(.int .i64 (.ofNat 0)),(.int .i64 (.ofNat 0)),(.str 0 0),(.bool false)] []) fun h=>
 bR (stN 5 c h H) fun i H=>
 bV (ldN 5 c H) fun k=>bV (some (.bool false)) fun m=>some (.ret (.tuple [k,m]),H))
 (bV (fAd 0 b) fun o=>
 bV (ld1 o H) fun p=>
 bV (jX [(0,3),(3,1),(4,1)] [(.str 0 0),(.int .i64 (.ofNat 0)),(.int .i64 (.ofNat 0)),(.str 0 0),(.bool false)] [(1,p)]) fun r=>
 bA (bxV 174 (.agg [(.str 0 0),(.int .i64 (.ofNat 0)),(.int .i64 (.ofNat 0)),(.str 0 0),(.bool false)])) H fun t H=>
 bR (stN 5 t r H) fun u H=>
 bV (fAd 0 b) fun v=>
 bV (ld1 v H) fun w=>
 bV (ZF w (some (.int .i64 (.ofNat 5))) none) fun x=>
 bR (f129 D n [x] H) fun y H=>
 bV (fAd 0 t) fun z=>
 bV (fAd 2 z) fun B=>
 bR (stN 1 B y H) fun C H=>
 bV (fAd 0 t) fun E=>
 bV (fAd 2 E) fun F=>
 bV (ld1 F H) fun G=>
 bV (qO .lss G (.int .i64 (.ofNat 1))) fun I=>
 jn (wnt I false (bV (fAd 0 t) fun J=>
 bV (fAd 2 J) fun K=>
 bV (ld1 K H) fun M=>
 bV (qO .gtr M (.int .i64 (.ofNat 262144))) fun N=>
 some (.norm [N],H)) (some (.norm [qM],H))) fun vs H=>hd vs fun O vs=>
 bV (pk3 (some I) (some (.bool true)) (some O)) fun P=>
 cnd P (bV (jX [(0,3),(3,1),(4,1)] [(.str 0 0),(.int .i64 (.ofNat 0)),(.int .i64 (.ofNat 0)),(.str 0 0),(.bool false)] []) fun Q=>
 bR (stN 5 c Q H) fun R H=>
 bV (ldN 5 c H) fun T=>bV (some (.bool false)) fun U=>some (.ret (.tuple [T,U]),H))
 (bV (fAd 1 b) fun V=>
 bV (ld1 V H) fun W=>
 bV (kS W) fun Y=>
 bV (qO .lss Y (.int .i64 (.ofNat 4))) fun Z=>
 cnd Z (bV (ldN 5 t H) fun a0=>
 bR (stN 5 c a0 H) fun a1 H=>
 bV (ldN 5 c H) fun a2=>bV (some (.bool true)) fun a3=>some (.ret (.tuple [a2,a3]),H))
 (bV (fAd 1 b) fun a4=>
 bV (ld1 a4 H) fun a5=>
 bR (f129 D n [a5] H) fun a6 H=>
 bV (fAd 0 t) fun a7=>
 bV (fAd 1 a7) fun a8=>
 bR (stN 1 a8 a6 H) fun a9 H=>
 bV (fAd 1 b) fun b0=>
 bV (ld1 b0 H) fun b1=>
 bV (ZF b1 (some (.int .i64 (.ofNat 4))) none) fun b2=>
 bV (fAd 0 t) fun b3=>
 bV (fAd 0 b3) fun b4=>
 bR (stN 1 b4 b2 H) fun b5 H=>
 bV (fAd 0 t) fun b6=>
 bV (fAd 1 b6) fun b7=>
 bV (ld1 b7 H) fun b8=>
 bR (f84 D n [b8] H) fun b9 H=>
 jn (wnt b9 true (bV (fAd 0 t) fun c0=>
 bV (fAd 0 c0) fun c1=>
 bV (ld1 c1 H) fun c2=>
 bR (f85 D n [c2] H) fun c3 H=>
 some (.norm [c3],H)) (some (.norm [qM],H))) fun vs H=>hd vs fun c4 vs=>
 bV (pk3 (some b9) (some c4) (some (.bool false))) fun c5=>
 jn (wnt c5 true (bV (fAd 0 t) fun c6=>
 bV (fAd 0 c6) fun c7=>
 bV (ld1 c7 H) fun c8=>
 bV (fAd 0 t) fun c9=>
 bV (fAd 2 c9) fun d0=>
 bV (ld1 d0 H) fun d1=>
 bV (qO .sub d1 (.int .i64 (.ofNat 1))) fun d2=>
 bV (qO .quo d2 (.int .i64 (.ofNat 256))) fun d3=>
 bR (f83 D n [c8] H) fun d4 H=>chk (ld1 d0 H) d1 <|
 bV (qO .eql d4 d3) fun d5=>
 some (.norm [d5],H)) (some (.norm [qM],H))) fun vs H=>hd vs fun d6 vs=>
 bV (pk3 (some c5) (some d6) (some (.bool false))) fun d7=>
 bV (fAd 4 t) fun d8=>
 bR (stN 1 d8 d7 H) fun d9 H=>
 bV (ldN 5 t H) fun e0=>
 bR (stN 5 c e0 H) fun e1 H=>
 bV (ldN 5 c H) fun e2=>bV (some (.bool true)) fun e3=>some (.ret (.tuple [e2,e3]),H)))))
def h92:Hint:=(.s .o (.s (.s .o (.cl (.s .o .o) .o)) (.s .o (.s .o (.s (.s .o (.cl (.s .o .o) .o)) (.s (.s .o (.cl (.s .o .o) .o)) (.s .o (.s .o (.s .o (.s .o .o))))))))))
theorem zFq {D:Dyn}(hD:DG D)(n:Nat):FI 92 (f92 D n):=qR (n:=n) (h:=h92) X_ok hD (sc (zFW hD n) (sc (UN hD n) (sc (zBZ hD n) (sc (UO hD n) (SOk.nil))))) Tryz.func92 (by kernel_rfl) (by kernel_rfl)
def s86 (D:Dyn)(n:Nat):Tb:=⟨X,[(88,f88 D n),(90,f90 D n),(92,f92 D n)]⟩
def zAF (D:Dyn)(n:Nat)(vs:List AV)(H:AH):Rs:=
 hd vs fun a vs=>hd vs fun b vs=>hd vs fun c vs=>hd vs fun d vs=>
 bV (qO .lss d c) fun e=>
 cnd e (bV (jP 2 b d) fun f=>
 bV (ldN 2 f H) fun g=>
 bA (bxV 48 (.agg [(.str 0 0),(.str 0 0)])) H fun h H=>
 bR (stN 2 h g H) fun i H=>
 bV (ldN 2 h H) fun k=>
 bR (f92 D n [k] H) fun m H=>
 bV (qK m 0) fun o=>
 bV (qK m 1) fun p=>
 bA (bxV 174 (.agg [(.str 0 0),(.int .i64 (.ofNat 0)),(.int .i64 (.ofNat 0)),(.str 0 0),(.bool false)])) H fun r H=>
 bR (stN 5 r o H) fun t H=>
 jn (wnt p true (bV (ldN 5 r H) fun u=>
 bR (callV (s86 D n).S D a [u] H) fun v H=>
 bV (aun .not v) fun w=>
 some (.norm [w],H)) (some (.norm [qM],H))) fun vs H=>hd vs fun x vs=>
 bV (pk3 (some p) (some x) (some (.bool false))) fun y=>
 cnd y (some (.exit 0 [],H))
 (bV (qO .add d (.int .i64 (.ofNat 1))) fun z=>
 some (.norm [a,b,c,z],H)))
 (some (.exit 0 [],H))
def zI9 (D:Dyn)(n:Nat)(vs:List AV)(H:AH):Rs:=
 bV (some (.int .i64 (.ofNat 0))) fun a=>some (.ret a,H)
def f86 (D:Dyn)(n:Nat)(vs:List AV)(H:AH):Option (AV×AH):=
 outR (hd vs fun a vs=>hd vs fun b vs=>hd vs fun c vs=>hd vs fun d vs=>nl vs <|
 bV (qO .mul c (.int .i64 (.ofNat 256))) fun e=>
 bV (qO .add e (.int .i64 (.ofNat 1))) fun f=>
 bR (f88 D n [b,f] H) fun g H=>
 bV (qO .add f (.int .i64 (.ofNat 256))) fun h=>
 bR (f88 D n [b,h] H) fun i H=>
 bR (f90 D n [a,g,i,(.int .i64 (.ofNat 2147483647))] H) fun k H=>
 bV (qK k 0) fun m=>
 bV (qK k 1) fun o=>
 bV (qK k 2) fun p=>
 bV (qO .neq p (.int .i64 (.ofNat 0))) fun r=>
 cnd r (bV (some p) fun t=>some (.ret t,H))
 (bV (lnSl m) fun u=>
 jb 0 (qV n (zAF D n) [d,m,u,(.int .i64 (.ofNat 0))] H) (zI9 D n)))
def h86:Hint:=(.s .o (.s .o (.s .o (.s (.s .o (.cl (.s .o .o) .o)) (.s (.s .o (.b [] (.l [3,36,37,38] (.s .o (.s (.cr .o .o) (.s (.b0 (.s .o (.s .o (.s .o (.cl .o .o))))) .o)))))) (.s .o .o))))))
theorem zFt {D:Dyn}(hD:DG D)(n:Nat):FI 86 (f86 D n):=qR (n:=n) (h:=h86) X_ok hD (sc (zBY hD n) (sc (zFr hD n) (sc (zFq hD n) (SOk.nil)))) Tryz.func86 (by kernel_rfl) (by kernel_rfl)
def s102 (D:Dyn)(n:Nat):Tb:=⟨X,[]⟩
def f102 (D:Dyn)(n:Nat)(vs:List AV)(H:AH):Option (AV×AH):=
 outR (hd vs fun a vs=>hd vs fun b vs=>nl vs <|
 bA (bxV 133 b) H fun c H=>
 bA (bxV 72 (.agg [(.int .i64 (.ofNat 0)),(.int .i64 (.ofNat 0)),(.int .u64 (.ofNat 0))])) H fun d H=>
 bV (xL a) fun e=>
 bV (fAd 1 e) fun f=>
 bV (ld1 f H) fun g=>
 bV (qO .add g (.int .u64 (.ofNat 1))) fun h=>
 bV (xL a) fun i=>
 bV (fAd 1 i) fun k=>
 bR (stN 1 k h H) fun m H=>
 bV (xL a) fun o=>
 bV (fAd 2 o) fun p=>
 bV (ld1 p H) fun r=>
 bV (xL a) fun t=>
 bV (fAd 1 t) fun u=>
 bV (ld1 u H) fun v=>
 bV (ldN 4 c H) fun w=>
 bR (upM [10] r v w H) fun x H=>
 bV (xL a) fun y=>
 bV (fAd 1 y) fun z=>
 bV (ld1 z H) fun B=>
 bV (jX [(0,1),(1,1),(2,1)] [(.int .i64 (.ofNat 0)),(.int .i64 (.ofNat 0)),(.int .u64 (.ofNat 0))] [(0,(.int .i64 (.ofNat 1))),(2,B)]) fun C=>
 bR (stN 3 d C H) fun E H=>
 bV (ldN 3 d H) fun F=>some (.ret F,H))
def h102:Hint:=(.s .o (.s .o (.s .o (.s .o .o))))
theorem X2 {D:Dyn}(hD:DG D)(n:Nat):FI 102 (f102 D n):=qR (n:=n) (h:=h102) X_ok hD (SOk.nil) Tryz.func102 (by kernel_rfl) (by kernel_rfl)
end Go.Eng.Sh
end
end
section
noncomputable section
namespace Go.Eng.Sh
open Go.Proofs
set_option maxRecDepth 100000
def s101 (D:Dyn)(n:Nat):Tb:=⟨X,[]⟩
def zJF (D:Dyn)(n:Nat)(vs:List AV)(H:AH):Rs:=
 hd vs fun a vs=>hd vs fun b vs=>hd vs fun c vs=>hd vs fun d vs=>hd vs fun e vs=>hd vs fun f vs=>
 bV (qO .add f (.int .i64 (.ofNat 1))) fun g=>
 some (.norm [a,b,c,d,e,g],H)
def BC (D:Dyn)(n:Nat)(vs:List AV)(H:AH):Rs:=
 hd vs fun a vs=>hd vs fun b vs=>hd vs fun c vs=>hd vs fun d vs=>hd vs fun e vs=>hd vs fun f vs=>
 bV (qO .lss f e) fun g=>
 cnd g (bV (jP 3 d f) fun h=>
 bV (ldN 3 h H) fun i=>
 bA (bxV 72 (.agg [(.int .i64 (.ofNat 0)),(.int .i64 (.ofNat 0)),(.int .u64 (.ofNat 0))])) H fun k H=>
 bR (stN 3 k i H) fun m H=>
 bV (fAd 0 k) fun o=>
 bV (ld1 o H) fun p=>
 bV (qO .eql p (.int .i64 (.ofNat 1))) fun r=>
 jn (cnd r (bV (xL c) fun t=>
 bV (fAd 5 t) fun u=>
 bV (ld1 u H) fun v=>
 bV (fAd 2 k) fun w=>
 bV (ld1 w H) fun x=>
 bR (dlM [10] v x H) fun y H=>
 some (.norm [a,b,c,d,e,f],H))
 (bV (xL c) fun z=>
 bV (fAd 7 z) fun B=>
 bV (ld1 B H) fun C=>
 bV (ldN 3 k H) fun E=>
 bA (uM 72 3 1 [(.int .i64 (.ofNat 0)),(.int .i64 (.ofNat 0)),(.int .u64 (.ofNat 0))] [(0,E)]) H fun F H=>
 bR (apP 72 3 24 C F H) fun G H=>
 bV (xL c) fun I=>
 bV (fAd 7 I) fun J=>
 bR (stN 1 J G H) fun K H=>
 some (.norm [a,b,c,d,e,f],H))) (zJF D n))
 (some (.exit 0 [a,b,c],H))
def zJG (D:Dyn)(n:Nat)(vs:List AV)(H:AH):Rs:=
 hd vs fun a vs=>hd vs fun b vs=>hd vs fun c vs=>
 tld (uX [a,b,c] H) H.next fun H=>
 bV (xL a) fun d=>
 bV (fAd 1 d) fun e=>
 bV (ld1 e H) fun f=>
 bV (xL c) fun g=>
 bV (fAd 6 g) fun h=>
 bR (stN 1 h f H) fun i H=>
 bV (ldN 3 b H) fun k=>
 bV (xL c) fun m=>
 bV (fAd 2 m) fun o=>
 bR (stN 3 o k H) fun p H=>
 some (.ret (.tuple []),H)
def f101 (D:Dyn)(n:Nat)(vs:List AV)(H:AH):Option (AV×AH):=
 outR (hd vs fun a vs=>hd vs fun b vs=>nl vs <|
 bA (bxV 72 b) H fun c H=>
 bV (xL a) fun d=>
 bV (fAd 0 d) fun e=>
 bV (ld1 e H) fun f=>
 bV (xL a) fun g=>
 bV (fAd 3 g) fun h=>
 bV (ld1 h H) fun i=>
 bV (lnSl i) fun k=>
 jb 0 (qV n (BC D n) [a,c,f,i,k,(.int .i64 (.ofNat 0))] H) (zJG D n))
def zMJ:Hint:=(.s .o (.s .o (.s (.s .o (.b [0,3,4] (.l [0,3,4,16,17,18] (.s .o (.s (.cr .o .o) (.s (.b0 (.s .o (.s .o (.c [0,3,4,16,17,18] .o .o)))) .o)))))) (.s (.t [0,3,4] uX) (.s .o .o)))))
theorem zKY (D:Dyn)(n:Nat):f101 D n=zMK (s101 D n) D n 101 Tryz.f101 zMJ:=by kernel_rfl
theorem zD7:zBd Tryz.f101 zMJ=[(JH.code,[0,3,4],uX)]:=by kernel_rfl
theorem zG9: ∀x∈zBd Tryz.f101 zMJ,YN PP Tryz.f101.ntmps 101 x.1 x.2.1 x.2.2:=by
 rw[zD7];intro x hx
 simp only[List.mem_cons,List.not_mem_nil,or_false]at hx
 subst hx;exact zDH
theorem zAS {D:Dyn}(hD:DG D)(n:Nat):FI 101 (f101 D n):=zKL X_ok hD (SOk.nil) Tryz.func101 (zE7 (by kernel_rfl) zG9) (zKY D n)
def s123 (D:Dyn)(n:Nat):Tb:=⟨X,[]⟩
def UX (D:Dyn)(n:Nat)(vs:List AV)(H:AH):Rs:=
 hd vs fun a vs=>hd vs fun b vs=>hd vs fun c vs=>hd vs fun d vs=>hd vs fun e vs=>
 bV (qO .lss e d) fun f=>
 cnd f (bV (jP 1 c e) fun g=>
 bV (ld1 g H) fun h=>
 bV (kS h) fun i=>
 bV (qO .add (.int .i64 (.ofNat 1)) i) fun k=>
 bV (qO .add b k) fun m=>
 bV (qO .add e (.int .i64 (.ofNat 1))) fun o=>
 some (.norm [a,m,c,d,o],H))
 (some (.exit 0 [a,b],H))
def UW (D:Dyn)(n:Nat)(vs:List AV)(H:AH):Rs:=
 hd vs fun a vs=>hd vs fun b vs=>hd vs fun c vs=>hd vs fun d vs=>
 bV (qO .lss d c) fun e=>
 cnd e (bV (jP 1 b d) fun f=>
 bV (ld1 f H) fun g=>
 bV (kS g) fun h=>
 bV (qO .add (.int .i64 (.ofNat 1)) h) fun i=>
 bV (qO .add a i) fun k=>
 bV (qO .add d (.int .i64 (.ofNat 1))) fun m=>
 some (.norm [k,b,c,m],H))
 (some (.exit 2 [a],H))
def zJz (D:Dyn)(n:Nat)(vs:List AV)(H:AH):Rs:=
 hd vs fun a vs=>
 bV (some a) fun b=>some (.ret b,H)
def zJy (D:Dyn)(n:Nat)(vs:List AV)(H:AH):Rs:=
 hd vs fun a vs=>hd vs fun b vs=>
 bV (fAd 2 a) fun c=>
 bV (ld1 c H) fun d=>
 bV (lnSl d) fun e=>
 jb 2 (qV n (UW D n) [b,d,e,(.int .i64 (.ofNat 0))] H) (zJz D n)
def f123 (D:Dyn)(n:Nat)(vs:List AV)(H:AH):Option (AV×AH):=
 outR (hd vs fun a vs=>nl vs <|
 bA (bxV 133 a) H fun b H=>
 bV (fAd 3 b) fun c=>
 bV (ld1 c H) fun d=>
 bV (lnSl d) fun e=>
 bV (qO .mul (.int .i64 (.ofNat 16)) e) fun f=>
 bV (qO .add (.int .i64 (.ofNat 2)) f) fun g=>
 bV (fAd 1 b) fun h=>
 bV (ld1 h H) fun i=>
 bV (lnSl i) fun k=>
 jb 0 (qV n (UX D n) [b,g,i,k,(.int .i64 (.ofNat 0))] H) (zJy D n))
def h123:Hint:=(.s .o (.s .o (.s (.s .o (.b [1,3] (.l [1,3,14,15,16] (.s .o (.s (.cr .o .o) (.s (.b0 (.s .o .o)) .o)))))) (.s (.s .o (.b [3] (.l [3,27,28,29] (.s .o (.s (.cr .o .o) (.s (.b0 (.s .o .o)) .o)))))) (.s .o .o)))))
theorem WW {D:Dyn}(hD:DG D)(n:Nat):FI 123 (f123 D n):=qR (n:=n) (h:=h123) X_ok hD (SOk.nil) Tryz.func123 (by kernel_rfl) (by kernel_rfl)
def s108 (D:Dyn)(n:Nat):Tb:=⟨X,[]⟩
def f108 (D:Dyn)(n:Nat)(vs:List AV)(H:AH):Option (AV×AH):=
 outR (hd vs fun a vs=>nl vs <|
 bV (kS a) fun b=>
 bV (qO .geq b (.int .i64 (.ofNat 1))) fun c=>
 jn (wnt c true (bV (kS a) fun d=>
 bV (qO .leq d (.int .i64 (.ofNat 40))) fun e=>
 some (.norm [e],H)) (some (.norm [qM],H))) fun vs H=>hd vs fun f vs=>
 bV (pk3 (some c) (some f) (some (.bool false))) fun g=>
 bV (some g) fun h=>some (.ret h,H))
def h108:Hint:=(.s .o (.s .o .o))
theorem X0 {D:Dyn}(hD:DG D)(n:Nat):FI 108 (f108 D n):=qR (n:=n) (h:=h108) X_ok hD (SOk.nil) Tryz.func108 (by kernel_rfl) (by kernel_rfl)
def s107 (D:Dyn)(n:Nat):Tb:=⟨X,[(108,f108 D n)]⟩
def Z4 (D:Dyn)(n:Nat)(vs:List AV)(H:AH):Rs:=
 hd vs fun a vs=>hd vs fun b vs=>hd vs fun c vs=>hd vs fun d vs=>
 bV (qO .lss d c) fun e=>
 cnd e (bV (jP 1 b d) fun f=>
 bV (ld1 f H) fun g=>
 bR (f108 D n [g] H) fun h H=>
 bV (aun .not h) fun i=>
 jn (wnt i false (bV (qO .gtr d (.int .i64 (.ofNat 0))) fun k=>
 some (.norm [k],H)) (some (.norm [qM],H))) fun vs H=>hd vs fun m vs=>
 jn (wnt m true (bV (fAd 1 a) fun o=>
 bV (ld1 o H) fun p=>
 bV (qO .sub d (.int .i64 (.ofNat 1))) fun r=>
 bV (jP 1 p r) fun t=>
 bV (ld1 t H) fun u=>
 bV (k7 .geq u g) fun v=>
 some (.norm [v],H)) (some (.norm [qM],H))) fun vs H=>hd vs fun w vs=>
 jn (wnt i false (bV (pk3 (some m) (some w) (some (.bool false))) fun x=>
 some (.norm [x],H)) (some (.norm [qM],H))) fun vs H=>hd vs fun y vs=>
 bV (pk3 (some i) (some (.bool true)) (some y)) fun z=>
 cnd z (bV (some (.bool false)) fun B=>some (.ret B,H))
 (bV (qO .add d (.int .i64 (.ofNat 1))) fun C=>
 some (.norm [a,b,c,C],H)))
 (some (.exit 0 [a],H))
def B9 (D:Dyn)(n:Nat)(vs:List AV)(H:AH):Rs:=
 hd vs fun a vs=>hd vs fun b vs=>hd vs fun c vs=>
 bV (qO .lss c b) fun d=>
 cnd d (bV (jP 1 a c) fun e=>
 bV (ld1 e H) fun f=>
 bV (kS f) fun g=>
 bV (qO .gtr g (.int .i64 (.ofNat 200))) fun h=>
 cnd h (bV (some (.bool false)) fun i=>some (.ret i,H))
 (bV (qO .add c (.int .i64 (.ofNat 1))) fun k=>
 some (.norm [a,b,k],H)))
 (some (.exit 2 [],H))
def zG2 (D:Dyn)(n:Nat)(vs:List AV)(H:AH):Rs:=
 bV (some (.bool true)) fun a=>some (.ret a,H)
def B0 (D:Dyn)(n:Nat)(vs:List AV)(H:AH):Rs:=
 hd vs fun a vs=>hd vs fun b vs=>hd vs fun c vs=>
 bV (qO .lss c b) fun d=>
 cnd d (bV (jP 3 a c) fun e=>
 bV (ldN 3 e H) fun f=>
 bA (bxV 72 (.agg [(.int .i64 (.ofNat 0)),(.int .i64 (.ofNat 0)),(.int .u64 (.ofNat 0))])) H fun g H=>
 bR (stN 3 g f H) fun h H=>
 bV (fAd 0 g) fun i=>
 bV (ld1 i H) fun k=>
 bV (qO .lss k (.int .i64 (.ofNat 1))) fun m=>
 jn (wnt m false (bV (fAd 0 g) fun o=>
 bV (ld1 o H) fun p=>
 bV (qO .geq p (.int .i64 (.ofNat 8192))) fun r=>
 some (.norm [r],H)) (some (.norm [qM],H))) fun vs H=>hd vs fun t vs=>
 bV (pk3 (some m) (some (.bool true)) (some t)) fun u=>
 jn (wnt u false (bV (fAd 1 g) fun v=>
 bV (ld1 v H) fun w=>
 bV (qO .lss w (.int .i64 (.ofNat 0))) fun x=>
 some (.norm [x],H)) (some (.norm [qM],H))) fun vs H=>hd vs fun y vs=>
 bV (pk3 (some u) (some (.bool true)) (some y)) fun z=>
 jn (wnt z false (bV (fAd 1 g) fun B=>
 bV (ld1 B H) fun C=>
 bV (qO .gtr C (.int .i64 (.ofNat 2147483647))) fun E=>
 some (.norm [E],H)) (some (.norm [qM],H))) fun vs H=>hd vs fun F vs=>
 bV (pk3 (some z) (some (.bool true)) (some F)) fun G=>
 cnd G (bV (some (.bool false)) fun I=>some (.ret I,H))
 (bV (qO .add c (.int .i64 (.ofNat 1))) fun J=>
 some (.norm [a,b,J],H)))
 (some (.exit 4 [],H))
def zG1 (D:Dyn)(n:Nat)(vs:List AV)(H:AH):Rs:=
 bV (some (.bool true)) fun a=>some (.ret a,H)
def Z5 (D:Dyn)(n:Nat)(vs:List AV)(H:AH):Rs:=
 hd vs fun a vs=>
 bV (fAd 0 a) fun b=>
 bV (ld1 b H) fun c=>
 cnd c (bV (fAd 2 a) fun d=>
 bV (ld1 d H) fun e=>
 bV (lnSl e) fun f=>
 bV (fAd 1 a) fun g=>
 bV (ld1 g H) fun h=>
 bV (lnSl h) fun i=>
 bV (qO .neq f i) fun k=>
 jn (wnt k false (bV (fAd 3 a) fun m=>
 bV (ld1 m H) fun o=>
 bV (lnSl o) fun p=>
 bV (qO .neq p (.int .i64 (.ofNat 0))) fun r=>
 some (.norm [r],H)) (some (.norm [qM],H))) fun vs H=>hd vs fun t vs=>
 bV (pk3 (some k) (some (.bool true)) (some t)) fun u=>
 cnd u (bV (some (.bool false)) fun v=>some (.ret v,H))
 (bV (fAd 2 a) fun w=>
 bV (ld1 w H) fun x=>
 bV (lnSl x) fun y=>
 jb 2 (qV n (B9 D n) [x,y,(.int .i64 (.ofNat 0))] H) (zG2 D n)))
 (bV (fAd 1 a) fun z=>
 bV (ld1 z H) fun B=>
 bV (lnSl B) fun C=>
 bV (qO .eql C (.int .i64 (.ofNat 0))) fun E=>
 jn (wnt E false (bV (fAd 2 a) fun F=>
 bV (ld1 F H) fun G=>
 bV (lnSl G) fun I=>
 bV (qO .neq I (.int .i64 (.ofNat 0))) fun J=>
 some (.norm [J],H)) (some (.norm [qM],H))) fun vs H=>hd vs fun K vs=>
 bV (pk3 (some E) (some (.bool true)) (some K)) fun M=>
 jn (wnt M false (bV (fAd 3 a) fun N=>
 bV (ld1 N H) fun O=>
 bV (lnSl O) fun P=>
 bV (fAd 1 a) fun Q=>
 bV (ld1 Q H) fun R=>
 bV (lnSl R) fun T=>
 bV (qO .add T (.int .i64 (.ofNat 1))) fun U=>
 bV (qO .neq P U) fun V=>
 some (.norm [V],H)) (some (.norm [qM],H))) fun vs H=>hd vs fun W vs=>
 bV (pk3 (some M) (some (.bool true)) (some W)) fun Y=>
 cnd Y (bV (some (.bool false)) fun Z=>some (.ret Z,H))
 (bV (fAd 3 a) fun a0=>
 bV (ld1 a0 H) fun a1=>
 bV (lnSl a1) fun a2=>
 jb 4 (qV n (B0 D n) [a1,a2,(.int .i64 (.ofNat 0))] H) (zG1 D n)))
def f107 (D:Dyn)(n:Nat)(vs:List AV)(H:AH):Option (AV×AH):=
 outR (hd vs fun a vs=>nl vs <|
 bA (bxV 133 a) H fun b H=>
 bV (fAd 1 b) fun c=>
 bV (ld1 c H) fun d=>
 bV (lnSl d) fun e=>
 jb 0 (qV n (Z4 D n) [b,d,e,(.int .i64 (.ofNat 0))] H) (Z5 D n))
def h107:Hint:=(.s .o (.s (.s .o (.b [1] (.l [1,10,11,12] (.s .o (.s (.cr .o .o) (.s (.b0 (.s .o (.s .o (.cl (.s .o .o) .o)))) .o)))))) (.s (.s .o (.cl (.s (.s .o (.cl (.s .o .o) .o)) (.s (.s .o (.b [] (.l [51,52,53] (.s .o (.s (.cr .o .o) (.s (.b0 (.s .o (.s .o (.cl (.s .o .o) .o)))) .o)))))) (.s .o .o))) .o)) (.s (.s .o (.cl (.s .o .o) .o)) (.s (.s .o (.b [] (.l [82,83,84] (.s .o (.s (.cr .o .o) (.s (.b0 (.s .o (.s .o (.cl (.s .o .o) .o)))) .o)))))) (.s .o .o))))))
theorem Y7 {D:Dyn}(hD:DG D)(n:Nat):FI 107 (f107 D n):=qR (n:=n) (h:=h107) X_ok hD (sc (X0 hD n) (SOk.nil)) Tryz.func107 (by kernel_rfl) (by kernel_rfl)
def s183 (D:Dyn)(n:Nat):Tb:=⟨X,[(123,f123 D n)]⟩
def Z2 (D:Dyn)(n:Nat)(vs:List AV)(H:AH):Rs:=
 hd vs fun a vs=>hd vs fun b vs=>hd vs fun c vs=>hd vs fun d vs=>hd vs fun e vs=>hd vs fun f vs=>hd vs fun g vs=>
 bV (qO .gtr e (.int .i64 (.ofNat 0))) fun h=>
 jn (wnt h true (bV (qO .gtr d b) fun i=>
 some (.norm [i],H)) (some (.norm [qM],H))) fun vs H=>hd vs fun k vs=>
 bV (pk3 (some h) (some k) (some (.bool false))) fun m=>
 cnd m (bV (some e) fun o=>some (.ret o,H))
 (bV (qO .add g (.int .i64 (.ofNat 1))) fun p=>
 some (.norm [a,b,c,d,f,p],H))
def Y4 (D:Dyn)(n:Nat)(vs:List AV)(H:AH):Rs:=
 hd vs fun a vs=>hd vs fun b vs=>hd vs fun c vs=>hd vs fun d vs=>hd vs fun e vs=>hd vs fun f vs=>
 bV (qO .lss f e) fun g=>
 cnd g (bV (fAd 1 a) fun h=>
 bV (ld1 h H) fun i=>
 bV (jP 1 i f) fun k=>
 bV (ld1 k H) fun m=>
 bV (kS m) fun o=>
 bV (qO .add (.int .i64 (.ofNat 1)) o) fun p=>
 bV (qO .add d p) fun r=>
 bV (fAd 0 a) fun t=>
 bV (ld1 t H) fun u=>
 jn (cnd u (bV (fAd 2 a) fun v=>
 bV (ld1 v H) fun w=>
 bV (jP 1 w f) fun x=>
 bV (ld1 x H) fun y=>
 bV (kS y) fun z=>
 bV (qO .add (.int .i64 (.ofNat 1)) z) fun B=>
 bV (qO .add r B) fun C=>
 some (.norm [a,b,c,C,f,e,f],H))
 (bV (qO .add r (.int .i64 (.ofNat 16))) fun E=>
 some (.norm [a,b,c,E,f,e,f],H))) (Z2 D n))
 (some (.exit 0 [c],H))
def zFD (D:Dyn)(n:Nat)(vs:List AV)(H:AH):Rs:=
 hd vs fun a vs=>
 bV (some a) fun b=>some (.ret b,H)
def UR (D:Dyn)(n:Nat)(vs:List AV)(H:AH):Rs:=
 hd vs fun a vs=>hd vs fun b vs=>hd vs fun c vs=>hd vs fun d vs=>
 jb 0 (qV n (Y4 D n) [a,b,c,d,c,(.int .i64 (.ofNat 0))] H) (zFD D n)
def f183 (D:Dyn)(n:Nat)(vs:List AV)(H:AH):Option (AV×AH):=
 outR (hd vs fun a vs=>nl vs <|
 bA (bxV 133 a) H fun b H=>
 bV (ldN 4 b H) fun c=>
 bR (f123 D n [c] H) fun d H=>
 bV (qO .sub d (.int .i64 (.ofNat 2))) fun e=>
 bV (qO .quo e (.int .i64 (.ofNat 2))) fun f=>
 bV (fAd 1 b) fun g=>
 bV (ld1 g H) fun h=>
 bV (lnSl h) fun i=>
 bV (qO .sub i (.int .i64 (.ofNat 1))) fun k=>
 bV (fAd 0 b) fun m=>
 bV (ld1 m H) fun o=>
 bV (aun .not o) fun p=>
 jn (cnd p (bV (qO .sub k (.int .i64 (.ofNat 1))) fun r=>
 some (.norm [b,f,r,(.int .i64 (.ofNat 16))],H))
 (some (.norm [b,f,k,(.int .i64 (.ofNat 0))],H))) (UR D n))
def h183:Hint:=(.s .o (.s .o (.s .o (.s .o (.s (.s .o (.c [1,3,4,5] (.s .o .o) .o)) (.s (.s .o (.b [4] (.l [1,3,4,5,20,21] (.s .o (.s (.cr .o .o) (.s (.b0 (.s .o (.s .o (.s (.s .o (.c [1,3,4,5,6,20,21] .o .o)) (.s .o (.cl (.s .o .o) .o)))))) .o)))))) (.s .o .o)))))))
theorem zFE {D:Dyn}(hD:DG D)(n:Nat):FI 183 (f183 D n):=qR (n:=n) (h:=h183) X_ok hD (sc (WW hD n) (SOk.nil)) Tryz.func183 (by kernel_rfl) (by kernel_rfl)
def s167 (D:Dyn)(n:Nat):Tb:=⟨X,[(107,f107 D n),(183,f183 D n),(109,f109 D n),(77,f77 D n)]⟩
def zFJ (D:Dyn)(n:Nat)(vs:List AV)(H:AH):Rs:=
 hd vs fun a vs=>hd vs fun b vs=>hd vs fun c vs=>hd vs fun d vs=>
 bV (ldN 4 b H) fun e=>
 bV (fAd 1 a) fun f=>
 bV (ld1 f H) fun g=>
 bV (jP 1 g d) fun h=>
 bV (ld1 h H) fun i=>
 bV (ldN 4 c H) fun k=>
 bR (stN 4 b e H) fun m H=>chk (ld1 f H) g <| chk (ld1 h H) i <| chk (ldN 4 c H) k <|
 bR (stN 4 c k H) fun o H=>
 bV (ldN 4 b H) fun p=>bV (some i) fun r=>bV (ldN 4 c H) fun t=>bV (some (.int .i64 (.ofNat 0))) fun u=>some (.ret (.tuple [p,r,t,u]),H)
def f167 (D:Dyn)(n:Nat)(vs:List AV)(H:AH):Option (AV×AH):=
 outR (hd vs fun a vs=>nl vs <|
 bA (bxV 133 a) H fun b H=>
 bA (bxV 133 (.agg [(.bool false), .nilSlice, .nilSlice, .nilSlice])) H fun c H=>
 bA (bxV 133 (.agg [(.bool false), .nilSlice, .nilSlice, .nilSlice])) H fun d H=>
 bV (ldN 4 b H) fun e=>
 bR (f107 D n [e] H) fun f H=>
 bV (aun .not f) fun g=>
 jn (wnt g false (bV (fAd 1 b) fun h=>
 bV (ld1 h H) fun i=>
 bV (lnSl i) fun k=>
 bV (qO .lss k (.int .i64 (.ofNat 2))) fun m=>
 some (.norm [m],H)) (some (.norm [qM],H))) fun vs H=>hd vs fun o vs=>
 bV (pk3 (some g) (some (.bool true)) (some o)) fun p=>
 jn (wnt p false (bV (fAd 0 b) fun r=>
 bV (ld1 r H) fun t=>
 bV (aun .not t) fun u=>
 some (.norm [u],H)) (some (.norm [qM],H))) fun vs H=>hd vs fun v vs=>
 jn (wnt v true (bV (fAd 1 b) fun w=>
 bV (ld1 w H) fun x=>
 bV (lnSl x) fun y=>
 bV (qO .lss y (.int .i64 (.ofNat 3))) fun z=>
 some (.norm [z],H)) (some (.norm [qM],H))) fun vs H=>hd vs fun B vs=>
 jn (wnt p false (bV (pk3 (some v) (some B) (some (.bool false))) fun C=>
 some (.norm [C],H)) (some (.norm [qM],H))) fun vs H=>hd vs fun E vs=>
 bV (pk3 (some p) (some (.bool true)) (some E)) fun F=>
 cnd F (bV (jX [(0,1),(1,1),(2,1),(3,1)] [(.bool false), .nilSlice, .nilSlice, .nilSlice] []) fun G=>
 bV (jX [(0,1),(1,1),(2,1),(3,1)] [(.bool false), .nilSlice, .nilSlice, .nilSlice] []) fun I=>
 bR (stN 4 c G H) fun J H=>
 bR (stN 4 d I H) fun K H=>
 bV (ldN 4 c H) fun M=>bV (some (.str 0 0)) fun N=>bV (ldN 4 d H) fun O=>bV (some (.int .i64 (.ofNat 1))) fun P=>some (.ret (.tuple [M,N,O,P]),H))
 (bV (ldN 4 b H) fun Q=>
 bR (f183 D n [Q] H) fun R H=>
 bV (fAd 0 b) fun T=>
 bV (ld1 T H) fun U=>
 bV (fAd 0 b) fun V=>
 bV (ld1 V H) fun W=>
 bV (fAd 0 c) fun Y=>
 bR (stN 1 Y U H) fun Z H=>chk (ld1 V H) W <|
 bV (fAd 0 d) fun a0=>
 bR (stN 1 a0 W H) fun a1 H=>
 bV (fAd 1 b) fun a2=>
 bV (ld1 a2 H) fun a3=>
 bV (jA 1 a3 none (some R) (some R) H) fun a4=>
 bR (f109 D n [a4] H) fun a5 H=>
 bV (fAd 1 c) fun a6=>
 bR (stN 1 a6 a5 H) fun a7 H=>
 bV (fAd 0 b) fun a8=>
 bV (ld1 a8 H) fun a9=>
 jn (cnd a9 (bV (fAd 1 b) fun b0=>
 bV (ld1 b0 H) fun b1=>
 bV (jA 1 b1 (some R) none none H) fun b2=>
 bR (f109 D n [b2] H) fun b3 H=>
 bV (fAd 1 d) fun b4=>
 bR (stN 1 b4 b3 H) fun b5 H=>
 bV (fAd 2 b) fun b6=>
 bV (ld1 b6 H) fun b7=>
 bV (jA 1 b7 none (some R) (some R) H) fun b8=>
 bV (fAd 2 b) fun b9=>
 bV (ld1 b9 H) fun c0=>
 bV (jA 1 c0 (some R) none none H) fun c1=>
 bR (f109 D n [b8] H) fun c2 H=>chk (ld1 b9 H) c0 <| chk (jA 1 c0 (some R) none none H) c1 <|
 bV (fAd 2 c) fun c3=>
 bR (f109 D n [c1] H) fun c4 H=>
 bR (stN 1 c3 c2 H) fun c5 H=>
 bV (fAd 2 d) fun c6=>
 bR (stN 1 c6 c4 H) fun c7 H=>
 some (.norm [b,c,d,R],H))
 (bV (fAd 1 b) fun c8=>
 bV (ld1 c8 H) fun c9=>
 bV (qO .add R (.int .i64 (.ofNat 1))) fun d0=>
 bV (jA 1 c9 (some d0) none none H) fun d1=>
 bR (f109 D n [d1] H) fun d2 H=>
 bV (fAd 1 d) fun d3=>
 bR (stN 1 d3 d2 H) fun d4 H=>
 bV (fAd 3 b) fun d5=>
 bV (ld1 d5 H) fun d6=>
 bV (qO .add R (.int .i64 (.ofNat 1))) fun d7=>
 bV (qO .add R (.int .i64 (.ofNat 1))) fun d8=>
 bV (jA 3 d6 none (some d7) (some d8) H) fun d9=>
 bV (fAd 3 b) fun e0=>
 bV (ld1 e0 H) fun e1=>
 bV (qO .add R (.int .i64 (.ofNat 1))) fun e2=>
 bV (jA 3 e1 (some e2) none none H) fun e3=>
 bR (f77 D n [d9] H) fun e4 H=>chk (ld1 e0 H) e1 <| chk (jA 3 e1 (some e2) none none H) e3 <|
 bV (fAd 3 c) fun e5=>
 bR (f77 D n [e3] H) fun e6 H=>
 bR (stN 1 e5 e4 H) fun e7 H=>
 bV (fAd 3 d) fun e8=>
 bR (stN 1 e8 e6 H) fun e9 H=>
 some (.norm [b,c,d,R],H))) (zFJ D n)))
def h167:Hint:=(.s .o (.s (.s .o (.cl (.s .o .o) .o)) (.s .o (.s .o (.s .o (.s (.s .o (.c [1,2,4,6] (.s .o .o) (.s .o .o))) (.s .o .o)))))))
theorem zFK {D:Dyn}(hD:DG D)(n:Nat):FI 167 (f167 D n):=qR (n:=n) (h:=h167) X_ok hD (sc (Y7 hD n) (sc (zFE hD n) (sc (WZ hD n) (sc (zFu hD n) (SOk.nil))))) Tryz.func167 (by kernel_rfl) (by kernel_rfl)
def s139 (D:Dyn)(n:Nat):Tb:=⟨X,[(123,f123 D n),(167,f167 D n)]⟩
def zCa (D:Dyn)(n:Nat)(vs:List AV)(H:AH):Rs:=
 hd vs fun a vs=>hd vs fun b vs=>hd vs fun c vs=>
 bV (ldN 4 a H) fun d=>
 bR (f123 D n [d] H) fun e H=>
 bV (qO .gtr e (.int .i64 (.ofNat 500))) fun f=>
 cnd f (bV (ldN 4 a H) fun g=>
 bR (f167 D n [g] H) fun h H=>
 bV (qK h 0) fun i=>
 bV (qK h 1) fun k=>
 bV (qK h 2) fun m=>
 bV (qK h 3) fun o=>
 bA (bxV 133 (.agg [(.bool false), .nilSlice, .nilSlice, .nilSlice])) H fun p H=>
 bA (bxV 133 (.agg [(.bool false), .nilSlice, .nilSlice, .nilSlice])) H fun r H=>
 bR (stN 4 p i H) fun t H=>
 bR (stN 4 r m H) fun u H=>
 bV (qO .neq o (.int .i64 (.ofNat 0))) fun v=>
 cnd v (bV (some .nilSlice) fun w=>bV (some .nilSlice) fun x=>bV (some (.int .i64 (.ofNat 4))) fun y=>some (.ret (.tuple [w,x,y]),H))
 (bV (ldN 4 p H) fun z=>
 bA (uM 133 4 1 [(.bool false), .nilSlice, .nilSlice, .nilSlice] [(0,z)]) H fun B H=>
 bR (apP 133 4 80 b B H) fun C H=>
 bA (uM 9 1 1 [(.str 0 0)] [(0,k)]) H fun E H=>
 bR (apP 9 1 16 c E H) fun F H=>
 bV (ldN 4 r H) fun G=>
 bR (stN 4 a G H) fun I H=>
 some (.norm [a,C,F],H)))
 (some (.exit 0 [a,b,c],H))
def zJv (D:Dyn)(n:Nat)(vs:List AV)(H:AH):Rs:=
 hd vs fun a vs=>hd vs fun b vs=>hd vs fun c vs=>
 bV (ldN 4 a H) fun d=>
 bA (uM 133 4 1 [(.bool false), .nilSlice, .nilSlice, .nilSlice] [(0,d)]) H fun e H=>
 bR (apP 133 4 80 b e H) fun f H=>
 bV (some f) fun g=>bV (some c) fun h=>bV (some (.int .i64 (.ofNat 0))) fun i=>some (.ret (.tuple [g,h,i]),H)
def f139 (D:Dyn)(n:Nat)(vs:List AV)(H:AH):Option (AV×AH):=
 outR (hd vs fun a vs=>nl vs <|
 bA (bxV 133 a) H fun b H=>
 jb 0 (qV n (zCa D n) [b, .nilSlice, .nilSlice] H) (zJv D n))
def h139:Hint:=(.s .o (.s .o (.s .o (.s (.b [1,5,6] (.l [1,5,6] (.s (.s .o (.cr .o .o)) (.b0 (.s .o (.s (.s .o (.cl (.s .o .o) .o)) (.s .o (.s .o .o)))))))) (.s .o .o)))))
theorem zAO {D:Dyn}(hD:DG D)(n:Nat):FI 139 (f139 D n):=qR (n:=n) (h:=h139) X_ok hD (sc (WW hD n) (sc (zFK hD n) (SOk.nil))) Tryz.func139 (by kernel_rfl) (by kernel_rfl)
def s141 (D:Dyn)(n:Nat):Tb:=⟨X,[(102,f102 D n)]⟩
def UT (D:Dyn)(n:Nat)(vs:List AV)(H:AH):Rs:=
 hd vs fun a vs=>hd vs fun b vs=>hd vs fun c vs=>hd vs fun d vs=>hd vs fun e vs=>
 bV (qO .lss e d) fun f=>
 cnd f (bV (jP 4 c e) fun g=>
 bV (ldN 4 g H) fun h=>
 bA (bxV 133 (.agg [(.bool false), .nilSlice, .nilSlice, .nilSlice])) H fun i H=>
 bR (stN 4 i h H) fun k H=>
 bV (ldN 4 i H) fun m=>
 bR (f102 D n [a,m] H) fun o H=>
 bA (uM 72 3 1 [(.int .i64 (.ofNat 0)),(.int .i64 (.ofNat 0)),(.int .u64 (.ofNat 0))] [(0,o)]) H fun p H=>
 bR (apP 72 3 24 b p H) fun r H=>
 bV (qO .add e (.int .i64 (.ofNat 1))) fun t=>
 some (.norm [a,r,c,d,t],H))
 (some (.exit 0 [b],H))
def zJr (D:Dyn)(n:Nat)(vs:List AV)(H:AH):Rs:=
 hd vs fun a vs=>
 bV (some a) fun b=>some (.ret b,H)
def f141 (D:Dyn)(n:Nat)(vs:List AV)(H:AH):Option (AV×AH):=
 outR (hd vs fun a vs=>hd vs fun b vs=>nl vs <|
 bV (lnSl b) fun c=>
 jb 0 (qV n (UT D n) [a, .nilSlice,b,c,(.int .i64 (.ofNat 0))] H) (zJr D n))
def h141:Hint:=(.s .o (.s .o (.s (.s .o (.b [5] (.l [0,5,8,9,10] (.s .o (.s (.cr .o .o) (.s (.b0 (.s .o .o)) .o)))))) (.s .o .o))))
theorem zAM {D:Dyn}(hD:DG D)(n:Nat):FI 141 (f141 D n):=qR (n:=n) (h:=h141) X_ok hD (sc (X2 hD n) (SOk.nil)) Tryz.func141 (by kernel_rfl) (by kernel_rfl)
def s106 (D:Dyn)(n:Nat):Tb:=⟨X,[(101,f101 D n),(139,f139 D n),(141,f141 D n),(102,f102 D n)]⟩
def zG4 (D:Dyn)(n:Nat)(vs:List AV)(H:AH):Rs:=
 bV (some (.int .i64 (.ofNat 0))) fun a=>some (.ret a,H)
def zG3 (D:Dyn)(n:Nat)(vs:List AV)(H:AH):Rs:=
 bV (some (.int .i64 (.ofNat 0))) fun a=>some (.ret a,H)
def f106 (D:Dyn)(n:Nat)(vs:List AV)(H:AH):Option (AV×AH):=
 outR (hd vs fun a vs=>hd vs fun b vs=>nl vs <|
 bA (bxV 133 b) H fun c H=>
 bV (fAd 1 c) fun d=>
 bV (ld1 d H) fun e=>
 bV (lnSl e) fun f=>
 bV (qO .eql f (.int .i64 (.ofNat 0))) fun g=>
 cnd g (bV (fAd 0 c) fun h=>
 bV (ld1 h H) fun i=>
 jn (cnd i (bV (jX [(0,1),(1,1),(2,1)] [(.int .i64 (.ofNat 0)),(.int .i64 (.ofNat 0)),(.int .u64 (.ofNat 0))] []) fun k=>
 bR (f101 D n [a,k] H) fun m H=>
 some (.norm [],H))
 (bV (fAd 3 c) fun o=>
 bV (ld1 o H) fun p=>
 bV (jP 3 p (.int .i64 (.ofNat 0))) fun r=>
 bV (ldN 3 r H) fun t=>
 bR (f101 D n [a,t] H) fun u H=>
 some (.norm [],H))) (zG4 D n))
 (bV (ldN 4 c H) fun v=>
 bR (f139 D n [v] H) fun w H=>
 bV (qK w 0) fun x=>
 bV (qK w 1) fun y=>
 bV (qK w 2) fun z=>
 bV (qO .neq z (.int .i64 (.ofNat 0))) fun B=>
 cnd B (bV (some z) fun C=>some (.ret C,H))
 (bR (f141 D n [a,x] H) fun E H=>
 bV (lnSl E) fun F=>
 bV (qO .eql F (.int .i64 (.ofNat 1))) fun G=>
 jn (cnd G (bV (jP 3 E (.int .i64 (.ofNat 0))) fun I=>
 bV (ldN 3 I H) fun J=>
 bR (f101 D n [a,J] H) fun K H=>
 some (.norm [],H))
 (bV (jX [(0,1),(1,1),(2,1),(3,1)] [(.bool false), .nilSlice, .nilSlice, .nilSlice] [(1,y),(3,E)]) fun M=>
 bR (f102 D n [a,M] H) fun N H=>
 bR (f101 D n [a,N] H) fun O H=>
 some (.norm [],H))) (zG3 D n))))
def h106:Hint:=(.s .o (.s (.s .o (.cl (.s (.s .o (.c [] .o .o)) (.s .o .o)) .o)) (.s .o (.s (.s .o (.cl (.s .o .o) .o)) (.s .o (.s (.s .o (.c [] .o .o)) (.s .o .o)))))))
theorem zG5 {D:Dyn}(hD:DG D)(n:Nat):FI 106 (f106 D n):=qR (n:=n) (h:=h106) X_ok hD (sc (zAS hD n) (sc (zAO hD n) (sc (zAM hD n) (sc (X2 hD n) (SOk.nil))))) Tryz.func106 (by kernel_rfl) (by kernel_rfl)
def s68 (D:Dyn)(n:Nat):Tb:=⟨X,[]⟩
def f68 (D:Dyn)(n:Nat)(vs:List AV)(H:AH):Option (AV×AH):=
 outR (hd vs fun a vs=>nl vs <|
 bV (xL a) fun b=>
 bV (fAd 5 b) fun c=>
 bV (ld1 c H) fun d=>
 bV (ZG d H) fun e=>
 bV (qO .add (.int .i64 (.ofNat 8192)) e) fun f=>
 bV (some f) fun g=>some (.ret g,H))
def h68:Hint:=(.s .o (.s .o .o))
theorem zFw {D:Dyn}(hD:DG D)(n:Nat):FI 68 (f68 D n):=qR (n:=n) (h:=h68) X_ok hD (SOk.nil) Tryz.func68 (by kernel_rfl) (by kernel_rfl)
def s105 (D:Dyn)(n:Nat):Tb:=⟨X,[]⟩
def f105 (D:Dyn)(n:Nat)(vs:List AV)(H:AH):Option (AV×AH):=
 outR (hd vs fun a vs=>hd vs fun b vs=>nl vs <|
 bA (bxV 72 b) H fun c H=>
 bV (xL a) fun d=>
 bV (fAd 3 d) fun e=>
 bV (ld1 e H) fun f=>
 bV (ldN 3 c H) fun g=>
 bA (uM 72 3 1 [(.int .i64 (.ofNat 0)),(.int .i64 (.ofNat 0)),(.int .u64 (.ofNat 0))] [(0,g)]) H fun h H=>
 bR (apP 72 3 24 f h H) fun i H=>
 bV (xL a) fun k=>
 bV (fAd 3 k) fun m=>
 bR (stN 1 m i H) fun o H=>
 some (.ret (.tuple []),H))
def h105:Hint:=(.s .o .o)
theorem zAR {D:Dyn}(hD:DG D)(n:Nat):FI 105 (f105 D n):=qR (n:=n) (h:=h105) X_ok hD (SOk.nil) Tryz.func105 (by kernel_rfl) (by kernel_rfl)
def s166 (D:Dyn)(n:Nat):Tb:=⟨X,[(108,f108 D n)]⟩
def f166 (D:Dyn)(n:Nat)(vs:List AV)(H:AH):Option (AV×AH):=
 outR (hd vs fun a vs=>hd vs fun b vs=>hd vs fun c vs=>nl vs <|
 bA (bxV 133 a) H fun d H=>
 bA (bxV 133 c) H fun e H=>
 bR (f108 D n [b] H) fun f H=>
 bV (aun .not f) fun g=>
 jn (wnt g false (bV (fAd 0 d) fun h=>
 bV (ld1 h H) fun i=>
 bV (fAd 0 e) fun k=>
 bV (ld1 k H) fun m=>
 bV (fU .neq i m) fun o=>
 some (.norm [o],H)) (some (.norm [qM],H))) fun vs H=>hd vs fun p vs=>
 bV (pk3 (some g) (some (.bool true)) (some p)) fun r=>
 cnd r (bV (some (.bool false)) fun t=>some (.ret t,H))
 (bV (fAd 1 d) fun u=>
 bV (ld1 u H) fun v=>
 bV (lnSl v) fun w=>
 bV (qO .gtr w (.int .i64 (.ofNat 0))) fun x=>
 jn (wnt x true (bV (fAd 1 d) fun y=>
 bV (ld1 y H) fun z=>
 bV (qO .sub w (.int .i64 (.ofNat 1))) fun B=>
 bV (jP 1 z B) fun C=>
 bV (ld1 C H) fun E=>
 bV (k7 .geq E b) fun F=>
 some (.norm [F],H)) (some (.norm [qM],H))) fun vs H=>hd vs fun G vs=>
 bV (pk3 (some x) (some G) (some (.bool false))) fun I=>
 cnd I (bV (some (.bool false)) fun J=>some (.ret J,H))
 (bV (fAd 1 e) fun K=>
 bV (ld1 K H) fun M=>
 bV (lnSl M) fun N=>
 bV (qO .eql N (.int .i64 (.ofNat 0))) fun O=>
 cnd O (bV (some (.bool true)) fun P=>some (.ret P,H))
 (bV (fAd 1 e) fun Q=>
 bV (ld1 Q H) fun R=>
 bV (jP 1 R (.int .i64 (.ofNat 0))) fun T=>
 bV (ld1 T H) fun U=>
 bV (k7 .lss b U) fun V=>
 jn (wnt V false (bV (fAd 0 d) fun W=>
 bV (ld1 W H) fun Y=>
 some (.norm [Y],H)) (some (.norm [qM],H))) fun vs H=>hd vs fun Z vs=>
 jn (wnt Z true (bV (fAd 1 e) fun a0=>
 bV (ld1 a0 H) fun a1=>
 bV (jP 1 a1 (.int .i64 (.ofNat 0))) fun a2=>
 bV (ld1 a2 H) fun a3=>
 bV (k7 .eql b a3) fun a4=>
 some (.norm [a4],H)) (some (.norm [qM],H))) fun vs H=>hd vs fun a5 vs=>
 jn (wnt V false (bV (pk3 (some Z) (some a5) (some (.bool false))) fun a6=>
 some (.norm [a6],H)) (some (.norm [qM],H))) fun vs H=>hd vs fun a7 vs=>
 bV (pk3 (some V) (some (.bool true)) (some a7)) fun a8=>
 bV (some a8) fun a9=>some (.ret a9,H)))))
def h166:Hint:=(.s .o (.s (.s .o (.cl (.s .o .o) .o)) (.s (.s .o (.s .o (.cl (.s .o .o) .o))) (.s (.s .o (.cl (.s .o .o) .o)) (.s .o .o)))))
theorem zFL {D:Dyn}(hD:DG D)(n:Nat):FI 166 (f166 D n):=qR (n:=n) (h:=h166) X_ok hD (sc (X0 hD n) (SOk.nil)) Tryz.func166 (by kernel_rfl) (by kernel_rfl)
def s144 (D:Dyn)(n:Nat):Tb:=⟨X,[]⟩
def zFQ (D:Dyn)(n:Nat)(vs:List AV)(H:AH):Rs:=
 hd vs fun a vs=>
 bV (some a) fun b=>some (.ret b,H)
def zFP (D:Dyn)(n:Nat)(vs:List AV)(H:AH):Rs:=
 hd vs fun a vs=>hd vs fun b vs=>
 bV (zDo X 37 a) fun c=>
 bV (lnSl a) fun d=>
 bV (qO .sub c d) fun e=>
 bV (qO .sub b e) fun f=>
 bV (qO .gtr f (.int .i64 (.ofNat 0))) fun g=>
 jn (cnd g (bV (zDo X 37 a) fun h=>
 bV (jA 1 a none (some h) none H) fun i=>
 bR (apZ 9 1 16 [(.str 0 0)] i f H) fun k H=>
 bV (lnSl a) fun m=>
 bV (jA 1 k none (some m) none H) fun o=>
 some (.norm [o],H))
 (some (.norm [a],H))) (zFQ D n)
def f144 (D:Dyn)(n:Nat)(vs:List AV)(H:AH):Option (AV×AH):=
 outR (hd vs fun a vs=>hd vs fun b vs=>nl vs <|
 bV (qO .lss b (.int .i64 (.ofNat 0))) fun c=>
 jn (cnd c (none)
 (some (.norm [a,b],H))) (zFP D n))
def h144:Hint:=(.s .o (.s (.s .o (.c [0,1] .o .o)) (.s (.s .o (.s .o (.c [0] .o .o))) (.s .o .o))))
theorem zFR {D:Dyn}(hD:DG D)(n:Nat):FI 144 (f144 D n):=qR (n:=n) (h:=h144) X_ok hD (SOk.nil) Tryz.func144 (by kernel_rfl) (by kernel_rfl)
def s111 (D:Dyn)(n:Nat):Tb:=⟨X,[(144,f144 D n)]⟩
def zJC (D:Dyn)(n:Nat)(vs:List AV)(H:AH):Rs:=
 hd vs fun a vs=>hd vs fun b vs=>hd vs fun c vs=>hd vs fun d vs=>hd vs fun e vs=>
 bV (qO .add e (.int .i64 (.ofNat 1))) fun f=>
 some (.norm [a,b,c,d,f],H)
def zCe (D:Dyn)(n:Nat)(vs:List AV)(H:AH):Rs:=
 hd vs fun a vs=>hd vs fun b vs=>hd vs fun c vs=>hd vs fun d vs=>hd vs fun e vs=>
 bV (qO .lss e d) fun f=>
 cnd f (bV (jP 1 c e) fun g=>
 bV (ld1 g H) fun h=>
 bV (lnSl h) fun i=>
 bV (qO .add b i) fun k=>
 bV (qO .lss k (.int .i64 (.ofNat 0))) fun m=>
 jn (cnd m (none)
 (some (.norm [a,k,c,d,e],H))) (zJC D n))
 (some (.exit 0 [a,b],H))
def UZ (D:Dyn)(n:Nat)(vs:List AV)(H:AH):Rs:=
 hd vs fun a vs=>hd vs fun b vs=>hd vs fun c vs=>hd vs fun d vs=>
 bV (qO .lss d c) fun e=>
 cnd e (bV (jP 1 b d) fun f=>
 bV (ld1 f H) fun g=>
 bR (apP 9 1 16 a g H) fun h H=>
 bV (qO .add d (.int .i64 (.ofNat 1))) fun i=>
 some (.norm [h,b,c,i],H))
 (some (.exit 2 [a],H))
def zJE (D:Dyn)(n:Nat)(vs:List AV)(H:AH):Rs:=
 hd vs fun a vs=>
 bV (some a) fun b=>some (.ret b,H)
def zJD (D:Dyn)(n:Nat)(vs:List AV)(H:AH):Rs:=
 hd vs fun a vs=>hd vs fun b vs=>
 bR (f144 D n [.nilSlice,b] H) fun c H=>
 bV (lnSl a) fun d=>
 jb 2 (qV n (UZ D n) [c,a,d,(.int .i64 (.ofNat 0))] H) (zJE D n)
def f111 (D:Dyn)(n:Nat)(vs:List AV)(H:AH):Option (AV×AH):=
 outR (hd vs fun a vs=>nl vs <|
 bV (lnSl a) fun b=>
 jb 0 (qV n (zCe D n) [a,(.int .i64 (.ofNat 0)),a,b,(.int .i64 (.ofNat 0))] H) (zJD D n))
def h111:Hint:=(.s .o (.s .o (.s (.s .o (.b [0,3] (.l [0,3,9,10,11] (.s .o (.s (.cr .o .o) (.s (.b0 (.s .o (.s .o (.s .o (.c [0,3,9,10,11] .o .o))))) .o)))))) (.s .o (.s (.s .o (.b [6] (.l [6,25,26,27] (.s .o (.s (.cr .o .o) (.s (.b0 (.s .o .o)) .o)))))) (.s .o .o))))))
theorem WY {D:Dyn}(hD:DG D)(n:Nat):FI 111 (f111 D n):=qR (n:=n) (h:=h111) X_ok hD (sc (zFR hD n) (SOk.nil)) Tryz.func111 (by kernel_rfl) (by kernel_rfl)
def s168 (D:Dyn)(n:Nat):Tb:=⟨X,[]⟩
def zFH (D:Dyn)(n:Nat)(vs:List AV)(H:AH):Rs:=
 hd vs fun a vs=>
 bV (some a) fun b=>some (.ret b,H)
def zFG (D:Dyn)(n:Nat)(vs:List AV)(H:AH):Rs:=
 hd vs fun a vs=>hd vs fun b vs=>
 bV (zDo X 77 a) fun c=>
 bV (lnSl a) fun d=>
 bV (qO .sub c d) fun e=>
 bV (qO .sub b e) fun f=>
 bV (qO .gtr f (.int .i64 (.ofNat 0))) fun g=>
 jn (cnd g (bV (zDo X 77 a) fun h=>
 bV (jA 3 a none (some h) none H) fun i=>
 bR (apZ 72 3 24 [(.int .i64 (.ofNat 0)),(.int .i64 (.ofNat 0)),(.int .u64 (.ofNat 0))] i f H) fun k H=>
 bV (lnSl a) fun m=>
 bV (jA 3 k none (some m) none H) fun o=>
 some (.norm [o],H))
 (some (.norm [a],H))) (zFH D n)
def f168 (D:Dyn)(n:Nat)(vs:List AV)(H:AH):Option (AV×AH):=
 outR (hd vs fun a vs=>hd vs fun b vs=>nl vs <|
 bV (qO .lss b (.int .i64 (.ofNat 0))) fun c=>
 jn (cnd c (none)
 (some (.norm [a,b],H))) (zFG D n))
def h168:Hint:=(.s .o (.s (.s .o (.c [0,1] .o .o)) (.s (.s .o (.s .o (.c [0] .o .o))) (.s .o .o))))
theorem zFI {D:Dyn}(hD:DG D)(n:Nat):FI 168 (f168 D n):=qR (n:=n) (h:=h168) X_ok hD (SOk.nil) Tryz.func168 (by kernel_rfl) (by kernel_rfl)
def s140 (D:Dyn)(n:Nat):Tb:=⟨X,[(168,f168 D n)]⟩
def zJs (D:Dyn)(n:Nat)(vs:List AV)(H:AH):Rs:=
 hd vs fun a vs=>hd vs fun b vs=>hd vs fun c vs=>hd vs fun d vs=>hd vs fun e vs=>
 bV (qO .add e (.int .i64 (.ofNat 1))) fun f=>
 some (.norm [a,b,c,d,f],H)
def zC9 (D:Dyn)(n:Nat)(vs:List AV)(H:AH):Rs:=
 hd vs fun a vs=>hd vs fun b vs=>hd vs fun c vs=>hd vs fun d vs=>hd vs fun e vs=>
 bV (qO .lss e d) fun f=>
 cnd f (bV (jP 1 c e) fun g=>
 bV (ld1 g H) fun h=>
 bV (lnSl h) fun i=>
 bV (qO .add b i) fun k=>
 bV (qO .lss k (.int .i64 (.ofNat 0))) fun m=>
 jn (cnd m (none)
 (some (.norm [a,k,c,d,e],H))) (zJs D n))
 (some (.exit 0 [a,b],H))
def UU (D:Dyn)(n:Nat)(vs:List AV)(H:AH):Rs:=
 hd vs fun a vs=>hd vs fun b vs=>hd vs fun c vs=>hd vs fun d vs=>
 bV (qO .lss d c) fun e=>
 cnd e (bV (jP 1 b d) fun f=>
 bV (ld1 f H) fun g=>
 bR (apP 72 3 24 a g H) fun h H=>
 bV (qO .add d (.int .i64 (.ofNat 1))) fun i=>
 some (.norm [h,b,c,i],H))
 (some (.exit 2 [a],H))
def zJu (D:Dyn)(n:Nat)(vs:List AV)(H:AH):Rs:=
 hd vs fun a vs=>
 bV (some a) fun b=>some (.ret b,H)
def zJt (D:Dyn)(n:Nat)(vs:List AV)(H:AH):Rs:=
 hd vs fun a vs=>hd vs fun b vs=>
 bR (f168 D n [.nilSlice,b] H) fun c H=>
 bV (lnSl a) fun d=>
 jb 2 (qV n (UU D n) [c,a,d,(.int .i64 (.ofNat 0))] H) (zJu D n)
def f140 (D:Dyn)(n:Nat)(vs:List AV)(H:AH):Option (AV×AH):=
 outR (hd vs fun a vs=>nl vs <|
 bV (lnSl a) fun b=>
 jb 0 (qV n (zC9 D n) [a,(.int .i64 (.ofNat 0)),a,b,(.int .i64 (.ofNat 0))] H) (zJt D n))
def h140:Hint:=(.s .o (.s .o (.s (.s .o (.b [0,3] (.l [0,3,9,10,11] (.s .o (.s (.cr .o .o) (.s (.b0 (.s .o (.s .o (.s .o (.c [0,3,9,10,11] .o .o))))) .o)))))) (.s .o (.s (.s .o (.b [6] (.l [6,25,26,27] (.s .o (.s (.cr .o .o) (.s (.b0 (.s .o .o)) .o)))))) (.s .o .o))))))
theorem zAN {D:Dyn}(hD:DG D)(n:Nat):FI 140 (f140 D n):=qR (n:=n) (h:=h140) X_ok hD (sc (zFI hD n) (SOk.nil)) Tryz.func140 (by kernel_rfl) (by kernel_rfl)
def s138 (D:Dyn)(n:Nat):Tb:=⟨X,[(107,f107 D n),(166,f166 D n),(111,f111 D n),(140,f140 D n)]⟩
def f138 (D:Dyn)(n:Nat)(vs:List AV)(H:AH):Option (AV×AH):=
 outR (hd vs fun a vs=>hd vs fun b vs=>hd vs fun c vs=>nl vs <|
 bA (bxV 133 a) H fun d H=>
 bA (bxV 133 c) H fun e H=>
 bA (bxV 133 (.agg [(.bool false), .nilSlice, .nilSlice, .nilSlice])) H fun f H=>
 bV (ldN 4 d H) fun g=>
 bR (f107 D n [g] H) fun h H=>
 bV (aun .not h) fun i=>
 jn (wnt i false (bV (ldN 4 e H) fun k=>
 bR (f107 D n [k] H) fun m H=>
 bV (aun .not m) fun o=>
 some (.norm [o],H)) (some (.norm [qM],H))) fun vs H=>hd vs fun p vs=>
 bV (pk3 (some i) (some (.bool true)) (some p)) fun r=>
 jn (wnt r false (bV (ldN 4 d H) fun t=>
 bV (ldN 4 e H) fun u=>
 bR (f166 D n [t,b,u] H) fun v H=>
 bV (aun .not v) fun w=>
 some (.norm [w],H)) (some (.norm [qM],H))) fun vs H=>hd vs fun x vs=>
 bV (pk3 (some r) (some (.bool true)) (some x)) fun y=>
 cnd y (bV (jX [(0,1),(1,1),(2,1),(3,1)] [(.bool false), .nilSlice, .nilSlice, .nilSlice] []) fun z=>
 bR (stN 4 f z H) fun B H=>
 bV (ldN 4 f H) fun C=>bV (some (.int .i64 (.ofNat 1))) fun E=>some (.ret (.tuple [C,E]),H))
 (bV (fAd 0 d) fun F=>
 bV (ld1 F H) fun G=>
 cnd G (bV (fAd 1 d) fun I=>
 bV (ld1 I H) fun J=>
 bV (fAd 1 e) fun K=>
 bV (ld1 K H) fun M=>
 bA (uM 37 1 2 [.nilSlice] [(0,J),(1,M)]) H fun N H=>
 bV (fAd 2 d) fun O=>
 bV (ld1 O H) fun P=>
 bV (fAd 2 e) fun Q=>
 bV (ld1 Q H) fun R=>
 bA (uM 37 1 2 [.nilSlice] [(0,P),(1,R)]) H fun T H=>
 bR (f111 D n [N] H) fun U H=>chk (ld1 O H) P <| chk (ld1 Q H) R <|
 bR (f111 D n [T] H) fun V H=>
 bV (jX [(0,1),(1,1),(2,1),(3,1)] [(.bool false), .nilSlice, .nilSlice, .nilSlice] [(0,(.bool true)),(1,U),(2,V)]) fun W=>
 bR (stN 4 f W H) fun Y H=>
 bV (ldN 4 f H) fun Z=>bV (some (.int .i64 (.ofNat 0))) fun a0=>some (.ret (.tuple [Z,a0]),H))
 (bV (fAd 1 d) fun a1=>
 bV (ld1 a1 H) fun a2=>
 bA (uM 9 1 1 [(.str 0 0)] [(0,b)]) H fun a3 H=>
 bV (fAd 1 e) fun a4=>
 bV (ld1 a4 H) fun a5=>
 bA (uM 37 1 3 [.nilSlice] [(0,a2),(1,a3),(2,a5)]) H fun a6 H=>
 bV (fAd 3 d) fun a7=>
 bV (ld1 a7 H) fun a8=>
 bV (fAd 3 e) fun a9=>
 bV (ld1 a9 H) fun b0=>
 bA (uM 77 1 2 [.nilSlice] [(0,a8),(1,b0)]) H fun b1 H=>
 bR (f111 D n [a6] H) fun b2 H=>chk (ld1 a7 H) a8 <| chk (ld1 a9 H) b0 <|
 bR (f140 D n [b1] H) fun b3 H=>
 bV (jX [(0,1),(1,1),(2,1),(3,1)] [(.bool false), .nilSlice, .nilSlice, .nilSlice] [(1,b2),(3,b3)]) fun b4=>
 bR (stN 4 f b4 H) fun b5 H=>
 bV (ldN 4 f H) fun b6=>bV (some (.int .i64 (.ofNat 0))) fun b7=>some (.ret (.tuple [b6,b7]),H))))
def h138:Hint:=(.s .o (.s (.s .o (.cl (.s .o .o) .o)) (.s (.s .o (.cl (.s .o .o) .o)) (.s .o .o))))
theorem zFS {D:Dyn}(hD:DG D)(n:Nat):FI 138 (f138 D n):=qR (n:=n) (h:=h138) X_ok hD (sc (Y7 hD n) (sc (zFL hD n) (sc (WY hD n) (sc (zAN hD n) (SOk.nil))))) Tryz.func138 (by kernel_rfl) (by kernel_rfl)
def s104 (D:Dyn)(n:Nat):Tb:=⟨X,[(123,f123 D n),(69,f69 D n),(105,f105 D n),(138,f138 D n),(139,f139 D n),(111,f111 D n),(141,f141 D n),(140,f140 D n)]⟩
def zG7 (D:Dyn)(n:Nat)(vs:List AV)(H:AH):Rs:=
 hd vs fun a vs=>hd vs fun b vs=>hd vs fun c vs=>hd vs fun d vs=>hd vs fun e vs=>hd vs fun f vs=>hd vs fun g vs=>
 bV (qO .neq g (.int .i64 (.ofNat 0))) fun h=>
 cnd h (bV (jX [(0,1),(1,1),(2,1),(3,1)] [(.bool false), .nilSlice, .nilSlice, .nilSlice] []) fun i=>
 bR (stN 4 d i H) fun k H=>
 bV (ldN 4 d H) fun m=>bV (some (.int .i64 (.ofNat 4))) fun o=>some (.ret (.tuple [m,o]),H))
 (some (.norm [a,b,c,d,e,f],H))
def zG6 (D:Dyn)(n:Nat)(vs:List AV)(H:AH):Rs:=
 hd vs fun a vs=>hd vs fun b vs=>hd vs fun c vs=>hd vs fun d vs=>hd vs fun e vs=>hd vs fun f vs=>
 bV (xL a) fun g=>
 bV (fAd 0 g) fun h=>
 bV (ld1 h H) fun i=>
 bV (fAd 3 c) fun k=>
 bV (ld1 k H) fun m=>
 bV (jP 3 m f) fun o=>
 bV (ldN 3 o H) fun p=>
 bA (bxV 133 (.agg [(.bool false), .nilSlice, .nilSlice, .nilSlice])) H fun r H=>
 bR (f69 D n [i,p] H) fun t H=>
 bV (qK t 0) fun u=>
 bV (qK t 1) fun v=>
 bR (stN 4 r u H) fun w H=>
 bV (qO .neq v (.int .i64 (.ofNat 0))) fun x=>
 cnd x (bV (jX [(0,1),(1,1),(2,1),(3,1)] [(.bool false), .nilSlice, .nilSlice, .nilSlice] []) fun y=>
 bR (stN 4 e y H) fun z H=>
 bV (ldN 4 e H) fun B=>bV (some v) fun C=>some (.ret (.tuple [B,C]),H))
 (bV (fAd 3 c) fun E=>
 bV (ld1 E H) fun F=>
 bV (jP 3 F f) fun G=>
 bV (ldN 3 G H) fun I=>
 bR (f105 D n [a,I] H) fun J H=>
 bV (mn2 b f) fun K=>
 bV (mx2 b f) fun M=>
 bV (qO .add M (.int .i64 (.ofNat 1))) fun N=>
 bV (qO .lss f b) fun O=>
 jn (cnd O (bV (ldN 4 r H) fun P=>
 bV (fAd 1 c) fun Q=>
 bV (ld1 Q H) fun R=>
 bV (jP 1 R K) fun T=>
 bV (ld1 T H) fun U=>
 bV (ldN 4 d H) fun V=>
 bR (f138 D n [P,U,V] H) fun W H=>
 bV (qK W 0) fun Y=>
 bV (qK W 1) fun Z=>
 bR (stN 4 d Y H) fun a0 H=>
 some (.norm [a,c,d,e,K,N,Z],H))
 (bV (ldN 4 d H) fun a1=>
 bV (fAd 1 c) fun a2=>
 bV (ld1 a2 H) fun a3=>
 bV (jP 1 a3 K) fun a4=>
 bV (ld1 a4 H) fun a5=>
 bV (ldN 4 r H) fun a6=>
 bR (f138 D n [a1,a5,a6] H) fun a7 H=>
 bV (qK a7 0) fun a8=>
 bV (qK a7 1) fun a9=>
 bR (stN 4 d a8 H) fun b0 H=>
 some (.norm [a,c,d,e,K,N,a9],H))) (zG7 D n))
def BA (D:Dyn)(n:Nat)(vs:List AV)(H:AH):Rs:=
 hd vs fun a vs=>hd vs fun b vs=>hd vs fun c vs=>hd vs fun d vs=>hd vs fun e vs=>hd vs fun f vs=>
 bV (ldN 4 c H) fun g=>
 bR (f139 D n [g] H) fun h H=>
 bV (qK h 0) fun i=>
 bV (qK h 1) fun k=>
 bV (qK h 2) fun m=>
 bV (qO .neq m (.int .i64 (.ofNat 0))) fun o=>
 cnd o (bV (jX [(0,1),(1,1),(2,1),(3,1)] [(.bool false), .nilSlice, .nilSlice, .nilSlice] []) fun p=>
 bR (stN 4 d p H) fun r H=>
 bV (ldN 4 d H) fun t=>bV (some m) fun u=>some (.ret (.tuple [t,u]),H))
 (bV (fAd 1 b) fun v=>
 bV (ld1 v H) fun w=>
 bV (jA 1 w none (some e) (some e) H) fun x=>
 bV (fAd 1 b) fun y=>
 bV (ld1 y H) fun z=>
 bV (qO .sub f (.int .i64 (.ofNat 1))) fun B=>
 bV (jA 1 z (some B) none none H) fun C=>
 bA (uM 37 1 3 [.nilSlice] [(0,x),(1,k),(2,C)]) H fun E H=>
 bV (fAd 3 b) fun F=>
 bV (ld1 F H) fun G=>
 bV (jA 3 G none (some e) (some e) H) fun I=>
 bV (fAd 3 b) fun J=>
 bV (ld1 J H) fun K=>
 bV (jA 3 K (some f) none none H) fun M=>
 bR (f111 D n [E] H) fun N H=>chk (ld1 F H) G <| chk (jA 3 G none (some e) (some e) H) I <| chk (ld1 J H) K <| chk (jA 3 K (some f) none none H) M <|
 bR (f141 D n [a,i] H) fun O H=>chk (ld1 F H) G <| chk (jA 3 G none (some e) (some e) H) I <| chk (ld1 J H) K <| chk (jA 3 K (some f) none none H) M <|
 bA (uM 77 1 3 [.nilSlice] [(0,I),(1,O),(2,M)]) H fun P H=>
 bR (f140 D n [P] H) fun Q H=>
 bV (jX [(0,1),(1,1),(2,1),(3,1)] [(.bool false), .nilSlice, .nilSlice, .nilSlice] [(1,N),(3,Q)]) fun R=>
 bR (stN 4 d R H) fun T H=>
 bV (ldN 4 d H) fun U=>bV (some (.int .i64 (.ofNat 0))) fun V=>some (.ret (.tuple [U,V]),H))
def f104 (D:Dyn)(n:Nat)(vs:List AV)(H:AH):Option (AV×AH):=
 outR (hd vs fun a vs=>hd vs fun b vs=>hd vs fun c vs=>hd vs fun d vs=>nl vs <|
 bA (bxV 133 b) H fun e H=>
 bA (bxV 133 d) H fun f H=>
 bA (bxV 133 (.agg [(.bool false), .nilSlice, .nilSlice, .nilSlice])) H fun g H=>
 bV (qO .add c (.int .i64 (.ofNat 1))) fun h=>
 bV (ldN 4 f H) fun i=>
 bR (f123 D n [i] H) fun k H=>
 bV (qO .lss k (.int .i64 (.ofNat 160))) fun m=>
 jn (cnd m (bV (qO .sub c (.int .i64 (.ofNat 1))) fun o=>
 bV (qO .eql c (.int .i64 (.ofNat 0))) fun p=>
 jn (cnd p (some (.norm [a,c,e,f,g,(.int .i64 (.ofNat 1))],H))
 (some (.norm [a,c,e,f,g,o],H))) (zG6 D n))
 (some (.norm [a,e,f,g,c,h],H))) (BA D n))
def h104:Hint:=(.s .o (.s .o (.s (.s .o (.c [0,5,7,8,10,11] (.s .o (.s (.s .o (.c [0,2,5,7,8,12] .o .o)) (.s .o (.s (.s .o (.cl (.s .o .o) .o)) (.s .o (.s .o (.s (.s .o (.c [0,5,7,8,10,11,14] .o .o)) (.s .o (.cl (.s .o .o) .o))))))))) .o)) (.s .o (.s (.s .o (.cl (.s .o .o) .o)) (.s .o .o))))))
theorem zG8 {D:Dyn}(hD:DG D)(n:Nat):FI 104 (f104 D n):=qR (n:=n) (h:=h104) X_ok hD (sc (WW hD n) (sc (UP hD n) (sc (zAR hD n) (sc (zFS hD n) (sc (zAO hD n) (sc (WY hD n) (sc (zAM hD n) (sc (zAN hD n) (SOk.nil))))))))) Tryz.func104 (by kernel_rfl) (by kernel_rfl)
def zLw (D:Dyn)(n:Nat):Tb:=⟨X,[(68,f68 D n),(69,f69 D n),(70,f70 D n),(104,f104 D n),(105,f105 D n)]⟩
def BB (D:Dyn)(n:Nat)(vs:List AV)(H:AH):Rs:=
 hd vs fun a vs=>hd vs fun b vs=>hd vs fun c vs=>hd vs fun d vs=>hd vs fun e vs=>
 some (.norm [a,b,c,d,e],H)
def Z6 (D:Dyn)(n:Nat)(vs:List AV)(H:AH):Rs:=
 hd vs fun a vs=>hd vs fun b vs=>hd vs fun c vs=>hd vs fun d vs=>hd vs fun e vs=>
 bV (qO .neq e (.int .i64 (.ofNat 0))) fun f=>
 cnd f (bV (jX [(0,1),(1,1),(2,1),(3,1)] [(.bool false), .nilSlice, .nilSlice, .nilSlice] []) fun g=>
 bR (stN 4 c g H) fun h H=>
 bV (ldN 4 c H) fun i=>bV (some e) fun k=>some (.ret (.tuple [i,k]),H))
 (bV (ld1 a H) fun m=>
 bV (ldN 3 b H) fun o=>
 bR (f105 D n [m,o] H) fun p H=>
 bV (ldN 4 d H) fun r=>
 bR (stN 4 c r H) fun t H=>
 bV (ldN 4 c H) fun u=>bV (some (.int .i64 (.ofNat 0))) fun v=>some (.ret (.tuple [u,v]),H))
def f103 (D:Dyn)(n:Nat)(vs:List AV)(H:AH):Option (AV×AH):=
 outR (hd vs fun a vs=>hd vs fun b vs=>hd vs fun c vs=>hd vs fun d vs=>hd vs fun e vs=>hd vs fun f vs=>hd vs fun g vs=>nl vs <|
 bA (bxV 72 a) H fun h H=>
 bA (bxV 133 (.agg [(.bool false), .nilSlice, .nilSlice, .nilSlice])) H fun i H=>
 bV (ld1 b H) fun k=>
 bV (qO .add k (.int .i64 (.ofNat 1))) fun m=>
 bR (stN 1 b m H) fun o H=>
 bV (ld1 b H) fun p=>
 bV (ld1 c H) fun r=>
 bR (f68 D n [r] H) fun t H=>chk (ld1 b H) p <|
 bV (qO .gtr p t) fun u=>
 cnd u (bV (jX [(0,1),(1,1),(2,1),(3,1)] [(.bool false), .nilSlice, .nilSlice, .nilSlice] []) fun v=>
 bR (stN 4 i v H) fun w H=>
 bV (ldN 4 i H) fun x=>bV (some (.int .i64 (.ofNat 4))) fun y=>some (.ret (.tuple [x,y]),H))
 (bV (ld1 c H) fun z=>
 bV (ldN 3 h H) fun B=>
 bR (f69 D n [z,B] H) fun C H=>
 bV (qK C 0) fun E=>
 bV (qK C 1) fun F=>
 bA (bxV 133 (.agg [(.bool false), .nilSlice, .nilSlice, .nilSlice])) H fun G H=>
 bR (stN 4 G E H) fun I H=>
 bV (qO .neq F (.int .i64 (.ofNat 0))) fun J=>
 cnd J (bV (jX [(0,1),(1,1),(2,1),(3,1)] [(.bool false), .nilSlice, .nilSlice, .nilSlice] []) fun K=>
 bR (stN 4 i K H) fun M H=>
 bV (ldN 4 i H) fun N=>bV (some F) fun O=>some (.ret (.tuple [N,O]),H))
 (bV (fAd 0 G) fun P=>
 bV (ld1 P H) fun Q=>
 jn (cnd Q (bV (ld1 d H) fun R=>
 bV (ldN 4 G H) fun T=>
 bR (callV (zLw D n).S D R [T] H) fun U H=>
 bV (qK U 0) fun V=>
 bV (qK U 1) fun W=>
 bR (stN 4 G V H) fun Y H=>
 some (.norm [g,h,i,G,W],H))
 (bV (ldN 4 G H) fun Z=>
 bV (ld1 e H) fun a0=>
 bR (f70 D n [Z,a0] H) fun a1 H=>
 bA (bxV 133 (.agg [(.bool false), .nilSlice, .nilSlice, .nilSlice])) H fun a2 H=>
 bV (ld1 f H) fun a3=>
 bV (fAd 3 G) fun a4=>
 bV (ld1 a4 H) fun a5=>
 bV (jP 3 a5 a1) fun a6=>
 bV (ldN 3 a6 H) fun a7=>
 bR (callV (zLw D n).S D a3 [a7] H) fun a8 H=>
 bV (qK a8 0) fun a9=>
 bV (qK a8 1) fun b0=>
 bR (stN 4 a2 a9 H) fun b1 H=>
 bV (qO .eql b0 (.int .i64 (.ofNat 0))) fun b2=>
 jn (cnd b2 (bV (ld1 g H) fun b3=>
 bV (ldN 4 G H) fun b4=>
 bV (ldN 4 a2 H) fun b5=>
 bR (f104 D n [b3,b4,a1,b5] H) fun b6 H=>
 bV (qK b6 0) fun b7=>
 bV (qK b6 1) fun b8=>
 bR (stN 4 G b7 H) fun b9 H=>
 some (.norm [g,h,i,G,b8],H))
 (some (.norm [g,h,i,G,b0],H))) (BB D n))) (Z6 D n))))
def h103:Hint:=(.s .o (.s (.s .o (.s .o (.cl (.s .o .o) .o))) (.s .o (.s (.s .o (.cl (.s .o .o) .o)) (.s (.s .o (.c [6,7,8,10,11] .o (.s .o (.s .o (.s .o (.s .o (.c [6,7,8,10,11] .o .o))))))) (.s (.s .o (.cl (.s .o .o) .o)) (.s .o (.s .o .o))))))))
theorem zKX {D:Dyn}(hD:DG D)(n:Nat):FI 103 (f103 D n):=qR (n:=n) (h:=h103) X_ok hD (sc (zFw hD n) (sc (UP hD n) (sc (Z1 hD n) (sc (zG8 hD n) (sc (zAR hD n) (SOk.nil)))))) Tryz.func103 (by kernel_rfl) (by kernel_rfl)
def s63 (D:Dyn)(n:Nat):Tb:=⟨X,[(102,f102 D n),(101,f101 D n),(106,f106 D n)]⟩
def f63 (D:Dyn)(n:Nat)(vs:List AV)(H:AH):Option (AV×AH):=
 outR (hd vs fun a vs=>hd vs fun b vs=>hd vs fun c vs=>nl vs <|
 bA (bxV 22 a) H fun d H=>
 bA (bxV 9 b) H fun e H=>
 bA (bxV 136 c) H fun f H=>
 bV (ld1 d H) fun g=>
 bV (ld1 d H) fun h=>
 bV (xL h) fun i=>
 bV (fAd 6 i) fun k=>
 bV (ld1 k H) fun m=>
 bA (mkM [10]) H fun o H=>
 bV (jX [(0,1),(1,1),(2,1),(3,1)] [.nilPtr,(.int .u64 (.ofNat 0)), .nilMap, .nilSlice] [(0,g),(1,m),(2,o)]) fun p=>
 bA (bxV 209 p) H fun r H=>
 bA (bxV 207 .nilPtr) H fun t H=>
 bR (stN 1 t r H) fun u H=>
 bV (ld1 d H) fun v=>
 bV (xL v) fun w=>
 bV (fAd 2 w) fun x=>
 bV (fAd 0 x) fun y=>
 bV (ld1 y H) fun z=>
 bV (qO .eql z (.int .i64 (.ofNat 0))) fun B=>
 cnd B (bV (ld1 f H) fun C=>
 bV (jX [(0,1),(1,1),(2,1),(3,1)] [(.bool false), .nilSlice, .nilSlice, .nilSlice] [(0,(.bool true))]) fun E=>
 bR (callV (s63 D n).S D C [E] H) fun F H=>
 bV (qK F 0) fun G=>
 bV (qK F 1) fun I=>
 bA (bxV 133 (.agg [(.bool false), .nilSlice, .nilSlice, .nilSlice])) H fun J H=>
 bR (stN 4 J G H) fun K H=>
 bV (qO .neq I (.int .i64 (.ofNat 0))) fun M=>
 cnd M (bV (some I) fun N=>some (.ret N,H))
 (bV (ld1 t H) fun O=>
 bV (ld1 t H) fun P=>
 bV (ldN 4 J H) fun Q=>
 bR (f102 D n [P,Q] H) fun R H=>chk (ld1 t H) O <|
 bR (f101 D n [O,R] H) fun T H=>
 bV (some (.int .i64 (.ofNat 0))) fun U=>some (.ret U,H)))
 (bA (bxV 3 (.int .i64 (.ofNat 0))) H fun V H=>
 bR (stN 1 V (.int .i64 (.ofNat 0)) H) fun W H=>
 bA (bxV 142 .nilFunc) H fun Y H=>
 bR (stN 1 Y (.func 103 [] [V,d,f,e,Y,t]) H) fun Z H=>
 bV (ld1 Y H) fun a0=>
 bV (ld1 d H) fun a1=>
 bV (xL a1) fun a2=>
 bV (fAd 2 a2) fun a3=>
 bV (ldN 3 a3 H) fun a4=>
 bA (bxV 133 (.agg [(.bool false), .nilSlice, .nilSlice, .nilSlice])) H fun a5 H=>
 bR (callV (s63 D n).S D a0 [a4] H) fun a6 H=>
 bV (qK a6 0) fun a7=>
 bV (qK a6 1) fun a8=>
 bR (stN 4 a5 a7 H) fun a9 H=>
 bV (qO .neq a8 (.int .i64 (.ofNat 0))) fun b0=>
 cnd b0 (bV (some a8) fun b1=>some (.ret b1,H))
 (bV (ld1 t H) fun b2=>
 bV (ldN 4 a5 H) fun b3=>
 bR (f106 D n [b2,b3] H) fun b4 H=>
 bV (some b4) fun b5=>some (.ret b5,H))))
def h63:Hint:=(.s .o (.s .o (.s (.s .o (.cl (.s .o (.s (.s .o (.cl (.s .o .o) .o)) (.s .o (.s .o .o)))) .o)) (.s .o (.s .o (.s .o (.s .o (.s (.s .o (.cl (.s .o .o) .o)) (.s .o .o)))))))))
theorem zFx {D:Dyn}(hD:DG D)(n:Nat):FI 63 (f63 D n):=qR (n:=n) (h:=h63) X_ok hD (sc (X2 hD n) (sc (zAS hD n) (sc (zG5 hD n) (SOk.nil)))) Tryz.func63 (by kernel_rfl) (by kernel_rfl)
end Go.Eng.Sh
end
end
section
noncomputable section
namespace Go.Eng.Sh
open Go.Proofs
set_option maxRecDepth 100000
def s110 (D:Dyn)(n:Nat):Tb:=⟨X,[]⟩
def f110 (D:Dyn)(n:Nat)(vs:List AV)(H:AH):Option (AV×AH):=
 outR (hd vs fun a vs=>hd vs fun b vs=>hd vs fun c vs=>nl vs <|
 bV (jA 1 a (some b) none none H) fun d=>
 bV (lnSl c) fun e=>
 bV (qO .eql e (.int .i64 (.ofNat 0))) fun f=>
 cnd f (bV (some a) fun g=>some (.ret g,H))
 (bV (lnSl a) fun h=>
 bV (qO .eql b h) fun i=>
 cnd i (bR (apP 9 1 16 a c H) fun k H=>
 bV (some k) fun m=>some (.ret m,H))
 (bV (qO .add h e) fun o=>
 bV (zDo X 37 a) fun p=>
 bV (qO .gtr o p) fun r=>
 cnd r (bV (jA 1 a none (some b) none H) fun t=>
 bV (qO .add h e) fun u=>
 bV (qO .sub u b) fun v=>
 bR (apZ 9 1 16 [(.str 0 0)] t v H) fun w H=>
 bV (jA 1 w (some b) none none H) fun x=>
 bR (cpy 1 x c H) fun y H=>
 bV (qO .add b e) fun z=>
 bV (jA 1 w (some z) none none H) fun B=>
 bV (jA 1 a (some b) none none H) fun C=>
 bR (cpy 1 B C H) fun E H=>
 bV (some w) fun F=>some (.ret F,H))
 (bV (qO .add h e) fun G=>
 bV (jA 1 a none (some G) none H) fun I=>
 bV (qO .add b e) fun J=>
 bV (jA 1 I (some J) none none H) fun K=>
 bR (D.fn 142 [c,K] H) fun M H=>
 bV (aun .not M) fun N=>
 cnd N (bV (qO .add b e) fun O=>
 bV (jA 1 I (some O) none none H) fun P=>
 bV (jA 1 I (some b) none none H) fun Q=>
 bR (cpy 1 P Q H) fun R H=>
 bV (jA 1 I (some b) none none H) fun T=>
 bR (cpy 1 T c H) fun U H=>
 bV (some I) fun V=>some (.ret V,H))
 (bV (jA 1 I (some h) none none H) fun W=>
 bR (cpy 1 W c H) fun Y H=>
 bV (jA 1 I (some b) none none H) fun Z=>
 bR (D.fn 143 [Z,e] H) fun a0 H=>
 bV (some I) fun a1=>some (.ret a1,H))))))
def h110:Hint:=(.s .o (.s .o (.s .o (.s (.s .o (.cl (.s .o .o) .o)) (.s .o (.s (.s .o (.cl (.s .o .o) .o)) (.s (.s .o (.cl (.s .o (.s .o (.s .o (.s .o .o)))) .o)) (.s .o (.s (.s .o (.cl (.s .o (.s .o (.s .o .o))) .o)) (.s .o (.s .o (.s .o .o))))))))))))
theorem zKW {D:Dyn}(hD:DG D)(n:Nat):FI 110 (f110 D n):=qR (n:=n) (h:=h110) X_ok hD (SOk.nil) Tryz.func110 (by kernel_rfl) (by kernel_rfl)
def zLA (D:Dyn)(n:Nat)(vs:List AV)(H:AH):Option (AV×AH):=zKH (f110 D n) vs H
theorem zEX {D:Dyn}(hD:DG D)(n:Nat):FI 110 (zLA D n):=zKG (by kernel_rfl) (zKW hD n)
def s65 (D:Dyn)(n:Nat):Tb:=⟨X,[(107,f107 D n),(108,f108 D n),(109,f109 D n),(70,f70 D n),(110,zLA D n)]⟩
def f65 (D:Dyn)(n:Nat)(vs:List AV)(H:AH):Option (AV×AH):=
 outR (hd vs fun a vs=>hd vs fun b vs=>hd vs fun c vs=>nl vs <|
 bA (bxV 133 a) H fun d H=>
 bA (bxV 133 (.agg [(.bool false), .nilSlice, .nilSlice, .nilSlice])) H fun e H=>
 bV (ldN 4 d H) fun f=>
 bR (f107 D n [f] H) fun g H=>
 bV (aun .not g) fun h=>
 jn (wnt h false (bV (fAd 0 d) fun i=>
 bV (ld1 i H) fun k=>
 bV (aun .not k) fun m=>
 some (.norm [m],H)) (some (.norm [qM],H))) fun vs H=>hd vs fun o vs=>
 bV (pk3 (some h) (some (.bool true)) (some o)) fun p=>
 jn (wnt p false (bR (f108 D n [b] H) fun r H=>
 bV (aun .not r) fun t=>
 some (.norm [t],H)) (some (.norm [qM],H))) fun vs H=>hd vs fun u vs=>
 bV (pk3 (some p) (some (.bool true)) (some u)) fun v=>
 jn (wnt v false (bV (kS c) fun w=>
 bV (qO .gtr w (.int .i64 (.ofNat 200))) fun x=>
 some (.norm [x],H)) (some (.norm [qM],H))) fun vs H=>hd vs fun y vs=>
 bV (pk3 (some v) (some (.bool true)) (some y)) fun z=>
 cnd z (bV (jX [(0,1),(1,1),(2,1),(3,1)] [(.bool false), .nilSlice, .nilSlice, .nilSlice] []) fun B=>
 bR (stN 4 e B H) fun C H=>
 bV (ldN 4 e H) fun E=>bV (some (.int .i64 (.ofNat 1))) fun F=>some (.ret (.tuple [E,F]),H))
 (bV (fAd 1 d) fun G=>
 bV (ld1 G H) fun I=>
 bV (fAd 2 d) fun J=>
 bV (ld1 J H) fun K=>
 bA (bxV 133 (.agg [(.bool false), .nilSlice, .nilSlice, .nilSlice])) H fun M H=>
 bR (f109 D n [I] H) fun N H=>chk (ld1 J H) K <|
 bR (f109 D n [K] H) fun O H=>
 bV (jX [(0,1),(1,1),(2,1),(3,1)] [(.bool false), .nilSlice, .nilSlice, .nilSlice] [(0,(.bool true)),(1,N),(2,O)]) fun P=>
 bR (stN 4 M P H) fun Q H=>
 bV (ldN 4 d H) fun R=>
 bR (f70 D n [R,b] H) fun T H=>
 bV (fAd 1 d) fun U=>
 bV (ld1 U H) fun V=>
 bV (lnSl V) fun W=>
 bV (qO .lss T W) fun Y=>
 jn (wnt Y true (bV (fAd 1 d) fun Z=>
 bV (ld1 Z H) fun a0=>
 bV (jP 1 a0 T) fun a1=>
 bV (ld1 a1 H) fun a2=>
 bV (k7 .eql a2 b) fun a3=>
 some (.norm [a3],H)) (some (.norm [qM],H))) fun vs H=>hd vs fun a4 vs=>
 bV (pk3 (some Y) (some a4) (some (.bool false))) fun a5=>
 cnd a5 (bV (fAd 2 M) fun a6=>
 bV (ld1 a6 H) fun a7=>
 bV (jP 1 a7 T) fun a8=>
 bR (stN 1 a8 c H) fun a9 H=>
 bV (ldN 4 M H) fun b0=>
 bR (stN 4 e b0 H) fun b1 H=>
 bV (ldN 4 e H) fun b2=>bV (some (.int .i64 (.ofNat 0))) fun b3=>some (.ret (.tuple [b2,b3]),H))
 (bV (fAd 1 M) fun b4=>
 bV (ld1 b4 H) fun b5=>
 bA (uM 9 1 1 [(.str 0 0)] [(0,b)]) H fun b6 H=>
 bR (zLA D n [b5,T,b6] H) fun b7 H=>
 bV (fAd 1 M) fun b8=>
 bR (stN 1 b8 b7 H) fun b9 H=>
 bV (fAd 2 M) fun c0=>
 bV (ld1 c0 H) fun c1=>
 bA (uM 9 1 1 [(.str 0 0)] [(0,c)]) H fun c2 H=>
 bR (zLA D n [c1,T,c2] H) fun c3 H=>
 bV (fAd 2 M) fun c4=>
 bR (stN 1 c4 c3 H) fun c5 H=>
 bV (ldN 4 M H) fun c6=>
 bR (stN 4 e c6 H) fun c7 H=>
 bV (ldN 4 e H) fun c8=>bV (some (.int .i64 (.ofNat 0))) fun c9=>some (.ret (.tuple [c8,c9]),H))))
def h65:Hint:=(.s .o (.s (.s .o (.cl (.s .o .o) .o)) (.s .o (.s .o (.s (.s .o (.cl (.s .o (.s .o .o)) .o)) (.s .o (.s .o (.s .o .o))))))))
theorem zJk {D:Dyn}(hD:DG D)(n:Nat):FI 65 (f65 D n):=qR (n:=n) (h:=h65) X_ok hD (sc (Y7 hD n) (sc (X0 hD n) (sc (WZ hD n) (sc (Z1 hD n) (sc (zEX hD n) (SOk.nil)))))) Tryz.func65 (by kernel_rfl) (by kernel_rfl)
def s64 (D:Dyn)(n:Nat):Tb:=⟨X,[(65,f65 D n)]⟩
def f64 (D:Dyn)(n:Nat)(vs:List AV)(H:AH):Option (AV×AH):=
 outR (hd vs fun a vs=>hd vs fun b vs=>hd vs fun c vs=>nl vs <|
 bA (bxV 133 a) H fun d H=>
 bA (bxV 133 (.agg [(.bool false), .nilSlice, .nilSlice, .nilSlice])) H fun e H=>
 bV (ldN 4 d H) fun f=>
 bV (ld1 b H) fun g=>
 bV (ld1 c H) fun h=>
 bR (f65 D n [f,g,h] H) fun i H=>
 bV (qK i 0) fun k=>
 bV (qK i 1) fun m=>
 bR (stN 4 e k H) fun o H=>
 bV (ldN 4 e H) fun p=>bV (some m) fun r=>some (.ret (.tuple [p,r]),H))
def h64:Hint:=(.s .o (.s .o .o))
theorem zMS {D:Dyn}(hD:DG D)(n:Nat):FI 64 (f64 D n):=qR (n:=n) (h:=h64) X_ok hD (sc (zJk hD n) (SOk.nil)) Tryz.func64 (by kernel_rfl) (by kernel_rfl)
def s20 (D:Dyn)(n:Nat):Tb:=⟨X,[(62,f62 D n),(63,f63 D n)]⟩
def f20 (D:Dyn)(n:Nat)(vs:List AV)(H:AH):Option (AV×AH):=
 outR (hd vs fun a vs=>hd vs fun b vs=>hd vs fun c vs=>nl vs <|
 bA (bxV 9 b) H fun d H=>
 bA (bxV 9 c) H fun e H=>
 bR (f62 D n [a] H) fun f H=>
 cnd f (bV (some (.int .i64 (.ofNat 2))) fun g=>some (.ret g,H))
 (bV (ld1 d H) fun h=>
 bV (kS h) fun i=>
 bV (qO .lss i (.int .i64 (.ofNat 1))) fun k=>
 jn (wnt k false (bV (ld1 d H) fun m=>
 bV (kS m) fun o=>
 bV (qO .gtr o (.int .i64 (.ofNat 40))) fun p=>
 some (.norm [p],H)) (some (.norm [qM],H))) fun vs H=>hd vs fun r vs=>
 bV (pk3 (some k) (some (.bool true)) (some r)) fun t=>
 jn (wnt t false (bV (ld1 e H) fun u=>
 bV (kS u) fun v=>
 bV (qO .gtr v (.int .i64 (.ofNat 200))) fun w=>
 some (.norm [w],H)) (some (.norm [qM],H))) fun vs H=>hd vs fun x vs=>
 bV (pk3 (some t) (some (.bool true)) (some x)) fun y=>
 cnd y (bV (some (.int .i64 (.ofNat 1))) fun z=>some (.ret z,H))
 (bV (ld1 d H) fun B=>
 bR (f63 D n [a,B,(.func 64 [] [d,e])] H) fun C H=>
 bV (some C) fun E=>some (.ret E,H))))
def h20:Hint:=(.s .o (.s (.s .o (.cl (.s .o .o) .o)) (.s (.s .o (.cl (.s .o .o) .o)) (.s .o .o))))
theorem zC5 {D:Dyn}(hD:DG D)(n:Nat):FI 20 (f20 D n):=qR (n:=n) (h:=h20) X_ok hD (sc (Y3 hD n) (sc (zFx hD n) (SOk.nil))) Tryz.func20 (by kernel_rfl) (by kernel_rfl)
def s87 (D:Dyn)(n:Nat):Tb:=⟨X,[]⟩
def f87 (D:Dyn)(n:Nat)(vs:List AV)(H:AH):Option (AV×AH):=
 outR (hd vs fun a vs=>hd vs fun b vs=>hd vs fun c vs=>hd vs fun d vs=>nl vs <|
 bA (bxV 174 a) H fun e H=>
 bV (fAd 0 e) fun f=>
 bV (fAd 2 f) fun g=>
 bV (ld1 g H) fun h=>
 bV (qO .sub h (.int .i64 (.ofNat 1))) fun i=>
 bV (qO .rem i (.int .i64 (.ofNat 256))) fun k=>
 bV (QW 256 1 b k) fun m=>
 bR (stN 1 m (.bool true) H) fun o H=>
 bV (ld1 c H) fun p=>
 jn (wnt p false (bV (fAd 4 e) fun r=>
 bV (ld1 r H) fun t=>
 some (.norm [t],H)) (some (.norm [qM],H))) fun vs H=>hd vs fun u vs=>
 jn (wnt u true (bV (fAd 0 e) fun v=>
 bV (fAd 0 v) fun w=>
 bV (ld1 w H) fun x=>
 bV (ld1 d H) fun y=>
 bV (k7 .eql x y) fun z=>
 some (.norm [z],H)) (some (.norm [qM],H))) fun vs H=>hd vs fun B vs=>
 jn (wnt p false (bV (pk3 (some u) (some B) (some (.bool false))) fun C=>
 some (.norm [C],H)) (some (.norm [qM],H))) fun vs H=>hd vs fun E vs=>
 bV (pk3 (some p) (some (.bool true)) (some E)) fun F=>
 bR (stN 1 c F H) fun G H=>
 bV (ld1 c H) fun I=>
 bV (aun .not I) fun J=>
 bV (some J) fun K=>some (.ret K,H))
def h87:Hint:=(.s .o (.s .o (.s .o (.s .o .o))))
theorem zMP {D:Dyn}(hD:DG D)(n:Nat):FI 87 (f87 D n):=qR (n:=n) (h:=h87) X_ok hD (SOk.nil) Tryz.func87 (by kernel_rfl) (by kernel_rfl)
def s44 (D:Dyn)(n:Nat):Tb:=⟨X,[(84,f84 D n),(85,f85 D n),(83,f83 D n),(86,f86 D n),(88,f88 D n),(89,f89 D n),(20,f20 D n)]⟩
def zFA (D:Dyn)(n:Nat)(vs:List AV)(H:AH):Rs:=
 hd vs fun a vs=>hd vs fun b vs=>hd vs fun c vs=>hd vs fun d vs=>hd vs fun e vs=>hd vs fun f vs=>hd vs fun g vs=>
 bV (qO .lss g (.int .i64 (.ofNat 256))) fun h=>
 jn (wnt h true (bV (QW 256 1 e g) fun i=>
 bV (ld1 i H) fun k=>
 some (.norm [k],H)) (some (.norm [qM],H))) fun vs H=>hd vs fun m vs=>
 bV (pk3 (some h) (some m) (some (.bool false))) fun o=>
 cnd o (bV (qO .add g (.int .i64 (.ofNat 1))) fun p=>
 some (.norm [a,b,c,d,e,f,p],H))
 (some (.exit 0 [a,b,c,d,f,g],H))
def zKQ (D:Dyn)(n:Nat)(vs:List AV)(H:AH):Rs:=
 hd vs fun a vs=>hd vs fun b vs=>hd vs fun c vs=>hd vs fun d vs=>hd vs fun e vs=>hd vs fun f vs=>
 bV (qO .eql f (.int .i64 (.ofNat 256))) fun g=>
 cnd g (bV (some (.int .i64 (.ofNat 0))) fun h=>bV (some (.int .i64 (.ofNat 3))) fun i=>some (.ret (.tuple [h,i]),H))
 (bV (qO .mul e (.int .i64 (.ofNat 256))) fun k=>
 bV (qO .add k f) fun m=>
 bV (qO .add m (.int .i64 (.ofNat 1))) fun o=>
 bV (ld1 d H) fun p=>
 bR (f88 D n [b,o] H) fun r H=>chk (ld1 d H) p <|
 bR (f89 D n [c] H) fun t H=>chk (ld1 d H) p <|
 bV (k7 .add t p) fun u=>
 bR (f20 D n [a,r,u] H) fun v H=>
 bV (qO .neq v (.int .i64 (.ofNat 0))) fun w=>
 cnd w (bV (some (.int .i64 (.ofNat 0))) fun x=>bV (some v) fun y=>some (.ret (.tuple [x,y]),H))
 (bV (some o) fun z=>bV (some (.int .i64 (.ofNat 0))) fun B=>some (.ret (.tuple [z,B]),H)))
def f44 (D:Dyn)(n:Nat)(vs:List AV)(H:AH):Option (AV×AH):=
 outR (hd vs fun a vs=>hd vs fun b vs=>hd vs fun c vs=>hd vs fun d vs=>nl vs <|
 bA (bxV 9 c) H fun e H=>
 bV (u6 .eql (eqP a .nilPtr)) fun f=>
 cnd f (bV (some (.int .i64 (.ofNat 0))) fun g=>bV (some (.int .i64 (.ofNat 2))) fun h=>some (.ret (.tuple [g,h]),H))
 (bR (f84 D n [b] H) fun i H=>
 bV (aun .not i) fun k=>
 jn (wnt k false (bR (f84 D n [d] H) fun m H=>
 bV (aun .not m) fun o=>
 some (.norm [o],H)) (some (.norm [qM],H))) fun vs H=>hd vs fun p vs=>
 bV (pk3 (some k) (some (.bool true)) (some p)) fun r=>
 cnd r (bV (some (.int .i64 (.ofNat 0))) fun t=>bV (some (.int .i64 (.ofNat 1))) fun u=>some (.ret (.tuple [t,u]),H))
 (bV (ld1 e H) fun v=>
 bR (f85 D n [v] H) fun w H=>
 bV (aun .not w) fun x=>
 cnd x (bV (some (.int .i64 (.ofNat 0))) fun y=>bV (some (.int .i64 (.ofNat 56))) fun z=>some (.ret (.tuple [y,z]),H))
 (bA (bxV 171 (.agg (rep 256 [(.bool false)]))) H fun B H=>
 bA (bxV 4 (.bool false)) H fun C H=>
 bR (stN 1 C (.bool false) H) fun E H=>
 bV (ld1 e H) fun F=>
 bR (f83 D n [F] H) fun G H=>
 bR (f86 D n [a,b,G,(.func 87 [] [B,C,e])] H) fun I H=>
 bV (qO .neq I (.int .i64 (.ofNat 0))) fun J=>
 cnd J (bV (some (.int .i64 (.ofNat 0))) fun K=>bV (some I) fun M=>some (.ret (.tuple [K,M]),H))
 (bV (ld1 C H) fun N=>
 cnd N (bV (some (.int .i64 (.ofNat 0))) fun O=>bV (some (.int .i64 (.ofNat 6))) fun P=>some (.ret (.tuple [O,P]),H))
 (jb 0 (qV n (zFA D n) [a,b,d,e,B,G,(.int .i64 (.ofNat 0))] H) (zKQ D n)))))))
def h44:Hint:=(.s .o (.s (.s .o (.cl (.s .o .o) .o)) (.s (.s .o (.cl (.s .o .o) .o)) (.s (.s .o (.cl (.s .o .o) .o)) (.s .o (.s .o (.s .o (.s .o (.s (.s .o (.cl (.s .o .o) .o)) (.s (.s .o (.cl (.s .o .o) .o)) (.s .o (.s (.b [0,1,3,6,12,14] (.l [0,1,3,6,10,12,14] (.s (.s .o (.cr .o .o)) (.b0 .o)))) (.s (.s .o (.cl (.s .o .o) .o)) (.s .o (.s (.s .o (.s .o (.cl (.s .o .o) .o))) (.s .o .o))))))))))))))))
theorem zC2 {D:Dyn}(hD:DG D)(n:Nat):FI 44 (f44 D n):=qR (n:=n) (h:=h44) X_ok hD (sc (UN hD n) (sc (zBZ hD n) (sc (UO hD n) (sc (zFt hD n) (sc (zBY hD n) (sc (zBX hD n) (sc (zC5 hD n) (SOk.nil)))))))) Tryz.func44 (by kernel_rfl) (by kernel_rfl)
def s130 (D:Dyn)(n:Nat):Tb:=⟨X,[]⟩
def zFT (D:Dyn)(n:Nat)(vs:List AV)(H:AH):Rs:=
 hd vs fun a vs=>
 bV (fAd 4 a) fun b=>
 bV (ld1 b H) fun c=>
 bV (aun .not c) fun d=>
 bV (some d) fun e=>some (.ret e,H)
def f130 (D:Dyn)(n:Nat)(vs:List AV)(H:AH):Option (AV×AH):=
 outR (hd vs fun a vs=>hd vs fun b vs=>hd vs fun c vs=>nl vs <|
 bA (bxV 174 a) H fun d H=>
 bV (fAd 4 d) fun e=>
 bV (ld1 e H) fun f=>
 jn (wnt f true (bV (fAd 0 d) fun g=>
 bV (fAd 0 g) fun h=>
 bV (ld1 h H) fun i=>
 bV (ld1 b H) fun k=>
 bV (k7 .eql i k) fun m=>
 some (.norm [m],H)) (some (.norm [qM],H))) fun vs H=>hd vs fun o vs=>
 bV (pk3 (some f) (some o) (some (.bool false))) fun p=>
 jn (cnd p (bV (ldN 5 d H) fun r=>
 bR (stN 5 c r H) fun t H=>
 some (.norm [c],H))
 (some (.norm [c],H))) (zFT D n))
def h130:Hint:=(.s .o (.s (.s .o (.c [2] .o .o)) (.s .o .o)))
theorem zKT {D:Dyn}(hD:DG D)(n:Nat):FI 130 (f130 D n):=qR (n:=n) (h:=h130) X_ok hD (SOk.nil) Tryz.func130 (by kernel_rfl) (by kernel_rfl)
def s93 (D:Dyn)(n:Nat):Tb:=⟨X,[(84,f84 D n),(85,f85 D n),(83,f83 D n),(86,f86 D n)]⟩
def f93 (D:Dyn)(n:Nat)(vs:List AV)(H:AH):Option (AV×AH):=
 outR (hd vs fun a vs=>hd vs fun b vs=>hd vs fun c vs=>nl vs <|
 bA (bxV 9 c) H fun d H=>
 bA (bxV 174 (.agg [(.str 0 0),(.int .i64 (.ofNat 0)),(.int .i64 (.ofNat 0)),(.str 0 0),(.bool false)])) H fun e H=>
 bV (u6 .eql (eqP a .nilPtr)) fun f=>
 cnd f (bV (jX [(0,3),(3,1),(4,1)] [(.str 0 0),(.int .i64 (.ofNat 0)),(.int .i64 (.ofNat 0)),(.str 0 0),(.bool false)] []) fun g=>
 bR (stN 5 e g H) fun h H=>
 bV (ldN 5 e H) fun i=>bV (some (.int .i64 (.ofNat 2))) fun k=>some (.ret (.tuple [i,k]),H))
 (bR (f84 D n [b] H) fun m H=>
 bV (aun .not m) fun o=>
 cnd o (bV (jX [(0,3),(3,1),(4,1)] [(.str 0 0),(.int .i64 (.ofNat 0)),(.int .i64 (.ofNat 0)),(.str 0 0),(.bool false)] []) fun p=>
 bR (stN 5 e p H) fun r H=>
 bV (ldN 5 e H) fun t=>bV (some (.int .i64 (.ofNat 1))) fun u=>some (.ret (.tuple [t,u]),H))
 (bV (ld1 d H) fun v=>
 bR (f85 D n [v] H) fun w H=>
 bV (aun .not w) fun x=>
 cnd x (bV (jX [(0,3),(3,1),(4,1)] [(.str 0 0),(.int .i64 (.ofNat 0)),(.int .i64 (.ofNat 0)),(.str 0 0),(.bool false)] []) fun y=>
 bR (stN 5 e y H) fun z H=>
 bV (ldN 5 e H) fun B=>bV (some (.int .i64 (.ofNat 56))) fun C=>some (.ret (.tuple [B,C]),H))
 (bA (bxV 174 (.agg [(.str 0 0),(.int .i64 (.ofNat 0)),(.int .i64 (.ofNat 0)),(.str 0 0),(.bool false)])) H fun E H=>
 bV (ld1 d H) fun F=>
 bR (f83 D n [F] H) fun G H=>
 bR (f86 D n [a,b,G,(.func 130 [] [d,E])] H) fun I H=>
 bV (qO .neq I (.int .i64 (.ofNat 0))) fun J=>
 cnd J (bV (jX [(0,3),(3,1),(4,1)] [(.str 0 0),(.int .i64 (.ofNat 0)),(.int .i64 (.ofNat 0)),(.str 0 0),(.bool false)] []) fun K=>
 bR (stN 5 e K H) fun M H=>
 bV (ldN 5 e H) fun N=>bV (some I) fun O=>some (.ret (.tuple [N,O]),H))
 (bV (fAd 4 E) fun P=>
 bV (ld1 P H) fun Q=>
 bV (aun .not Q) fun R=>
 cnd R (bV (jX [(0,3),(3,1),(4,1)] [(.str 0 0),(.int .i64 (.ofNat 0)),(.int .i64 (.ofNat 0)),(.str 0 0),(.bool false)] []) fun T=>
 bR (stN 5 e T H) fun U H=>
 bV (ldN 5 e H) fun V=>bV (some (.int .i64 (.ofNat 5))) fun W=>some (.ret (.tuple [V,W]),H))
 (bV (ldN 5 E H) fun Y=>
 bR (stN 5 e Y H) fun Z H=>
 bV (ldN 5 e H) fun a0=>bV (some (.int .i64 (.ofNat 0))) fun a1=>some (.ret (.tuple [a0,a1]),H)))))))
def h93:Hint:=(.s .o (.s (.s .o (.cl (.s .o .o) .o)) (.s (.s .o (.cl (.s .o .o) .o)) (.s (.s .o (.cl (.s .o .o) .o)) (.s .o (.s .o (.s (.s .o (.cl (.s .o .o) .o)) (.s (.s .o (.cl (.s .o .o) .o)) (.s .o .o)))))))))
theorem zFp {D:Dyn}(hD:DG D)(n:Nat):FI 93 (f93 D n):=qR (n:=n) (h:=h93) X_ok hD (sc (UN hD n) (sc (zBZ hD n) (sc (UO hD n) (sc (zFt hD n) (SOk.nil))))) Tryz.func93 (by kernel_rfl) (by kernel_rfl)
def s46 (D:Dyn)(n:Nat):Tb:=⟨X,[(93,f93 D n)]⟩
def f46 (D:Dyn)(n:Nat)(vs:List AV)(H:AH):Option (AV×AH):=
 outR (hd vs fun a vs=>hd vs fun b vs=>hd vs fun c vs=>nl vs <|
 bR (f93 D n [a,b,c] H) fun d H=>
 bV (qK d 0) fun e=>
 bV (qK d 1) fun f=>
 bA (bxV 174 (.agg [(.str 0 0),(.int .i64 (.ofNat 0)),(.int .i64 (.ofNat 0)),(.str 0 0),(.bool false)])) H fun g H=>
 bR (stN 5 g e H) fun h H=>
 bV (fAd 0 g) fun i=>
 bV (fAd 1 i) fun k=>
 bV (ld1 k H) fun m=>
 bV (fAd 0 g) fun o=>
 bV (fAd 2 o) fun p=>
 bV (ld1 p H) fun r=>
 bV (some m) fun t=>bV (some r) fun u=>bV (some f) fun v=>some (.ret (.tuple [t,u,v]),H))
def h46:Hint:=(.s .o (.s .o (.s .o .o)))
theorem zC1 {D:Dyn}(hD:DG D)(n:Nat):FI 46 (f46 D n):=qR (n:=n) (h:=h46) X_ok hD (sc (zFp hD n) (SOk.nil)) Tryz.func46 (by kernel_rfl) (by kernel_rfl)
def s91 (D:Dyn)(n:Nat):Tb:=⟨X,[]⟩
def zKO (D:Dyn)(n:Nat)(vs:List AV)(H:AH):Rs:=
 hd vs fun a vs=>hd vs fun b vs=>
 bV (qO .geq b (.int .i64 (.ofNat 0))) fun c=>
 cnd c (bV (YW a b) fun d=>
 bV (qO .neq d (.int .u8 (.ofNat 255))) fun e=>
 cnd e (bV (ZF a none (some b)) fun f=>
 bV (YW a b) fun g=>
 bV (qO .add g (.int .u8 (.ofNat 1))) fun h=>
 bA (uM 5 1 1 [(.int .u8 (.ofNat 0))] [(0,h)]) H fun i H=>
 bV (zHd i H) fun k=>
 bV (k7 .add f k) fun m=>
 bV (some m) fun o=>some (.ret o,H))
 (bV (qO .sub b (.int .i64 (.ofNat 1))) fun p=>
 some (.norm [a,p],H)))
 (some (.exit 0 [],H))
def f91b1 (D:Dyn)(n:Nat)(vs:List AV)(H:AH):Rs:=
 bV (some (.str 0 0)) fun a=>some (.ret a,H)
def f91 (D:Dyn)(n:Nat)(vs:List AV)(H:AH):Option (AV×AH):=
 outR (hd vs fun a vs=>nl vs <|
 bV (kS a) fun b=>
 bV (qO .sub b (.int .i64 (.ofNat 1))) fun c=>
 jb 0 (qV n (zKO D n) [a,c] H) (f91b1 D n))
def h91:Hint:=(.s .o (.s (.s .o (.b [] (.l [0,3] (.s (.s .o (.cr .o .o)) (.s (.b0 (.s .o (.cl (.s .o .o) .o))) .o))))) (.s .o .o)))
theorem zJe {D:Dyn}(hD:DG D)(n:Nat):FI 91 (f91 D n):=qR (n:=n) (h:=h91) X_ok hD (SOk.nil) Tryz.func91 (by kernel_rfl) (by kernel_rfl)
def s45 (D:Dyn)(n:Nat):Tb:=⟨X,[(84,f84 D n),(88,f88 D n),(89,f89 D n),(91,f91 D n),(90,f90 D n),(92,f92 D n)]⟩
def zMT (D:Dyn)(n:Nat)(vs:List AV)(H:AH):Rs:=
 hd vs fun a vs=>hd vs fun b vs=>hd vs fun c vs=>hd vs fun d vs=>hd vs fun e vs=>
 bV (qO .add e (.int .i64 (.ofNat 1))) fun f=>
 some (.norm [a,b,c,d,f],H)
def zFz (D:Dyn)(n:Nat)(vs:List AV)(H:AH):Rs:=
 hd vs fun a vs=>hd vs fun b vs=>hd vs fun c vs=>hd vs fun d vs=>hd vs fun e vs=>
 bV (qO .lss e d) fun f=>
 cnd f (bV (jP 2 c e) fun g=>
 bV (ldN 2 g H) fun h=>
 bA (bxV 48 (.agg [(.str 0 0),(.str 0 0)])) H fun i H=>
 bR (stN 2 i h H) fun k H=>
 bV (ldN 2 i H) fun m=>
 bR (f92 D n [m] H) fun o H=>
 bV (qK o 0) fun p=>
 bV (qK o 1) fun r=>
 bA (bxV 174 (.agg [(.str 0 0),(.int .i64 (.ofNat 0)),(.int .i64 (.ofNat 0)),(.str 0 0),(.bool false)])) H fun t H=>
 bR (stN 5 t p H) fun u H=>
 jn (wnt r true (bV (fAd 4 t) fun v=>
 bV (ld1 v H) fun w=>
 some (.norm [w],H)) (some (.norm [qM],H))) fun vs H=>hd vs fun x vs=>
 bV (pk3 (some r) (some x) (some (.bool false))) fun y=>
 jn (cnd y (bV (fAd 0 t) fun z=>
 bV (ldN 3 z H) fun B=>
 bA (uM 99 3 1 [(.str 0 0),(.int .i64 (.ofNat 0)),(.int .i64 (.ofNat 0))] [(0,B)]) H fun C H=>
 bR (apP 99 3 32 b C H) fun E H=>
 some (.norm [a,E,c,d,e],H))
 (some (.norm [a,b,c,d,e],H))) (zMT D n))
 (some (.exit 0 [a,b],H))
def zMU (D:Dyn)(n:Nat)(vs:List AV)(H:AH):Rs:=
 hd vs fun a vs=>hd vs fun b vs=>
 bV (aun .not a) fun c=>
 bV (some b) fun d=>bV (some c) fun e=>bV (some (.int .i64 (.ofNat 0))) fun f=>some (.ret (.tuple [d,e,f]),H)
def f45 (D:Dyn)(n:Nat)(vs:List AV)(H:AH):Option (AV×AH):=
 outR (hd vs fun a vs=>hd vs fun b vs=>hd vs fun c vs=>hd vs fun d vs=>nl vs <|
 bV (u6 .eql (eqP a .nilPtr)) fun e=>
 cnd e (bV (some .nilSlice) fun f=>bV (some (.bool false)) fun g=>bV (some (.int .i64 (.ofNat 2))) fun h=>some (.ret (.tuple [f,g,h]),H))
 (bR (f84 D n [b] H) fun i H=>
 bV (aun .not i) fun k=>
 jn (wnt k false (bV (qO .lss c (.int .i64 (.ofNat 0))) fun m=>
 some (.norm [m],H)) (some (.norm [qM],H))) fun vs H=>hd vs fun o vs=>
 bV (pk3 (some k) (some (.bool true)) (some o)) fun p=>
 jn (wnt p false (bV (qO .lss d (.int .i64 (.ofNat 0))) fun r=>
 some (.norm [r],H)) (some (.norm [qM],H))) fun vs H=>hd vs fun t vs=>
 bV (pk3 (some p) (some (.bool true)) (some t)) fun u=>
 cnd u (bV (some .nilSlice) fun v=>bV (some (.bool false)) fun w=>bV (some (.int .i64 (.ofNat 1))) fun x=>some (.ret (.tuple [v,w,x]),H))
 (bV (mn2 c (.int .i64 (.ofNat 262144))) fun y=>
 bV (qO .add y (.int .i64 (.ofNat 1))) fun z=>
 bR (f88 D n [b,z] H) fun B H=>
 bR (f89 D n [b] H) fun C H=>
 bV (k7 .add (.str 1 101) C) fun E=>
 bR (f91 D n [E] H) fun F H=>
 bR (f90 D n [a,B,F,d] H) fun G H=>
 bV (qK G 0) fun I=>
 bV (qK G 1) fun J=>
 bV (qK G 2) fun K=>
 bV (qO .neq K (.int .i64 (.ofNat 0))) fun M=>
 cnd M (bV (some .nilSlice) fun N=>bV (some (.bool false)) fun O=>bV (some K) fun P=>some (.ret (.tuple [N,O,P]),H))
 (bV (lnSl I) fun Q=>
 jb 0 (qV n (zFz D n) [J, .nilSlice,I,Q,(.int .i64 (.ofNat 0))] H) (zMU D n)))))
def h45:Hint:=(.s .o (.s (.s .o (.cl (.s .o .o) .o)) (.s (.s .o (.cl (.s .o .o) .o)) (.s .o (.s .o (.s (.s .o (.cl (.s .o .o) .o)) (.s .o (.s (.s .o (.b [13,15] (.l [13,15,53,54,55] (.s .o (.s (.cr .o .o) (.s (.b0 (.s .o (.s .o (.s .o (.c [13,15,53,54,55] .o .o))))) .o)))))) (.s .o .o)))))))))
theorem UQ {D:Dyn}(hD:DG D)(n:Nat):FI 45 (f45 D n):=qR (n:=n) (h:=h45) X_ok hD (sc (UN hD n) (sc (zBY hD n) (sc (zBX hD n) (sc (zJe hD n) (sc (zFr hD n) (sc (zFq hD n) (SOk.nil))))))) Tryz.func45 (by kernel_rfl) (by kernel_rfl)
def s82 (D:Dyn)(n:Nat):Tb:=⟨X,[(45,f45 D n)]⟩
def f82 (D:Dyn)(n:Nat)(vs:List AV)(H:AH):Option (AV×AH):=
 outR (hd vs fun a vs=>hd vs fun b vs=>nl vs <|
 bR (f45 D n [a,b,(.int .i64 (.ofNat 0)),(.int .i64 (.ofNat 1))] H) fun c H=>
 bV (qK c 0) fun d=>
 bV (qK c 1) fun e=>
 bV (qK c 2) fun f=>
 bV (qO .eql f (.int .i64 (.ofNat 0))) fun g=>
 jn (wnt g true (some (.norm [e],H)) (some (.norm [qM],H))) fun vs H=>hd vs fun h vs=>
 bV (pk3 (some g) (some h) (some (.bool false))) fun i=>
 jn (wnt i true (bV (lnSl d) fun k=>
 bV (qO .eql k (.int .i64 (.ofNat 0))) fun m=>
 some (.norm [m],H)) (some (.norm [qM],H))) fun vs H=>hd vs fun o vs=>
 bV (pk3 (some i) (some o) (some (.bool false))) fun p=>
 bV (some p) fun r=>bV (some f) fun t=>some (.ret (.tuple [r,t]),H))
def h82:Hint:=(.s .o (.s .o (.s .o .o)))
theorem zJf {D:Dyn}(hD:DG D)(n:Nat):FI 82 (f82 D n):=qR (n:=n) (h:=h82) X_ok hD (sc (UQ hD n) (SOk.nil)) Tryz.func82 (by kernel_rfl) (by kernel_rfl)
def s67 (D:Dyn)(n:Nat):Tb:=⟨X,[(107,f107 D n),(70,f70 D n),(111,f111 D n)]⟩
def f67 (D:Dyn)(n:Nat)(vs:List AV)(H:AH):Option (AV×AH):=
 outR (hd vs fun a vs=>hd vs fun b vs=>nl vs <|
 bA (bxV 133 a) H fun c H=>
 bA (bxV 133 (.agg [(.bool false), .nilSlice, .nilSlice, .nilSlice])) H fun d H=>
 bV (ldN 4 c H) fun e=>
 bR (f107 D n [e] H) fun f H=>
 bV (aun .not f) fun g=>
 jn (wnt g false (bV (fAd 0 c) fun h=>
 bV (ld1 h H) fun i=>
 bV (aun .not i) fun k=>
 some (.norm [k],H)) (some (.norm [qM],H))) fun vs H=>hd vs fun m vs=>
 bV (pk3 (some g) (some (.bool true)) (some m)) fun o=>
 cnd o (bV (jX [(0,1),(1,1),(2,1),(3,1)] [(.bool false), .nilSlice, .nilSlice, .nilSlice] []) fun p=>
 bR (stN 4 d p H) fun r H=>
 bV (ldN 4 d H) fun t=>bV (some (.int .i64 (.ofNat 1))) fun u=>some (.ret (.tuple [t,u]),H))
 (bV (ldN 4 c H) fun v=>
 bR (f70 D n [v,b] H) fun w H=>
 bV (fAd 1 c) fun x=>
 bV (ld1 x H) fun y=>
 bV (lnSl y) fun z=>
 bV (qO .geq w z) fun B=>
 jn (wnt B false (bV (fAd 1 c) fun C=>
 bV (ld1 C H) fun E=>
 bV (jP 1 E w) fun F=>
 bV (ld1 F H) fun G=>
 bV (k7 .neq G b) fun I=>
 some (.norm [I],H)) (some (.norm [qM],H))) fun vs H=>hd vs fun J vs=>
 bV (pk3 (some B) (some (.bool true)) (some J)) fun K=>
 cnd K (bV (jX [(0,1),(1,1),(2,1),(3,1)] [(.bool false), .nilSlice, .nilSlice, .nilSlice] []) fun M=>
 bR (stN 4 d M H) fun N H=>
 bV (ldN 4 d H) fun O=>bV (some (.int .i64 (.ofNat 5))) fun P=>some (.ret (.tuple [O,P]),H))
 (bV (fAd 1 c) fun Q=>
 bV (ld1 Q H) fun R=>
 bV (jA 1 R none (some w) (some w) H) fun T=>
 bV (fAd 1 c) fun U=>
 bV (ld1 U H) fun V=>
 bV (qO .add w (.int .i64 (.ofNat 1))) fun W=>
 bV (jA 1 V (some W) none none H) fun Y=>
 bA (uM 37 1 2 [.nilSlice] [(0,T),(1,Y)]) H fun Z H=>
 bV (fAd 2 c) fun a0=>
 bV (ld1 a0 H) fun a1=>
 bV (jA 1 a1 none (some w) (some w) H) fun a2=>
 bV (fAd 2 c) fun a3=>
 bV (ld1 a3 H) fun a4=>
 bV (qO .add w (.int .i64 (.ofNat 1))) fun a5=>
 bV (jA 1 a4 (some a5) none none H) fun a6=>
 bA (uM 37 1 2 [.nilSlice] [(0,a2),(1,a6)]) H fun a7 H=>
 bR (f111 D n [Z] H) fun a8 H=>chk (ld1 a0 H) a1 <| chk (jA 1 a1 none (some w) (some w) H) a2 <| chk (ld1 a3 H) a4 <| chk (jA 1 a4 (some a5) none none H) a6 <|
 bR (f111 D n [a7] H) fun a9 H=>
 bV (jX [(0,1),(1,1),(2,1),(3,1)] [(.bool false), .nilSlice, .nilSlice, .nilSlice] [(0,(.bool true)),(1,a8),(2,a9)]) fun b0=>
 bR (stN 4 d b0 H) fun b1 H=>
 bV (ldN 4 d H) fun b2=>bV (some (.int .i64 (.ofNat 0))) fun b3=>some (.ret (.tuple [b2,b3]),H))))
def h67:Hint:=(.s .o (.s (.s .o (.cl (.s .o .o) .o)) (.s .o (.s (.s .o (.cl (.s .o .o) .o)) (.s .o .o)))))
theorem zJj {D:Dyn}(hD:DG D)(n:Nat):FI 67 (f67 D n):=qR (n:=n) (h:=h67) X_ok hD (sc (Y7 hD n) (sc (Z1 hD n) (sc (WY hD n) (SOk.nil)))) Tryz.func67 (by kernel_rfl) (by kernel_rfl)
def s66 (D:Dyn)(n:Nat):Tb:=⟨X,[(67,f67 D n)]⟩
def f66 (D:Dyn)(n:Nat)(vs:List AV)(H:AH):Option (AV×AH):=
 outR (hd vs fun a vs=>hd vs fun b vs=>nl vs <|
 bA (bxV 133 a) H fun c H=>
 bA (bxV 133 (.agg [(.bool false), .nilSlice, .nilSlice, .nilSlice])) H fun d H=>
 bV (ldN 4 c H) fun e=>
 bV (ld1 b H) fun f=>
 bR (f67 D n [e,f] H) fun g H=>
 bV (qK g 0) fun h=>
 bV (qK g 1) fun i=>
 bR (stN 4 d h H) fun k H=>
 bV (ldN 4 d H) fun m=>bV (some i) fun o=>some (.ret (.tuple [m,o]),H))
def h66:Hint:=(.s .o (.s .o .o))
theorem zMR {D:Dyn}(hD:DG D)(n:Nat):FI 66 (f66 D n):=qR (n:=n) (h:=h66) X_ok hD (sc (zJj hD n) (SOk.nil)) Tryz.func66 (by kernel_rfl) (by kernel_rfl)
def s23 (D:Dyn)(n:Nat):Tb:=⟨X,[(62,f62 D n),(63,f63 D n)]⟩
def f23 (D:Dyn)(n:Nat)(vs:List AV)(H:AH):Option (AV×AH):=
 outR (hd vs fun a vs=>hd vs fun b vs=>nl vs <|
 bA (bxV 9 b) H fun c H=>
 bR (f62 D n [a] H) fun d H=>
 cnd d (bV (some (.int .i64 (.ofNat 2))) fun e=>some (.ret e,H))
 (bV (ld1 c H) fun f=>
 bV (kS f) fun g=>
 bV (qO .lss g (.int .i64 (.ofNat 1))) fun h=>
 jn (wnt h false (bV (ld1 c H) fun i=>
 bV (kS i) fun k=>
 bV (qO .gtr k (.int .i64 (.ofNat 40))) fun m=>
 some (.norm [m],H)) (some (.norm [qM],H))) fun vs H=>hd vs fun o vs=>
 bV (pk3 (some h) (some (.bool true)) (some o)) fun p=>
 cnd p (bV (some (.int .i64 (.ofNat 1))) fun r=>some (.ret r,H))
 (bV (ld1 c H) fun t=>
 bR (f63 D n [a,t,(.func 66 [] [c])] H) fun u H=>
 bV (some u) fun v=>some (.ret v,H))))
def h23:Hint:=(.s .o (.s (.s .o (.cl (.s .o .o) .o)) (.s (.s .o (.cl (.s .o .o) .o)) (.s .o .o))))
theorem zJp {D:Dyn}(hD:DG D)(n:Nat):FI 23 (f23 D n):=qR (n:=n) (h:=h23) X_ok hD (sc (Y3 hD n) (sc (zFx hD n) (SOk.nil))) Tryz.func23 (by kernel_rfl) (by kernel_rfl)
def s47 (D:Dyn)(n:Nat):Tb:=⟨X,[(93,f93 D n),(23,f23 D n)]⟩
def f47 (D:Dyn)(n:Nat)(vs:List AV)(H:AH):Option (AV×AH):=
 outR (hd vs fun a vs=>hd vs fun b vs=>hd vs fun c vs=>nl vs <|
 bR (f93 D n [a,b,c] H) fun d H=>
 bV (qK d 0) fun e=>
 bV (qK d 1) fun f=>
 bA (bxV 174 (.agg [(.str 0 0),(.int .i64 (.ofNat 0)),(.int .i64 (.ofNat 0)),(.str 0 0),(.bool false)])) H fun g H=>
 bR (stN 5 g e H) fun h H=>
 bV (qO .neq f (.int .i64 (.ofNat 0))) fun i=>
 cnd i (bV (some (.int .i64 (.ofNat 0))) fun k=>bV (some f) fun m=>some (.ret (.tuple [k,m]),H))
 (bV (fAd 3 g) fun o=>
 bV (ld1 o H) fun p=>
 bR (f23 D n [a,p] H) fun r H=>
 bV (qO .neq r (.int .i64 (.ofNat 0))) fun t=>
 cnd t (bV (some (.int .i64 (.ofNat 0))) fun u=>bV (some r) fun v=>some (.ret (.tuple [u,v]),H))
 (bV (fAd 0 g) fun w=>
 bV (fAd 1 w) fun x=>
 bV (ld1 x H) fun y=>
 bV (some y) fun z=>bV (some (.int .i64 (.ofNat 0))) fun B=>some (.ret (.tuple [z,B]),H))))
def h47:Hint:=(.s .o (.s .o (.s (.s .o (.cl (.s .o .o) .o)) (.s (.s .o (.s .o (.cl (.s .o .o) .o))) (.s .o .o)))))
theorem zC0 {D:Dyn}(hD:DG D)(n:Nat):FI 47 (f47 D n):=qR (n:=n) (h:=h47) X_ok hD (sc (zFp hD n) (sc (zJp hD n) (SOk.nil))) Tryz.func47 (by kernel_rfl) (by kernel_rfl)
def s43 (D:Dyn)(n:Nat):Tb:=⟨X,[(42,f42 D n),(44,f44 D n),(46,f46 D n),(45,f45 D n),(82,f82 D n),(47,f47 D n),(83,f83 D n)]⟩
def f43 (D:Dyn)(n:Nat)(vs:List AV)(H:AH):Option (AV×AH):=
 outR (nl vs <|
 bR (f42 D n [] H) fun a H=>
 bV (u6 .eql (eqP a .nilPtr)) fun b=>
 cnd b (bV (some (.bool false)) fun c=>some (.ret c,H))
 (bR (f44 D n [a,(.int .i64 (.ofNat 1)),(.str 1 97),(.int .i64 (.ofNat 7))] H) fun d H=>
 bV (qK d 0) fun e=>
 bV (qK d 1) fun f=>
 bR (f44 D n [a,(.int .i64 (.ofNat 1)),(.str 1 97),(.int .i64 (.ofNat 8))] H) fun g H=>
 bV (qK g 0) fun h=>
 bV (qK g 1) fun i=>
 bR (f46 D n [a,(.int .i64 (.ofNat 1)),(.str 1 98)] H) fun k H=>
 bV (qK k 0) fun m=>
 bV (qK k 1) fun o=>
 bV (qK k 2) fun p=>
 bR (f46 D n [a,(.int .i64 (.ofNat 1)),(.str 2 11822)] H) fun r H=>
 bV (qK r 0) fun t=>
 bV (qK r 1) fun u=>
 bV (qK r 2) fun v=>
 bR (f46 D n [a,(.int .i64 (.ofNat 1)),(.str 1 97)] H) fun w H=>
 bV (qK w 0) fun x=>
 bV (qK w 1) fun y=>
 bV (qK w 2) fun z=>
 bR (f45 D n [a,(.int .i64 (.ofNat 1)),(.int .i64 (.ofNat 0)),(.int .i64 (.ofNat 9))] H) fun B H=>
 bV (qK B 0) fun C=>
 bV (qK B 1) fun E=>
 bV (qK B 2) fun F=>
 bR (f82 D n [a,(.int .i64 (.ofNat 2))] H) fun G H=>
 bV (qK G 0) fun I=>
 bV (qK G 1) fun J=>
 bR (f47 D n [a,(.int .i64 (.ofNat 1)),(.str 1 97)] H) fun K H=>
 bV (qK K 0) fun M=>
 bV (qK K 1) fun N=>
 bR (f83 D n [(.str 1 97)] H) fun O H=>
 bV (qO .mul (.int .i64 (.ofNat 256)) O) fun P=>
 bV (qO .add P (.int .i64 (.ofNat 1))) fun Q=>
 bV (qO .eql e Q) fun R=>
 jn (wnt R true (bV (qO .eql f (.int .i64 (.ofNat 0))) fun T=>
 some (.norm [T],H)) (some (.norm [qM],H))) fun vs H=>hd vs fun U vs=>
 bV (pk3 (some R) (some U) (some (.bool false))) fun V=>
 jn (wnt V true (bV (qO .eql i (.int .i64 (.ofNat 6))) fun W=>
 some (.norm [W],H)) (some (.norm [qM],H))) fun vs H=>hd vs fun Y vs=>
 bV (pk3 (some V) (some Y) (some (.bool false))) fun Z=>
 jn (wnt Z true (bV (qO .eql p (.int .i64 (.ofNat 5))) fun a0=>
 some (.norm [a0],H)) (some (.norm [qM],H))) fun vs H=>hd vs fun a1 vs=>
 bV (pk3 (some Z) (some a1) (some (.bool false))) fun a2=>
 jn (wnt a2 true (bV (qO .eql v (.int .i64 (.ofNat 56))) fun a3=>
 some (.norm [a3],H)) (some (.norm [qM],H))) fun vs H=>hd vs fun a4 vs=>
 bV (pk3 (some a2) (some a4) (some (.bool false))) fun a5=>
 jn (wnt a5 true (bV (qO .eql x (.int .i64 (.ofNat 7))) fun a6=>
 some (.norm [a6],H)) (some (.norm [qM],H))) fun vs H=>hd vs fun a7 vs=>
 bV (pk3 (some a5) (some a7) (some (.bool false))) fun a8=>
 jn (wnt a8 true (bV (qO .eql y e) fun a9=>
 some (.norm [a9],H)) (some (.norm [qM],H))) fun vs H=>hd vs fun b0 vs=>
 bV (pk3 (some a8) (some b0) (some (.bool false))) fun b1=>
 jn (wnt b1 true (bV (qO .eql z (.int .i64 (.ofNat 0))) fun b2=>
 some (.norm [b2],H)) (some (.norm [qM],H))) fun vs H=>hd vs fun b3 vs=>
 bV (pk3 (some b1) (some b3) (some (.bool false))) fun b4=>
 jn (wnt b4 true (bV (lnSl C) fun b5=>
 bV (qO .eql b5 (.int .i64 (.ofNat 1))) fun b6=>
 some (.norm [b6],H)) (some (.norm [qM],H))) fun vs H=>hd vs fun b7 vs=>
 bV (pk3 (some b4) (some b7) (some (.bool false))) fun b8=>
 jn (wnt b8 true (bV (jP 3 C (.int .i64 (.ofNat 0))) fun b9=>
 bV (ldN 3 b9 H) fun c0=>
 bV (jX [(0,1),(1,1),(2,1)] [(.str 0 0),(.int .i64 (.ofNat 0)),(.int .i64 (.ofNat 0))] [(0,(.str 1 97)),(1,(.int .i64 (.ofNat 7))),(2,e)]) fun c1=>
 bV (u6 .eql (eqA [2,6,6] c0 c1)) fun c2=>
 some (.norm [c2],H)) (some (.norm [qM],H))) fun vs H=>hd vs fun c3 vs=>
 bV (pk3 (some b8) (some c3) (some (.bool false))) fun c4=>
 jn (wnt c4 true (some (.norm [E],H)) (some (.norm [qM],H))) fun vs H=>hd vs fun c5 vs=>
 bV (pk3 (some c4) (some c5) (some (.bool false))) fun c6=>
 jn (wnt c6 true (bV (qO .eql F (.int .i64 (.ofNat 0))) fun c7=>
 some (.norm [c7],H)) (some (.norm [qM],H))) fun vs H=>hd vs fun c8 vs=>
 bV (pk3 (some c6) (some c8) (some (.bool false))) fun c9=>
 jn (wnt c9 true (some (.norm [I],H)) (some (.norm [qM],H))) fun vs H=>hd vs fun d0 vs=>
 bV (pk3 (some c9) (some d0) (some (.bool false))) fun d1=>
 jn (wnt d1 true (bV (qO .eql J (.int .i64 (.ofNat 0))) fun d2=>
 some (.norm [d2],H)) (some (.norm [qM],H))) fun vs H=>hd vs fun d3 vs=>
 bV (pk3 (some d1) (some d3) (some (.bool false))) fun d4=>
 jn (wnt d4 true (bV (qO .eql M (.int .i64 (.ofNat 7))) fun d5=>
 some (.norm [d5],H)) (some (.norm [qM],H))) fun vs H=>hd vs fun d6 vs=>
 bV (pk3 (some d4) (some d6) (some (.bool false))) fun d7=>
 jn (wnt d7 true (bV (qO .eql N (.int .i64 (.ofNat 0))) fun d8=>
 some (.norm [d8],H)) (some (.norm [qM],H))) fun vs H=>hd vs fun d9 vs=>
 bV (pk3 (some d7) (some d9) (some (.bool false))) fun e0=>
 bV (some e0) fun e1=>some (.ret e1,H)))
def h43:Hint:=(.s .o (.s .o (.s (.s .o (.cl (.s .o .o) .o)) (.s .o (.s .o (.s .o (.s .o (.s .o (.s .o (.s .o (.s .o (.s .o .o))))))))))))
theorem zC3 {D:Dyn}(hD:DG D)(n:Nat):FI 43 (f43 D n):=qR (n:=n) (h:=h43) X_ok hD (sc (zC4 hD n) (sc (zC2 hD n) (sc (zC1 hD n) (sc (UQ hD n) (sc (zJf hD n) (sc (zC0 hD n) (sc (UO hD n) (SOk.nil)))))))) Tryz.func43 (by kernel_rfl) (by kernel_rfl)
def s48 (D:Dyn)(n:Nat):Tb:=⟨X,[]⟩
def zAK (D:Dyn)(n:Nat)(vs:List AV)(H:AH):Rs:=
 hd vs fun a vs=>hd vs fun b vs=>
 bV (lnSl a) fun c=>
 bV (qO .lss b c) fun d=>
 cnd d (bV (jP 5 a b) fun e=>
 bV (fAd 4 e) fun f=>
 bV (ld1 f H) fun g=>
 bV (kS g) fun h=>
 bV (qO .gtr h (.int .i64 (.ofNat 1000))) fun i=>
 cnd i (bV (some (.bool true)) fun k=>some (.ret k,H))
 (bV (qO .add b (.int .i64 (.ofNat 1))) fun m=>
 some (.norm [a,m],H)))
 (some (.exit 0 [],H))
def zKP (D:Dyn)(n:Nat)(vs:List AV)(H:AH):Rs:=
 bV (some (.bool false)) fun a=>some (.ret a,H)
def f48 (D:Dyn)(n:Nat)(vs:List AV)(H:AH):Option (AV×AH):=
 outR (hd vs fun a vs=>nl vs <|
 bV (lnSl a) fun b=>
 bV (qO .gtr b (.int .i64 (.ofNat 100))) fun c=>
 cnd c (bV (some (.bool true)) fun d=>some (.ret d,H))
 (jb 0 (qV n (zAK D n) [a,(.int .i64 (.ofNat 0))] H) (zKP D n)))
def h48:Hint:=(.s .o (.s (.s .o (.cl (.s .o .o) .o)) (.s (.s .o (.b [] (.l [0,3] (.s (.s .o (.cr .o .o)) (.s (.b0 (.s .o (.cl (.s .o .o) .o))) .o))))) (.s .o .o))))
theorem zFy {D:Dyn}(hD:DG D)(n:Nat):FI 48 (f48 D n):=qR (n:=n) (h:=h48) X_ok hD (SOk.nil) Tryz.func48 (by kernel_rfl) (by kernel_rfl)
def s115 (D:Dyn)(n:Nat):Tb:=⟨X,[]⟩
def Y6 (D:Dyn)(n:Nat)(vs:List AV)(H:AH):Rs:=
 hd vs fun a vs=>hd vs fun b vs=>hd vs fun c vs=>hd vs fun d vs=>
 bV (qO .lss d c) fun e=>
 cnd e (bV (jP 1 a d) fun f=>
 bV (ld1 f H) fun g=>
 bV (k7 .eql b g) fun h=>
 cnd h (bV (some d) fun i=>some (.ret i,H))
 (bV (qO .add d (.int .i64 (.ofNat 1))) fun k=>
 some (.norm [a,b,c,k],H)))
 (some (.exit 0 [],H))
def zJB (D:Dyn)(n:Nat)(vs:List AV)(H:AH):Rs:=
 bV (some (.int .i64 (.negSucc 0))) fun a=>some (.ret a,H)
def f115 (D:Dyn)(n:Nat)(vs:List AV)(H:AH):Option (AV×AH):=
 outR (hd vs fun a vs=>hd vs fun b vs=>nl vs <|
 bV (lnSl a) fun c=>
 jb 0 (qV n (Y6 D n) [a,b,c,(.int .i64 (.ofNat 0))] H) (zJB D n))
def h115:Hint:=(.s .o (.s (.s .o (.b [] (.l [0,1,7,8] (.s .o (.s (.cr .o .o) (.s (.b0 (.s .o (.s .o (.cl (.s .o .o) .o)))) .o)))))) (.s .o .o)))
theorem zG0 {D:Dyn}(hD:DG D)(n:Nat):FI 115 (f115 D n):=qR (n:=n) (h:=h115) X_ok hD (SOk.nil) Tryz.func115 (by kernel_rfl) (by kernel_rfl)
def s72 (D:Dyn)(n:Nat):Tb:=⟨X,[(115,f115 D n)]⟩
def f72 (D:Dyn)(n:Nat)(vs:List AV)(H:AH):Option (AV×AH):=
 outR (hd vs fun a vs=>hd vs fun b vs=>nl vs <|
 bA (bxV 133 a) H fun c H=>
 bV (fAd 0 c) fun d=>
 bV (ld1 d H) fun e=>
 bV (aun .not e) fun f=>
 cnd f (bV (some (.str 0 0)) fun g=>bV (some (.bool false)) fun h=>some (.ret (.tuple [g,h]),H))
 (bV (fAd 1 c) fun i=>
 bV (ld1 i H) fun k=>
 bR (f115 D n [k,b] H) fun m H=>
 bV (qO .lss m (.int .i64 (.ofNat 0))) fun o=>
 jn (wnt o false (bV (fAd 2 c) fun p=>
 bV (ld1 p H) fun r=>
 bV (lnSl r) fun t=>
 bV (qO .geq m t) fun u=>
 some (.norm [u],H)) (some (.norm [qM],H))) fun vs H=>hd vs fun v vs=>
 bV (pk3 (some o) (some (.bool true)) (some v)) fun w=>
 cnd w (bV (some (.str 0 0)) fun x=>bV (some (.bool false)) fun y=>some (.ret (.tuple [x,y]),H))
 (bV (fAd 2 c) fun z=>
 bV (ld1 z H) fun B=>
 bV (jP 1 B m) fun C=>
 bV (ld1 C H) fun E=>
 bV (some E) fun F=>bV (some (.bool true)) fun G=>some (.ret (.tuple [F,G]),H))))
def h72:Hint:=(.s .o (.s (.s .o (.cl (.s .o .o) .o)) (.s .o (.s (.s .o (.cl (.s .o .o) .o)) (.s .o .o)))))
theorem zJi {D:Dyn}(hD:DG D)(n:Nat):FI 72 (f72 D n):=qR (n:=n) (h:=h72) X_ok hD (sc (zG0 hD n) (SOk.nil)) Tryz.func72 (by kernel_rfl) (by kernel_rfl)
def s27 (D:Dyn)(n:Nat):Tb:=⟨X,[(62,f62 D n),(68,f68 D n),(69,f69 D n),(72,f72 D n),(70,f70 D n)]⟩
def zFB (D:Dyn)(n:Nat)(vs:List AV)(H:AH):Rs:=
 hd vs fun a vs=>hd vs fun b vs=>hd vs fun c vs=>hd vs fun d vs=>hd vs fun e vs=>
 bV (qO .lss e d) fun f=>
 cnd f (bV (ldN 3 c H) fun g=>
 bR (f69 D n [a,g] H) fun h H=>
 bV (qK h 0) fun i=>
 bV (qK h 1) fun k=>
 bA (bxV 133 (.agg [(.bool false), .nilSlice, .nilSlice, .nilSlice])) H fun m H=>
 bR (stN 4 m i H) fun o H=>
 bV (qO .neq k (.int .i64 (.ofNat 0))) fun p=>
 cnd p (bV (some (.str 0 0)) fun r=>bV (some k) fun t=>some (.ret (.tuple [r,t]),H))
 (bV (fAd 0 m) fun u=>
 bV (ld1 u H) fun v=>
 cnd v (bV (ldN 4 m H) fun w=>
 bR (f72 D n [w,b] H) fun x H=>
 bV (qK x 0) fun y=>
 bV (qK x 1) fun z=>
 bV (aun .not z) fun B=>
 cnd B (bV (some (.str 0 0)) fun C=>bV (some (.int .i64 (.ofNat 5))) fun E=>some (.ret (.tuple [C,E]),H))
 (bV (some y) fun F=>bV (some (.int .i64 (.ofNat 0))) fun G=>some (.ret (.tuple [F,G]),H)))
 (bV (fAd 3 m) fun I=>
 bV (ld1 I H) fun J=>
 bV (ldN 4 m H) fun K=>
 bR (f70 D n [K,b] H) fun M H=>chk (ld1 I H) J <|
 bV (jP 3 J M) fun N=>
 bV (ldN 3 N H) fun O=>
 bR (stN 3 c O H) fun P H=>
 bV (qO .add e (.int .i64 (.ofNat 1))) fun Q=>
 some (.norm [a,b,c,d,Q],H))))
 (some (.exit 0 [],H))
def f27b1 (D:Dyn)(n:Nat)(vs:List AV)(H:AH):Rs:=
 bV (some (.str 0 0)) fun a=>bV (some (.int .i64 (.ofNat 4))) fun b=>some (.ret (.tuple [a,b]),H)
def f27 (D:Dyn)(n:Nat)(vs:List AV)(H:AH):Option (AV×AH):=
 outR (hd vs fun a vs=>hd vs fun b vs=>nl vs <|
 bR (f62 D n [a] H) fun c H=>
 cnd c (bV (some (.str 0 0)) fun d=>bV (some (.int .i64 (.ofNat 2))) fun e=>some (.ret (.tuple [d,e]),H))
 (bV (kS b) fun f=>
 bV (qO .lss f (.int .i64 (.ofNat 1))) fun g=>
 jn (wnt g false (bV (kS b) fun h=>
 bV (qO .gtr h (.int .i64 (.ofNat 40))) fun i=>
 some (.norm [i],H)) (some (.norm [qM],H))) fun vs H=>hd vs fun k vs=>
 bV (pk3 (some g) (some (.bool true)) (some k)) fun m=>
 cnd m (bV (some (.str 0 0)) fun o=>bV (some (.int .i64 (.ofNat 1))) fun p=>some (.ret (.tuple [o,p]),H))
 (bV (xL a) fun r=>
 bV (fAd 2 r) fun t=>
 bV (fAd 0 t) fun u=>
 bV (ld1 u H) fun v=>
 bV (qO .eql v (.int .i64 (.ofNat 0))) fun w=>
 cnd w (bV (some (.str 0 0)) fun x=>bV (some (.int .i64 (.ofNat 5))) fun y=>some (.ret (.tuple [x,y]),H))
 (bV (xL a) fun z=>
 bV (fAd 2 z) fun B=>
 bV (ldN 3 B H) fun C=>
 bA (bxV 72 (.agg [(.int .i64 (.ofNat 0)),(.int .i64 (.ofNat 0)),(.int .u64 (.ofNat 0))])) H fun E H=>
 bR (stN 3 E C H) fun F H=>
 bR (f68 D n [a] H) fun G H=>
 jb 0 (qV n (zFB D n) [a,b,E,G,(.int .i64 (.ofNat 0))] H) (f27b1 D n)))))
def h27:Hint:=(.s .o (.s (.s .o (.cl (.s .o .o) .o)) (.s (.s .o (.cl (.s .o .o) .o)) (.s (.s .o (.cl (.s .o .o) .o)) (.s .o (.s (.s .o (.b [] (.l [0,1,6,32,33] (.s .o (.s (.cr .o .o) (.s (.b0 (.s .o (.s (.s .o (.cl (.s .o .o) .o)) (.s (.s .o (.cl (.s .o (.s (.s .o (.cl (.s .o .o) .o)) (.s .o .o))) .o)) .o)))) .o)))))) (.s .o .o)))))))
theorem zFC {D:Dyn}(hD:DG D)(n:Nat):FI 27 (f27 D n):=qR (n:=n) (h:=h27) X_ok hD (sc (Y3 hD n) (sc (zFw hD n) (sc (UP hD n) (sc (zJi hD n) (sc (Z1 hD n) (SOk.nil)))))) Tryz.func27 (by kernel_rfl) (by kernel_rfl)
end Go.Eng.Sh
end
end
section
noncomputable section
namespace Go.Eng.Sh
open Go.Proofs
set_option maxRecDepth 100000
def s12 (D:Dyn)(n:Nat):Tb:=⟨X,[(48,f48 D n),(43,f43 D n),(42,f42 D n),(20,f20 D n),(44,f44 D n),(47,f47 D n),(46,f46 D n),(45,f45 D n),(27,f27 D n)]⟩
def f12j0 (D:Dyn)(n:Nat)(vs:List AV)(H:AH):Rs:=
 hd vs fun a vs=>hd vs fun b vs=>hd vs fun c vs=>hd vs fun d vs=>hd vs fun e vs=>hd vs fun f vs=>hd vs fun g vs=>hd vs fun h vs=>
 some (.norm [a,b,c,d,e,f,g,h],H)
def f12j1 (D:Dyn)(n:Nat)(vs:List AV)(H:AH):Rs:=
 hd vs fun a vs=>hd vs fun b vs=>hd vs fun c vs=>hd vs fun d vs=>hd vs fun e vs=>hd vs fun f vs=>hd vs fun g vs=>
 bV (fAd 4 g) fun h=>
 bV (ld1 h H) fun i=>
 bR (f46 D n [c,(.int .i64 (.ofNat 1)),i] H) fun k H=>
 bV (qK k 0) fun m=>
 bV (qK k 1) fun o=>
 bV (qK k 2) fun p=>
 bV (fAd 4 g) fun r=>
 bV (ld1 r H) fun t=>
 bV (lkM [2] (.int .i64 (.ofNat 0)) true d t H) fun u=>
 bV (qK u 0) fun v=>
 bV (qK u 1) fun w=>
 bV (qO .eql p (.int .i64 (.ofNat 0))) fun x=>
 bV (fU .neq x w) fun y=>
 jn (wnt y false (bV (qO .neq m v) fun z=>
 some (.norm [z],H)) (some (.norm [qM],H))) fun vs H=>hd vs fun B vs=>
 bV (pk3 (some y) (some (.bool true)) (some B)) fun C=>
 jn (wnt C false (bV (fAd 4 g) fun E=>
 bV (ld1 E H) fun F=>
 bV (lkM [2] (.int .i64 (.ofNat 0)) false e F H) fun G=>
 bV (qO .neq o G) fun I=>
 some (.norm [I],H)) (some (.norm [qM],H))) fun vs H=>hd vs fun J vs=>
 bV (pk3 (some C) (some (.bool true)) (some J)) fun K=>
 cnd K (bV (some (.bool false)) fun M=>some (.ret M,H))
 (bV (qO .add f (.int .i64 (.ofNat 1))) fun N=>
 some (.norm [a,b,c,d,e,N],H))
def f12j2 (D:Dyn)(n:Nat)(vs:List AV)(H:AH):Rs:=
 hd vs fun a vs=>hd vs fun b vs=>hd vs fun c vs=>hd vs fun d vs=>hd vs fun e vs=>hd vs fun f vs=>hd vs fun g vs=>hd vs fun h vs=>
 bV (fAd 0 g) fun i=>
 bV (ld1 i H) fun k=>
 bV (qO .eql k (.int .u8 (.ofNat 1))) fun m=>
 jn (cnd m (bV (fAd 4 g) fun o=>
 bV (ld1 o H) fun p=>
 bR (f47 D n [c,(.int .i64 (.ofNat 1)),p] H) fun r H=>
 bV (qK r 0) fun t=>
 bV (qK r 1) fun u=>
 bV (qO .eql u (.int .i64 (.ofNat 0))) fun v=>
 bV (fU .neq v h) fun w=>
 jn (wnt w false (some (.norm [h],H)) (some (.norm [qM],H))) fun vs H=>hd vs fun x vs=>
 jn (wnt x true (bV (fAd 4 g) fun y=>
 bV (ld1 y H) fun z=>
 bV (lkM [2] (.int .i64 (.ofNat 0)) false d z H) fun B=>
 bV (qO .neq t B) fun C=>
 some (.norm [C],H)) (some (.norm [qM],H))) fun vs H=>hd vs fun E vs=>
 jn (wnt w false (bV (pk3 (some x) (some E) (some (.bool false))) fun F=>
 some (.norm [F],H)) (some (.norm [qM],H))) fun vs H=>hd vs fun G vs=>
 bV (pk3 (some w) (some (.bool true)) (some G)) fun I=>
 cnd I (bV (some (.bool false)) fun J=>some (.ret J,H))
 (bV (fAd 4 g) fun K=>
 bV (ld1 K H) fun M=>
 bR (dlM [2] d M H) fun N H=>
 bV (fAd 4 g) fun O=>
 bV (ld1 O H) fun P=>
 bR (dlM [2] e P H) fun Q H=>
 some (.norm [a,b,c,d,e,f,g],H)))
 (some (.norm [a,b,c,d,e,f,g],H))) (f12j1 D n)
def f12l3 (D:Dyn)(n:Nat)(vs:List AV)(H:AH):Rs:=
 hd vs fun a vs=>hd vs fun b vs=>hd vs fun c vs=>hd vs fun d vs=>hd vs fun e vs=>hd vs fun f vs=>
 bV (lnSl a) fun g=>
 bV (qO .lss f g) fun h=>
 cnd h (bV (jP 5 a f) fun i=>
 bV (ldN 5 i H) fun k=>
 bA (bxV 105 (.agg [(.int .u8 (.ofNat 0)),(.int .i64 (.ofNat 0)),(.int .i64 (.ofNat 0)),(.int .i64 (.ofNat 0)),(.str 0 0)])) H fun m H=>
 bR (stN 5 m k H) fun o H=>
 bV (fAd 4 m) fun p=>
 bV (ld1 p H) fun r=>
 bV (lkM [2] (.int .i64 (.ofNat 0)) true d r H) fun t=>
 bV (qK t 0) fun u=>
 bV (qK t 1) fun v=>
 bV (fAd 0 m) fun w=>
 bV (ld1 w H) fun x=>
 bV (qO .eql x (.int .u8 (.ofNat 0))) fun y=>
 jn (cnd y (bV (fAd 4 m) fun z=>
 bV (ld1 z H) fun B=>
 bV (fAd 2 m) fun C=>
 bV (ld1 C H) fun E=>
 bR (f44 D n [c,(.int .i64 (.ofNat 1)),B,E] H) fun F H=>
 bV (qK F 0) fun G=>
 bV (qK F 1) fun I=>
 bV (qO .eql I (.int .i64 (.ofNat 0))) fun J=>
 jn (cnd J (jn (wnt v false (bV (qO .lss G (.int .i64 (.ofNat 1))) fun K=>
 some (.norm [K],H)) (some (.norm [qM],H))) fun vs H=>hd vs fun M vs=>
 bV (pk3 (some v) (some (.bool true)) (some M)) fun N=>
 jn (wnt N false (bV (qO .gtr G (.int .i64 (.ofNat 262144))) fun O=>
 some (.norm [O],H)) (some (.norm [qM],H))) fun vs H=>hd vs fun P vs=>
 bV (pk3 (some N) (some (.bool true)) (some P)) fun Q=>
 cnd Q (bV (some (.bool false)) fun R=>some (.ret R,H))
 (bV (fAd 4 m) fun T=>
 bV (ld1 T H) fun U=>
 bV (fAd 2 m) fun V=>
 bV (ld1 V H) fun W=>
 bR (upM [2] d U W H) fun Y H=>
 bV (fAd 4 m) fun Z=>
 bV (ld1 Z H) fun a0=>
 bR (upM [2] e a0 G H) fun a1 H=>
 some (.norm [a,b,c,d,e,f,m,v],H)))
 (bV (qO .eql I (.int .i64 (.ofNat 6))) fun a2=>
 bV (fU .neq v a2) fun a3=>
 jn (wnt a3 true (bV (fAd 2 m) fun a4=>
 bV (ld1 a4 H) fun a5=>
 bV (qO .geq a5 (.int .i64 (.ofNat 1))) fun a6=>
 some (.norm [a6],H)) (some (.norm [qM],H))) fun vs H=>hd vs fun a7 vs=>
 bV (pk3 (some a3) (some a7) (some (.bool false))) fun a8=>
 jn (wnt a8 true (bV (fAd 2 m) fun a9=>
 bV (ld1 a9 H) fun b0=>
 bV (qO .leq b0 (.int .i64 (.ofNat 2147483647))) fun b1=>
 some (.norm [b1],H)) (some (.norm [qM],H))) fun vs H=>hd vs fun b2 vs=>
 bV (pk3 (some a8) (some b2) (some (.bool false))) fun b3=>
 cnd b3 (bV (some (.bool false)) fun b4=>some (.ret b4,H))
 (some (.norm [a,b,c,d,e,f,m,v],H)))) (f12j0 D n))
 (some (.norm [a,b,c,d,e,f,m,v],H))) (f12j2 D n))
 (some (.exit 0 [a,b,c,d,e],H))
def f12l4 (D:Dyn)(n:Nat)(vs:List AV)(H:AH):Rs:=
 hd vs fun a vs=>hd vs fun b vs=>hd vs fun c vs=>hd vs fun d vs=>hd vs fun e vs=>hd vs fun f vs=>hd vs fun g vs=>hd vs fun h vs=>hd vs fun i vs=>hd vs fun k vs=>hd vs fun m vs=>
 bV (lnSl i) fun o=>
 bV (qO .lss m o) fun p=>
 cnd p (bV (jP 3 i m) fun r=>
 bV (fAd 0 r) fun t=>
 bV (ld1 t H) fun u=>
 bV (lkM [2] (.int .i64 (.ofNat 0)) true d u H) fun v=>
 bV (qK v 0) fun w=>
 bV (qK v 1) fun x=>
 bV (aun .not x) fun y=>
 jn (wnt y false (bV (jP 3 i m) fun z=>
 bV (fAd 1 z) fun B=>
 bV (ld1 B H) fun C=>
 bV (qO .neq w C) fun E=>
 some (.norm [E],H)) (some (.norm [qM],H))) fun vs H=>hd vs fun F vs=>
 bV (pk3 (some y) (some (.bool true)) (some F)) fun G=>
 jn (wnt G false (bV (jP 3 i m) fun I=>
 bV (fAd 2 I) fun J=>
 bV (ld1 J H) fun K=>
 bV (jP 3 i m) fun M=>
 bV (fAd 0 M) fun N=>
 bV (ld1 N H) fun O=>
 bV (lkM [2] (.int .i64 (.ofNat 0)) false e O H) fun P=>
 bV (qO .neq K P) fun Q=>
 some (.norm [Q],H)) (some (.norm [qM],H))) fun vs H=>hd vs fun R vs=>
 bV (pk3 (some G) (some (.bool true)) (some R)) fun T=>
 jn (wnt T false (bV (jP 3 i m) fun U=>
 bV (fAd 2 U) fun V=>
 bV (ld1 V H) fun W=>
 bV (qO .leq W f) fun Y=>
 some (.norm [Y],H)) (some (.norm [qM],H))) fun vs H=>hd vs fun Z vs=>
 bV (pk3 (some T) (some (.bool true)) (some Z)) fun a0=>
 cnd a0 (bV (some (.bool false)) fun a1=>some (.ret a1,H))
 (bV (jP 3 i m) fun a2=>
 bV (fAd 2 a2) fun a3=>
 bV (ld1 a3 H) fun a4=>
 bV (qO .add g (.int .i64 (.ofNat 1))) fun a5=>
 bV (qO .add m (.int .i64 (.ofNat 1))) fun a6=>
 some (.norm [a,b,c,d,e,a4,a5,h,i,k,a6],H)))
 (some (.exit 4 [a,b,c,d,e,f,g,h,k],H))
def f12b5 (D:Dyn)(n:Nat)(vs:List AV)(H:AH):Rs:=
 hd vs fun a vs=>hd vs fun b vs=>hd vs fun c vs=>hd vs fun d vs=>hd vs fun e vs=>hd vs fun f vs=>hd vs fun g vs=>hd vs fun h vs=>hd vs fun i vs=>
 cnd i (some (.exit 2 [c,d,g],H))
 (bV (qO .add h (.int .i64 (.ofNat 1))) fun k=>
 some (.norm [a,b,c,d,e,f,g,k],H))
def f12l6 (D:Dyn)(n:Nat)(vs:List AV)(H:AH):Rs:=
 hd vs fun a vs=>hd vs fun b vs=>hd vs fun c vs=>hd vs fun d vs=>hd vs fun e vs=>hd vs fun f vs=>hd vs fun g vs=>hd vs fun h vs=>
 bV (lnSl a) fun i=>
 bV (qO .add i (.int .i64 (.ofNat 1))) fun k=>
 bV (qO .leq h k) fun m=>
 cnd m (bR (f45 D n [c,(.int .i64 (.ofNat 1)),f,b] H) fun o H=>
 bV (qK o 0) fun p=>
 bV (qK o 1) fun r=>
 bV (qK o 2) fun t=>
 bV (qO .neq t (.int .i64 (.ofNat 0))) fun u=>
 jn (wnt u false (bV (lnSl p) fun v=>
 bV (qO .gtr v b) fun w=>
 some (.norm [w],H)) (some (.norm [qM],H))) fun vs H=>hd vs fun x vs=>
 bV (pk3 (some u) (some (.bool true)) (some x)) fun y=>
 jn (wnt y false (bV (aun .not r) fun z=>
 some (.norm [z],H)) (some (.norm [qM],H))) fun vs H=>hd vs fun B vs=>
 jn (wnt B true (bV (lnSl p) fun C=>
 bV (qO .lss C b) fun E=>
 some (.norm [E],H)) (some (.norm [qM],H))) fun vs H=>hd vs fun F vs=>
 jn (wnt y false (bV (pk3 (some B) (some F) (some (.bool false))) fun G=>
 some (.norm [G],H)) (some (.norm [qM],H))) fun vs H=>hd vs fun I vs=>
 bV (pk3 (some y) (some (.bool true)) (some I)) fun J=>
 cnd J (bV (some (.bool false)) fun K=>some (.ret K,H))
 (jb 4 (qV n (f12l4 D n) [a,b,c,d,e,f,g,h,p,r,(.int .i64 (.ofNat 0))] H) (f12b5 D n)))
 (some (.exit 2 [c,d,g],H))
def f12b7 (D:Dyn)(n:Nat)(vs:List AV)(H:AH):Rs:=
 hd vs fun a vs=>hd vs fun b vs=>hd vs fun c vs=>
 bR (f46 D n [a,(.int .i64 (.ofNat 2)),(.str 5 491327616111)] H) fun d H=>
 bV (qK d 0) fun e=>
 bV (qK d 1) fun f=>
 bV (qK d 2) fun g=>
 bR (f27 D n [a,(.str 1 102)] H) fun h H=>
 bV (qK h 0) fun i=>
 bV (qK h 1) fun k=>
 bV (ZG b H) fun m=>
 bV (qO .eql c m) fun o=>
 jn (wnt o true (bV (qO .eql e (.int .i64 (.ofNat 5))) fun p=>
 some (.norm [p],H)) (some (.norm [qM],H))) fun vs H=>hd vs fun r vs=>
 bV (pk3 (some o) (some r) (some (.bool false))) fun t=>
 jn (wnt t true (bV (qO .eql g (.int .i64 (.ofNat 0))) fun u=>
 some (.norm [u],H)) (some (.norm [qM],H))) fun vs H=>hd vs fun v vs=>
 bV (pk3 (some t) (some v) (some (.bool false))) fun w=>
 jn (wnt w true (bV (k7 .eql i (.str 3 7955819)) fun x=>
 some (.norm [x],H)) (some (.norm [qM],H))) fun vs H=>hd vs fun y vs=>
 bV (pk3 (some w) (some y) (some (.bool false))) fun z=>
 jn (wnt z true (bV (qO .eql k (.int .i64 (.ofNat 0))) fun B=>
 some (.norm [B],H)) (some (.norm [qM],H))) fun vs H=>hd vs fun C vs=>
 bV (pk3 (some z) (some C) (some (.bool false))) fun E=>
 bV (some E) fun F=>some (.ret F,H)
def f12b8 (D:Dyn)(n:Nat)(vs:List AV)(H:AH):Rs:=
 hd vs fun a vs=>hd vs fun b vs=>hd vs fun c vs=>hd vs fun d vs=>hd vs fun e vs=>
 bV (cvI .u64 b) fun f=>
 bV (qO .rem f (.int .u64 (.ofNat 20))) fun g=>
 bV (cvI .i64 g) fun h=>
 bV (qO .add (.int .i64 (.ofNat 1)) h) fun i=>
 jb 2 (qV n (f12l6 D n) [a,i,c,d,e,(.int .i64 (.ofNat 0)),(.int .i64 (.ofNat 0)),(.int .i64 (.ofNat 0))] H) (f12b7 D n)
def f12 (D:Dyn)(n:Nat)(vs:List AV)(H:AH):Option (AV×AH):=
 outR (hd vs fun a vs=>hd vs fun b vs=>nl vs <|
 bR (f48 D n [a] H) fun c H=>
 jn (wnt c false (bR (f43 D n [] H) fun d H=>
 bV (aun .not d) fun e=>
 some (.norm [e],H)) (some (.norm [qM],H))) fun vs H=>hd vs fun f vs=>
 bV (pk3 (some c) (some (.bool true)) (some f)) fun g=>
 cnd g (bR (f43 D n [] H) fun h H=>
 bV (some h) fun i=>some (.ret i,H))
 (bR (f42 D n [] H) fun k H=>
 bR (f20 D n [k,(.str 1 102),(.str 3 7955819)] H) fun m H=>
 bV (qO .neq m (.int .i64 (.ofNat 0))) fun o=>
 cnd o (bV (some (.bool false)) fun p=>some (.ret p,H))
 (bR (f44 D n [k,(.int .i64 (.ofNat 2)),(.str 5 491327616111),(.int .i64 (.ofNat 5))] H) fun r H=>
 bV (qK r 0) fun t=>
 bV (qK r 1) fun u=>
 bV (qO .neq u (.int .i64 (.ofNat 0))) fun v=>
 cnd v (bV (some (.bool false)) fun w=>some (.ret w,H))
 (bA (mkM [2]) H fun x H=>
 bA (mkM [2]) H fun y H=>
 jb 0 (qV n (f12l3 D n) [a,b,k,x,y,(.int .i64 (.ofNat 0))] H) (f12b8 D n)))))
def h12:Hint:=(.s .o (.s (.s .o (.cl (.s .o .o) .o)) (.s .o (.s (.s .o (.cl (.s .o .o) .o)) (.s .o (.s (.s .o (.cl (.s .o .o) .o)) (.s .o (.s .o (.s (.s .o (.b [0,1,5,8,9] (.l [0,1,5,8,9,10] (.s (.s .o (.cr .o .o)) (.s (.b0 (.s .o (.s .o (.s (.s .o (.c [0,1,5,8,9,10,11,13] (.s .o (.s .o (.c [0,1,5,8,9,10,11,13] (.s (.s .o (.cl (.s .o .o) .o)) (.s .o .o)) (.s .o (.cl (.s .o .o) .o))))) .o)) (.s (.s .o (.c [0,1,5,8,9,10,11] (.s .o (.s (.s .o (.cl (.s .o .o) .o)) (.s .o .o))) .o)) (.s .o (.s .o (.s .o (.cl (.s .o .o) .o))))))))) .o))))) (.s .o (.s .o (.s (.s .o (.b [5,8,24] (.l [0,1,5,8,9,23,24,25] (.s (.s .o (.cr .o .o)) (.s (.b0 (.s .o (.s (.s .o (.cl (.s .o .o) .o)) (.s (.s .o (.b [0,1,5,8,9,23,24,25,27] (.l [0,1,5,8,9,23,24,25,26,27,29] (.s (.s .o (.cr .o .o)) (.s (.b0 (.s .o (.s (.s .o (.cl (.s .o .o) .o)) (.s .o .o)))) .o))))) (.s .o (.cl .o .o)))))) .o))))) (.s .o (.s .o (.s .o .o)))))))))))))))
theorem zMV {D:Dyn}(hD:DG D)(n:Nat):FI 12 (f12 D n):=qR (n:=n) (h:=h12) X_ok hD (sc (zFy hD n) (sc (zC3 hD n) (sc (zC4 hD n) (sc (zC5 hD n) (sc (zC2 hD n) (sc (zC0 hD n) (sc (zC1 hD n) (sc (UQ hD n) (sc (zFC hD n) (SOk.nil)))))))))) Tryz.func12 (by kernel_rfl) (by kernel_rfl)
end Go.Eng.Sh
end
end
section
noncomputable section
namespace Go.Eng.Sh
open Go.Proofs
set_option maxRecDepth 100000
def tab (D:Dyn)(n:Nat):List (Nat×(List AV→AH→Option (AV×AH))):=[(12,f12 D n),(20,f20 D n),(23,f23 D n),(27,f27 D n),(31,f31 D n),(32,f32 D n),(36,f36 D n),(42,f42 D n),(43,f43 D n),(44,f44 D n),(45,f45 D n),(46,f46 D n),(47,f47 D n),(48,f48 D n),(49,f49 D n),(62,f62 D n),(63,f63 D n),(64,f64 D n),(65,f65 D n),(66,f66 D n),(67,f67 D n),(68,f68 D n),(69,f69 D n),(70,f70 D n),(72,f72 D n),(75,f75 D n),(77,f77 D n),(80,f80 D n),(82,f82 D n),(83,f83 D n),(84,f84 D n),(85,f85 D n),(86,f86 D n),(87,f87 D n),(88,f88 D n),(89,f89 D n),(90,f90 D n),(91,f91 D n),(92,f92 D n),(93,f93 D n),(94,f94 D n),(101,f101 D n),(102,f102 D n),(103,f103 D n),(104,f104 D n),(105,f105 D n),(106,f106 D n),(107,f107 D n),(108,f108 D n),(109,f109 D n),(110,zLA D n),(111,f111 D n),(115,f115 D n),(118,f118 D n),(119,f119 D n),(123,f123 D n),(124,f124 D n),(125,zLz D n),(126,f126 D n),(127,f127 D n),(128,f128 D n),(129,f129 D n),(130,f130 D n),(138,f138 D n),(139,f139 D n),(140,f140 D n),(141,f141 D n),(144,f144 D n),(153,f153 D n),(155,f155 D n),(156,f156 D n),(166,f166 D n),(167,f167 D n),(168,f168 D n),(179,f179 D n),(180,f180 D n),(183,f183 D n)]
def tabR (D:Dyn)(n:Nat):List ((Nat×Nat)×(Nat→ALoop→List AV→AH→Option (AV×AH))):=[((90,0),zCS D n),((155,0),QG D n)]
theorem zLR (D:Dyn)(n:Nat)(hD:DG D):SOk (tab D n):=sc (zMV hD n) (sc (zC5 hD n) (sc (zJp hD n) (sc (zFC hD n) (sc (zJo hD n) (sc (zJn hD n) (sc (zJm hD n) (sc (zC4 hD n) (sc (zC3 hD n) (sc (zC2 hD n) (sc (UQ hD n) (sc (zC1 hD n) (sc (zC0 hD n) (sc (zFy hD n) (sc (zJl hD n) (sc (Y3 hD n) (sc (zFx hD n) (sc (zMS hD n) (sc (zJk hD n) (sc (zMR hD n) (sc (zJj hD n) (sc (zFw hD n) (sc (UP hD n) (sc (Z1 hD n) (sc (zJi hD n) (sc (zJh hD n) (sc (zFu hD n) (sc (zJg hD n) (sc (zJf hD n) (sc (UO hD n) (sc (UN hD n) (sc (zBZ hD n) (sc (zFt hD n) (sc (zMP hD n) (sc (zBY hD n) (sc (zBX hD n) (sc (zFr hD n) (sc (zJe hD n) (sc (zFq hD n) (sc (zFp hD n) (sc (zJd hD n) (sc (zAS hD n) (sc (X2 hD n) (sc (zKX hD n) (sc (zG8 hD n) (sc (zAR hD n) (sc (zG5 hD n) (sc (Y7 hD n) (sc (X0 hD n) (sc (WZ hD n) (sc (zEX hD n) (sc (WY hD n) (sc (zG0 hD n) (sc (zFZ hD n) (sc (zFY hD n) (sc (WW hD n) (sc (zFX hD n) (sc (zEW hD n) (sc (zAQ hD n) (sc (zAP hD n) (sc (zKU hD n) (sc (zFW hD n) (sc (zKT hD n) (sc (zFS hD n) (sc (zAO hD n) (sc (zAN hD n) (sc (zAM hD n) (sc (zFR hD n) (sc (zFO hD n) (sc (zKS hD n) (sc (zAL hD n) (sc (zFL hD n) (sc (zFK hD n) (sc (zFI hD n) (sc (zKR hD n) (sc (zFF hD n) (sc (zFE hD n) (SOk.nil)))))))))))))))))))))))))))))))))))))))))))))))))))))))))))))))))))))))))))))
theorem zJU (D:Dyn)(n:Nat)(hD:DG D):ROk (tabR D n):=ROk.cons (zHx hD n) (ROk.cons (zEu hD n) (ROk.nil))
def dy (n:Nat):Dyn:=dyOf tab tabR n
theorem dy_ok (n:Nat):DG (dy n):=zGi zLR zJU n
end Go.Eng.Sh
end
end
section
noncomputable section
namespace Go.Eng.Sh
open Go.Proofs
set_option maxRecDepth 1000000
theorem c43_r:zKb (f43 (dy 100000) 100000 [] ⟨.leaf,0⟩)=true:=by kernel_rfl
theorem c43 (w:World):Calls PP 43 #[] w fun e w'=>e= .returned (.bool true)∧RowKit.Below w.heap.size w w':=zIA (zC3 (dy_ok 100000) 100000) c43_r w
end Go.Eng.Sh
end
end
section
noncomputable section
namespace Go.Eng.Sh
open Go.Proofs
set_option maxRecDepth 1000000
def z43 (D:Dyn)(n:Nat)(vs:List AV)(H:AH):Option (AV×AH):=cloK (f43 D n) vs H
theorem zLK {D:Dyn}(hD:DG D)(n:Nat):FI 43 (z43 D n):=zLd ⟨_,Tryz.func43,rfl⟩ c43 (zC3 hD n)
def s12z (D:Dyn)(n:Nat):Tb:=⟨X,[(48,f48 D n),(43,z43 D n),(42,f42 D n),(20,f20 D n),(44,f44 D n),(47,f47 D n),(46,f46 D n),(45,f45 D n),(27,f27 D n)]⟩
def JY (D:Dyn)(n:Nat)(vs:List AV)(H:AH):Rs:=
 hd vs fun a vs=>hd vs fun b vs=>hd vs fun c vs=>hd vs fun d vs=>hd vs fun e vs=>hd vs fun f vs=>hd vs fun g vs=>hd vs fun h vs=>
 some (.norm [a,b,c,d,e,f,g,h],H)
def zCc (D:Dyn)(n:Nat)(vs:List AV)(H:AH):Rs:=
 hd vs fun a vs=>hd vs fun b vs=>hd vs fun c vs=>hd vs fun d vs=>hd vs fun e vs=>hd vs fun f vs=>hd vs fun g vs=>
 bV (fAd 4 g) fun h=>
 bV (ld1 h H) fun i=>
 bR (f46 D n [c,(.int .i64 (.ofNat 1)),i] H) fun k H=>
 bV (qK k 0) fun m=>
 bV (qK k 1) fun o=>
 bV (qK k 2) fun p=>
 bV (fAd 4 g) fun r=>
 bV (ld1 r H) fun t=>
 bV (lkM [2] (.int .i64 (.ofNat 0)) true d t H) fun u=>
 bV (qK u 0) fun v=>
 bV (qK u 1) fun w=>
 bV (qO .eql p (.int .i64 (.ofNat 0))) fun x=>
 bV (fU .neq x w) fun y=>
 jn (wnt y false (bV (qO .neq m v) fun z=>
 some (.norm [z],H)) (some (.norm [qM],H))) fun vs H=>hd vs fun B vs=>
 bV (pk3 (some y) (some (.bool true)) (some B)) fun C=>
 jn (wnt C false (bV (fAd 4 g) fun E=>
 bV (ld1 E H) fun F=>
 bV (lkM [2] (.int .i64 (.ofNat 0)) false e F H) fun G=>
 bV (qO .neq o G) fun I=>
 some (.norm [I],H)) (some (.norm [qM],H))) fun vs H=>hd vs fun J vs=>
 bV (pk3 (some C) (some (.bool true)) (some J)) fun K=>
 cnd K (bV (some (.bool false)) fun M=>some (.ret M,H))
 (bV (qO .add f (.int .i64 (.ofNat 1))) fun N=>
 some (.norm [a,b,c,d,e,N],H))
def Z3 (D:Dyn)(n:Nat)(vs:List AV)(H:AH):Rs:=
 hd vs fun a vs=>hd vs fun b vs=>hd vs fun c vs=>hd vs fun d vs=>hd vs fun e vs=>hd vs fun f vs=>hd vs fun g vs=>hd vs fun h vs=>
 bV (fAd 0 g) fun i=>
 bV (ld1 i H) fun k=>
 bV (qO .eql k (.int .u8 (.ofNat 1))) fun m=>
 jn (cnd m (bV (fAd 4 g) fun o=>
 bV (ld1 o H) fun p=>
 bR (f47 D n [c,(.int .i64 (.ofNat 1)),p] H) fun r H=>
 bV (qK r 0) fun t=>
 bV (qK r 1) fun u=>
 bV (qO .eql u (.int .i64 (.ofNat 0))) fun v=>
 bV (fU .neq v h) fun w=>
 jn (wnt w false (some (.norm [h],H)) (some (.norm [qM],H))) fun vs H=>hd vs fun x vs=>
 jn (wnt x true (bV (fAd 4 g) fun y=>
 bV (ld1 y H) fun z=>
 bV (lkM [2] (.int .i64 (.ofNat 0)) false d z H) fun B=>
 bV (qO .neq t B) fun C=>
 some (.norm [C],H)) (some (.norm [qM],H))) fun vs H=>hd vs fun E vs=>
 jn (wnt w false (bV (pk3 (some x) (some E) (some (.bool false))) fun F=>
 some (.norm [F],H)) (some (.norm [qM],H))) fun vs H=>hd vs fun G vs=>
 bV (pk3 (some w) (some (.bool true)) (some G)) fun I=>
 cnd I (bV (some (.bool false)) fun J=>some (.ret J,H))
 (bV (fAd 4 g) fun K=>
 bV (ld1 K H) fun M=>
 bR (dlM [2] d M H) fun N H=>
 bV (fAd 4 g) fun O=>
 bV (ld1 O H) fun P=>
 bR (dlM [2] e P H) fun Q H=>
 some (.norm [a,b,c,d,e,f,g],H)))
 (some (.norm [a,b,c,d,e,f,g],H))) (zCc D n)
def uG (D:Dyn)(n:Nat)(vs:List AV)(H:AH):Rs:=
 hd vs fun a vs=>hd vs fun b vs=>hd vs fun c vs=>hd vs fun d vs=>hd vs fun e vs=>hd vs fun f vs=>
 bV (lnSl a) fun g=>
 bV (qO .lss f g) fun h=>
 cnd h (bV (jP 5 a f) fun i=>
 bV (ldN 5 i H) fun k=>
 bA (bxV 105 (.agg [(.int .u8 (.ofNat 0)),(.int .i64 (.ofNat 0)),(.int .i64 (.ofNat 0)),(.int .i64 (.ofNat 0)),(.str 0 0)])) H fun m H=>
 bR (stN 5 m k H) fun o H=>
 bV (fAd 4 m) fun p=>
 bV (ld1 p H) fun r=>
 bV (lkM [2] (.int .i64 (.ofNat 0)) true d r H) fun t=>
 bV (qK t 0) fun u=>
 bV (qK t 1) fun v=>
 bV (fAd 0 m) fun w=>
 bV (ld1 w H) fun x=>
 bV (qO .eql x (.int .u8 (.ofNat 0))) fun y=>
 jn (cnd y (bV (fAd 4 m) fun z=>
 bV (ld1 z H) fun B=>
 bV (fAd 2 m) fun C=>
 bV (ld1 C H) fun E=>
 bR (f44 D n [c,(.int .i64 (.ofNat 1)),B,E] H) fun F H=>
 bV (qK F 0) fun G=>
 bV (qK F 1) fun I=>
 bV (qO .eql I (.int .i64 (.ofNat 0))) fun J=>
 jn (cnd J (jn (wnt v false (bV (qO .lss G (.int .i64 (.ofNat 1))) fun K=>
 some (.norm [K],H)) (some (.norm [qM],H))) fun vs H=>hd vs fun M vs=>
 bV (pk3 (some v) (some (.bool true)) (some M)) fun N=>
 jn (wnt N false (bV (qO .gtr G (.int .i64 (.ofNat 262144))) fun O=>
 some (.norm [O],H)) (some (.norm [qM],H))) fun vs H=>hd vs fun P vs=>
 bV (pk3 (some N) (some (.bool true)) (some P)) fun Q=>
 cnd Q (bV (some (.bool false)) fun R=>some (.ret R,H))
 (bV (fAd 4 m) fun T=>
 bV (ld1 T H) fun U=>
 bV (fAd 2 m) fun V=>
 bV (ld1 V H) fun W=>
 bR (upM [2] d U W H) fun Y H=>
 bV (fAd 4 m) fun Z=>
 bV (ld1 Z H) fun a0=>
 bR (upM [2] e a0 G H) fun a1 H=>
 some (.norm [a,b,c,d,e,f,m,v],H)))
 (bV (qO .eql I (.int .i64 (.ofNat 6))) fun a2=>
 bV (fU .neq v a2) fun a3=>
 jn (wnt a3 true (bV (fAd 2 m) fun a4=>
 bV (ld1 a4 H) fun a5=>
 bV (qO .geq a5 (.int .i64 (.ofNat 1))) fun a6=>
 some (.norm [a6],H)) (some (.norm [qM],H))) fun vs H=>hd vs fun a7 vs=>
 bV (pk3 (some a3) (some a7) (some (.bool false))) fun a8=>
 jn (wnt a8 true (bV (fAd 2 m) fun a9=>
 bV (ld1 a9 H) fun b0=>
 bV (qO .leq b0 (.int .i64 (.ofNat 2147483647))) fun b1=>
 some (.norm [b1],H)) (some (.norm [qM],H))) fun vs H=>hd vs fun b2 vs=>
 bV (pk3 (some a8) (some b2) (some (.bool false))) fun b3=>
 cnd b3 (bV (some (.bool false)) fun b4=>some (.ret b4,H))
 (some (.norm [a,b,c,d,e,f,m,v],H)))) (JY D n))
 (some (.norm [a,b,c,d,e,f,m,v],H))) (Z3 D n))
 (some (.exit 0 [a,b,c,d,e],H))
def zCb (D:Dyn)(n:Nat)(vs:List AV)(H:AH):Rs:=
 hd vs fun a vs=>hd vs fun b vs=>hd vs fun c vs=>hd vs fun d vs=>hd vs fun e vs=>hd vs fun f vs=>hd vs fun g vs=>hd vs fun h vs=>hd vs fun i vs=>hd vs fun k vs=>hd vs fun m vs=>
 bV (lnSl i) fun o=>
 bV (qO .lss m o) fun p=>
 cnd p (bV (jP 3 i m) fun r=>
 bV (fAd 0 r) fun t=>
 bV (ld1 t H) fun u=>
 bV (lkM [2] (.int .i64 (.ofNat 0)) true d u H) fun v=>
 bV (qK v 0) fun w=>
 bV (qK v 1) fun x=>
 bV (aun .not x) fun y=>
 jn (wnt y false (bV (jP 3 i m) fun z=>
 bV (fAd 1 z) fun B=>
 bV (ld1 B H) fun C=>
 bV (qO .neq w C) fun E=>
 some (.norm [E],H)) (some (.norm [qM],H))) fun vs H=>hd vs fun F vs=>
 bV (pk3 (some y) (some (.bool true)) (some F)) fun G=>
 jn (wnt G false (bV (jP 3 i m) fun I=>
 bV (fAd 2 I) fun J=>
 bV (ld1 J H) fun K=>
 bV (jP 3 i m) fun M=>
 bV (fAd 0 M) fun N=>
 bV (ld1 N H) fun O=>
 bV (lkM [2] (.int .i64 (.ofNat 0)) false e O H) fun P=>
 bV (qO .neq K P) fun Q=>
 some (.norm [Q],H)) (some (.norm [qM],H))) fun vs H=>hd vs fun R vs=>
 bV (pk3 (some G) (some (.bool true)) (some R)) fun T=>
 jn (wnt T false (bV (jP 3 i m) fun U=>
 bV (fAd 2 U) fun V=>
 bV (ld1 V H) fun W=>
 bV (qO .leq W f) fun Y=>
 some (.norm [Y],H)) (some (.norm [qM],H))) fun vs H=>hd vs fun Z vs=>
 bV (pk3 (some T) (some (.bool true)) (some Z)) fun a0=>
 cnd a0 (bV (some (.bool false)) fun a1=>some (.ret a1,H))
 (bV (jP 3 i m) fun a2=>
 bV (fAd 2 a2) fun a3=>
 bV (ld1 a3 H) fun a4=>
 bV (qO .add g (.int .i64 (.ofNat 1))) fun a5=>
 bV (qO .add m (.int .i64 (.ofNat 1))) fun a6=>
 some (.norm [a,b,c,d,e,a4,a5,h,i,k,a6],H)))
 (some (.exit 4 [a,b,c,d,e,f,g,h,k],H))
def zFV (D:Dyn)(n:Nat)(vs:List AV)(H:AH):Rs:=
 hd vs fun a vs=>hd vs fun b vs=>hd vs fun c vs=>hd vs fun d vs=>hd vs fun e vs=>hd vs fun f vs=>hd vs fun g vs=>hd vs fun h vs=>hd vs fun i vs=>
 cnd i (some (.exit 2 [c,d,g],H))
 (bV (qO .add h (.int .i64 (.ofNat 1))) fun k=>
 some (.norm [a,b,c,d,e,f,g,k],H))
def UV (D:Dyn)(n:Nat)(vs:List AV)(H:AH):Rs:=
 hd vs fun a vs=>hd vs fun b vs=>hd vs fun c vs=>hd vs fun d vs=>hd vs fun e vs=>hd vs fun f vs=>hd vs fun g vs=>hd vs fun h vs=>
 bV (lnSl a) fun i=>
 bV (qO .add i (.int .i64 (.ofNat 1))) fun k=>
 bV (qO .leq h k) fun m=>
 cnd m (bR (f45 D n [c,(.int .i64 (.ofNat 1)),f,b] H) fun o H=>
 bV (qK o 0) fun p=>
 bV (qK o 1) fun r=>
 bV (qK o 2) fun t=>
 bV (qO .neq t (.int .i64 (.ofNat 0))) fun u=>
 jn (wnt u false (bV (lnSl p) fun v=>
 bV (qO .gtr v b) fun w=>
 some (.norm [w],H)) (some (.norm [qM],H))) fun vs H=>hd vs fun x vs=>
 bV (pk3 (some u) (some (.bool true)) (some x)) fun y=>
 jn (wnt y false (bV (aun .not r) fun z=>
 some (.norm [z],H)) (some (.norm [qM],H))) fun vs H=>hd vs fun B vs=>
 jn (wnt B true (bV (lnSl p) fun C=>
 bV (qO .lss C b) fun E=>
 some (.norm [E],H)) (some (.norm [qM],H))) fun vs H=>hd vs fun F vs=>
 jn (wnt y false (bV (pk3 (some B) (some F) (some (.bool false))) fun G=>
 some (.norm [G],H)) (some (.norm [qM],H))) fun vs H=>hd vs fun I vs=>
 bV (pk3 (some y) (some (.bool true)) (some I)) fun J=>
 cnd J (bV (some (.bool false)) fun K=>some (.ret K,H))
 (jb 4 (qV n (zCb D n) [a,b,c,d,e,f,g,h,p,r,(.int .i64 (.ofNat 0))] H) (zFV D n)))
 (some (.exit 2 [c,d,g],H))
def zFU (D:Dyn)(n:Nat)(vs:List AV)(H:AH):Rs:=
 hd vs fun a vs=>hd vs fun b vs=>hd vs fun c vs=>
 bR (f46 D n [a,(.int .i64 (.ofNat 2)),(.str 5 491327616111)] H) fun d H=>
 bV (qK d 0) fun e=>
 bV (qK d 1) fun f=>
 bV (qK d 2) fun g=>
 bR (f27 D n [a,(.str 1 102)] H) fun h H=>
 bV (qK h 0) fun i=>
 bV (qK h 1) fun k=>
 bV (ZG b H) fun m=>
 bV (qO .eql c m) fun o=>
 jn (wnt o true (bV (qO .eql e (.int .i64 (.ofNat 5))) fun p=>
 some (.norm [p],H)) (some (.norm [qM],H))) fun vs H=>hd vs fun r vs=>
 bV (pk3 (some o) (some r) (some (.bool false))) fun t=>
 jn (wnt t true (bV (qO .eql g (.int .i64 (.ofNat 0))) fun u=>
 some (.norm [u],H)) (some (.norm [qM],H))) fun vs H=>hd vs fun v vs=>
 bV (pk3 (some t) (some v) (some (.bool false))) fun w=>
 jn (wnt w true (bV (k7 .eql i (.str 3 7955819)) fun x=>
 some (.norm [x],H)) (some (.norm [qM],H))) fun vs H=>hd vs fun y vs=>
 bV (pk3 (some w) (some y) (some (.bool false))) fun z=>
 jn (wnt z true (bV (qO .eql k (.int .i64 (.ofNat 0))) fun B=>
 some (.norm [B],H)) (some (.norm [qM],H))) fun vs H=>hd vs fun C vs=>
 bV (pk3 (some z) (some C) (some (.bool false))) fun E=>
 bV (some E) fun F=>some (.ret F,H)
def zJw (D:Dyn)(n:Nat)(vs:List AV)(H:AH):Rs:=
 hd vs fun a vs=>hd vs fun b vs=>hd vs fun c vs=>hd vs fun d vs=>hd vs fun e vs=>
 bV (cvI .u64 b) fun f=>
 bV (qO .rem f (.int .u64 (.ofNat 20))) fun g=>
 bV (cvI .i64 g) fun h=>
 bV (qO .add (.int .i64 (.ofNat 1)) h) fun i=>
 jb 2 (qV n (UV D n) [a,i,c,d,e,(.int .i64 (.ofNat 0)),(.int .i64 (.ofNat 0)),(.int .i64 (.ofNat 0))] H) (zFU D n)
def f12z (D:Dyn)(n:Nat)(vs:List AV)(H:AH):Option (AV×AH):=
 outR (hd vs fun a vs=>hd vs fun b vs=>nl vs <|
 bR (f48 D n [a] H) fun c H=>
 jn (wnt c false (bR (z43 D n [] H) fun d H=>
 bV (aun .not d) fun e=>
 some (.norm [e],H)) (some (.norm [qM],H))) fun vs H=>hd vs fun f vs=>
 bV (pk3 (some c) (some (.bool true)) (some f)) fun g=>
 cnd g (bR (z43 D n [] H) fun h H=>
 bV (some h) fun i=>some (.ret i,H))
 (bR (f42 D n [] H) fun k H=>
 bR (f20 D n [k,(.str 1 102),(.str 3 7955819)] H) fun m H=>
 bV (qO .neq m (.int .i64 (.ofNat 0))) fun o=>
 cnd o (bV (some (.bool false)) fun p=>some (.ret p,H))
 (bR (f44 D n [k,(.int .i64 (.ofNat 2)),(.str 5 491327616111),(.int .i64 (.ofNat 5))] H) fun r H=>
 bV (qK r 0) fun t=>
 bV (qK r 1) fun u=>
 bV (qO .neq u (.int .i64 (.ofNat 0))) fun v=>
 cnd v (bV (some (.bool false)) fun w=>some (.ret w,H))
 (bA (mkM [2]) H fun x H=>
 bA (mkM [2]) H fun y H=>
 jb 0 (qV n (uG D n) [a,b,k,x,y,(.int .i64 (.ofNat 0))] H) (zJw D n)))))
def h12z:Hint:=(.s .o (.s (.s .o (.cl (.s .o .o) .o)) (.s .o (.s (.s .o (.cl (.s .o .o) .o)) (.s .o (.s (.s .o (.cl (.s .o .o) .o)) (.s .o (.s .o (.s (.s .o (.b [0,1,5,8,9] (.l [0,1,5,8,9,10] (.s (.s .o (.cr .o .o)) (.s (.b0 (.s .o (.s .o (.s (.s .o (.c [0,1,5,8,9,10,11,13] (.s .o (.s .o (.c [0,1,5,8,9,10,11,13] (.s (.s .o (.cl (.s .o .o) .o)) (.s .o .o)) (.s .o (.cl (.s .o .o) .o))))) .o)) (.s (.s .o (.c [0,1,5,8,9,10,11] (.s .o (.s (.s .o (.cl (.s .o .o) .o)) (.s .o .o))) .o)) (.s .o (.s .o (.s .o (.cl (.s .o .o) .o))))))))) .o))))) (.s .o (.s .o (.s (.s .o (.b [5,8,24] (.l [0,1,5,8,9,23,24,25] (.s (.s .o (.cr .o .o)) (.s (.b0 (.s .o (.s (.s .o (.cl (.s .o .o) .o)) (.s (.s .o (.b [0,1,5,8,9,23,24,25,27] (.l [0,1,5,8,9,23,24,25,26,27,29] (.s (.s .o (.cr .o .o)) (.s (.b0 (.s .o (.s (.s .o (.cl (.s .o .o) .o)) (.s .o .o)))) .o))))) (.s .o (.cl .o .o)))))) .o))))) (.s .o (.s .o (.s .o .o)))))))))))))))
theorem f12z_ok {D:Dyn}(hD:DG D)(n:Nat):FI 12 (f12z D n):=qR (n:=n) (h:=h12z) X_ok hD (sc (zFy hD n) (sc (zLK hD n) (sc (zC4 hD n) (sc (zC5 hD n) (sc (zC2 hD n) (sc (zC0 hD n) (sc (zC1 hD n) (sc (UQ hD n) (sc (zFC hD n) (SOk.nil)))))))))) Tryz.func12 (by kernel_rfl) (by kernel_rfl)
end Go.Eng.Sh
end
end
section
namespace Go.Nd
abbrev Str:=List UInt8
structure Ptr where
 at_:Int
 birth:Int
 sum:Int
 deriving DecidableEq
structure Node where
 leaf:Bool
 keys:List Str
 vals:List Str
 kids:List Ptr
 deriving DecidableEq
def be:Nat→Nat→Str
 | 0,_=>[]
 | k+1,n=>be k (n / 256)++[UInt8.ofNat n]
theorem be_length: ∀k n,(be k n).length=k
 | 0,_=>rfl
 | k+1,n=>by simp[be,be_length k]
def zKs (p:Ptr):Bool:=if p.at_=0 then decide (p.birth=0)&&decide (p.sum=0)else decide (0<p.at_)&&decide (p.at_<8192)&&decide (0≤p.birth)&&decide (p.birth≤2147483647)
def encP (p:Ptr):Str:=be 4 p.at_.toNat++(be 4 p.birth.toNat++be 8 p.sum.toNat)
theorem encP_length (p:Ptr):(encP p).length=16:=by simp[encP,be_length]
def sumOk (p:Ptr):Prop:=0≤p.sum∧p.sum<18446744073709551616
def encT (s:Str):Str:=UInt8.ofNat s.length::s
def mayK (k:Str):Bool:=decide (1≤k.length)&&decide (k.length≤40)
def rising (lt:Str→Str→Bool):List Str→Bool
 | []=>true
 | [_]=>true
 | a::b::l=>lt a b&&rising lt (b::l)
def kidOk (p:Ptr):Bool:=decide (1≤p.at_)&&decide (p.at_<8192)&&decide (0≤p.birth)&&decide (p.birth≤2147483647)
def shaped (lt:Str→Str→Bool)(n:Node):Bool:=
 n.keys.all mayK&&rising lt n.keys&&
 (if n.leaf then decide (n.vals.length=n.keys.length)&&decide (n.kids=[])&&n.vals.all (fun v=>decide (v.length≤200))
  else decide (n.keys≠[])&&decide (n.vals=[])&&decide (n.kids.length=n.keys.length+1)&&n.kids.all kidOk)
def yI (l:List Str):Nat:=l.foldl (fun n s=>n+(1+s.length)) 0
theorem VB (l:List Str)(a:Nat):l.foldl (fun n s=>n+(1+s.length)) a=a+yI l:=by
 induction l generalizing a with
 | nil=>simp[yI]
 | cons s l ih=>simp only[List.foldl_cons,yI];rw[ih,ih];omega
theorem sumL_cons (s:Str)(l:List Str):yI (s::l)=1+s.length+yI l:=by
 simp only[yI,List.foldl_cons];rw[VB,VB];simp[yI]
theorem sumL_append (l m:List Str):yI (l++m)=yI l+yI m:=by
 induction l with
 | nil=>simp[yI]
 | cons s l ih=>rw[List.cons_append,sumL_cons,sumL_cons,ih];omega
def size (n:Node):Nat:=2+16*n.kids.length+yI n.keys+yI n.vals
def may (lt:Str→Str→Bool)(n:Node):Bool:=shaped lt n&&decide (size n≤500)
def encL:List Str→List Str→Str
 | k::ks,v::vs=>encT k++(encT v++encL ks vs)
 | _,_=>[]
def encI:List Str→List Ptr→Str
 | k::ks,p::ps=>encT k++(encP p++encI ks ps)
 | _,_=>[]
def encB (n:Node):Str:=if n.leaf then encL n.keys n.vals else match n.kids with
 | p::ps=>encP p++encI n.keys ps
 | []=>[]
def encN (n:Node):Str:=be 2 n.keys.length++encB n
theorem sumL_ge (l:List Str):l.length≤yI l:=by
 induction l with
 | nil=>simp
 | cons s l ih=>rw[sumL_cons,zF];omega
end Go.Nd
end
section
namespace Go.Eng
theorem wX {b:List AV→AH→Rs}{H:AH}{r:Rs}(st:Nat→List AV)(N:Nat)(step: ∀i,i<N→b (st i) H=some (.norm (st (i+1)),H))(last: ∀n,qV (n+1) b (st N) H=r): ∀n,N<n→qV n b (st 0) H=r:=by
 suffices h: ∀(m i n:Nat),i+m=N→m<n→qV n b (st i) H=r from fun n hn=>h N 0 n (by omega) hn
 intro m
 induction m with
 | zero=>
  intro i n hi hn
  obtain⟨n,rfl⟩: ∃k,n=k+1:=⟨n - 1,by omega⟩
  rw[show i=N by omega];exact last n
 | succ m ih=>
  intro i n hi hn
  obtain⟨n,rfl⟩: ∃k,n=k+1:=⟨n - 1,by omega⟩
  rw[wL (step i (by omega))]
  exact ih (i+1) n (by omega) (by omega)
theorem dB {α:Type}(l:List α)(i:Nat)(h:i<l.length):l.take (i+1)=l.take i++[l[i]]:=by
 rw[zM h]
theorem ZM (H:AH)(l:List AV)(e sz o:Nat)(g:Bool):ld1 (.ptr H.next o) (H.push (.cells l e sz g))=l[o]? :=by simp only[ld1,AH.push_get_eq,dO]
theorem zHT (H:AH)(l:List AV)(e sz o n:Nat)(g:Bool):ldN n (.ptr H.next o) (H.push (.cells l e sz g))=(vT l o n).map .agg:=by
 simp only[ldN,AH.push_get_eq];cases vT l o n<;>rfl
theorem zF1 {H:AH}{A:Nat}(o:Nat)(x:AObj)(h:A<H.next):ld1 (.ptr A o) (H.push x)=ld1 (.ptr A o) H:=by simp only[ld1,AH.push_get_ne _ _ h]
theorem zKy {H:AH}{A:Nat}(o n:Nat)(x:AObj)(h:A<H.next):ldN n (.ptr A o) (H.push x)=ldN n (.ptr A o) H:=by simp only[ldN,AH.push_get_ne _ _ h]
theorem v8 {b:List AV→AH→Rs}(N:Nat)(I:Nat→List AV→AH→Prop)(step: ∀i vs H,i<N→I i vs H→ ∃vs' H',b vs H=some (.norm vs',H')∧I (i+1) vs' H'):
  ∀(n:Nat) (vs:List AV) (H:AH),I 0 vs H→N<n→ ∃m vs' H',qV n b vs H=qV (m+1) b vs' H'∧I N vs' H':=by
 suffices h: ∀(m i n:Nat) (vs:List AV) (H:AH),i+m=N→m<n→I i vs H→ ∃m vs' H',qV n b vs H=qV (m+1) b vs' H'∧I N vs' H' from fun n vs H h0 hn=>h N 0 n vs H (by omega) hn h0
 intro m
 induction m with
 | zero=>
  intro i n vs H hi hn hI
  obtain⟨n,rfl⟩: ∃k,n=k+1:=⟨n - 1,by omega⟩
  exact⟨n,vs,H,rfl,by rw[show N=i by omega];exact hI⟩
 | succ m ih=>
  intro i n vs H hi hn hI
  obtain⟨n,rfl⟩: ∃k,n=k+1:=⟨n - 1,by omega⟩
  obtain⟨vs',H',h1,h2⟩:=step i vs H (by omega) hI
  rw[wL h1]
  exact ih (i+1) n vs' H' (by omega) (by omega) h2
def notN:Ex→Bool
 | .norm _=>false
 | _=>true
theorem zF4 {e:Ex}{H:AH}{K:List AV→AH→Rs}(h:notN e=true):jn (some (e,H)) K=some (e,H):=by cases e<;>first | rfl | (simp[notN]at h)
theorem WK {b:List AV→AH→Rs}(N:Nat)(good:Nat→Bool)(I:Nat→List AV→AH→Prop)(Good Bad:Ex→AH→Prop)
  (step: ∀i vs H,i<N→I i vs H→good i=true→ ∃vs' H',b vs H=some (.norm vs',H')∧I (i+1) vs' H')
  (bad: ∀i vs H,i<N→I i vs H→good i=false→ ∃e H',b vs H=some (e,H')∧notN e=true∧Bad e H')
  (last: ∀vs H,I N vs H→ ∃e H',b vs H=some (e,H')∧notN e=true∧Good e H'):
  ∀(n:Nat) (vs:List AV) (H:AH),I 0 vs H→N<n→ ∃e H',qV n b vs H=some (e,H')∧if(List.range N).all good then Good e H' else Bad e H':=by
 suffices h: ∀(m i n:Nat) (vs:List AV) (H:AH),i+m=N→m<n→I i vs H→(∀j,j<i→good j=true)→ ∃e H',qV n b vs H=some (e,H')∧if(List.range N).all good then Good e H' else Bad e H' from
  fun n vs H h0 hn=>h N 0 n vs H (by omega) hn h0 (fun j hj=>by omega)
 intro m
 induction m with
 | zero=>
  intro i n vs H hi hn hI hg
  obtain⟨n,rfl⟩: ∃k,n=k+1:=⟨n - 1,by omega⟩
  rw[show i=N by omega]at hI hg
  obtain⟨e,H',h1,h2,h3⟩:=last vs H hI
  refine⟨e,H', ?_, ?_⟩
  ·show jn (b vs H) _=_
   rw[h1,zF4 h2]
  ·rw[if_pos (by simpa[List.all_eq_true]using hg)];exact h3
 | succ m ih=>
  intro i n vs H hi hn hI hg
  obtain⟨n,rfl⟩: ∃k,n=k+1:=⟨n - 1,by omega⟩
  cases hgi:good i with
  | true=>
   obtain⟨vs',H',h1,h2⟩:=step i vs H (by omega) hI hgi
   rw[wL h1]
   exact ih (i+1) n vs' H' (by omega) (by omega) h2 (fun j hj=>by
    rcases Nat.lt_succ_iff_lt_or_eq.1 hj with h | rfl
    ·exact hg j h
    ·exact hgi)
  | false=>
   obtain⟨e,H',h1,h2,h3⟩:=bad i vs H (by omega) hI hgi
   refine⟨e,H', ?_, ?_⟩
   ·show jn (b vs H) _=_
    rw[h1,zF4 h2]
   ·rw[if_neg (by
     simp only[List.all_eq_true,List.mem_range];intro h
     have:=h i (by omega)
     rw[hgi]at this;cases this)];exact h3
theorem zDp (want:Bool)(x y:Rs):wnt qM want x y=y:=by cases want<;>rfl
theorem zCr (k k':IntKind){a:Int}{s:Nat}(ha:0≤a)(hs:s≤k.bits):qO .shr (.int k a) (.int k' (s:Int))=some (.int k (a / 2 ^ s)):=by
 show fI (a.fdiv ((2 ^ (Nat.min s k.bits):Nat):Int)) (fun r=>some (AV.int k r))=_
 rw[zAE,show Nat.min s k.bits=s from Nat.min_eq_left hs,Int.fdiv_eq_ediv_of_nonneg _ (Int.natCast_nonneg _)]
 simp
theorem zIH (k k':IntKind)(a:Int){s:Nat}(hs:s≤k.bits):qO .shl (.int k a) (.int k' (s:Int))=some (.int k (k.wrap (a*2 ^ s))):=by
 show mkI k (a*(2 ^ (Nat.min s k.bits):Nat))=_
 rw[kX,show Nat.min s k.bits=s from Nat.min_eq_left hs];simp
theorem yK {v:AV}(h:isCell v=true):qT v=[v]:=by cases v<;>first | rfl | (simp[isCell]at h)
theorem Rw.isCell {k n:Nat}{H:AH}{v:AV}{l:List AV}(h:Rw k H v n l):Eng.isCell v=true:=by
 obtain⟨_,⟨rfl,_⟩ | ⟨rfl,_⟩ | ⟨A,off,cc,c,e,sz,g,rfl,_⟩⟩:=h<;>rfl
theorem KE (k:IntKind)(a b:Int):BT (dV k) (.int k a) (.int k b)=some (decide (a=b)):=by
 have:keq k k=true:=by rw[kE];simp
 simp only[BT,Nat.beq_refl,this,Bool.and_self,cond_true,kF]
 congr 1
theorem yG {k n:Nat}{H:AH}{v:AV}{l:List AV}(h:Rw k H v n l):aveq v v=true:=by
 obtain⟨_,⟨rfl,_⟩ | ⟨rfl,_⟩ | ⟨A,off,cc,c,e,sz,g,rfl,_⟩⟩:=h
 ·rfl
 ·rfl
 ·simp[aveq]
theorem j0 {x:Option AV}{v:AV}{K:Rs}(h:x=some v)(hv:aveq v v=true):chk x v K=K:=by subst h;simp[chk,hv]
theorem qL {H:AH}{A:Nat}{l:List AV}{e:TypeId}{sz:Nat}{g:Bool}(h:H.h.get A=some (.cells l e sz g))(o:Nat):ld1 (.ptr A o) H=l[o]? :=by simp only[ld1,h,dO]
theorem qQ {H:AH}{A:Nat}{l:List AV}{e:TypeId}{sz:Nat}{g:Bool}(h:H.h.get A=some (.cells l e sz g))(o n:Nat):ldN n (.ptr A o) H=(vT l o n).map .agg:=by simp only[ldN,h];cases vT l o n<;>rfl
theorem zMz (b c:Bool)(H:AH)(K:AV→AH→Rs):
  jn (if b=false then some (.norm [.bool c],H)else some (.norm [qM],H)) (fun vs H=>hd vs fun y _=>bV (if b=true then some (.bool true)else some y) fun x=>K x H)=K (.bool (b||c)) H:=by
 cases b<;>simp[jn,hd,bV]
theorem zMy (p:Prop)[Decidable p](b:Bool)(H:AH)(K:AV→AH→Rs):
  jn (if ¬p then some (.norm [.bool b],H)else some (.norm [qM],H)) (fun vs H=>hd vs fun y _=>bV (if p then some (.bool true)else some y) fun x=>K x H)=K (.bool (decide p||b)) H:=by
 by_cases h:p<;>simp[h,jn,hd,bV]
theorem lg:(∀(p:Prop) [Decidable p] (b:Bool) (H:AH) (K:AV→AH→Rs),jn (if ¬p then some (.norm [.bool b],H)else some (.norm [qM],H)) (fun vs H=>hd vs fun y _=>bV (if p then some (.bool true)else some y) fun x=>K x H)=K (.bool (decide p||b)) H)∧
  (∀(p:Prop) [Decidable p] (b:Bool) (H:AH) (K:AV→AH→Rs),jn (if p then some (.norm [.bool b],H)else some (.norm [qM],H)) (fun vs H=>hd vs fun y _=>bV (if p then some y else some (.bool false)) fun x=>K x H)=K (.bool (decide p&&b)) H)∧
  (∀(p:Prop) [Decidable p] (b:Bool) (H:AH) (K:AV→AH→Rs),jn (if p then some (.norm [qM],H)else some (.norm [.bool b],H)) (fun vs H=>hd vs fun y _=>bV (if p then some (.bool true)else some y) fun x=>K x H)=K (.bool (decide p||b)) H)∧
  (∀(b c:Bool) (H:AH) (K:AV→AH→Rs),jn (if b=false then some (.norm [.bool c],H)else some (.norm [qM],H)) (fun vs H=>hd vs fun y _=>bV (if b=true then some (.bool true)else some y) fun x=>K x H)=K (.bool (b||c)) H)∧
  (∀(p:Prop) [Decidable p],(decide p=true)=p)∧(∀(p:Prop) [Decidable p],(decide p=false)= ¬p)∧(∀(b:Bool),decide (b=true)=b):=
 ⟨fun p _ b H K=>zMy p b H K,fun p _ b H K=>zMB p b H K,fun p _ b H K=>jn_or p b H K,zMz,fun p _=>zC,fun p _=>by simp,fun b=>by simp⟩
theorem ev:(∀(v:AV) (vs:List AV) (K:AV→List AV→Rs),hd (v::vs) K=K v vs)∧
 (∀(K:Rs),nl [] K=K)∧
 (∀(v:AV) (K:AV→Rs),bV (some v) K=K v)∧
 (∀(v:AV) (H:AH) (K:AV→AH→Rs),bR (some (v,H)) K=K v H)∧
 (∀(vs:List AV) (H:AH) (K:List AV→AH→Rs),jn (some (.norm vs,H)) K=K vs H)∧
 (∀(v:AV) (H:AH) (K:List AV→AH→Rs),jn (some (.ret v,H)) K=some (.ret v,H))∧
 (∀(i:Nat) (vs:List AV) (H:AH) (K:List AV→AH→Rs),jn (some (.exit i vs,H)) K=some (.exit i vs,H))∧
 (∀(id:Nat) (vs:List AV) (H:AH) (K:List AV→AH→Rs),jb id (some (.norm vs,H)) K=K vs H)∧
 (∀(id:Nat) (v:AV) (H:AH) (K:List AV→AH→Rs),jb id (some (.ret v,H)) K=some (.ret v,H))∧
 (∀(id:Nat) (vs:List AV) (H:AH) (K:List AV→AH→Rs),jb id (some (.exit id vs,H)) K=K vs H)∧
 (∀(v:AV) (H:AH),outR (some (.ret v,H))=some (v,H))∧
 (∀(b:Bool) (x y:Rs),cnd (.bool b) x y=if b then x else y)∧
 (∀(b want:Bool) (x y:Rs),wnt (.bool b) want x y=if b=want then x else y)∧
 (∀(b:Bool) (x y:Option AV),pk3 (some (.bool b)) x y=if b then x else y)∧
 (∀(k:IntKind) (a b:Int),qO .add (.int k a) (.int k b)=some (.int k (k.wrap (a+b))))∧
 (∀(k:IntKind) (a b:Int),qO .sub (.int k a) (.int k b)=some (.int k (k.wrap (a - b))))∧
 (∀(k:IntKind) (a b:Int),qO .mul (.int k a) (.int k b)=some (.int k (k.wrap (a*b))))∧
 (∀(k:IntKind) (a b:Int),qO .eql (.int k a) (.int k b)=some (.bool (decide (a=b))))∧
 (∀(k:IntKind) (a b:Int),qO .neq (.int k a) (.int k b)=some (.bool (decide (a≠b))))∧
 (∀(k:IntKind) (a b:Int),qO .lss (.int k a) (.int k b)=some (.bool (decide (a<b))))∧
 (∀(k:IntKind) (a b:Int),qO .leq (.int k a) (.int k b)=some (.bool (decide (a≤b))))∧
 (∀(k:IntKind) (a b:Int),qO .gtr (.int k a) (.int k b)=some (.bool (decide (b<a))))∧
 (∀(k:IntKind) (a b:Int),qO .geq (.int k a) (.int k b)=some (.bool (decide (b≤a))))∧
 (∀(k k':IntKind) (z:Int),cvI k (.int k' z)=some (.int k (k.wrap z)))∧
 (∀(a b:Bool),fU .eql (.bool a) (.bool b)=some (.bool (a==b)))∧
 (∀(a b:Bool),fU .neq (.bool a) (.bool b)=some (.bool (!(a==b))))∧
 (∀(b:Bool),aun .not (.bool b)=some (.bool !b))∧
 (∀(l:Str),kS (S l)=some (.int .i64 (l.length:Nat)))∧
 (∀(l m:Str),k7 .eql (S l) (S m)=some (.bool (decide (l=m))))∧
 (∀(l m:Str),k7 .neq (S l) (S m)=some (.bool (decide (l≠m))))∧
 (∀(l m:Str),k7 .lss (S l) (S m)=some (.bool (ltS l m)))∧
 (∀(l m:Str),k7 .geq (S l) (S m)=some (.bool (!ltS l m)))∧
 (∀(A o:Nat),xL (.ptr A o)=some (.ptr A o))∧
 (∀(f A o:Nat),fAd f (.ptr A o)=some (.ptr A (o+f)))∧
 (∀(e:TypeId) (x:AV),bxV e x=some (.cells (qT x) e 1 false,fun A=> .ptr A 0))∧
 (∀(l:List AV),qT (.agg l)=l)∧
 (∀(H:AH) (l:List AV) (e sz o:Nat) (g:Bool),ld1 (.ptr H.next o) (H.push (.cells l e sz g))=l[o]?)∧
 (∀(H:AH) (l:List AV) (e sz o n:Nat) (g:Bool),ldN n (.ptr H.next o) (H.push (.cells l e sz g))=(vT l o n).map .agg)∧
 (∀(a:AV) (l:List AV),(a::l)[0]? =some a)∧
 (∀(a:AV) (l:List AV) (i:Nat),(a::l)[i+1]? =l[i]?)∧
 (∀(n:Nat),0+n=n)∧
 (∀(n:Nat),Int.ofNat n=(n:Int))∧
 (∀(z:Int), -9223372036854775808≤z→z≤9223372036854775807→IntKind.wrap .i64 z=z):=
 ⟨fP,zEQ,bVs,bRs,WQ,zMx,zKB,zKC,zMC,zKD,zBx,zDc,zLM,zMg,ZU,zIG,zCv,zIJ,zCu,cL,zCw,zCx,zCy,zLa,zGL,zGK,zLi,wO,jJ,u9,XO,cJ,zHE,zKN,fun _ _=>rfl,fun _=>rfl,ZM,zHT,fun _ _=>List.getElem?_cons_zero,fun _ _ _=>List.getElem?_cons_succ,Nat.zero_add,fun _=>rfl,fun _ h1 h2=>wrap_i64 h1 h2⟩
def eZ:=And.intro zDp (And.intro ev (And.intro lg ew))
def jF (k e:Nat)(H:AH)(v:AV)(n:Nat)(l:List AV):Prop:=
 Own k e H v n l∨(l.length=n*k∧ ∃A e' g,v= .slice A 0 n (2*n)∧A<H.next∧H.h.get A=some (.cells l e' k g))
theorem jF.len {k e n:Nat}{H:AH}{v:AV}{l:List AV}(h:jF k e H v n l):l.length=n*k:=by
 rcases h with h | h
 ·exact h.1
 ·exact h.1
theorem jF.row {k e n:Nat}{H:AH}{v:AV}{l:List AV}(h:jF k e H v n l):Rw k H v n l:=by
 rcases h with h | ⟨h0,A,e',g,rfl,hA,hg⟩
 ·exact h.row
 ·exact⟨h0, .inr (.inr ⟨A,0,2*n,l,e',k,g,rfl,hg,hA,by omega,by rw[List.drop_zero,zJ (by omega)]⟩)⟩
theorem jF.mono {k e n:Nat}{S:Nat→Prop}{H H':AH}{v:AV}{l:List AV}(h:jF k e H v n l)(s:Stp S H H')(hS: ∀A,Blk v A→ ¬S A):jF k e H' v n l:=by
 rcases h with h | ⟨h0,A,e',g,rfl,hA,hg⟩
 ·exact .inl (h.mono s hS)
 ·exact .inr ⟨h0,A,e',g,rfl,zR hA s.next,by rw[s.keep A hA (hS A (Blk.slice.2 rfl))];exact hg⟩
theorem jF.lt {k e n:Nat}{H:AH}{v:AV}{l:List AV}(h:jF k e H v n l){B:Nat}(hB:Blk v B):B<H.next:=by
 rcases h with⟨_,⟨rfl,_⟩ | ⟨A,rfl,hA,_⟩⟩ | ⟨_,A,e',g,rfl,hA,_⟩
 ·exact(Blk.nil.1 hB).elim
 ·rw[Blk.slice.1 hB];exact hA
 ·rw[Blk.slice.1 hB];exact hA
theorem jF.app1 {k e bytes n m:Nat}{H:AH}{v:AV}{l new:List AV}(hk:H.ok)(hpos:0<k)(h:jF k e H v n l)(hm:new.length=m*k)(hn:n+m≤1000000000)(hb:bytes≤1000):
  ∃v' H',Eng.app1 e k bytes m new v H=some (v',H')∧jF k e H' v' (n+m) (l++new)∧Stp (Blk v) H H'∧(∀B,Blk v' B→Blk v B∨H.next≤B):=by
 by_cases h0:m=0
 ·subst h0
  have:new=[]:=zE (by simpa using hm)
  subst this
  rcases h with h | ⟨h0,A,e',g,rfl,hA,hg⟩
  ·obtain⟨H',h1,h2,h3,h4⟩:=zA2 (bytes:=bytes) hk hpos h
   exact⟨v,H',h1, .inl (by simpa using h2),h3.mono (fun _ _ x=>x.elim),fun B hB=> .inl hB⟩
  ·have hroom:yH l g k 0 (2*n) k=n:=by
    simp only[yH,show((2*n) % 2).beq 0=true by rw[Nat.mul_mod_right];rfl,cond_true,Nat.mul_div_cancel_left n (show 0<2 by omega)]
   have hz:Nat.blt 0 k=true:=by rw[zI];exact hpos
   have hset:setAt l (0+n*k) []=some l:=by rw[vO (by simp;omega)];simp
   have hg':(H.put A (.cells l e' k g)).h.get A=some (.cells l e' k g):=by rw[AH.put_get,if_pos rfl]
   refine⟨.slice A 0 n (2*n),H.put A (.cells l e' k g), ?_, .inr ⟨by simpa using h0,A,e',g,rfl,hA,by simpa using hg'⟩,(Stp.refl hk).put hA _ (.inr (Blk.slice.2 rfl)),fun B hB=> .inl hB⟩
   simp only[Eng.app1,hg,zGP,hroom,Nat.add_zero,Nat.ble_eq_true_of_le (Nat.le_refl n),cond_true,hz,hset,zB4,j6,yC]
 ·rcases h with h | ⟨hl,A,e',g,rfl,hA,hg⟩
  ·obtain⟨H',h1,h2,h3,h4⟩:=XR (bytes:=bytes) hk hpos h hm (by omega) hn hb
   exact⟨_,H',h1, .inl h2,h3,fun B hB=> .inr (by rw[Blk.slice.1 hB];exact Nat.le_refl _)⟩
  ·have h1:=zA4 (k:=k) (e:=e) (bytes:=bytes) (n:=n) (m:=m) (off:=0) (new:=new) hk hg (by omega) (by omega) hn hb
   rw[List.drop_zero,zJ (by omega)]at h1
   refine⟨_,_,h1, .inl ⟨by simp[hl,hm,Nat.add_mul], .inr ⟨H.next,rfl,Nat.lt_succ_self _,AH.push_get_eq _ _⟩⟩,(Stp.refl hk).push _,fun B hB=> .inr (by rw[Blk.slice.1 hB];exact Nat.le_refl _)⟩
theorem jF.app {k e bytes n m:Nat}{H:AH}{v s:AV}{l new:List AV}(hk:H.ok)(hpos:0<k)(h:jF k e H v n l)(hs:srcOf k s H=some (m,new))(hm:new.length=m*k)(hc:qN new=true)(hn:n+m≤1000000000)(hb:bytes≤1000):
  ∃v' H',apP e k bytes v s H=some (v',H')∧jF k e H' v' (n+m) (l++new)∧Stp (Blk v) H H'∧(∀B,Blk v' B→Blk v B∨H.next≤B):=by
 obtain⟨v',H',h1,h2⟩:=h.app1 (bytes:=bytes) (e:=e) hk hpos hm hn hb
 exact⟨v',H',by simp only[apP,hs,hc,cond_true,h1],h2⟩
theorem jF.isCell {k e n:Nat}{H:AH}{v:AV}{l:List AV}(h:jF k e H v n l):isCell v=true:=h.row.isCell
def Box (H:AH)(A:Nat)(v:AV):Prop:= ∃e,H.h.get A=some (.cells [v] e 1 false)
theorem Box.ld {H:AH}{A:Nat}{v:AV}(h:Box H A v):ld1 (.ptr A 0) H=some v:=by
 obtain⟨e,h⟩:=h;rw[qL h];rfl
theorem Box.st {H:AH}{A:Nat}{v x:AV}(h:Box H A v)(hk:H.ok)(hx:Eng.isCell x=true): ∃H',stN 1 (.ptr A 0) x H=some (qM,H')∧Box H' A x∧Stp (fun B=>B=A) H H':=by
 obtain⟨e,h⟩:=h
 exact⟨_,JA h (by decide) hx (by simp),⟨e,by rw[AH.put_get,if_pos rfl];rfl⟩,(Stp.refl hk).put (hk.lt h) _ (.inr rfl)⟩
theorem Box.mono {S:Nat→Prop}{H H':AH}{A:Nat}{v:AV}(h:Box H A v)(hk:H.ok)(s:Stp S H H')(hA: ¬S A):Box H' A v:=by
 obtain⟨e,h⟩:=h;exact⟨e,by rw[s.keep A (hk.lt h) hA];exact h⟩
theorem Box.lt {H:AH}{A:Nat}{v:AV}(h:Box H A v)(hk:H.ok):A<H.next:=by obtain⟨e,h⟩:=h;exact hk.lt h
end Go.Eng
end
section
namespace Go.Nd
theorem rising_ix (lt:Str→Str→Bool): ∀l:List Str,rising lt l=true↔ ∀i (h:i+1<l.length),lt l[i] l[i+1]=true
 | []=>by simp[rising]
 | [a]=>by simp[rising]
 | a::b::l=>by
  have ih:=rising_ix lt (b::l)
  simp only[rising,z7,ih]
  constructor
  ·rintro⟨h1,h2⟩ i h
   cases i with
   | zero=>exact h1
   | succ i=>exact h2 i (by simpa using h)
  ·intro h
   exact⟨h 0 (by simp),fun i hi=>h (i+1) (by simpa using hi)⟩
theorem rising_take {lt:Str→Str→Bool}{l:List Str}(h:rising lt l=true)(k:Nat):rising lt (l.take k)=true:=by
 rw[rising_ix]at h⊢
 intro i hi
 simp only[zG]at hi
 simp only[List.getElem_take]
 exact h i (by omega)
theorem rising_drop {lt:Str→Str→Bool}{l:List Str}(h:rising lt l=true)(k:Nat):rising lt (l.drop k)=true:=by
 rw[rising_ix]at h⊢
 intro i hi
 simp only[zN]at hi
 simp only[List.getElem_drop]
 exact h (k+i) (by omega)
theorem ZV {α:Type}{f:α→Bool}{l:List α}(h:l.all f=true)(k:Nat):(l.take k).all f=true:=by
 simp only[List.all_eq_true]at h⊢
 exact fun x hx=>h x (List.mem_of_mem_take hx)
theorem ZW {α:Type}{f:α→Bool}{l:List α}(h:l.all f=true)(k:Nat):(l.drop k).all f=true:=by
 simp only[List.all_eq_true]at h⊢
 exact fun x hx=>h x (List.mem_of_mem_drop hx)
def cutA (n:Node)(k:Nat):Node:=if n.leaf then⟨true,n.keys.take k,n.vals.take k,[]⟩else⟨false,n.keys.take k,[],n.kids.take (k+1)⟩
def fR (n:Node)(k:Nat):Node:=if n.leaf then⟨true,n.keys.drop k,n.vals.drop k,[]⟩else⟨false,n.keys.drop (k+1),[],n.kids.drop (k+1)⟩
def gO (a:Node)(sep:Str)(b:Node):Node:=if a.leaf then⟨true,a.keys++b.keys,a.vals++b.vals,[]⟩else⟨false,a.keys++([sep]++b.keys),[],a.kids++b.kids⟩
def cutOk (n:Node)(k:Nat):Prop:=1≤k∧k+(if n.leaf then 1 else 2)≤n.keys.length
theorem cut_shaped {lt:Str→Str→Bool}{n:Node}{k:Nat}(h:shaped lt n=true)(hk:cutOk n k):shaped lt (cutA n k)=true∧shaped lt (fR n k)=true:=by
 obtain⟨leaf,keys,vals,kids⟩:=n
 obtain⟨k1,k2⟩:=hk
 cases leaf with
 | true=>
  simp only[shaped,if_true,z7,zC]at h k2
  obtain⟨⟨h1,h2⟩,⟨h3,h4⟩,h5⟩:=h
  simp only[shaped,cutA,fR,if_true,z7,zC]
  exact⟨⟨⟨ZV h1 k,rising_take h2 k⟩,⟨by simp[h3],trivial⟩,ZV h5 k⟩,⟨ZW h1 k,rising_drop h2 k⟩,⟨by simp[h3],trivial⟩,ZW h5 k⟩
 | false=>
  simp only[shaped,Bool.false_eq_true,if_false,z7,zC]at h k2
  obtain⟨⟨h1,h2⟩,⟨⟨h3,h4⟩,h5⟩,h6⟩:=h
  simp only[shaped,cutA,fR,Bool.false_eq_true,if_false,z7,zC]
  refine⟨⟨⟨ZV h1 k,rising_take h2 k⟩,⟨⟨?_,trivial⟩, ?_⟩,ZV h6 _⟩,⟨ZW h1 _,rising_drop h2 _⟩,⟨⟨?_,trivial⟩, ?_⟩,ZW h6 _⟩
  ·intro e;have:=congrArg List.length e;rw[zG]at this;simp only[zW]at this;omega
  ·rw[zG,zG];omega
  ·intro e;have:=congrArg List.length e;rw[zN]at this;simp only[zW]at this;omega
  ·rw[zN,zN];omega
theorem sumL_drop_le (l:List Str)(k:Nat):yI (l.drop k)≤yI l:=by
 have:yI l=yI (l.take k)+yI (l.drop k):=by rw[← sumL_append,List.take_append_drop]
 omega
theorem sumL_take_le (l:List Str)(k:Nat):yI (l.take k)≤yI l:=by
 have:yI l=yI (l.take k)+yI (l.drop k):=by rw[← sumL_append,List.take_append_drop]
 omega
theorem cS (l:List Str)(k:Nat):yI l=yI (l.take k)+yI (l.drop k):=by rw[← sumL_append,List.take_append_drop]
theorem cut_size {lt:Str→Str→Bool}{n:Node}{k:Nat}(h:shaped lt n=true)(hk:cutOk n k):size (cutA n k)<size n∧size (fR n k)<size n:=by
 obtain⟨leaf,keys,vals,kids⟩:=n
 obtain⟨k1,k2⟩:=hk
 have p1:=cS keys k
 have g1:=sumL_ge (keys.take k)
 have g2:=sumL_ge (keys.drop k)
 simp only[zG,zN]at g1 g2
 cases leaf with
 | true=>
  simp only[if_true]at k2
  simp only[shaped,if_true,z7,zC]at h
  have p2:=cS vals k
  simp only[cutA,fR,if_true,size,zW,h.2.1.2]
  omega
 | false=>
  simp only[Bool.false_eq_true,if_false]at k2
  simp only[shaped,Bool.false_eq_true,if_false,z7,zC]at h
  have h5:=h.2.1.2
  have p3:=cS keys (k+1)
  have g3:=sumL_ge (keys.take (k+1))
  simp only[zG]at g3
  simp only[cutA,fR,Bool.false_eq_true,if_false,size,h.2.1.1.2,zG,zN]
  have:yI []=0:=rfl
  omega
end Go.Nd
end
section
section
namespace Go.Eng.Sh
open Go.Nd (Ptr yI)
theorem yQ (D:Dyn)(n:Nat)(s:Str)(H:AH):f108 D n [S s] H=some (.bool (Nd.mayK s),H):=by
 simp only[f108,fP,zEQ,wO,bVs,zCy,zCw,zLM,zMA,WQ,zMg,zHF,zBx]
 have h1:(Int.ofNat 1≤((s.length:Nat):Int))=(1≤s.length):=by simp;omega
 have h2:(((s.length:Nat):Int)≤Int.ofNat 40)=(s.length≤40):=by simp;omega
 simp only[h1,h2,Nd.mayK]
 by_cases h:1≤s.length<;>simp[h,bVs,outR]
theorem sumL_nil:yI []=0:=rfl
theorem zDZ (l:List Str)(i:Nat)(hi:i<l.length):yI (l.take (i+1))=yI (l.take i)+(1+l[i].length)∧yI (l.take i)+(1+l[i].length)≤yI l:=by
 have hs:yI l=yI (l.take i)+(1+l[i].length+yI (l.drop (i+1))):=by
  rw[← Nd.sumL_cons, ← zL hi, ← Nd.sumL_append,List.take_append_drop]
 refine⟨?_,by omega⟩
 rw[dB l i hi,Nd.sumL_append,Nd.sumL_cons];simp[yI]
theorem size0 (D:Dyn)(n0:Nat){H:AH}{ks:AV}{l:List Str}(h:Strs H ks l)(x:AV)(a:Int)(n:Nat)(ha:0≤a)(hn:l.length<n)(hb:a+yI l≤1000000000000):
  qV n (UX D n0) [x, .int .i64 a,ks, .int .i64 (l.length:Nat), .int .i64 (0:Nat)] H=some (.exit 0 [x, .int .i64 (a+yI l)],H):=by
 have key:=wX (b:=UX D n0) (H:=H) (r:=some (.exit 0 [x, .int .i64 (a+yI l)],H)) (fun i=>[x, .int .i64 (a+yI (l.take i)),ks, .int .i64 (l.length:Nat), .int .i64 (i:Nat)]) l.length (fun i hi=>by
  obtain⟨p,h1,h2⟩:=h.at hi
  obtain⟨hs1,hs⟩:=zDZ l i hi
  have hge:=Nd.sumL_ge l
  simp(disch:=omega) [UX,fP,bVs,cL,zDc,hi,h1,h2,wO,ZU,wrap_i64,hs1,Int.add_assoc]) (fun n=>yB (by
  simp[UX,fP,bVs,cL,zDc])) n hn
 simpa[sumL_nil]using key
theorem size1 (D:Dyn)(n0:Nat){H:AH}{ks:AV}{l:List Str}(h:Strs H ks l)(a:Int)(n:Nat)(ha:0≤a)(hn:l.length<n)(hb:a+yI l≤1000000000000):
  qV n (UW D n0) [.int .i64 a,ks, .int .i64 (l.length:Nat), .int .i64 (0:Nat)] H=some (.exit 2 [.int .i64 (a+yI l)],H):=by
 have key:=wX (b:=UW D n0) (H:=H) (r:=some (.exit 2 [.int .i64 (a+yI l)],H)) (fun i=>[.int .i64 (a+yI (l.take i)),ks, .int .i64 (l.length:Nat), .int .i64 (i:Nat)]) l.length (fun i hi=>by
  obtain⟨p,h1,h2⟩:=h.at hi
  obtain⟨hs1,hs⟩:=zDZ l i hi
  have hge:=Nd.sumL_ge l
  simp(disch:=omega) [UW,fP,bVs,cL,zDc,hi,h1,h2,wO,ZU,wrap_i64,hs1,Int.add_assoc]) (fun n=>yB (by
  simp[UW,fP,bVs,cL,zDc])) n hn
 simpa[sumL_nil]using key
def qX (p:Ptr):List AV:=[.int .i64 p.at_, .int .i64 p.birth, .int .u64 p.sum]
def uN (H:AH)(v:AV)(l:List Ptr):Prop:=Rw 3 H v l.length (l.flatMap qX)
def gS (H:AH)(v:AV)(n:Nd.Node):Prop:= ∃ks vs ps,v= .agg [.bool n.leaf,ks,vs,ps]∧Strs H ks n.keys∧Strs H vs n.vals∧uN H ps n.kids
theorem uN.lnSl {H:AH}{v:AV}{l:List Ptr}(h:uN H v l):Eng.lnSl v=some (.int .i64 (l.length:Int)):=Rw.lnSl h
theorem uN.prs {H H':AH}{v:AV}{l:List Ptr}(h:uN H v l)(s:Prs H H'):uN H' v l:=Rw.prs h s
theorem zMM: ∀(l:List Ptr) (i:Nat) (hi:i<l.length),((l.flatMap qX).drop (i*3)).take 3=qX l[i]
 | [],i,hi=>by simp at hi
 | p::l,0,_=>rfl
 | p::l,i+1,hi=>by
  have:=zMM l i (by simpa using hi)
  rw[show(i+1)*3=i*3+3 from by omega]
  exact this
theorem uN.at {H:AH}{v:AV}{l:List Ptr}(h:uN H v l){i:Nat}(hi:i<l.length): ∃p,(∀κ (z:Int),z=(i:Int)→jP 3 v (.int κ z)=some p)∧Eng.ldN 3 p H=some (.agg (qX l[i])):=by
 obtain⟨p,h1,h2⟩:=Rw.ldN h hi
 rw[zMM l i hi]at h2
 exact⟨p,h1,h2⟩
theorem gS.prs {H H':AH}{v:AV}{n:Nd.Node}(h:gS H v n)(s:Prs H H'):gS H' v n:=by
 obtain⟨ks,vs,ps,rfl,h1,h2,h3⟩:=h;exact⟨ks,vs,ps,rfl,h1.prs s,h2.prs s,h3.prs s⟩
def small (n:Nd.Node):Prop:=n.kids.length≤100000∧yI n.keys≤100000000∧yI n.vals≤100000000
theorem zAj (D:Dyn)(n:Nat){H:AH}(hk:H.ok){v:AV}{nd:Nd.Node}(h:gS H v nd)(hs:small nd)(hn:200000000≤n):
  Ret (f123 D n [v] H) fun r H'=>r= .int .i64 (Nd.size nd:Nat)∧Prs H H':=by
 obtain⟨ks,vs,ps,rfl,h1,h2,h3⟩:=h
 obtain⟨s1,s2,s3⟩:=hs
 have hP:Prs H (H.push (.cells [.bool nd.leaf,ks,vs,ps] 133 1 false)):=(Stp.refl hk).push _
 have hkl:=Nd.sumL_ge nd.keys
 have hvl:=Nd.sumL_ge nd.vals
 simp(disch:=omega) only[f123,ev,uB hk,h1.lnSl,h2.lnSl,h3.lnSl,size0 D n (h1.prs hP),zJy,size1 D n (h2.prs hP),zJz]
 apply Ret.pure;refine⟨?_,hP⟩
 simp only[Nd.size,AV.int.injEq,true_and];omega
open Go.Nd (be zKs encP)
theorem JE (lt:Str→Str→Bool): ∀l:List Str,Nd.rising lt l=true↔ ∀i (h:i+1<l.length),lt l[i] l[i+1]=true
 | []=>by simp[Nd.rising]
 | [a]=>by simp[Nd.rising]
 | a::b::l=>by
  have ih:=JE lt (b::l)
  simp only[Nd.rising,z7,ih]
  constructor
  ·rintro⟨h1,h2⟩ i h
   cases i with
   | zero=>exact h1
   | succ i=>exact h2 i (by simpa using h)
  ·intro h
   exact⟨h 0 (by simp),fun i hi=>h (i+1) (by simpa using hi)⟩
def zD3 (l:List Str)(i:Nat):Bool:=Nd.mayK (l.getD i [])&&(decide (i=0)||ltS (l.getD (i - 1) []) (l.getD i []))
theorem zFi (l:List Str):(List.range l.length).all (zD3 l)=(l.all Nd.mayK&&Nd.rising ltS l):=by
 rw[Bool.eq_iff_iff,z7,JE]
 simp only[List.all_eq_true,List.mem_range,zD3,z7,Bool.or_eq_true,zC]
 constructor
 ·intro h
  refine⟨fun x hx=> ?_,fun i hi=> ?_⟩
  ·obtain⟨i,hi,rfl⟩:=List.mem_iff_getElem.1 hx
   have:=(h i hi).1
   rwa[zK,zB hi]at this
  ·have:=(h (i+1) hi).2
   simp only[Nat.add_eq_zero_iff,Nat.one_ne_zero,and_false,false_or,Nat.add_sub_cancel]at this
   rwa[zK,zB (by omega),zK,zB hi]at this
 ·rintro⟨h1,h2⟩ i hi
  refine⟨?_, ?_⟩
  ·rw[zK,zB hi];exact h1 _ (zQ hi)
  ·by_cases h0:i=0
   ·exact .inl h0
   ·right
    have:=h2 (i - 1) (by omega)
    rw[zK,zB (show i - 1<l.length by omega),zK,zB hi]
    simpa[show i - 1+1=i by omega]using this
theorem zA5 {α:Type}(l:List α)(d:α)(f:α→Bool):(List.range l.length).all (fun i=>f (l.getD i d))=l.all f:=by
 rw[Bool.eq_iff_iff]
 simp only[List.all_eq_true,List.mem_range]
 constructor
 ·intro h x hx
  obtain⟨i,hi,rfl⟩:=List.mem_iff_getElem.1 hx
  have:=h i hi
  rwa[zK,zB hi]at this
 ·intro h i hi
  rw[zK,zB hi];exact h _ (zQ hi)
theorem kB {α:Type}{l:List α}{i:Nat}{d:α}(h:i<l.length):l.getD i d=l[i]:=by rw[zK,zB h];rfl
theorem zK8 (D:Dyn)(n:Nat){H:AH}{ks:AV}{l:List Str}(h:Strs H ks l){A e:Nat}{c:List AV}(hA:H.h.get A=some (.cells c e 1 false))(hc:c[1]? =some ks)(hl:l.length≤1000000000)(n':Nat)(hn:l.length<n'):
  ∃e H',qV n' (Z4 D n) [.ptr A 0,ks, .int .i64 (l.length:Nat), .int .i64 (0:Nat)] H=some (e,H')∧if(List.range l.length).all (zD3 l)then(e= .exit 0 [.ptr A 0]∧H'=H)else(e= .ret (.bool false)∧H'=H):=by
 refine WK l.length (zD3 l) (fun i vs H'=>H'=H∧vs=[.ptr A 0,ks, .int .i64 (l.length:Nat), .int .i64 (i:Nat)]) (fun e H'=>e= .exit 0 [.ptr A 0]∧H'=H) (fun e H'=>e= .ret (.bool false)∧H'=H) ?_ ?_ ?_ n' _ H ⟨rfl,rfl⟩ hn
 ·rintro i vs H' hi ⟨rfl,rfl⟩ hg
  obtain⟨p,h1,h2⟩:=h.at hi
  simp only[zD3,kB hi,z7,Bool.or_eq_true,zC]at hg
  refine⟨_,H', ?_,rfl,rfl⟩
  have hiI:((i:Nat):Int)< ((l.length:Nat):Int):=by omega
  by_cases h0:i=0
  ·subst h0
   simp(disch:=omega) only[Z4,eZ,hiI,h1,h2,yQ,hg.1,zX,show((0:Nat):Int)+((1:Nat):Int)=((0+1:Nat):Int)from rfl]
  ·have hlt:i - 1<l.length:=by omega
   obtain⟨q,q1,q2⟩:=h.at hlt
   have hg2:=hg.2.resolve_left h0
   rw[kB hlt]at hg2
   have hsub:((i:Nat):Int) - ((1:Nat):Int)=((i - 1:Nat):Int):=by omega
   have hpos:((0:Nat):Int)< (i:Int):=by omega
   simp(disch:=omega) only[Z4,eZ,hiI,hpos,h1,h2,yQ,hg.1,qL hA,hc,hsub,q1,q2,hg2,Int.natCast_add]
 ·rintro i vs H' hi ⟨rfl,rfl⟩ hg
  obtain⟨p,h1,h2⟩:=h.at hi
  have hiI:((i:Nat):Int)< ((l.length:Nat):Int):=by omega
  refine⟨.ret (.bool false),H', ?_,rfl,rfl,rfl⟩
  simp only[zD3,kB hi]at hg
  cases hm:Nd.mayK l[i]with
  | false=>simp(disch:=omega) only[Z4,eZ,hiI,h1,h2,yQ,hm]
  | true=>
   simp only[hm,Bool.true_and,Bool.or_eq_false_iff,decide_eq_false_iff_not]at hg
   have hlt:i - 1<l.length:=by omega
   obtain⟨q,q1,q2⟩:=h.at hlt
   have hg2:=hg.2
   rw[kB hlt]at hg2
   have hsub:((i:Nat):Int) - ((1:Nat):Int)=((i - 1:Nat):Int):=by omega
   have hpos:((0:Nat):Int)< (i:Int):=by omega
   simp(disch:=omega) only[Z4,eZ,hiI,hpos,h1,h2,yQ,hm,qL hA,hc,hsub,q1,q2,hg2]
 ·rintro vs H' ⟨rfl,rfl⟩
  refine⟨.exit 0 [.ptr A 0],H', ?_,rfl,rfl,rfl⟩
  simp only[Z4,eZ,zX]
theorem zK7 (D:Dyn)(n:Nat){H:AH}{vs:AV}{l:List Str}(h:Strs H vs l)(hl:l.length≤1000000000)(n':Nat)(hn:l.length<n'):
  ∃e H',qV n' (B9 D n) [vs, .int .i64 (l.length:Nat), .int .i64 (0:Nat)] H=some (e,H')∧if(List.range l.length).all (fun i=>decide ((l.getD i []).length≤200))then(e= .exit 2 []∧H'=H)else(e= .ret (.bool false)∧H'=H):=by
 refine WK l.length _ (fun i us H'=>H'=H∧us=[vs, .int .i64 (l.length:Nat), .int .i64 (i:Nat)]) (fun e H'=>e= .exit 2 []∧H'=H) (fun e H'=>e= .ret (.bool false)∧H'=H) ?_ ?_ ?_ n' _ H ⟨rfl,rfl⟩ hn
 ·rintro i us H' hi ⟨rfl,rfl⟩ hg
  obtain⟨p,h1,h2⟩:=h.at hi
  simp only[kB hi,zC]at hg
  refine⟨_,H', ?_,rfl,rfl⟩
  have hiI:((i:Nat):Int)< ((l.length:Nat):Int):=by omega
  have hg': ¬((200:Nat):Int)< ((l[i].length:Nat):Int):=by omega
  simp(disch:=omega) only[B9,eZ,hiI,h1,h2,hg',Int.natCast_add]
 ·rintro i us H' hi ⟨rfl,rfl⟩ hg
  obtain⟨p,h1,h2⟩:=h.at hi
  simp only[kB hi,decide_eq_false_iff_not]at hg
  refine⟨.ret (.bool false),H', ?_,rfl,rfl,rfl⟩
  have hiI:((i:Nat):Int)< ((l.length:Nat):Int):=by omega
  have hg':((200:Nat):Int)< ((l[i].length:Nat):Int):=by omega
  simp(disch:=omega) only[B9,eZ,hiI,h1,h2,hg',Int.natCast_add]
 ·rintro us H' ⟨rfl,rfl⟩
  refine⟨.exit 2 [],H', ?_,rfl,rfl,rfl⟩
  simp only[B9,eZ,zX]
def pz:Ptr:=⟨0,0,0⟩
theorem zMv (x:Ptr):(((decide (x.at_< ((1:Nat):Int))||decide (((8192:Nat):Int)≤x.at_))||decide (x.birth< ((0:Nat):Int)))||decide (((2147483647:Nat):Int)<x.birth))= !(Nd.kidOk x):=by
 rw[Bool.eq_iff_iff];simp only[Nd.kidOk,Bool.or_eq_true,zC,Bool.not_eq_true',Bool.and_eq_false_iff,decide_eq_false_iff_not];omega
theorem zGF {H':AH}(hk:H'.ok)(x:Ptr): ∃H2,stN 3 (.ptr H'.next 0) (.agg (qX x)) (H'.push (.cells [.int .i64 (0:Nat), .int .i64 (0:Nat), .int .u64 (0:Nat)] 72 1 false))=some (qM,H2)∧Prs H' H2∧H2.next=H'.next+1∧H2.h.get H'.next=some (.cells (qX x) 72 1 false):=by
 refine⟨_,VG (AH.push_get_eq _ _) (by decide) rfl rfl (by decide), ?_,rfl,by rw[AH.put_get,if_pos rfl];rfl⟩
 exact((Stp.refl hk).push _).fresh ((Stp.refl (hk.push _)).put (by rw[AH.push_next];omega) _ (.inr rfl)) (fun A hA=>by omega)
theorem zK6 (D:Dyn)(n:Nat){H:AH}(hk:H.ok){vs:AV}{l:List Ptr}(h:uN H vs l)(hl:l.length≤1000000000)(n':Nat)(hn:l.length<n'):
  ∃e H',qV n' (B0 D n) [vs, .int .i64 (l.length:Nat), .int .i64 (0:Nat)] H=some (e,H')∧if(List.range l.length).all (fun i=>Nd.kidOk (l.getD i pz))then(e= .exit 4 []∧Prs H H')else(e= .ret (.bool false)∧Prs H H'):=by
 refine WK l.length _ (fun i us H'=>Prs H H'∧us=[vs, .int .i64 (l.length:Nat), .int .i64 (i:Nat)]) (fun e H'=>e= .exit 4 []∧Prs H H') (fun e H'=>e= .ret (.bool false)∧Prs H H') ?_ ?_ ?_ n' _ H ⟨Stp.refl hk,rfl⟩ hn
 ·rintro i us H' hi ⟨hP,rfl⟩ hg
  obtain⟨p,h1,h2⟩:=(h.prs hP).at hi
  simp only[kB hi]at hg
  generalize l[i]=x at hg h2
  obtain⟨H2,hH2,hP2,n2,g2⟩:=zGF hP.ok x
  have hiI:((i:Nat):Int)< ((l.length:Nat):Int):=by omega
  have hb:=zMv x
  rw[hg]at hb
  simp only[qX]at g2 hH2 h2
  refine⟨_,H2, ?_,hP.trans hP2,rfl⟩
  simp(disch:=omega) only[B0,eZ,hiI,h1,h2,uB hP.ok,hH2,qL g2,hb,Int.natCast_add]
 ·rintro i us H' hi ⟨hP,rfl⟩ hg
  obtain⟨p,h1,h2⟩:=(h.prs hP).at hi
  simp only[kB hi]at hg
  generalize l[i]=x at hg h2
  obtain⟨H2,hH2,hP2,n2,g2⟩:=zGF hP.ok x
  have hiI:((i:Nat):Int)< ((l.length:Nat):Int):=by omega
  have hb:=zMv x
  rw[hg]at hb
  simp only[qX]at g2 hH2 h2
  refine⟨.ret (.bool false),H2, ?_,rfl,rfl,hP.trans hP2⟩
  simp(disch:=omega) only[B0,eZ,hiI,h1,h2,uB hP.ok,hH2,qL g2,hb]
 ·rintro us H' ⟨hP,rfl⟩
  refine⟨.exit 4 [],H', ?_,rfl,rfl,hP⟩
  simp only[B0,eZ,zX]
theorem uS (D:Dyn)(n:Nat){H:AH}(hk:H.ok){v:AV}{nd:Nd.Node}(h:gS H v nd)(hs:small nd)(hn:200000000≤n):
  ∃H',f107 D n [v] H=some (.bool (Nd.shaped ltS nd),H')∧Prs H H':=by
 obtain⟨ks,vs,ps,rfl,h1,h2,h3⟩:=h
 obtain⟨s1,s2,s3⟩:=hs
 have hP:Prs H (H.push (.cells [.bool nd.leaf,ks,vs,ps] 133 1 false)):=(Stp.refl hk).push _
 have hg:(H.push (.cells [.bool nd.leaf,ks,vs,ps] 133 1 false)).h.get H.next=some (.cells [.bool nd.leaf,ks,vs,ps] 133 1 false):=AH.push_get_eq _ _
 have hkl:=Nd.sumL_ge nd.keys
 have hvl:=Nd.sumL_ge nd.vals
 have hf:f107 D n [.agg [.bool nd.leaf,ks,vs,ps]] H=outR (jb 0 (qV n (Z4 D n) [.ptr H.next 0,ks, .int .i64 (nd.keys.length:Nat), .int .i64 (0:Nat)] (H.push (.cells [.bool nd.leaf,ks,vs,ps] 133 1 false))) (Z5 D n)):=by
  simp only[f107,eZ,uB hk,h1.lnSl]
 rw[hf]
 generalize H.push (.cells [.bool nd.leaf,ks,vs,ps] 133 1 false)=H1 at hP hg
 obtain⟨e0,H2,e1,e2⟩:=zK8 D n (h1.prs hP) hg (by rfl) (by omega) n (by omega)
 rw[e1]
 rw[zFi]at e2
 split at e2
 ·rename_i hgood
  obtain⟨rfl,rfl⟩:=e2
  simp only[Nd.shaped,hgood,Bool.true_and]
  obtain⟨leaf,keys,vals,kids⟩:=nd
  simp only at h1 h2 h3 hg hkl hvl s1 s2 s3 hgood⊢
  cases leaf with
  | true=>
   by_cases hc:vals.length=keys.length∧kids.length=0
   ·obtain⟨hc1,hc2⟩:=hc
    obtain⟨e3,H3,e4,e5⟩:=zK7 D n (h2.prs hP) (by omega) n (by omega)
    have hz: ¬(((vals.length:Nat):Int)≠((keys.length:Nat):Int)):=by omega
    have hz2: ¬(((kids.length:Nat):Int)≠((0:Nat):Int)):=by omega
    have hkn:kids=[]:=zE hc2
    rw[zA5 vals ([]:Str) (fun v=>decide (v.length≤200))]at e5
    split at e5
    ·rename_i hv
     obtain⟨rfl,rfl⟩:=e5
     refine⟨H3, ?_,hP⟩
     have hr:(decide (vals.length=keys.length)&&decide (kids=[])&&vals.all fun v=>decide (v.length≤200))=true:=by simp only[hc1,hkn,hv,decide_true,Bool.and_self]
     simp only[Z5,eZ,qL hg,h1.lnSl,h2.lnSl,h3.lnSl,hz,hz2,e4,zG2,hr]
    ·rename_i hv
     obtain⟨rfl,rfl⟩:=e5
     refine⟨H3, ?_,hP⟩
     have hr:(decide (vals.length=keys.length)&&decide (kids=[])&&vals.all fun v=>decide (v.length≤200))=false:=by simp only[Bool.eq_false_iff.2 hv,Bool.and_false]
     simp only[Z5,eZ,qL hg,h1.lnSl,h2.lnSl,h3.lnSl,hz,hz2,e4,zG2,hr]
   ·refine⟨H2, ?_,hP⟩
    have hr:(decide (vals.length=keys.length)&&decide (kids=[]))=false:=by
     rw[Bool.and_eq_false_iff,decide_eq_false_iff_not,decide_eq_false_iff_not]
     by_cases ha:vals.length=keys.length
     ·right;intro hb;exact hc ⟨ha,by rw[hb];rfl⟩
     ·exact .inl ha
    simp only[Z5,eZ,qL hg,h1.lnSl,h2.lnSl,h3.lnSl,hr]
    rw[if_pos (by simp only[Bool.or_eq_true,zC];omega)]
    simp only[eZ]
  | false=>
   by_cases hc:keys.length≠0∧vals.length=0∧kids.length=keys.length+1
   ·obtain⟨hc1,hc2,hc3⟩:=hc
    obtain⟨e3,H3,e4,e5⟩:=zK6 D n hP.ok (h3.prs hP) (by omega) n (by omega)
    have hz: ¬(((keys.length:Nat):Int)=((0:Nat):Int)):=by omega
    have hz2: ¬(((vals.length:Nat):Int)≠((0:Nat):Int)):=by omega
    have hz3: ¬(((kids.length:Nat):Int)≠((keys.length:Nat):Int)+((1:Nat):Int)):=by omega
    have hvn:vals=[]:=zE hc2
    have hkn:keys≠[]:=fun e=>hc1 (by rw[e];rfl)
    rw[zA5 kids pz Nd.kidOk]at e5
    split at e5
    ·rename_i hv
     obtain⟨rfl,hP3⟩:=e5
     refine⟨H3, ?_,hP.trans hP3⟩
     have hr:(decide (keys≠[])&&decide (vals=[])&&decide (kids.length=keys.length+1)&&kids.all Nd.kidOk)=true:=by simp only[hc3,hvn,hv,decide_eq_true hkn,decide_true,Bool.and_self]
     simp(disch:=omega) only[Z5,eZ,qL hg,h1.lnSl,h2.lnSl,h3.lnSl,hz,hz2,hz3,e4,zG1,hr]
    ·rename_i hv
     obtain⟨rfl,hP3⟩:=e5
     refine⟨H3, ?_,hP.trans hP3⟩
     have hr:(decide (keys≠[])&&decide (vals=[])&&decide (kids.length=keys.length+1)&&kids.all Nd.kidOk)=false:=by simp only[Bool.eq_false_iff.2 hv,Bool.and_false]
     simp(disch:=omega) only[Z5,eZ,qL hg,h1.lnSl,h2.lnSl,h3.lnSl,hz,hz2,hz3,e4,zG1,hr]
   ·refine⟨H2, ?_,hP⟩
    have hr:(decide (keys≠[])&&decide (vals=[])&&decide (kids.length=keys.length+1))=false:=by
     rw[Bool.eq_false_iff];intro hh
     simp only[z7,zC]at hh
     exact hc ⟨fun e=>hh.1.1 (zE e),by rw[hh.1.2];rfl,hh.2⟩
    simp(disch:=omega) only[Z5,eZ,qL hg,h1.lnSl,h2.lnSl,h3.lnSl,hr]
    rw[if_pos (by simp only[Bool.or_eq_true,zC];omega)]
    simp only[eZ]
 ·rename_i hbad
  obtain⟨rfl,rfl⟩:=e2
  refine⟨H2, ?_,hP⟩
  simp only[Nd.shaped,Bool.eq_false_iff.2 hbad,eZ]
open Go.Nd (encT)
def zNb (P:Nat→Prop)(H:AH)(A:Nat)(l:Str):Prop:= ∃v,Box H A v∧jF 1 5 H v l.length (yO l)∧(∀B,Blk v B→ ¬P B∧B≠A)∧ ¬P A
theorem zNb.app {P:Nat→Prop}{H:AH}{A:Nat}{l m:Str}(h:zNb P H A l)(hk:H.ok)(hP: ∀B,P B→B<H.next){s:AV}(hs:srcOf 1 s H=some (m.length,yO m))(hn:l.length+m.length≤1000000000):
  ∃v v' H' H'',ld1 (.ptr A 0) H=some v∧apP 5 1 1 v s H=some (v',H')∧stN 1 (.ptr A 0) v' H'=some (qM,H'')∧zNb P H'' A (l++m)∧Stp (fun B=> ¬P B) H H'':=by
 obtain⟨v,hb,hg,hv,hA⟩:=h
 obtain⟨v',H',e1,g1,s1,n1⟩:=hg.app (bytes:=1) hk (by decide) hs (by simp[yO]) (BW m) hn (by decide)
 have hb':Box H' A v:=hb.mono hk s1 (fun x=>(hv A x).2 rfl)
 obtain⟨H'',e2,b2,s2⟩:=hb'.st s1.ok g1.isCell
 have hlt:=hb.lt hk
 have hne: ∀B,Blk v' B→B≠A:=fun B hB e=>by
  rcases n1 B hB with h | h
  ·exact(hv B h).2 e
  ·omega
 refine⟨v,v',H',H'',hb.ld,e1,e2,⟨v',b2, ?_,fun B hB=>⟨fun hp=> ?_,hne B hB⟩,hA⟩, ?_⟩
 ·have:=g1.mono s2 (fun B hB=>hne B hB)
  simpa[yO]using this
 ·rcases n1 B hB with h | h
  ·exact(hv B h).1 hp
  ·have:=hP B hp;omega
 ·exact(s1.mono (fun B _ hB=>(hv B hB).1)).trans (s2.mono (fun B _ hB=>by rw[hB];exact hA))
structure EncI (N E:Nat)(A:Nat)(H0 H:AH)(l:Str):Prop where
 prs:Prs H0 H
 n:H0.next=N
 out:zNb (fun B=>B<N∨B=E) H A l
 err:Box H E (.int .i64 (0:Nat))
theorem EncI.step {N E A:Nat}{H0 H H':AH}{l l':Str}(h:EncI N E A H0 H l)(h1:zNb (fun B=>B<N∨B=E) H' A l')(h2:Stp (fun B=> ¬(B<N∨B=E)) H H'):EncI N E A H0 H' l':=
 ⟨h.prs.fresh h2 (fun B hB=>by rw[h.n];omega),h.n,h1,h.err.mono h.prs.ok h2 (fun hh=>hh (.inr rfl))⟩
theorem EncI.lt {N E A:Nat}{H0 H:AH}{l:Str}(h:EncI N E A H0 H l): ∀B,(B<N∨B=E)→B<H.next:=by
 rintro B (hB | rfl)
 ·have:=h.prs.next;rw[h.n]at this;omega
 ·exact h.err.lt h.prs.ok
theorem Box.new (H:AH)(v:AV)(e:TypeId):Box (H.push (.cells [v] e 1 false)) H.next v:=⟨e,AH.push_get_eq _ _⟩
theorem cU (a b c d:AV):vT [a,b,c,d] 0 4=some [a,b,c,d]:=rfl
theorem qW {H:AH}(hk:H.ok){A:Nat}{l l':List AV}{e:TypeId}(h:H.h.get A=some (.cells l e 1 false))(hl:l'.length=l.length)(hc:qN l'=true):
  ∃H',stN l.length (.ptr A 0) (.agg l') H=some (qM,H')∧H'.h.get A=some (.cells l' e 1 false)∧Stp (fun B=>B=A) H H'∧H'.next=H.next:=by
 refine⟨_,VG h (by decide) hl hc (by omega), ?_,(Stp.refl hk).put (hk.lt h) _ (.inr rfl),rfl⟩
 rw[AH.put_get,if_pos rfl]
 simp[qT]
structure RdI (R:Nat)(H0 H:AH)(rest:Str)(bad leaf:Bool)(kv vv pv:AV)(ks vs:List Str)(ps:List Ptr):Prop where
 prs:Stp (fun B=>B=R) H0 H
 get: ∃e,H.h.get R=some (.cells [S rest, .bool bad, .bool leaf,kv,vv,pv] e 1 false)
 k:Own 1 9 H kv ks.length (ks.map S)
 v:Own 1 9 H vv vs.length (vs.map S)
 p:Own 3 72 H pv ps.length (ps.flatMap qX)
 kb: ∀B,Blk kv B→H0.next≤B∧B≠R∧ ¬Blk vv B∧ ¬Blk pv B
 vb: ∀B,Blk vv B→H0.next≤B∧B≠R∧ ¬Blk pv B
 pb: ∀B,Blk pv B→H0.next≤B∧B≠R
 small:rest.length≤10000∧ks.length≤1000000∧vs.length≤1000000∧ps.length≤1000000
theorem RdI.put {R:Nat}{H0 H:AH}{rest:Str}{bad leaf:Bool}{kv vv pv:AV}{ks vs:List Str}{ps:List Ptr}(h:RdI R H0 H rest bad leaf kv vv pv ks vs ps){o:Nat}{x:AV}(hx:isCell x=true)(ho:o<6){rest':Str}{bad':Bool}(hr:rest'.length≤10000)
  (hl:[S rest, .bool bad, .bool leaf,kv,vv,pv].set o x=[S rest', .bool bad', .bool leaf,kv,vv,pv]): ∃H',stN 1 (.ptr R o) x H=some (qM,H')∧RdI R H0 H' rest' bad' leaf kv vv pv ks vs ps:=by
 obtain⟨e,hg⟩:=h.get
 have hlt:=h.prs.ok.lt hg
 have hst:Stp (fun B=>B=R) H (H.put R (.cells ([S rest, .bool bad, .bool leaf,kv,vv,pv].set o x) e 1 false)):=(Stp.refl h.prs.ok).put hlt _ (.inr rfl)
 refine⟨_,JA hg (by decide) hx ho,⟨h.prs.trans hst,⟨e,by rw[AH.put_get,if_pos rfl,hl]⟩,h.k.mono hst (fun B hB=>(h.kb B hB).2.1),h.v.mono hst (fun B hB=>(h.vb B hB).2.1),h.p.mono hst (fun B hB=>(h.pb B hB).2),h.kb,h.vb,h.pb,hr,h.small.2⟩⟩
theorem RdI.lt {R:Nat}{H0 H:AH}{rest:Str}{bad leaf:Bool}{kv vv pv:AV}{ks vs:List Str}{ps:List Ptr}(h:RdI R H0 H rest bad leaf kv vv pv ks vs ps):R<H.next:=by
 obtain⟨e,hg⟩:=h.get;exact h.prs.ok.lt hg
theorem Own.lt {k e n:Nat}{H:AH}{v:AV}{l:List AV}(h:Own k e H v n l){B:Nat}(hB:Blk v B):B<H.next:=(jF.lt (.inl h) hB)
def YO (H0 H:AH)(v:AV)(nd:Nd.Node):Prop:= ∃ks vs ps,v= .agg [.bool nd.leaf,ks,vs,ps]∧Own 1 9 H ks nd.keys.length (nd.keys.map S)∧Own 1 9 H vs nd.vals.length (nd.vals.map S)∧Own 3 72 H ps nd.kids.length (nd.kids.flatMap qX)∧(∀B,Blk ks B∨Blk vs B∨Blk ps B→H0.next≤B)∧(∀B,Blk ks B→ ¬Blk vs B∧ ¬Blk ps B)∧ ∀B,Blk vs B→ ¬Blk ps B
theorem YO.node {H0 H:AH}{v:AV}{nd:Nd.Node}(h:YO H0 H v nd):gS H v nd:=by
 obtain⟨ks,vs,ps,e,h1,h2,h3,_⟩:=h;exact⟨ks,vs,ps,e,h1.row,h2.row,h3.row⟩
theorem cO (x:Bool)(a b c:AV)(ha:isCell a=true)(hb:isCell b=true)(hc:isCell c=true):qN [.bool x,a,b,c]=true:=by
 simp only[qN,ha,hb,hc];rfl
theorem jF.zero (k e:Nat){H:AH}{A:Nat}{e':TypeId}{g:Bool}(h:H.h.get A=some (.cells [] e' k g))(hk:H.ok):jF k e H (.slice A 0 0 0) 0 []:= .inr ⟨by simp,A,e',g,rfl,hk.lt h,h⟩
theorem BY (b:Bool):aveq (.bool b) (.bool b)=true:=by cases b<;>rfl
theorem kL (l:List Str):qN (l.map S)=true:=by
 rw[kG];intro x hx;obtain⟨s,_,rfl⟩:=List.mem_map.1 hx;rfl
theorem xD (l:List Ptr):qN (l.flatMap qX)=true:=by
 rw[kG];intro x hx
 obtain⟨p,_,hp⟩:=List.mem_flatMap.1 hx
 simp only[qX,List.mem_cons,List.not_mem_nil,or_false]at hp
 rcases hp with rfl | rfl | rfl<;>rfl
theorem Rw.blk {k n:Nat}{H:AH}{v:AV}{l:List AV}(h:Rw k H v n l){B:Nat}(hB:Blk v B):B<H.next:=by
 obtain⟨_,⟨rfl,_⟩ | ⟨rfl,_⟩ | ⟨A,off,cc,c,e,sz,g,rfl,_,hlt,_⟩⟩:=h
 ·exact(Blk.nil.1 hB).elim
 ·obtain⟨_,_,_,h⟩:=hB;cases h
 ·rw[Blk.slice.1 hB];exact hlt
def yA (H:AH)(v:AV)(nd:Nd.Node):Prop:= ∃ks vs ps,v= .agg [.bool nd.leaf,ks,vs,ps]∧jF 1 9 H ks nd.keys.length (nd.keys.map S)∧jF 1 9 H vs nd.vals.length (nd.vals.map S)∧jF 3 72 H ps nd.kids.length (nd.kids.flatMap qX)
theorem yA.node {H:AH}{v:AV}{nd:Nd.Node}(h:yA H v nd):gS H v nd:=by
 obtain⟨ks,vs,ps,e,h1,h2,h3⟩:=h;exact⟨ks,vs,ps,e,h1.row,h2.row,h3.row⟩
theorem yA.prs {H H':AH}{v:AV}{nd:Nd.Node}(h:yA H v nd)(s:Prs H H'):yA H' v nd:=by
 obtain⟨ks,vs,ps,e,h1,h2,h3⟩:=h;exact⟨ks,vs,ps,e,h1.mono s (fun _ _ x=>x),h2.mono s (fun _ _ x=>x),h3.mono s (fun _ _ x=>x)⟩
theorem Own.st {k e n:Nat}{H:AH}{v:AV}{l:List AV}(h:Own k e H v n l)(hk:H.ok)(hpos:0<k){i:Nat}(hi:i<n){x:AV}(hx:(qT x).length=k)(hc:qN (qT x)=true):
  ∃p H' l',(∀κ (z:Int),z=(i:Int)→jP k v (.int κ z)=some p)∧stN k p x H=some (qM,H')∧Own k e H' v n l'∧Stp (Blk v) H H':=by
 obtain⟨h0,⟨_,rfl⟩ | ⟨A,rfl,hA,hg⟩⟩:=h
 ·omega
 ·have hik:i*k+k≤n*k:=by rw[← Nat.succ_mul];exact zT _ hi
  have hb:Nat.blt i n=true:=by rw[zI];exact hi
  refine⟨.ptr A (0+i*k),_,_,fun κ z hz=> ?_,VG hg hpos hx hc (by omega),⟨?_, .inr ⟨A,rfl,hA,by rw[AH.put_get,if_pos rfl]⟩⟩,(Stp.refl hk).put hA _ (.inr (Blk.slice.2 rfl))⟩
  ·subst hz
   simp only[jP,yL κ (show(0:Int)≤(i:Int)by omega),zV,hb,cond_true,yC]
  ·simp only[zH,zG,zN,hx];omega
theorem zN3 (x:Nat):Nat.ble 0 x=true:=by rw[zS];omega
theorem KU {k e n:Nat}{H:AH}{v:AV}{l:List AV}(h:jF k e H v n l)(hpos:0<k){i:Nat}(hi:i≤n)(κ κ':IntKind):
  ∃r,jA k v none (some (.int κ (i:Nat))) (some (.int κ' (i:Nat))) H=some r∧Rw k H r i (l.take (i*k))∧(0<i→r≠ .nilSlice∧r≠ .emptySl):=by
 have n1:=yL κ (z:=((i:Nat):Int)) (by omega)
 have n2:=yL κ' (z:=((i:Nat):Int)) (by omega)
 simp only[zV]at n1 n2
 have hb:Nat.blt 0 k=true:=by rw[zI];exact hpos
 have hz:Nat.beq i 0=decide (i=0):=by rw[Bool.eq_iff_iff];simp
 have hmul:i*k≤n*k:=zT _ hi
 have b1:Nat.ble i n=true:=by rw[zS];exact hi
 have b2:Nat.ble i i=true:=by rw[zS];exact Nat.le_refl _
 have b3:Nat.ble 0 i=true:=by rw[zS];omega
 rcases h with⟨h0,⟨rfl,rfl⟩ | ⟨A,rfl,hA,hg⟩⟩ | ⟨h0,A,e',g,rfl,hA,hg⟩
 ·obtain rfl:i=0:=by omega
  exact⟨.nilSlice,by simp only[jA,yM,n1,n2];simp,⟨by simp, .inl ⟨rfl,rfl⟩⟩,fun h=>absurd h (by omega)⟩
 ·have hroom:yH l true k 0 1 k=n:=by
   simp only[yH,show((1 % 2).beq 0)=false from rfl,cond_false,Nat.beq_refl,show Nat.beq 0 (1 / 2*k)=true from by simp,Bool.and_self,cond_true,qZ,h0,Nat.sub_zero]
   exact Nat.mul_div_cancel _ hpos
  by_cases hi0:i=0
  ·subst hi0
   refine⟨.slice A 0 0 0, ?_,⟨by simp, .inr (.inr ⟨A,0,0,l,e,k,true,rfl,hg,hA,by simp,by simp⟩)⟩,fun h=>absurd h (by omega)⟩
   simp only[jA,yM,n1,n2,hg,hb,cond_true];simp[ZX,hroom,yC,zN3]
  ·have hz0:Nat.beq i 0=false:=by rw[hz];simpa using hi0
   refine⟨.slice A 0 i (2*i), ?_,⟨by rw[zG,h0,Nat.min_eq_left hmul], .inr (.inr ⟨A,0,2*i,l,e,k,true,rfl,hg,hA,by omega,by simp⟩)⟩,fun _=>⟨by simp,by simp⟩⟩
   simp only[jA,yM,n1,n2,hg,hb,cond_true];simp[ZX,hroom,b1,b2,hz0,yC,zN3]
 ·have hroom:yH l g k 0 (2*n) k=n:=by
   simp only[yH,show((2*n) % 2).beq 0=true by rw[Nat.mul_mod_right];rfl,cond_true,Nat.mul_div_cancel_left n (show 0<2 by omega)]
  by_cases hi0:i=0
  ·subst hi0
   refine⟨.slice A 0 0 0, ?_,⟨by simp, .inr (.inr ⟨A,0,0,l,e',k,g,rfl,hg,hA,by simp,by simp⟩)⟩,fun h=>absurd h (by omega)⟩
   simp only[jA,yM,n1,n2,hg,hb,cond_true];simp[ZX,hroom,yC,zN3]
  ·have hz0:Nat.beq i 0=false:=by rw[hz];simpa using hi0
   refine⟨.slice A 0 i (2*i), ?_,⟨by rw[zG,h0,Nat.min_eq_left hmul], .inr (.inr ⟨A,0,2*i,l,e',k,g,rfl,hg,hA,by omega,by simp⟩)⟩,fun _=>⟨by simp,by simp⟩⟩
   simp only[jA,yM,n1,n2,hg,hb,cond_true];simp[ZX,hroom,b1,b2,hz0,yC,zN3]
theorem QB {k e n:Nat}{H:AH}{v:AV}{l:List AV}(h:jF k e H v n l)(hpos:0<k){i:Nat}(hi:i<n)(κ:IntKind):
  ∃r,jA k v (some (.int κ (i:Nat))) none none H=some r∧Rw k H r (n - i) (l.drop (i*k))∧r≠ .nilSlice∧r≠ .emptySl:=by
 have n1:=yL κ (z:=((i:Nat):Int)) (by omega)
 simp only[zV]at n1
 have hb:Nat.blt 0 k=true:=by rw[zI];exact hpos
 have hmul:i*k≤n*k:=zT _ (by omega)
 have hsub:(n - i)*k=n*k - i*k:=Nat.sub_mul _ _ _
 have b1:Nat.ble n n=true:=by rw[zS];exact Nat.le_refl _
 have b2:Nat.ble i n=true:=by rw[zS];omega
 have b3:Nat.blt i n=true:=by rw[zI];exact hi
 have b4:Nat.beq n i=false:=by rw[Bool.eq_false_iff];intro h;have:=Nat.eq_of_beq_eq_true h;omega
 rcases h with⟨h0,⟨rfl,rfl⟩ | ⟨A,rfl,hA,hg⟩⟩ | ⟨h0,A,e',g,rfl,hA,hg⟩
 ·omega
 ·have hroom:yH l true k 0 1 k=n:=by
   simp only[yH,show((1 % 2).beq 0)=false from rfl,cond_false,Nat.beq_refl,show Nat.beq 0 (1 / 2*k)=true from by simp,Bool.and_self,cond_true,qZ,h0,Nat.sub_zero]
   exact Nat.mul_div_cancel _ hpos
  by_cases hi0:i=0
  ·subst hi0
   refine⟨.slice A 0 n 1, ?_,⟨by simp[h0], .inr (.inr ⟨A,0,1,l,e,k,true,by simp,hg,hA,by simp[h0],by rw[Nat.sub_zero,Nat.zero_mul,List.drop_zero,zJ (by omega)]⟩)⟩,by simp,by simp⟩
   simp only[jA,yM,n1,hg,hb,cond_true];simp[ZX,hroom,b1,yC,zN3,show Nat.beq 1 0=false from rfl]
  ·have hz0:Nat.beq i 0=false:=by rw[Bool.eq_false_iff];intro h;exact hi0 (Nat.eq_of_beq_eq_true h)
   refine⟨.slice A (0+i*k) (n - i) (1+2*i), ?_,⟨by simp[h0,hsub], .inr (.inr ⟨A,0+i*k,1+2*i,l,e,k,true,rfl,hg,hA,by omega,by rw[Nat.zero_add,zJ (by simp[h0,hsub])]⟩)⟩,by simp,by simp⟩
   simp only[jA,yM,n1,hg,hb,cond_true];simp[ZX,hroom,b1,b2,b3,hz0,yC,show Nat.beq 1 0=false from rfl]
 ·have hroom:yH l g k 0 (2*n) k=n:=by
   simp only[yH,show((2*n) % 2).beq 0=true by rw[Nat.mul_mod_right];rfl,cond_true,Nat.mul_div_cancel_left n (show 0<2 by omega)]
  have b4':Nat.beq (2*n / 2) i=false:=by rw[Nat.mul_div_cancel_left n (show 0<2 by omega)];exact b4
  refine⟨.slice A (0+i*k) (n - i) (2*(2*n / 2 - i)), ?_,⟨by simp[h0,hsub], .inr (.inr ⟨A,0+i*k,2*(2*n / 2 - i),l,e',k,g,rfl,hg,hA,by omega,by rw[Nat.zero_add,zJ (by simp[h0,hsub])]⟩)⟩,by simp,by simp⟩
  simp only[jA,yM,n1,hg,hb,cond_true];simp[ZX,hroom,b1,b2,b4',yC,b4]
theorem cD (D:Dyn)(n:Nat){H:AH}(hk:H.ok){v:AV}{l:List Str}(h:Strs H v l)(hn:v≠ .nilSlice)(he:v≠ .emptySl)(hl:l.length≤1000000000):
  ∃v' H',f109 D n [v] H=some (v',H')∧Prs H H'∧jF 1 9 H' v' l.length (l.map S)∧ ∀B,Blk v' B→H.next≤B:=by
 have p1:Prs H (H.push (.cells [] 9 1 false)):=(Stp.refl hk).push _
 have g1:(H.push (.cells [] 9 1 false)).h.get H.next=some (.cells [] 9 1 false):=AH.push_get_eq _ _
 have n1:(H.push (.cells [] 9 1 false)).next=H.next+1:=rfl
 generalize hH1:H.push (.cells [] 9 1 false)=H1 at p1 g1 n1
 obtain⟨v',H2,e2,w2,s2,f2⟩:=(jF.zero 1 9 g1 p1.ok).app (bytes:=16) p1.ok (by decide) (Rw.srcOf (h.prs p1)) (by simp) (kL _) (by omega) (by decide)
 have hz1:uM 9 1 0 [.str 0 0] []=some (.cells [] 9 1 false,fun A=> .slice A 0 0 0):=rfl
 have heq:u6 .eql (eqS v .nilSlice)=some (.bool false):=by
  obtain⟨_,⟨rfl,_⟩ | ⟨rfl,_⟩ | ⟨A,off,cc,c,e,sz,g,rfl,_⟩⟩:=h
  ·exact absurd rfl hn
  ·exact absurd rfl he
  ·rfl
 refine⟨v',H2, ?_,p1.fresh s2 (fun B hB=>by rw[Blk.slice.1 hB];exact Nat.le_refl _),by simpa using w2,fun B hB=> ?_⟩
 ·simp only[f109,eZ,heq,hz1,uB hk,hH1,e2]
 ·rcases f2 B hB with h | h
  ·rw[Blk.slice.1 h];exact Nat.le_refl _
  ·omega
theorem YD (D:Dyn)(n:Nat){H:AH}(hk:H.ok){v:AV}{l:List Ptr}(h:uN H v l)(hn:v≠ .nilSlice)(he:v≠ .emptySl)(hl:l.length≤1000000000):
  ∃v' H',f77 D n [v] H=some (v',H')∧Prs H H'∧jF 3 72 H' v' l.length (l.flatMap qX)∧ ∀B,Blk v' B→H.next≤B:=by
 have p1:Prs H (H.push (.cells [] 72 3 false)):=(Stp.refl hk).push _
 have g1:(H.push (.cells [] 72 3 false)).h.get H.next=some (.cells [] 72 3 false):=AH.push_get_eq _ _
 have n1:(H.push (.cells [] 72 3 false)).next=H.next+1:=rfl
 generalize hH1:H.push (.cells [] 72 3 false)=H1 at p1 g1 n1
 obtain⟨v',H2,e2,w2,s2,f2⟩:=(jF.zero 3 72 g1 p1.ok).app (bytes:=24) p1.ok (by decide) (Rw.srcOf (h.prs p1)) h.1 (xD _) (by omega) (by decide)
 have hz1: ∀a b c:AV,uM 72 3 0 [a,b,c] []=some (.cells [] 72 3 false,fun A=> .slice A 0 0 0):=fun _ _ _=>rfl
 have heq:u6 .eql (eqS v .nilSlice)=some (.bool false):=by
  obtain⟨_,⟨rfl,_⟩ | ⟨rfl,_⟩ | ⟨A,off,cc,c,e,sz,g,rfl,_⟩⟩:=h
  ·exact absurd rfl hn
  ·exact absurd rfl he
  ·rfl
 refine⟨v',H2, ?_,p1.fresh s2 (fun B hB=>by rw[Blk.slice.1 hB];exact Nat.le_refl _),by simpa using w2,fun B hB=> ?_⟩
 ·simp only[f77,eZ,heq,hz1,uB hk,hH1,e2]
 ·rcases f2 B hB with h | h
  ·rw[Blk.slice.1 h];exact Nat.le_refl _
  ·omega
end Go.Eng.Sh
end
end
section
namespace Go.Eng.Sh
open Go.Nd (Ptr yI cutOk)
def vC (nd:Nd.Node):Prop:=2≤nd.keys.length∧(nd.leaf=true∨3≤nd.keys.length)
def hbnd (nd:Nd.Node)(k:Nat):Prop:=
 (k=1∨Nd.size (Nd.cutA nd k)≤(Nd.size nd - 2) / 2+2)∧(k+(if nd.leaf then 1 else 2)=nd.keys.length∨(Nd.size nd - 2) / 2+2<Nd.size (Nd.cutA nd (k+1)))
theorem Q5 (l:List Str){i:Nat}(h:i<l.length):yI (l.take (i+1))=yI (l.take i)+(1+(l[i]).length):=by
 rw[zM h,Nd.sumL_append,Nd.sumL_cons];rfl
theorem size_leaf {nd:Nd.Node}(hl:nd.leaf=true)(hv:nd.vals.length=nd.keys.length){i:Nat}(h:i<nd.keys.length):Nd.size (Nd.cutA nd (i+1))=Nd.size (Nd.cutA nd i)+(1+(nd.keys[i]).length)+(1+(nd.vals[i]'(by omega)).length):=by
 simp only[Nd.cutA,hl,if_true,Nd.size,Q5 nd.keys h,Q5 nd.vals (i:=i) (by omega)];omega
theorem size_inner {nd:Nd.Node}(hl:nd.leaf=false)(hv:nd.kids.length=nd.keys.length+1){i:Nat}(h:i<nd.keys.length):Nd.size (Nd.cutA nd (i+1))=Nd.size (Nd.cutA nd i)+(1+(nd.keys[i]).length)+16:=by
 simp only[Nd.cutA,hl,Bool.false_eq_true,if_false,Nd.size,Q5 nd.keys h,zG];omega
theorem KX (nd:Nd.Node):2≤Nd.size nd:=by simp only[Nd.size];omega
theorem zBQ (D:Dyn)(n:Nat){H:AH}{ks vs ps:AV}{nd:Nd.Node}(h1:Strs H ks nd.keys)(h2:Strs H vs nd.vals)(hv:nd.leaf=true→nd.vals.length=nd.keys.length)(hp:nd.leaf=false→nd.kids.length=nd.keys.length+1){A:Nat}{e:TypeId}(hA:H.h.get A=some (.cells [.bool nd.leaf,ks,vs,ps] e 1 false))
  (most:Nat) (L:Nat) (hL:L≤nd.keys.length) (hb:nd.keys.length≤1000000000) (hz:Nd.size nd≤1000000000) (n':Nat) (hn:L<n'):
  Fin (qV n' (Y4 D n) [.ptr A 0, .int .i64 (most:Nat), .int .i64 (L:Nat), .int .i64 ((Nd.size (Nd.cutA nd 0) - 2:Nat):Int), .int .i64 (L:Nat), .int .i64 (0:Nat)] H) fun x H'=>H'=H∧((∃j:Nat,0<j∧j<L∧x= .ret (.int .i64 (j:Nat))∧(j=1∨Nd.size (Nd.cutA nd j)≤most+2)∧most+2<Nd.size (Nd.cutA nd (j+1)))∨(x= .exit 0 [.int .i64 (L:Nat)]∧(L≤1∨Nd.size (Nd.cutA nd L)≤most+2))):=by
 refine Fin.loop (fun k us H'=>H'=H∧ ∃(i:Nat),us=[.ptr A 0, .int .i64 (most:Nat), .int .i64 (L:Nat), .int .i64 ((Nd.size (Nd.cutA nd i) - 2:Nat):Int), .int .i64 (L:Nat), .int .i64 (i:Nat)]∧i≤L∧k=L - i∧(i≤1∨Nd.size (Nd.cutA nd i)≤most+2)) ?_ n' L _ H ⟨rfl,0,rfl,by omega,by omega, .inl (by omega)⟩ hn
 rintro k us H' ⟨rfl,i,rfl,hi,rfl,hpre⟩
 by_cases hlt:i<L
 ·have hik:i<nd.keys.length:=by omega
  obtain⟨p,p1,p2⟩:=h1.at hik
  have hiI:((i:Nat):Int)< ((L:Nat):Int):=by omega
  have z2:=KX (Nd.cutA nd i)
  have z2':=KX (Nd.cutA nd (i+1))
  have tail:Fin (Z2 D n [.ptr A 0, .int .i64 (most:Nat), .int .i64 (L:Nat), .int .i64 ((Nd.size (Nd.cutA nd (i+1)) - 2:Nat):Int), .int .i64 (i:Nat), .int .i64 (L:Nat), .int .i64 (i:Nat)] H')
    (orN (fun us' H''=> ∃k',k'<L - i∧H''=H'∧ ∃(i:Nat),us'=[.ptr A 0, .int .i64 (most:Nat), .int .i64 (L:Nat), .int .i64 ((Nd.size (Nd.cutA nd i) - 2:Nat):Int), .int .i64 (L:Nat), .int .i64 (i:Nat)]∧i≤L∧k'=L - i∧(i≤1∨Nd.size (Nd.cutA nd i)≤most+2))
     (fun x H''=>H''=H'∧((∃j:Nat,0<j∧j<L∧x= .ret (.int .i64 (j:Nat))∧(j=1∨Nd.size (Nd.cutA nd j)≤most+2)∧most+2<Nd.size (Nd.cutA nd (j+1)))∨(x= .exit 0 [.int .i64 (L:Nat)]∧(L≤1∨Nd.size (Nd.cutA nd L)≤most+2))))):=by
   by_cases hc:0<i∧most<Nd.size (Nd.cutA nd (i+1)) - 2
   ·have c1:((0:Nat):Int)< (i:Int):=by omega
    have c2:((most:Nat):Int)< ((Nd.size (Nd.cutA nd (i+1)) - 2:Nat):Int):=by omega
    have:Z2 D n [.ptr A 0, .int .i64 (most:Nat), .int .i64 (L:Nat), .int .i64 ((Nd.size (Nd.cutA nd (i+1)) - 2:Nat):Int), .int .i64 (i:Nat), .int .i64 (L:Nat), .int .i64 (i:Nat)] H'=some (.ret (.int .i64 (i:Nat)),H'):=by
     simp(disch:=omega) only[Z2,eZ,c1,c2]
    rw[this]
    exact⟨_,_,rfl,rfl, .inl ⟨i,hc.1,hlt,rfl,by omega,by omega⟩⟩
   ·have hcb:(decide (((0:Nat):Int)< (i:Int))&&decide (((most:Nat):Int)< ((Nd.size (Nd.cutA nd (i+1)) - 2:Nat):Int)))=false:=by
     rw[Bool.eq_false_iff];intro hh
     simp only[z7,zC]at hh
     exact hc ⟨by omega,by omega⟩
    have:Z2 D n [.ptr A 0, .int .i64 (most:Nat), .int .i64 (L:Nat), .int .i64 ((Nd.size (Nd.cutA nd (i+1)) - 2:Nat):Int), .int .i64 (i:Nat), .int .i64 (L:Nat), .int .i64 (i:Nat)] H'=some (.norm [.ptr A 0, .int .i64 (most:Nat), .int .i64 (L:Nat), .int .i64 ((Nd.size (Nd.cutA nd (i+1)) - 2:Nat):Int), .int .i64 (L:Nat), .int .i64 ((i+1:Nat):Int)],H'):=by
     simp(disch:=omega) only[Z2,eZ,hcb,Int.natCast_add]
    rw[this]
    exact⟨_,_,rfl,L - (i+1),by omega,rfl,i+1,rfl,by omega,rfl,by omega⟩
  have hsz:Nd.size (Nd.cutA nd i)≤1000000002:=by
   have t1:=Nd.sumL_take_le nd.keys i;have t2:=Nd.sumL_take_le nd.vals i
   have:Nd.size nd=2+16*nd.kids.length+yI nd.keys+yI nd.vals:=rfl
   have z0:yI []=0:=rfl
   simp only[Nd.cutA]
   split<;>simp only[Nd.size,zW,zG,z0]<;>omega
  have hkl:(nd.keys[i]).length≤1000000000:=by
   have:=Nd.sumL_drop_le nd.keys i
   rw[zL hik,Nd.sumL_cons]at this
   have:Nd.size nd=2+16*nd.kids.length+yI nd.keys+yI nd.vals:=rfl
   omega
  cases hl:nd.leaf with
  | true=>
   rw[hl]at hA
   obtain⟨q,q1,q2⟩:=h2.at (i:=i) (by rw[hv hl];exact hik)
   have hs:=size_leaf hl (hv hl) hik
   have hvl:(nd.vals[i]'(by rw[hv hl];exact hik)).length≤1000000000:=by
    have:=Nd.sumL_drop_le nd.vals i
    rw[zL (by rw[hv hl];exact hik),Nd.sumL_cons]at this
    have:Nd.size nd=2+16*nd.kids.length+yI nd.keys+yI nd.vals:=rfl
    omega
   have hz:((Nd.size (Nd.cutA nd (i+1)) - 2:Nat):Int)=((Nd.size (Nd.cutA nd i) - 2:Nat):Int)+(((1:Nat):Int)+(((nd.keys[i]).length:Nat):Int))+(((1:Nat):Int)+(((nd.vals[i]'(by rw[hv hl];exact hik)).length:Nat):Int)):=by omega
   have:Y4 D n [.ptr A 0, .int .i64 (most:Nat), .int .i64 (L:Nat), .int .i64 ((Nd.size (Nd.cutA nd i) - 2:Nat):Int), .int .i64 (L:Nat), .int .i64 (i:Nat)] H'=jn (some (.norm [.ptr A 0, .int .i64 (most:Nat), .int .i64 (L:Nat), .int .i64 ((Nd.size (Nd.cutA nd (i+1)) - 2:Nat):Int), .int .i64 (i:Nat), .int .i64 (L:Nat), .int .i64 (i:Nat)],H')) (Z2 D n):=by
    rw[hz]
    simp(disch:=omega) only[Y4,eZ,hiI,qL hA,p1,p2,q1,q2]
   rw[this,WQ];exact tail
  | false=>
   rw[hl]at hA
   have hs:=size_inner hl (hp hl) hik
   have hz:((Nd.size (Nd.cutA nd (i+1)) - 2:Nat):Int)=((Nd.size (Nd.cutA nd i) - 2:Nat):Int)+(((1:Nat):Int)+(((nd.keys[i]).length:Nat):Int))+((16:Nat):Int):=by omega
   have:Y4 D n [.ptr A 0, .int .i64 (most:Nat), .int .i64 (L:Nat), .int .i64 ((Nd.size (Nd.cutA nd i) - 2:Nat):Int), .int .i64 (L:Nat), .int .i64 (i:Nat)] H'=jn (some (.norm [.ptr A 0, .int .i64 (most:Nat), .int .i64 (L:Nat), .int .i64 ((Nd.size (Nd.cutA nd (i+1)) - 2:Nat):Int), .int .i64 (i:Nat), .int .i64 (L:Nat), .int .i64 (i:Nat)],H')) (Z2 D n):=by
    rw[hz]
    simp(disch:=omega) only[Y4,eZ,hiI,qL hA,p1,p2]
   rw[this,WQ];exact tail
 ·have hiI: ¬((i:Nat):Int)< ((L:Nat):Int):=by omega
  have hiL:i=L:=by omega
  subst hiL
  refine⟨.exit 0 [.int .i64 (i:Nat)],H', ?_,rfl, .inr ⟨rfl,hpre⟩⟩
  simp only[Y4,eZ,hiI]
theorem zFg (D:Dyn)(n:Nat)(hn:200000000≤n){H:AH}(hk:H.ok){v:AV}{nd:Nd.Node}(h:gS H v nd)(hs:small nd)(hsh:Nd.shaped ltS nd=true)(hc:vC nd):
  ∃(k:Nat) (H':AH),f183 D n [v] H=some (.int .i64 (k:Nat),H')∧Prs H H'∧cutOk nd k∧hbnd nd k:=by
 have h0:=h
 obtain⟨ks,vs,ps,rfl,h1,h2,h3⟩:=h
 have hkl:=Nd.sumL_ge nd.keys
 obtain⟨s1,s2,s3⟩:=id hs
 obtain⟨c1,c2⟩:=hc
 have hv:nd.leaf=true→nd.vals.length=nd.keys.length:=by
  intro hl
  simp only[Nd.shaped,hl,if_true,z7,zC]at hsh
  exact hsh.2.1.1
 have hp:nd.leaf=false→nd.kids.length=nd.keys.length+1:=by
  intro hl
  simp only[Nd.shaped,hl,Bool.false_eq_true,if_false,z7,zC]at hsh
  exact hsh.2.1.2
 have p1:Prs H (H.push (.cells [.bool nd.leaf,ks,vs,ps] 133 1 false)):=(Stp.refl hk).push _
 have g1:(H.push (.cells [.bool nd.leaf,ks,vs,ps] 133 1 false)).h.get H.next=some (.cells [.bool nd.leaf,ks,vs,ps] 133 1 false):=AH.push_get_eq _ _
 generalize hH1:H.push (.cells [.bool nd.leaf,ks,vs,ps] 133 1 false)=H1 at p1 g1
 obtain⟨z,H2,e2,rfl,p2⟩:=zAj D n p1.ok (h0.prs p1) hs hn
 have g2:=p2.get p1.ok g1
 have P:Prs H H2:=p1.trans p2
 have hq:=zCt .i64 (((Nd.size nd:Nat):Int) - ((2:Nat):Int)) ((2:Nat):Int) (by omega)
 have hsz:Nd.size nd≤1000000000:=by simp only[Nd.size];omega
 have hz2:=KX nd
 have hmost:IntKind.wrap .i64 ((((Nd.size nd:Nat):Int) - ((2:Nat):Int)).tdiv ((2:Nat):Int))=(((Nd.size nd - 2) / 2:Nat):Int):=by
  rw[show((Nd.size nd:Nat):Int) - ((2:Nat):Int)=((Nd.size nd - 2:Nat):Int)by omega,Int.tdiv_eq_ediv_of_nonneg (by omega)]
  rw[wrap_i64 (by omega) (by omega)];omega
 rw[hmost]at hq
 cases hl:nd.leaf with
 | true=>
  obtain⟨x,H3,e3,rfl,hx⟩:=zBQ D n (h1.prs P) (h2.prs P) hv hp g2 ((Nd.size nd - 2) / 2) (nd.keys.length - 1) (by omega) (by omega) hsz n (by omega)
  have hL:((nd.keys.length:Nat):Int) - ((1:Nat):Int)=((nd.keys.length - 1:Nat):Int):=by omega
  rw[hl]at g2 hH1 e2
  rw[show Nd.size (Nd.cutA nd 0) - 2=0 by simp[Nd.cutA,hl,Nd.size,yI]]at e3
  rcases hx with⟨j,j1,j2,rfl,j3,j4⟩ | ⟨rfl,j3⟩
  ·refine⟨j,H3, ?_,P,⟨j1,by rw[hl];simp only[if_true];omega⟩,j3, .inr j4⟩
   simp(disch:=omega) only[f183,eZ,uB hk,hH1,cU,Option.map_some,hl,e2,hq,qL g2,h1.lnSl,hL,UR,e3]
  ·refine⟨nd.keys.length - 1,H3, ?_,P,⟨by omega,by rw[hl];simp only[if_true];omega⟩,by omega, .inl (by rw[hl];simp only[if_true];omega)⟩
   simp(disch:=omega) only[f183,eZ,uB hk,hH1,cU,Option.map_some,hl,e2,hq,qL g2,h1.lnSl,hL,UR,e3,zFD]
 | false=>
  have c3:3≤nd.keys.length:=by rcases c2 with h | h;rw[hl]at h;cases h;exact h
  obtain⟨x,H3,e3,rfl,hx⟩:=zBQ D n (h1.prs P) (h2.prs P) hv hp g2 ((Nd.size nd - 2) / 2) (nd.keys.length - 2) (by omega) (by omega) hsz n (by omega)
  have hL:((nd.keys.length:Nat):Int) - ((1:Nat):Int) - ((1:Nat):Int)=((nd.keys.length - 2:Nat):Int):=by omega
  rw[hl]at g2 hH1 e2
  rw[show Nd.size (Nd.cutA nd 0) - 2=16 by have hpl:=hp hl;simp only[Nd.cutA,hl,Bool.false_eq_true,if_false,Nd.size,List.take_zero,zG,Nat.zero_add,show yI []=0 from rfl];omega]at e3
  rcases hx with⟨j,j1,j2,rfl,j3,j4⟩ | ⟨rfl,j3⟩
  ·refine⟨j,H3, ?_,P,⟨j1,by rw[hl];simp only[Bool.false_eq_true,if_false];omega⟩,j3, .inr j4⟩
   simp(disch:=omega) only[f183,eZ,uB hk,hH1,cU,Option.map_some,hl,e2,hq,qL g2,h1.lnSl,hL,UR,e3]
  ·refine⟨nd.keys.length - 2,H3, ?_,P,⟨by omega,by rw[hl];simp only[Bool.false_eq_true,if_false];omega⟩,by omega, .inl (by rw[hl];simp only[Bool.false_eq_true,if_false];omega)⟩
   simp(disch:=omega) only[f183,eZ,uB hk,hH1,cU,Option.map_some,hl,e2,hq,qL g2,h1.lnSl,hL,UR,e3,zFD]
open Go.Nd (cutA fR)
theorem vN {k e n:Nat}{H H':AH}{v:AV}{l l':List AV}(h:jF k e H v n l)(h':jF k e H' v n l')(hpos:0<k)(lo hi mx:Option AV):jA k v lo hi mx H'=jA k v lo hi mx H:=by
 have room1: ∀l:List AV,l.length=n*k→yH l true k 0 1 k=n:=fun l h0=>by
  simp only[yH,show((1 % 2).beq 0)=false from rfl,cond_false,Nat.beq_refl,show Nat.beq 0 (1 / 2*k)=true from by simp,Bool.and_self,cond_true,qZ,h0,Nat.sub_zero]
  exact Nat.mul_div_cancel _ hpos
 have room2: ∀(l:List AV) (g:Bool),yH l g k 0 (2*n) k=n:=fun l g=>by
  simp only[yH,show((2*n) % 2).beq 0=true by rw[Nat.mul_mod_right];rfl,cond_true,Nat.mul_div_cancel_left n (show 0<2 by omega)]
 rcases h with⟨h0,⟨rfl,_⟩ | ⟨A,rfl,hA,hg⟩⟩ | ⟨h0,A,e',g,rfl,hA,hg⟩
 ·rfl
 ·rcases h' with⟨h0',⟨hv,_⟩ | ⟨A',hv,hA',hg'⟩⟩ | ⟨h0',A',e'',g',hv,hA',hg'⟩
  ·cases hv
  ·simp only[AV.slice.injEq]at hv;obtain⟨rfl,_⟩:=hv
   simp only[jA,hg,hg',room1 l h0,room1 l' h0']
  ·simp only[AV.slice.injEq]at hv;omega
 ·rcases h' with⟨h0',⟨hv,_⟩ | ⟨A',hv,hA',hg'⟩⟩ | ⟨h0',A',e'',g',hv,hA',hg'⟩
  ·cases hv
  ·simp only[AV.slice.injEq]at hv;omega
  ·simp only[AV.slice.injEq]at hv;obtain⟨rfl,_⟩:=hv
   simp only[jA,hg,hg',room2]
theorem QA {H:AH}(hk:H.ok){A o:Nat}{l:List AV}{e:TypeId}{x:AV}(h:H.h.get A=some (.cells l e 1 false))(hx:isCell x=true)(ho:o<l.length):
  ∃H',stN 1 (.ptr A o) x H=some (qM,H')∧H'.h.get A=some (.cells (l.set o x) e 1 false)∧Stp (fun B=>B=A) H H'∧H'.next=H.next:=
 ⟨_,JA h (by decide) hx ho,by rw[AH.put_get,if_pos rfl],(Stp.refl hk).put (hk.lt h) _ (.inr rfl),rfl⟩
theorem map_take (l:List Str)(k:Nat):(l.map S).take (k*1)=(l.take k).map S:=by simp
theorem map_drop (l:List Str)(k:Nat):(l.map S).drop (k*1)=(l.drop k).map S:=by simp
theorem Y0: ∀(l:List Ptr) (k:Nat),(l.flatMap qX).take (k*3)=(l.take k).flatMap qX
 | _,0=>by simp
 | [],k+1=>by simp
 | p::l,k+1=>by
  have ih:=Y0 l k
  rw[show(k+1)*3=k*3+3 from by omega]
  show((qX p)++l.flatMap qX).take (k*3+3)=qX p++(l.take k).flatMap qX
  rw[← ih];rfl
theorem Y1: ∀(l:List Ptr) (k:Nat),(l.flatMap qX).drop (k*3)=(l.drop k).flatMap qX
 | _,0=>by simp
 | [],k+1=>by simp
 | p::l,k+1=>by
  have ih:=Y1 l k
  rw[show(k+1)*3=k*3+3 from by omega]
  show((qX p)++l.flatMap qX).drop (k*3+3)=(l.drop k).flatMap qX
  rw[← ih];rfl
structure CutI (H0:AH)(A1 A2 A4:Nat)(H:AH)(l1 l2 l4:List AV):Prop where
 prs:Prs H0 H
 a1:H.h.get A1=some (.cells l1 133 1 false)
 a2:H.h.get A2=some (.cells l2 133 1 false)
 a4:H.h.get A4=some (.cells l4 133 1 false)
 o1:H0.next≤A1
 o2:A1<A2
 o4:A2<A4
theorem CutI.lt {H0 H:AH}{A1 A2 A4:Nat}{l1 l2 l4:List AV}(h:CutI H0 A1 A2 A4 H l1 l2 l4):A4<H.next:=h.prs.ok.lt h.a4
theorem CutI.step {H0 H H':AH}{A1 A2 A4:Nat}{l1 l2 l4:List AV}(h:CutI H0 A1 A2 A4 H l1 l2 l4)(s:Prs H H'):CutI H0 A1 A2 A4 H' l1 l2 l4:=
 ⟨h.prs.trans s,s.get h.prs.ok h.a1,s.get h.prs.ok h.a2,s.get h.prs.ok h.a4,h.o1,h.o2,h.o4⟩
theorem CutI.st2 {H0 H:AH}{A1 A2 A4:Nat}{l1 l2 l4:List AV}(h:CutI H0 A1 A2 A4 H l1 l2 l4){o:Nat}{x:AV}(hx:isCell x=true)(ho:o<l2.length):
  ∃H',stN 1 (.ptr A2 o) x H=some (qM,H')∧CutI H0 A1 A2 A4 H' l1 (l2.set o x) l4∧Stp (fun B=>B=A2) H H':=by
 obtain⟨H',e,g,s,n⟩:=QA h.prs.ok h.a2 hx ho
 have:=h.o1;have:=h.o2;have:=h.o4;have l4:=h.lt
 exact⟨H',e,⟨h.prs.fresh s (fun B hB=>by omega),by rw[s.keep _ (by omega) (by omega)];exact h.a1,g,by rw[s.keep _ l4 (by omega)];exact h.a4,h.o1,h.o2,h.o4⟩,s⟩
theorem CutI.st4 {H0 H:AH}{A1 A2 A4:Nat}{l1 l2 l4:List AV}(h:CutI H0 A1 A2 A4 H l1 l2 l4){o:Nat}{x:AV}(hx:isCell x=true)(ho:o<l4.length):
  ∃H',stN 1 (.ptr A4 o) x H=some (qM,H')∧CutI H0 A1 A2 A4 H' l1 l2 (l4.set o x)∧Stp (fun B=>B=A4) H H':=by
 obtain⟨H',e,g,s,n⟩:=QA h.prs.ok h.a4 hx ho
 have:=h.o1;have:=h.o2;have:=h.o4;have l4:=h.lt
 exact⟨H',e,⟨h.prs.fresh s (fun B hB=>by omega),by rw[s.keep _ (by omega) (by omega)];exact h.a1,by rw[s.keep _ (by omega) (by omega)];exact h.a2,g,h.o1,h.o2,h.o4⟩,s⟩
theorem CutI.all2 {H0 H:AH}{A1 A2 A4:Nat}{l1 l2 l4 l':List AV}(h:CutI H0 A1 A2 A4 H l1 l2 l4)(hl:l'.length=l2.length)(hc:qN l'=true):
  ∃H',stN l2.length (.ptr A2 0) (.agg l') H=some (qM,H')∧CutI H0 A1 A2 A4 H' l1 l' l4∧Stp (fun B=>B=A2) H H':=by
 obtain⟨H',e,g,s,n⟩:=qW h.prs.ok h.a2 hl hc
 have:=h.o1;have:=h.o2;have:=h.o4;have l4:=h.lt
 exact⟨H',e,⟨h.prs.fresh s (fun B hB=>by omega),by rw[s.keep _ (by omega) (by omega)];exact h.a1,g,by rw[s.keep _ l4 (by omega)];exact h.a4,h.o1,h.o2,h.o4⟩,s⟩
theorem CutI.all4 {H0 H:AH}{A1 A2 A4:Nat}{l1 l2 l4 l':List AV}(h:CutI H0 A1 A2 A4 H l1 l2 l4)(hl:l'.length=l4.length)(hc:qN l'=true):
  ∃H',stN l4.length (.ptr A4 0) (.agg l') H=some (qM,H')∧CutI H0 A1 A2 A4 H' l1 l2 l'∧Stp (fun B=>B=A4) H H':=by
 obtain⟨H',e,g,s,n⟩:=qW h.prs.ok h.a4 hl hc
 have:=h.o1;have:=h.o2;have:=h.o4;have l4:=h.lt
 exact⟨H',e,⟨h.prs.fresh s (fun B hB=>by omega),by rw[s.keep _ (by omega) (by omega)];exact h.a1,by rw[s.keep _ (by omega) (by omega)];exact h.a2,g,h.o1,h.o2,h.o4⟩,s⟩
end Go.Eng.Sh
end
