/- A checked evaluator for the program, and what it tells, part 4: no condition. -/
import Derived.Test.YtnnimbgajljgaaaGreatO3
import Derived.Test.YtnnimbgajljgaaaGreatProg
import Derived.KernelRfl
set_option linter.all false
set_option linter.unusedVariables false
set_option linter.unusedSimpArgs false
set_option maxHeartbeats 8000000
set_option maxRecDepth 20000
section
noncomputable section
namespace Go.Eng.Sh
open Go.Proofs
set_option maxRecDepth 100000
theorem sc {i:Nat}{m:List AV→AH→Option (AV×AH)}{S:List (Nat×(List AV→AH→Option (AV×AH)))}(h:FI i m)(k:SOk S):SOk ((i,m)::S):=SOk.cons h.fs k
def s48 (D:Dyn)(n:Nat):Tb:=⟨X,[]⟩
def f48 (D:Dyn)(n:Nat)(vs:List AV)(H:AH):Option (AV×AH):=
 outR (hd vs fun a vs=>hd vs fun b vs=>nl vs <|
 bA (mkM [6]) H fun c H=>
 bV (jT [(0,1),(1,1),(2,1),(3,1),(4,1),(5,1),(6,1)] [(.int .i64 (.ofNat 0)), .nilMap, .nilSlice, .nilMap,(.int .i64 (.ofNat 0)), .nilSlice,(.bool false)] [(0,a),(1,b),(3,c)]) fun d=>
 bA (bxV 130 d) H fun e H=>
 bV (some e) fun f=>some (.ret f,H))
def h48:Hint:=(.s .o (.s .o .o))
theorem zIl {D:Dyn}(hD:DG D)(n:Nat):FI 48 (f48 D n):=qR (n:=n) (h:=h48) X_ok hD (SOk.nil) Tryz.func48 (by kernel_rfl) (by kernel_rfl)
def s24 (D:Dyn)(n:Nat):Tb:=⟨X,[(48,f48 D n)]⟩
def f24 (D:Dyn)(n:Nat)(vs:List AV)(H:AH):Option (AV×AH):=
 outR (hd vs fun a vs=>nl vs <|
 bV (qN .lss a (.int .i64 (.ofNat 64))) fun b=>
 jn (wnt b false (bV (qN .gtr a (.int .i64 (.ofNat 8192))) fun c=>
 some (.norm [c],H)) (some (.norm [qM],H))) fun vs H=>hd vs fun d vs=>
 bV (pk3 (some b) (some (.bool true)) (some d)) fun e=>
 cnd e (bV (some .nilPtr) fun f=>bV (some (.int .i64 (.ofNat 1))) fun g=>some (.ret (.tuple [f,g]),H))
 (bA (mkM [6]) H fun h H=>
 bR (f48 D n [a,h] H) fun i H=>
 bV (some i) fun k=>bV (some (.int .i64 (.ofNat 0))) fun m=>some (.ret (.tuple [k,m]),H)))
def h24:Hint:=(.s .o (.s (.s .o (.cl (.s .o .o) .o)) (.s .o .o)))
theorem zIr {D:Dyn}(hD:DG D)(n:Nat):FI 24 (f24 D n):=qR (n:=n) (h:=h24) X_ok hD (sc (zIl hD n) (SOk.nil)) Tryz.func24 (by kernel_rfl) (by kernel_rfl)
def s66 (D:Dyn)(n:Nat):Tb:=⟨X,[]⟩
def f66 (D:Dyn)(n:Nat)(vs:List AV)(H:AH):Option (AV×AH):=
 outR (hd vs fun a vs=>nl vs <|
 bA (bxV 65 a) H fun b H=>
 bV (fAd 0 b) fun c=>
 bV (ld1 c H) fun d=>
 bV (qN .eql d (.int .i64 (.ofNat 0))) fun e=>
 cnd e (bV (ldN 3 b H) fun f=>
 bV (jT [(0,1),(1,1),(2,1)] [(.int .i64 (.ofNat 0)),(.int .i64 (.ofNat 0)),(.int .u64 (.ofNat 0))] []) fun g=>
 bV (vH .eql (eqA [6,6,10] f g)) fun h=>
 bV (some h) fun i=>some (.ret i,H))
 (bV (fAd 0 b) fun k=>
 bV (ld1 k H) fun m=>
 bV (qN .gtr m (.int .i64 (.ofNat 0))) fun o=>
 jn (wnt o true (bV (fAd 0 b) fun p=>
 bV (ld1 p H) fun r=>
 bV (qN .lss r (.int .i64 (.ofNat 8192))) fun t=>
 some (.norm [t],H)) (some (.norm [qM],H))) fun vs H=>hd vs fun u vs=>
 bV (pk3 (some o) (some u) (some (.bool false))) fun v=>
 jn (wnt v true (bV (fAd 1 b) fun w=>
 bV (ld1 w H) fun x=>
 bV (qN .geq x (.int .i64 (.ofNat 0))) fun y=>
 some (.norm [y],H)) (some (.norm [qM],H))) fun vs H=>hd vs fun z vs=>
 bV (pk3 (some v) (some z) (some (.bool false))) fun B=>
 jn (wnt B true (bV (fAd 1 b) fun C=>
 bV (ld1 C H) fun E=>
 bV (qN .leq E (.int .i64 (.ofNat 2147483647))) fun F=>
 some (.norm [F],H)) (some (.norm [qM],H))) fun vs H=>hd vs fun G vs=>
 bV (pk3 (some B) (some G) (some (.bool false))) fun I=>
 bV (some I) fun J=>some (.ret J,H)))
def h66:Hint:=(.s .o (.s (.s .o (.cl (.s .o .o) .o)) (.s .o .o)))
theorem zIe {D:Dyn}(hD:DG D)(n:Nat):FI 66 (f66 D n):=qR (n:=n) (h:=h66) X_ok hD (SOk.nil) Tryz.func66 (by kernel_rfl) (by kernel_rfl)
def s67 (D:Dyn)(n:Nat):Tb:=⟨X,[]⟩
def zEA (D:Dyn)(n:Nat)(vs:List AV)(H:AH):Rs:=
 hd vs fun a vs=>hd vs fun b vs=>hd vs fun c vs=>hd vs fun d vs=>
 bV (qN .lss d c) fun e=>
 cnd e (bV (lnSl a) fun f=>
 bV (qN .sub f (.int .i64 (.ofNat 1))) fun g=>
 bV (qN .sub g d) fun h=>
 bV (qN .mul (.int .i64 (.ofNat 8)) d) fun i=>
 bV (qN .shr b i) fun k=>
 bV (cvI .u8 k) fun m=>
 bV (jW 1 a h) fun o=>
 bR (stN 1 o m H) fun p H=>
 bV (qN .add d (.int .i64 (.ofNat 1))) fun r=>
 some (.norm [a,b,c,r],H))
 (some (.exit 0 [],H))
def zLQ (D:Dyn)(n:Nat)(vs:List AV)(H:AH):Rs:=
 some (.ret (.tuple []),H)
def f67 (D:Dyn)(n:Nat)(vs:List AV)(H:AH):Option (AV×AH):=
 outR (hd vs fun a vs=>hd vs fun b vs=>nl vs <|
 bV (lnSl a) fun c=>
 jb 0 (qX n (zEA D n) [a,b,c,(.int .i64 (.ofNat 0))] H) (zLQ D n))
def h67:Hint:=(.s .o (.b [] (.l [0,1,6,7] (.s .o (.s (.cr .o .o) (.s (.b0 (.s .o .o)) .o))))))
theorem zId {D:Dyn}(hD:DG D)(n:Nat):FI 67 (f67 D n):=qR (n:=n) (h:=h67) X_ok hD (SOk.nil) Tryz.func67 (by kernel_rfl) (by kernel_rfl)
def s49 (D:Dyn)(n:Nat):Tb:=⟨X,[(66,f66 D n),(67,f67 D n)]⟩
def f49 (D:Dyn)(n:Nat)(vs:List AV)(H:AH):Option (AV×AH):=
 outR (hd vs fun a vs=>nl vs <|
 bA (bxV 65 a) H fun b H=>
 bV (ldN 3 b H) fun c=>
 bR (f66 D n [c] H) fun d H=>
 bV (aun .not d) fun e=>
 cnd e (bV (some (.str 0 0)) fun f=>bV (some (.int .i64 (.ofNat 4))) fun g=>some (.ret (.tuple [f,g]),H))
 (bA (bxV 131 (.agg (rep 16 [(.int .u8 (.ofNat 0))]))) H fun h H=>
 bV (gQ 16 1 h none (some (.int .i64 (.ofNat 4))) none) fun i=>
 bV (fAd 0 b) fun k=>
 bV (ld1 k H) fun m=>
 bV (cvI .u64 m) fun o=>
 bR (f67 D n [i,o] H) fun p H=>
 bV (gQ 16 1 h (some (.int .i64 (.ofNat 4))) (some (.int .i64 (.ofNat 8))) none) fun r=>
 bV (fAd 1 b) fun t=>
 bV (ld1 t H) fun u=>
 bV (cvI .u64 u) fun v=>
 bR (f67 D n [r,v] H) fun w H=>
 bV (gQ 16 1 h (some (.int .i64 (.ofNat 8))) none none) fun x=>
 bV (fAd 2 b) fun y=>
 bV (ld1 y H) fun z=>
 bR (f67 D n [x,z] H) fun B H=>
 bV (gQ 16 1 h none none none) fun C=>
 bV (zFa C H) fun E=>
 bV (some E) fun F=>bV (some (.int .i64 (.ofNat 0))) fun G=>some (.ret (.tuple [F,G]),H)))
def h49:Hint:=(.s .o (.s (.s .o (.cl (.s .o .o) .o)) (.s .o (.s .o (.s .o (.s .o (.s .o .o)))))))
theorem zIk {D:Dyn}(hD:DG D)(n:Nat):FI 49 (f49 D n):=qR (n:=n) (h:=h49) X_ok hD (sc (zIe hD n) (sc (zId hD n) (SOk.nil))) Tryz.func49 (by kernel_rfl) (by kernel_rfl)
def s25 (D:Dyn)(n:Nat):Tb:=⟨X,[(49,f49 D n)]⟩
def f25 (D:Dyn)(n:Nat)(vs:List AV)(H:AH):Option (AV×AH):=
 outR (hd vs fun a vs=>hd vs fun b vs=>hd vs fun c vs=>nl vs <|
 bA (bxV 65 c) H fun d H=>
 bV (vH .eql (eqP a .nilPtr)) fun e=>
 cnd e (bV (some .nilPtr) fun f=>bV (some (.int .i64 (.ofNat 2))) fun g=>some (.ret (.tuple [f,g]),H))
 (bV (ldN 3 d H) fun h=>
 bR (f49 D n [h] H) fun i H=>
 bV (qK i 0) fun k=>
 bV (qK i 1) fun m=>
 bV (qN .neq m (.int .i64 (.ofNat 0))) fun o=>
 jn (wnt o false (bV (fAd 0 d) fun p=>
 bV (ld1 p H) fun r=>
 bV (qN .eql r (.int .i64 (.ofNat 1))) fun t=>
 some (.norm [t],H)) (some (.norm [qM],H))) fun vs H=>hd vs fun u vs=>
 bV (pk3 (some o) (some (.bool true)) (some u)) fun v=>
 cnd v (bV (some .nilPtr) fun w=>bV (some (.int .i64 (.ofNat 1))) fun x=>some (.ret (.tuple [w,x]),H))
 (bV (ldN 3 d H) fun y=>
 bA (mkM [10]) H fun z H=>
 bV (jT [(0,1),(1,1),(2,3),(5,1),(6,1),(7,1)] [.nilPtr, .nilPtr,(.int .i64 (.ofNat 0)),(.int .i64 (.ofNat 0)),(.int .u64 (.ofNat 0)), .nilMap,(.int .u64 (.ofNat 0)), .nilSlice] [(0,a),(1,b),(2,y),(3,z)]) fun B=>
 bA (bxV 107 B) H fun C H=>
 bV (some C) fun E=>bV (some (.int .i64 (.ofNat 0))) fun F=>some (.ret (.tuple [E,F]),H))))
def h25:Hint:=(.s .o (.s (.s .o (.cl (.s .o .o) .o)) (.s (.s .o (.s .o (.cl (.s .o .o) .o))) (.s .o .o))))
theorem zIq {D:Dyn}(hD:DG D)(n:Nat):FI 25 (f25 D n):=qR (n:=n) (h:=h25) X_ok hD (sc (zIk hD n) (SOk.nil)) Tryz.func25 (by kernel_rfl) (by kernel_rfl)
def s7 (D:Dyn)(n:Nat):Tb:=⟨X,[(24,f24 D n),(25,f25 D n)]⟩
def f7 (D:Dyn)(n:Nat)(vs:List AV)(H:AH):Option (AV×AH):=
 outR (nl vs <|
 bR (f24 D n [(.int .i64 (.ofNat 64))] H) fun a H=>
 bV (qK a 0) fun b=>
 bV (qK a 1) fun c=>
 bV (qN .neq c (.int .i64 (.ofNat 0))) fun d=>
 cnd d (bV (some .nilPtr) fun e=>some (.ret e,H))
 (bV (jT [(0,1),(1,1),(2,1)] [(.int .i64 (.ofNat 0)),(.int .i64 (.ofNat 0)),(.int .u64 (.ofNat 0))] []) fun f=>
 bR (f25 D n [b, .nilPtr,f] H) fun g H=>
 bV (qK g 0) fun h=>
 bV (qK g 1) fun i=>
 bV (qN .neq i (.int .i64 (.ofNat 0))) fun k=>
 cnd k (bV (some .nilPtr) fun m=>some (.ret m,H))
 (bV (some h) fun o=>some (.ret o,H))))
def h7:Hint:=(.s .o (.s .o (.s (.s .o (.cl (.s .o .o) .o)) (.s .o (.s (.s .o (.cl (.s .o .o) .o)) (.s .o .o))))))
theorem zGW {D:Dyn}(hD:DG D)(n:Nat):FI 7 (f7 D n):=qR (n:=n) (h:=h7) X_ok hD (sc (zIr hD n) (sc (zIq hD n) (SOk.nil))) Tryz.func7 (by kernel_rfl) (by kernel_rfl)
def s26 (D:Dyn)(n:Nat):Tb:=⟨X,[]⟩
def f26 (D:Dyn)(n:Nat)(vs:List AV)(H:AH):Option (AV×AH):=
 outR (hd vs fun a vs=>nl vs <|
 bV (qN .geq a (.int .i64 (.ofNat 1))) fun b=>
 jn (wnt b true (bV (qN .leq a (.int .i64 (.ofNat 2147483647))) fun c=>
 some (.norm [c],H)) (some (.norm [qM],H))) fun vs H=>hd vs fun d vs=>
 bV (pk3 (some b) (some d) (some (.bool false))) fun e=>
 bV (some e) fun f=>some (.ret f,H))
def h26:Hint:=(.s .o (.s .o .o))
theorem U1 {D:Dyn}(hD:DG D)(n:Nat):FI 26 (f26 D n):=qR (n:=n) (h:=h26) X_ok hD (SOk.nil) Tryz.func26 (by kernel_rfl) (by kernel_rfl)
def s50 (D:Dyn)(n:Nat):Tb:=⟨X,[]⟩
def f50 (D:Dyn)(n:Nat)(vs:List AV)(H:AH):Option (AV×AH):=
 outR (hd vs fun a vs=>hd vs fun b vs=>nl vs <|
 bR (D.fn 68 [a,b] H) fun c H=>
 bV (qN .geq c (.int .i64 (.ofNat 0))) fun d=>
 bV (some d) fun e=>some (.ret e,H))
def h50:Hint:=(.s .o (.s .o .o))
theorem zLY {D:Dyn}(hD:DG D)(n:Nat):FI 50 (f50 D n):=qR (n:=n) (h:=h50) X_ok hD (SOk.nil) Tryz.func50 (by kernel_rfl) (by kernel_rfl)
def m50 (D:Dyn)(n:Nat)(vs:List AV)(H:AH):Option (AV×AH):=zHm (f50 D n) vs H
theorem zI0 {D:Dyn}(hD:DG D)(n:Nat):FI 50 (m50 D n):=zHl (by kernel_rfl) (zLY hD n)
def s27 (D:Dyn)(n:Nat):Tb:=⟨X,[(50,m50 D n)]⟩
def zAc (D:Dyn)(n:Nat)(vs:List AV)(H:AH):Rs:=
 hd vs fun a vs=>hd vs fun b vs=>
 some (.norm [a,b],H)
def zAb (D:Dyn)(n:Nat)(vs:List AV)(H:AH):Rs:=
 hd vs fun a vs=>hd vs fun b vs=>
 some (.norm [a,b],H)
def zAa (D:Dyn)(n:Nat)(vs:List AV)(H:AH):Rs:=
 hd vs fun a vs=>hd vs fun b vs=>
 cnd b (bV (some (.bool false)) fun c=>some (.ret c,H))
 (bV (wP a) fun d=>
 bV (qN .leq d (.int .i64 (.ofNat 32))) fun e=>
 jn (wnt e true (bR (m50 D n [a,(.str 2 12032)] H) fun f H=>
 bV (aun .not f) fun g=>
 some (.norm [g],H)) (some (.norm [qM],H))) fun vs H=>hd vs fun h vs=>
 bV (pk3 (some e) (some h) (some (.bool false))) fun i=>
 bV (some i) fun k=>some (.ret k,H))
def f27 (D:Dyn)(n:Nat)(vs:List AV)(H:AH):Option (AV×AH):=
 outR (hd vs fun a vs=>nl vs <|
 bV (kO .eql a (.str 0 0)) fun b=>
 jn (cnd b (some (.norm [a,b],H))
 (bV (kO .eql a (.str 1 46)) fun c=>
 jn (cnd c (some (.norm [a,c],H))
 (bV (kO .eql a (.str 2 11822)) fun d=>
 jn (cnd d (some (.norm [a,d],H))
 (bV (kO .eql a (.str 9 2147850105812604056366)) fun e=>
 some (.norm [a,e],H))) (zAc D n))) (zAb D n))) (zAa D n))
def h27:Hint:=(.s .o (.s (.s .o (.b0 (.s (.s .o (.c [0,4] .o (.s .o (.c [0,4] .o (.s .o (.c [0,4] .o .o)))))) (.cl (.s .o .o) .o)))) (.s .o .o)))
theorem zBm {D:Dyn}(hD:DG D)(n:Nat):FI 27 (f27 D n):=qR (n:=n) (h:=h27) X_ok hD (sc (zI0 hD n) (SOk.nil)) Tryz.func27 (by kernel_rfl) (by kernel_rfl)
def s64 (D:Dyn)(n:Nat):Tb:=⟨X,[]⟩
def zGZ (D:Dyn)(n:Nat)(vs:List AV)(H:AH):Rs:=
 hd vs fun a vs=>hd vs fun b vs=>hd vs fun c vs=>hd vs fun d vs=>
 bV (qN .lss d c) fun e=>
 cnd e (bV (KU b d) fun f=>
 bV (cvI .u64 f) fun g=>
 bV (qN .xor a g) fun h=>
 bV (qN .mul h (.int .u64 (.ofNat 1099511628211))) fun i=>
 bV (qN .add d (.int .i64 (.ofNat 1))) fun k=>
 some (.norm [i,b,c,k],H))
 (some (.exit 0 [a],H))
def zLR (D:Dyn)(n:Nat)(vs:List AV)(H:AH):Rs:=
 hd vs fun a vs=>
 bV (some a) fun b=>some (.ret b,H)
def f64 (D:Dyn)(n:Nat)(vs:List AV)(H:AH):Option (AV×AH):=
 outR (hd vs fun a vs=>hd vs fun b vs=>nl vs <|
 bV (wP b) fun c=>
 jb 0 (qX n (zGZ D n) [a,b,c,(.int .i64 (.ofNat 0))] H) (zLR D n))
def h64:Hint:=(.s .o (.s (.s .o (.b [0] (.l [0,1,7,8] (.s .o (.s (.cr .o .o) (.s (.b0 (.s .o .o)) .o)))))) (.s .o .o)))
theorem zIf {D:Dyn}(hD:DG D)(n:Nat):FI 64 (f64 D n):=qR (n:=n) (h:=h64) X_ok hD (SOk.nil) Tryz.func64 (by kernel_rfl) (by kernel_rfl)
def s46 (D:Dyn)(n:Nat):Tb:=⟨X,[(64,f64 D n)]⟩
def f46 (D:Dyn)(n:Nat)(vs:List AV)(H:AH):Option (AV×AH):=
 outR (hd vs fun a vs=>nl vs <|
 bR (f64 D n [(.int .u64 (.ofNat 14695981039346656037)),a] H) fun b H=>
 bV (some b) fun c=>some (.ret c,H))
def h46:Hint:=(.s .o (.s .o .o))
theorem zIm {D:Dyn}(hD:DG D)(n:Nat):FI 46 (f46 D n):=qR (n:=n) (h:=h46) X_ok hD (sc (zIf hD n) (SOk.nil)) Tryz.func46 (by kernel_rfl) (by kernel_rfl)
def s22 (D:Dyn)(n:Nat):Tb:=⟨X,[(46,f46 D n)]⟩
def f22 (D:Dyn)(n:Nat)(vs:List AV)(H:AH):Option (AV×AH):=
 outR (hd vs fun a vs=>nl vs <|
 bR (f46 D n [a] H) fun b H=>
 bV (qN .and b (.int .u64 (.ofNat 1023))) fun c=>
 bV (cvI .i64 c) fun d=>
 bV (some d) fun e=>some (.ret e,H))
def h22:Hint:=(.s .o (.s .o .o))
theorem QK {D:Dyn}(hD:DG D)(n:Nat):FI 22 (f22 D n):=qR (n:=n) (h:=h22) X_ok hD (sc (zIm hD n) (SOk.nil)) Tryz.func22 (by kernel_rfl) (by kernel_rfl)
def s32 (D:Dyn)(n:Nat):Tb:=⟨X,[]⟩
def zEI (D:Dyn)(n:Nat)(vs:List AV)(H:AH):Rs:=
 hd vs fun a vs=>hd vs fun b vs=>hd vs fun c vs=>
 bV (qN .lss c (.int .i64 (.ofNat 4))) fun d=>
 cnd d (bV (qN .sub (.int .i64 (.ofNat 3)) c) fun e=>
 bV (qN .mul (.int .i64 (.ofNat 8)) e) fun f=>
 bV (qN .shr a f) fun g=>
 bV (cvI .u8 g) fun h=>
 bV (QB 4 1 b c) fun i=>
 bR (stN 1 i h H) fun k H=>
 bV (qN .add c (.int .i64 (.ofNat 1))) fun m=>
 some (.norm [a,b,m],H))
 (some (.exit 0 [b],H))
def zM1 (D:Dyn)(n:Nat)(vs:List AV)(H:AH):Rs:=
 hd vs fun a vs=>
 bV (gQ 4 1 a none none none) fun b=>
 bV (zFa b H) fun c=>
 bV (some c) fun d=>some (.ret d,H)
def f32 (D:Dyn)(n:Nat)(vs:List AV)(H:AH):Option (AV×AH):=
 outR (hd vs fun a vs=>nl vs <|
 bA (bxV 115 (.agg [(.int .u8 (.ofNat 0)),(.int .u8 (.ofNat 0)),(.int .u8 (.ofNat 0)),(.int .u8 (.ofNat 0))])) H fun b H=>
 jb 0 (qX n (zEI D n) [a,b,(.int .i64 (.ofNat 0))] H) (zM1 D n))
def h32:Hint:=(.s .o (.s .o (.s (.s .o (.b [3] (.l [0,3,5] (.s .o (.s (.cr .o .o) (.s (.b0 (.s .o .o)) .o)))))) (.s .o .o))))
theorem zBk {D:Dyn}(hD:DG D)(n:Nat):FI 32 (f32 D n):=qR (n:=n) (h:=h32) X_ok hD (SOk.nil) Tryz.func32 (by kernel_rfl) (by kernel_rfl)
def s31 (D:Dyn)(n:Nat):Tb:=⟨X,[(32,f32 D n)]⟩
def f31 (D:Dyn)(n:Nat)(vs:List AV)(H:AH):Option (AV×AH):=
 outR (hd vs fun a vs=>hd vs fun b vs=>nl vs <|
 bR (f32 D n [a] H) fun c H=>
 bV (kO .add (.str 1 101) c) fun d=>
 bR (f32 D n [b] H) fun e H=>
 bV (kO .add d e) fun f=>
 bV (some f) fun g=>some (.ret g,H))
def h31:Hint:=(.s .o (.s .o .o))
theorem zBl {D:Dyn}(hD:DG D)(n:Nat):FI 31 (f31 D n):=qR (n:=n) (h:=h31) X_ok hD (sc (zBk hD n) (SOk.nil)) Tryz.func31 (by kernel_rfl) (by kernel_rfl)
def s51 (D:Dyn)(n:Nat):Tb:=⟨X,[]⟩
def f51 (D:Dyn)(n:Nat)(vs:List AV)(H:AH):Option (AV×AH):=
 outR (hd vs fun a vs=>nl vs <|
 bV (vH .eql (eqP a .nilPtr)) fun b=>
 jn (wnt b false (bV (xQ a) fun c=>
 bV (fAd 0 c) fun d=>
 bV (ld1 d H) fun e=>
 bV (vH .eql (eqP e .nilPtr)) fun f=>
 some (.norm [f],H)) (some (.norm [qM],H))) fun vs H=>hd vs fun g vs=>
 bV (pk3 (some b) (some (.bool true)) (some g)) fun h=>
 jn (wnt h false (bV (xQ a) fun i=>
 bV (fAd 5 i) fun k=>
 bV (ld1 k H) fun m=>
 bV (vH .eql (eqM m .nilMap)) fun o=>
 some (.norm [o],H)) (some (.norm [qM],H))) fun vs H=>hd vs fun p vs=>
 bV (pk3 (some h) (some (.bool true)) (some p)) fun r=>
 bV (some r) fun t=>some (.ret t,H))
def h51:Hint:=(.s .o (.s .o .o))
theorem JC {D:Dyn}(hD:DG D)(n:Nat):FI 51 (f51 D n):=qR (n:=n) (h:=h51) X_ok hD (SOk.nil) Tryz.func51 (by kernel_rfl) (by kernel_rfl)
def s59 (D:Dyn)(n:Nat):Tb:=⟨X,[(51,f51 D n)]⟩
def f59 (D:Dyn)(n:Nat)(vs:List AV)(H:AH):Option (AV×AH):=
 outR (hd vs fun a vs=>nl vs <|
 bR (f51 D n [a] H) fun b H=>
 cnd b (bV (some (.int .i64 (.ofNat 0))) fun c=>some (.ret c,H))
 (bV (xQ a) fun d=>
 bV (fAd 5 d) fun e=>
 bV (ld1 e H) fun f=>
 bV (VG f H) fun g=>
 bV (some g) fun h=>some (.ret h,H)))
def h59:Hint:=(.s .o (.s (.s .o (.cl (.s .o .o) .o)) (.s .o .o)))
theorem zIg {D:Dyn}(hD:DG D)(n:Nat):FI 59 (f59 D n):=qR (n:=n) (h:=h59) X_ok hD (sc (JC hD n) (SOk.nil)) Tryz.func59 (by kernel_rfl) (by kernel_rfl)
def s41 (D:Dyn)(n:Nat):Tb:=⟨X,[(59,f59 D n)]⟩
def f41 (D:Dyn)(n:Nat)(vs:List AV)(H:AH):Option (AV×AH):=
 outR (hd vs fun a vs=>nl vs <|
 bR (f59 D n [a] H) fun b H=>
 bV (qN .add (.int .i64 (.ofNat 8192)) b) fun c=>
 bV (jT [(0,1),(1,1),(2,1),(3,1)] [.nilPtr, .nilMap,(.int .i64 (.ofNat 0)),(.int .i64 (.ofNat 0))] [(0,a),(2,c)]) fun d=>
 bA (bxV 96 d) H fun e H=>
 bV (some e) fun f=>some (.ret f,H))
def h41:Hint:=(.s .o (.s .o .o))
theorem zEF {D:Dyn}(hD:DG D)(n:Nat):FI 41 (f41 D n):=qR (n:=n) (h:=h41) X_ok hD (sc (zIg hD n) (SOk.nil)) Tryz.func41 (by kernel_rfl) (by kernel_rfl)
def s83 (D:Dyn)(n:Nat):Tb:=⟨X,[(51,f51 D n)]⟩
def f83 (D:Dyn)(n:Nat)(vs:List AV)(H:AH):Option (AV×AH):=
 outR (hd vs fun a vs=>nl vs <|
 bA (bxV 65 (.agg [(.int .i64 (.ofNat 0)),(.int .i64 (.ofNat 0)),(.int .u64 (.ofNat 0))])) H fun b H=>
 bR (f51 D n [a] H) fun c H=>
 cnd c (bV (jT [(0,1),(1,1),(2,1)] [(.int .i64 (.ofNat 0)),(.int .i64 (.ofNat 0)),(.int .u64 (.ofNat 0))] []) fun d=>
 bR (stN 3 b d H) fun e H=>
 bV (ldN 3 b H) fun f=>some (.ret f,H))
 (bV (xQ a) fun g=>
 bV (fAd 2 g) fun h=>
 bV (ldN 3 h H) fun i=>
 bR (stN 3 b i H) fun k H=>
 bV (ldN 3 b H) fun m=>some (.ret m,H)))
def h83:Hint:=(.s .o (.s (.s .o (.cl (.s .o .o) .o)) (.s .o .o)))
theorem zI9 {D:Dyn}(hD:DG D)(n:Nat):FI 83 (f83 D n):=qR (n:=n) (h:=h83) X_ok hD (sc (JC hD n) (SOk.nil)) Tryz.func83 (by kernel_rfl) (by kernel_rfl)
def s73 (D:Dyn)(n:Nat):Tb:=⟨X,[]⟩
def f73 (D:Dyn)(n:Nat)(vs:List AV)(H:AH):Option (AV×AH):=
 outR (hd vs fun a vs=>hd vs fun b vs=>nl vs <|
 bA (bxV 65 b) H fun c H=>
 bA (bxV 111 (.agg [(.bool false), .nilSlice, .nilSlice, .nilSlice])) H fun d H=>
 bV (fAd 0 c) fun e=>
 bV (ld1 e H) fun f=>
 bV (qN .eql f (.int .i64 (.ofNat 1))) fun g=>
 cnd g (bV (xQ a) fun h=>
 bV (fAd 5 h) fun i=>
 bV (ld1 i H) fun k=>
 bV (fAd 2 c) fun m=>
 bV (ld1 m H) fun o=>
 bV (lkM [10] (.agg [(.bool false), .nilSlice, .nilSlice, .nilSlice]) true k o H) fun p=>
 bV (qK p 0) fun r=>
 bV (qK p 1) fun t=>
 bA (bxV 111 (.agg [(.bool false), .nilSlice, .nilSlice, .nilSlice])) H fun u H=>
 bR (stN 4 u r H) fun v H=>
 bV (aun .not t) fun w=>
 jn (wnt w false (bV (fAd 1 c) fun x=>
 bV (ld1 x H) fun y=>
 bV (qN .neq y (.int .i64 (.ofNat 0))) fun z=>
 some (.norm [z],H)) (some (.norm [qM],H))) fun vs H=>hd vs fun B vs=>
 bV (pk3 (some w) (some (.bool true)) (some B)) fun C=>
 cnd C (bV (jT [(0,1),(1,1),(2,1),(3,1)] [(.bool false), .nilSlice, .nilSlice, .nilSlice] []) fun E=>
 bR (stN 4 d E H) fun F H=>
 bV (ldN 4 d H) fun G=>bV (some (.int .i64 (.ofNat 1))) fun I=>some (.ret (.tuple [G,I]),H))
 (bV (ldN 4 u H) fun J=>
 bR (stN 4 d J H) fun K H=>
 bV (ldN 4 d H) fun M=>bV (some (.int .i64 (.ofNat 0))) fun N=>some (.ret (.tuple [M,N]),H)))
 (bV (ldN 3 c H) fun O=>
 bR (D.fn 90 [a,O] H) fun P H=>
 bV (qK P 0) fun Q=>
 bV (qK P 1) fun R=>
 bV (qK P 2) fun T=>
 bV (qN .neq T (.int .i64 (.ofNat 0))) fun U=>
 cnd U (bV (jT [(0,1),(1,1),(2,1),(3,1)] [(.bool false), .nilSlice, .nilSlice, .nilSlice] []) fun V=>
 bR (stN 4 d V H) fun W H=>
 bV (ldN 4 d H) fun Y=>bV (some T) fun Z=>some (.ret (.tuple [Y,Z]),H))
 (bV (qN .neq Q (.int .u8 (.ofNat 1))) fun a0=>
 jn (wnt a0 true (bV (qN .neq Q (.int .u8 (.ofNat 2))) fun a1=>
 some (.norm [a1],H)) (some (.norm [qM],H))) fun vs H=>hd vs fun a2 vs=>
 bV (pk3 (some a0) (some a2) (some (.bool false))) fun a3=>
 cnd a3 (bV (jT [(0,1),(1,1),(2,1),(3,1)] [(.bool false), .nilSlice, .nilSlice, .nilSlice] []) fun a4=>
 bR (stN 4 d a4 H) fun a5 H=>
 bV (ldN 4 d H) fun a6=>bV (some (.int .i64 (.ofNat 4))) fun a7=>some (.ret (.tuple [a6,a7]),H))
 (bV (qN .eql Q (.int .u8 (.ofNat 1))) fun a8=>
 bR (D.fn 91 [a8,R] H) fun a9 H=>
 bV (qK a9 0) fun b0=>
 bV (qK a9 1) fun b1=>
 bR (stN 4 d b0 H) fun b2 H=>
 bV (ldN 4 d H) fun b3=>bV (some b1) fun b4=>some (.ret (.tuple [b3,b4]),H)))))
def h73:Hint:=(.s .o (.s (.s .o (.cl (.s .o (.s (.s .o (.cl (.s .o .o) .o)) (.s .o .o))) .o)) (.s .o (.s (.s .o (.cl (.s .o .o) .o)) (.s (.s .o (.cl (.s .o .o) .o)) (.s .o .o))))))
theorem zBi {D:Dyn}(hD:DG D)(n:Nat):FI 73 (f73 D n):=qR (n:=n) (h:=h73) X_ok hD (SOk.nil) Tryz.func73 (by kernel_rfl) (by kernel_rfl)
def s79 (D:Dyn)(n:Nat):Tb:=⟨X,[]⟩
def f79 (D:Dyn)(n:Nat)(vs:List AV)(H:AH):Option (AV×AH):=
 outR (hd vs fun a vs=>nl vs <|
 bV (vH .eql (eqS a .nilSlice)) fun b=>
 cnd b (bV (some .nilSlice) fun c=>some (.ret c,H))
 (bA (vQ 9 1 0 [(.str 0 0)] []) H fun d H=>
 bR (apP 9 1 16 d a H) fun e H=>
 bV (some e) fun f=>some (.ret f,H)))
def h79:Hint:=(.s .o (.s (.s .o (.cl (.s .o .o) .o)) (.s .o .o)))
theorem zBg {D:Dyn}(hD:DG D)(n:Nat):FI 79 (f79 D n):=qR (n:=n) (h:=h79) X_ok hD (SOk.nil) Tryz.func79 (by kernel_rfl) (by kernel_rfl)
def s118 (D:Dyn)(n:Nat):Tb:=⟨X,[]⟩
def f118 (D:Dyn)(n:Nat)(vs:List AV)(H:AH):Option (AV×AH):=
 outR (hd vs fun a vs=>nl vs <|
 bV (vH .eql (eqS a .nilSlice)) fun b=>
 cnd b (bV (some .nilSlice) fun c=>some (.ret c,H))
 (bA (vQ 65 3 0 [(.int .i64 (.ofNat 0)),(.int .i64 (.ofNat 0)),(.int .u64 (.ofNat 0))] []) H fun d H=>
 bR (apP 65 3 24 d a H) fun e H=>
 bV (some e) fun f=>some (.ret f,H)))
def h118:Hint:=(.s .o (.s (.s .o (.cl (.s .o .o) .o)) (.s .o .o)))
theorem zAd {D:Dyn}(hD:DG D)(n:Nat):FI 118 (f118 D n):=qR (n:=n) (h:=h118) X_ok hD (SOk.nil) Tryz.func118 (by kernel_rfl) (by kernel_rfl)
def s100 (D:Dyn)(n:Nat):Tb:=⟨X,[(51,f51 D n),(73,f73 D n),(79,f79 D n),(118,f118 D n)]⟩
def f100 (D:Dyn)(n:Nat)(vs:List AV)(H:AH):Option (AV×AH):=
 outR (hd vs fun a vs=>hd vs fun b vs=>nl vs <|
 bA (bxV 65 b) H fun c H=>
 bA (bxV 111 (.agg [(.bool false), .nilSlice, .nilSlice, .nilSlice])) H fun d H=>
 bR (f51 D n [a] H) fun e H=>
 cnd e (bV (jT [(0,1),(1,1),(2,1),(3,1)] [(.bool false), .nilSlice, .nilSlice, .nilSlice] []) fun f=>
 bR (stN 4 d f H) fun g H=>
 bV (ldN 4 d H) fun h=>bV (some (.int .i64 (.ofNat 2))) fun i=>some (.ret (.tuple [h,i]),H))
 (bV (fAd 0 c) fun k=>
 bV (ld1 k H) fun m=>
 bV (qN .eql m (.int .i64 (.ofNat 0))) fun o=>
 cnd o (bV (jT [(0,1),(1,1),(2,1),(3,1)] [(.bool false), .nilSlice, .nilSlice, .nilSlice] []) fun p=>
 bR (stN 4 d p H) fun r H=>
 bV (ldN 4 d H) fun t=>bV (some (.int .i64 (.ofNat 1))) fun u=>some (.ret (.tuple [t,u]),H))
 (bV (ldN 3 c H) fun v=>
 bR (f73 D n [a,v] H) fun w H=>
 bV (qK w 0) fun x=>
 bV (qK w 1) fun y=>
 bA (bxV 111 (.agg [(.bool false), .nilSlice, .nilSlice, .nilSlice])) H fun z H=>
 bR (stN 4 z x H) fun B H=>
 bV (qN .neq y (.int .i64 (.ofNat 0))) fun C=>
 cnd C (bV (jT [(0,1),(1,1),(2,1),(3,1)] [(.bool false), .nilSlice, .nilSlice, .nilSlice] []) fun E=>
 bR (stN 4 d E H) fun F H=>
 bV (ldN 4 d H) fun G=>bV (some y) fun I=>some (.ret (.tuple [G,I]),H))
 (bV (fAd 0 z) fun J=>
 bV (ld1 J H) fun K=>
 bV (fAd 1 z) fun M=>
 bV (ld1 M H) fun N=>
 bV (fAd 2 z) fun O=>
 bV (ld1 O H) fun P=>
 bV (fAd 3 z) fun Q=>
 bV (ld1 Q H) fun R=>
 bR (f79 D n [N] H) fun T H=>chk (ld1 J H) K <| chk (ld1 O H) P <| chk (ld1 Q H) R <|
 bR (f79 D n [P] H) fun U H=>chk (ld1 J H) K <| chk (ld1 Q H) R <|
 bR (f118 D n [R] H) fun V H=>chk (ld1 J H) K <|
 bV (jT [(0,1),(1,1),(2,1),(3,1)] [(.bool false), .nilSlice, .nilSlice, .nilSlice] [(0,K),(1,T),(2,U),(3,V)]) fun W=>
 bR (stN 4 d W H) fun Y H=>
 bV (ldN 4 d H) fun Z=>bV (some (.int .i64 (.ofNat 0))) fun a0=>some (.ret (.tuple [Z,a0]),H)))))
def h100:Hint:=(.s .o (.s (.s .o (.cl (.s .o .o) .o)) (.s (.s .o (.cl (.s .o .o) .o)) (.s .o (.s (.s .o (.cl (.s .o .o) .o)) (.s .o .o))))))
theorem zET {D:Dyn}(hD:DG D)(n:Nat):FI 100 (f100 D n):=qR (n:=n) (h:=h100) X_ok hD (sc (JC hD n) (sc (zBi hD n) (sc (zBg hD n) (sc (zAd hD n) (SOk.nil))))) Tryz.func100 (by kernel_rfl) (by kernel_rfl)
def s62 (D:Dyn)(n:Nat):Tb:=⟨X,[]⟩
def zEB (D:Dyn)(n:Nat)(vs:List AV)(H:AH):Rs:=
 hd vs fun a vs=>hd vs fun b vs=>hd vs fun c vs=>hd vs fun d vs=>hd vs fun e vs=>hd vs fun f vs=>
 bV (qN .add f (.int .i64 (.ofNat 1))) fun g=>
 some (.norm [a,b,c,d,e,g],H)
def zA6 (D:Dyn)(n:Nat)(vs:List AV)(H:AH):Rs:=
 hd vs fun a vs=>hd vs fun b vs=>hd vs fun c vs=>hd vs fun d vs=>hd vs fun e vs=>hd vs fun f vs=>
 bV (qN .lss f e) fun g=>
 cnd g (bV (jW 1 d f) fun h=>
 bV (ld1 h H) fun i=>
 bV (kO .lss i a) fun k=>
 jn (wnt k false (bV (fAd 0 b) fun m=>
 bV (ld1 m H) fun o=>
 bV (aun .not o) fun p=>
 some (.norm [p],H)) (some (.norm [qM],H))) fun vs H=>hd vs fun r vs=>
 jn (wnt r true (bV (kO .eql i a) fun t=>
 some (.norm [t],H)) (some (.norm [qM],H))) fun vs H=>hd vs fun u vs=>
 jn (wnt k false (bV (pk3 (some r) (some u) (some (.bool false))) fun v=>
 some (.norm [v],H)) (some (.norm [qM],H))) fun vs H=>hd vs fun w vs=>
 bV (pk3 (some k) (some (.bool true)) (some w)) fun x=>
 jn (cnd x (bV (qN .add c (.int .i64 (.ofNat 1))) fun y=>
 some (.norm [a,b,y,d,e,f],H))
 (some (.norm [a,b,c,d,e,f],H))) (zEB D n))
 (some (.exit 0 [c],H))
def zLS (D:Dyn)(n:Nat)(vs:List AV)(H:AH):Rs:=
 hd vs fun a vs=>
 bV (some a) fun b=>some (.ret b,H)
def f62 (D:Dyn)(n:Nat)(vs:List AV)(H:AH):Option (AV×AH):=
 outR (hd vs fun a vs=>hd vs fun b vs=>nl vs <|
 bA (bxV 111 a) H fun c H=>
 bV (fAd 1 c) fun d=>
 bV (ld1 d H) fun e=>
 bV (lnSl e) fun f=>
 jb 0 (qX n (zA6 D n) [b,c,(.int .i64 (.ofNat 0)),e,f,(.int .i64 (.ofNat 0))] H) (zLS D n))
def h62:Hint:=(.s .o (.s .o (.s (.s .o (.b [5] (.l [1,2,5,9,10,11] (.s .o (.s (.cr .o .o) (.s (.b0 (.s .o (.s .o (.c [1,2,5,9,10,11] .o .o)))) .o)))))) (.s .o .o))))
theorem QJ {D:Dyn}(hD:DG D)(n:Nat):FI 62 (f62 D n):=qR (n:=n) (h:=h62) X_ok hD (SOk.nil) Tryz.func62 (by kernel_rfl) (by kernel_rfl)
def s84 (D:Dyn)(n:Nat):Tb:=⟨X,[(100,f100 D n),(62,f62 D n)]⟩
def YC (D:Dyn)(n:Nat)(vs:List AV)(H:AH):Rs:=
 hd vs fun a vs=>hd vs fun b vs=>hd vs fun c vs=>hd vs fun d vs=>hd vs fun e vs=>hd vs fun f vs=>hd vs fun g vs=>hd vs fun h vs=>
 bV (fAd 3 f) fun i=>
 bV (ld1 i H) fun k=>
 bV (lnSl k) fun m=>
 bV (qN .lss h m) fun o=>
 cnd o (bV (qN .gtr h g) fun p=>
 jn (wnt p true (bV (kO .neq c (.str 0 0)) fun r=>
 some (.norm [r],H)) (some (.norm [qM],H))) fun vs H=>hd vs fun t vs=>
 bV (pk3 (some p) (some t) (some (.bool false))) fun u=>
 jn (wnt u true (bV (fAd 1 f) fun v=>
 bV (ld1 v H) fun w=>
 bV (qN .sub h (.int .i64 (.ofNat 1))) fun x=>
 bV (jW 1 w x) fun y=>
 bV (ld1 y H) fun z=>
 bV (kO .geq z c) fun B=>
 some (.norm [B],H)) (some (.norm [qM],H))) fun vs H=>hd vs fun C vs=>
 bV (pk3 (some u) (some C) (some (.bool false))) fun E=>
 cnd E (some (.exit 0 [],H))
 (bV (fAd 3 f) fun F=>
 bV (ld1 F H) fun G=>
 bV (jW 3 G h) fun I=>
 bV (ldN 3 I H) fun J=>
 bR (D.fn 84 [a,J,b,c,d,e] H) fun K H=>
 bV (aun .not K) fun M=>
 cnd M (bV (some (.bool false)) fun N=>some (.ret N,H))
 (bV (qN .add h (.int .i64 (.ofNat 1))) fun O=>
 some (.norm [a,b,c,d,e,f,g,O],H))))
 (some (.exit 0 [],H))
def zGU (D:Dyn)(n:Nat)(vs:List AV)(H:AH):Rs:=
 bV (some (.bool true)) fun a=>some (.ret a,H)
def zGT (D:Dyn)(n:Nat)(vs:List AV)(H:AH):Rs:=
 hd vs fun a vs=>hd vs fun b vs=>hd vs fun c vs=>hd vs fun d vs=>hd vs fun e vs=>hd vs fun f vs=>hd vs fun g vs=>
 bV (xQ a) fun h=>
 bV (fAd 3 h) fun i=>
 bV (ld1 i H) fun k=>
 bV (qN .neq k (.int .i64 (.ofNat 0))) fun m=>
 jn (wnt m false (bV (ldN 3 f H) fun o=>
 bV (ldN 4 g H) fun p=>
 bR (callV (s84 D n).S D e [o,p] H) fun r H=>
 bV (aun .not r) fun t=>
 some (.norm [t],H)) (some (.norm [qM],H))) fun vs H=>hd vs fun u vs=>
 bV (pk3 (some m) (some (.bool true)) (some u)) fun v=>
 cnd v (bV (some (.bool false)) fun w=>some (.ret w,H))
 (bV (fAd 0 g) fun x=>
 bV (ld1 x H) fun y=>
 cnd y (bV (some (.bool true)) fun z=>some (.ret z,H))
 (bV (ldN 4 g H) fun B=>
 bR (f62 D n [B,b] H) fun C H=>
 jb 0 (qX n (YC D n) [a,b,c,d,e,g,C,C] H) (zGU D n)))
def f84 (D:Dyn)(n:Nat)(vs:List AV)(H:AH):Option (AV×AH):=
 outR (hd vs fun a vs=>hd vs fun b vs=>hd vs fun c vs=>hd vs fun d vs=>hd vs fun e vs=>hd vs fun f vs=>nl vs <|
 bA (bxV 65 b) H fun g H=>
 bV (ldN 3 g H) fun h=>
 bR (callV (s84 D n).S D e [h] H) fun i H=>
 cnd i (bV (some (.bool true)) fun k=>some (.ret k,H))
 (bV (xQ a) fun m=>
 bV (fAd 2 m) fun o=>
 bV (ld1 o H) fun p=>
 bV (qN .sub p (.int .i64 (.ofNat 1))) fun r=>
 bV (xQ a) fun t=>
 bV (fAd 2 t) fun u=>
 bR (stN 1 u r H) fun v H=>
 bV (xQ a) fun w=>
 bV (fAd 2 w) fun x=>
 bV (ld1 x H) fun y=>
 bV (qN .lss y (.int .i64 (.ofNat 0))) fun z=>
 cnd z (bV (xQ a) fun B=>
 bV (fAd 3 B) fun C=>
 bR (stN 1 C (.int .i64 (.ofNat 4)) H) fun E H=>
 bV (some (.bool false)) fun F=>some (.ret F,H))
 (bV (xQ a) fun G=>
 bV (fAd 1 G) fun I=>
 bV (ld1 I H) fun J=>
 bV (ldN 3 g H) fun K=>
 bV (lkM (1::[6,6,10]) (.agg [(.bool false), .nilSlice, .nilSlice, .nilSlice]) true J K H) fun M=>
 bV (qK M 0) fun N=>
 bV (qK M 1) fun O=>
 bA (bxV 111 (.agg [(.bool false), .nilSlice, .nilSlice, .nilSlice])) H fun P H=>
 bR (stN 4 P N H) fun Q H=>
 bV (aun .not O) fun R=>
 jn (cnd R (bV (xQ a) fun T=>
 bV (fAd 0 T) fun U=>
 bV (ld1 U H) fun V=>
 bV (ldN 3 g H) fun W=>
 bR (f100 D n [V,W] H) fun Y H=>
 bV (qK Y 0) fun Z=>
 bV (qK Y 1) fun a0=>
 bR (stN 4 P Z H) fun a1 H=>
 bV (xQ a) fun a2=>
 bV (fAd 3 a2) fun a3=>
 bR (stN 1 a3 a0 H) fun a4 H=>
 some (.norm [a,c,d,e,f,g,P],H))
 (some (.norm [a,c,d,e,f,g,P],H))) (zGT D n))))
def h84:Hint:=(.s .o (.s (.s .o (.cl (.s .o .o) .o)) (.s (.s .o (.s .o (.cl (.s .o (.s .o .o)) .o))) (.s .o (.s (.s .o (.c [0,2,3,4,5,7,13] .o .o)) (.s (.s .o (.cl (.s .o .o) .o)) (.s (.s .o (.cl (.s .o .o) .o)) (.s .o (.s (.s .o (.b [] (.l [0,2,3,4,5,13,15,16] (.s (.s .o (.cr .o .o)) (.s (.b0 (.s (.s .o (.cl .o .o)) (.s .o (.cl (.s .o .o) .o)))) .o))))) (.s .o .o))))))))))
theorem zI8 {D:Dyn}(hD:DG D)(n:Nat):FI 84 (f84 D n):=qR (n:=n) (h:=h84) X_ok hD (sc (zET hD n) (sc (QJ hD n) (SOk.nil))) Tryz.func84 (by kernel_rfl) (by kernel_rfl)
def s82 (D:Dyn)(n:Nat):Tb:=⟨X,[(83,f83 D n),(84,f84 D n)]⟩
def zEq (D:Dyn)(n:Nat)(vs:List AV)(H:AH):Rs:=
 some (.ret (.tuple []),H)
def f82 (D:Dyn)(n:Nat)(vs:List AV)(H:AH):Option (AV×AH):=
 outR (hd vs fun a vs=>hd vs fun b vs=>hd vs fun c vs=>hd vs fun d vs=>hd vs fun e vs=>nl vs <|
 bV (ld1 b H) fun f=>
 bV (xQ f) fun g=>
 bV (fAd 0 g) fun h=>
 bV (ld1 h H) fun i=>
 bR (f83 D n [i] H) fun k H=>
 bA (bxV 65 (.agg [(.int .i64 (.ofNat 0)),(.int .i64 (.ofNat 0)),(.int .u64 (.ofNat 0))])) H fun m H=>
 bR (stN 3 m k H) fun o H=>
 bV (fAd 0 m) fun p=>
 bV (ld1 p H) fun r=>
 bV (qN .neq r (.int .i64 (.ofNat 0))) fun t=>
 jn (wnt t true (bV (ld1 c H) fun u=>
 bV (kO .eql u (.str 0 0)) fun v=>
 some (.norm [v],H)) (some (.norm [qM],H))) fun vs H=>hd vs fun w vs=>
 jn (wnt w false (bV (ld1 d H) fun x=>
 bV (ld1 c H) fun y=>
 bV (kO .lss x y) fun z=>
 some (.norm [z],H)) (some (.norm [qM],H))) fun vs H=>hd vs fun B vs=>
 jn (wnt t true (bV (pk3 (some w) (some (.bool true)) (some B)) fun C=>
 some (.norm [C],H)) (some (.norm [qM],H))) fun vs H=>hd vs fun E vs=>
 bV (pk3 (some t) (some E) (some (.bool false))) fun F=>
 jn (cnd F (bV (ld1 b H) fun G=>
 bV (ldN 3 m H) fun I=>
 bV (ld1 d H) fun J=>
 bV (ld1 c H) fun K=>
 bV (ld1 e H) fun M=>
 bR (f84 D n [G,I,J,K,M,a] H) fun N H=>
 some (.norm [],H))
 (some (.norm [],H))) (zEq D n))
def h82:Hint:=(.s .o (.s .o (.c [] .o .o)))
theorem zLH {D:Dyn}(hD:DG D)(n:Nat):FI 82 (f82 D n):=qR (n:=n) (h:=h82) X_ok hD (sc (zI9 hD n) (sc (zI8 hD n) (SOk.nil))) Tryz.func82 (by kernel_rfl) (by kernel_rfl)
def s61 (D:Dyn)(n:Nat):Tb:=⟨X,[]⟩
def f61 (D:Dyn)(n:Nat)(vs:List AV)(H:AH):Option (AV×AH):=
 outR (hd vs fun a vs=>hd vs fun b vs=>hd vs fun c vs=>hd vs fun d vs=>nl vs <|
 bA (bxV 88 a) H fun e H=>
 bA (bxV 9 b) H fun f H=>
 bA (bxV 9 c) H fun g H=>
 bA (bxV 93 d) H fun h H=>
 bV (some (.func 82 [] [e,g,f,h])) fun i=>some (.ret i,H))
def h61:Hint:=(.s .o (.s .o .o))
theorem zEC {D:Dyn}(hD:DG D)(n:Nat):FI 61 (f61 D n):=qR (n:=n) (h:=h61) X_ok hD (SOk.nil) Tryz.func61 (by kernel_rfl) (by kernel_rfl)
def s60 (D:Dyn)(n:Nat):Tb:=⟨X,[(61,f61 D n),(62,f62 D n)]⟩
def f60 (D:Dyn)(n:Nat)(vs:List AV)(H:AH):Option (AV×AH):=
 outR (hd vs fun a vs=>hd vs fun b vs=>hd vs fun c vs=>hd vs fun d vs=>hd vs fun e vs=>nl vs <|
 bA (bxV 118 a) H fun f H=>
 bV (ld1 b H) fun g=>
 bV (ld1 c H) fun h=>
 bV (ld1 d H) fun i=>
 bV (ld1 e H) fun k=>
 bR (f61 D n [g,h,i,k] H) fun m H=>
 zAZ H (.loop ⟨.ready,none,60,0,[2,3,5],[c,d,f]⟩) fun A H=>bR (rfC (s60 D n).S D m A H) fun _ H=>WD A H fun j H=>zKm j (
 some (.ret (.tuple []),H))
 (fun id=>none) (some (.ret (.tuple []),H)))
def h60:Hint:=(.s .o (.s .o (.b0 (.rf 0 [2,3,5]))))
theorem zLT {D:Dyn}(hD:DG D)(n:Nat):FI 60 (f60 D n):=qR (n:=n) (h:=h60) X_ok hD (sc (zEC hD n) (sc (QJ hD n) (SOk.nil))) Tryz.func60 (by kernel_rfl) (by kernel_rfl)
def zA7 (D:Dyn)(n:Nat)(vs:List AV)(H:AH):Rs:=
 hd vs fun a vs=>hd vs fun b vs=>hd vs fun c vs=>hd vs fun d vs=>
 bV (fAd 1 c) fun e=>
 bV (ld1 e H) fun f=>
 bV (lnSl f) fun g=>
 bV (qN .lss d g) fun h=>
 cnd h (bV (ld1 a H) fun i=>
 bV (kO .neq i (.str 0 0)) fun k=>
 jn (wnt k true (bV (fAd 1 c) fun m=>
 bV (ld1 m H) fun o=>
 bV (jW 1 o d) fun p=>
 bV (ld1 p H) fun r=>
 bV (ld1 a H) fun t=>
 bV (kO .geq r t) fun u=>
 some (.norm [u],H)) (some (.norm [qM],H))) fun vs H=>hd vs fun v vs=>
 bV (pk3 (some k) (some v) (some (.bool false))) fun w=>
 jn (wnt w false (bV (ld1 b H) fun x=>
 bV (fAd 1 c) fun y=>
 bV (ld1 y H) fun z=>
 bV (jW 1 z d) fun B=>
 bV (ld1 B H) fun C=>
 bV (fAd 2 c) fun E=>
 bV (ld1 E H) fun F=>
 bV (jW 1 F d) fun G=>
 bV (ld1 G H) fun I=>
 bV (jT [(0,1),(1,1)] [(.str 0 0),(.str 0 0)] [(0,C),(1,I)]) fun J=>
 bR (callV (s60 D n).S D x [J] H) fun K H=>
 bV (aun .not K) fun M=>
 some (.norm [M],H)) (some (.norm [qM],H))) fun vs H=>hd vs fun N vs=>
 bV (pk3 (some w) (some (.bool true)) (some N)) fun O=>
 cnd O (some (.ret (.tuple []),H))
 (bV (qN .add d (.int .i64 (.ofNat 1))) fun P=>
 some (.norm [a,b,c,P],H)))
 (some (.exit 2 [],H))
def zJM (D:Dyn)(n:Nat)(vs:List AV)(H:AH):Rs:=
 some (.norm [],H)
def zJL (D:Dyn)(n:Nat)(vs:List AV)(H:AH):Rs:=
 some (.norm [],H)
def BN (D:Dyn)(n:Nat)(A:Nat)(l:ALoop)(az:List AV)(H:AH):Option (AV×AH):=
 bif Y8 [2,3,5] l.live then zM4 A (hd l.vals fun a vs=>hd vs fun b vs=>hd vs fun c vs=>hd az fun d az=>hd az fun e az=>nl az <|
 bA (bxV 111 (.agg [(.bool false), .nilSlice, .nilSlice, .nilSlice])) H fun f H=>
 bR (stN 4 f e H) fun g H=>
 dV A H fun H=>
 jb 1 (bV (fAd 0 f) fun h=>
 bV (ld1 h H) fun i=>
 bV (aun .not i) fun k=>
 cnd k (some (.exit 1 [],H))
 (bV (ldN 4 f H) fun m=>
 bV (ld1 a H) fun o=>
 bR (f62 D n [m,o] H) fun p H=>
 jb 2 (qX n (zA7 D n) [b,c,f,p] H) (zJM D n))) (zJL D n))else none
def zKY:Hint:= .o
def zKX:Hint:=(.b [] (.s (.s .o (.cl .o .o)) (.s .o (.b [] (.l [3,5,7,8] (.s (.s .o (.cr .o .o)) (.s (.b0 (.s .o (.cl .o .o))) .o)))))))
theorem zGg (D:Dyn)(n:Nat):BN D n=zKR (s60 D n) D n 60 0 [2,3,5] [] zKY zKX:=by kernel_rfl
theorem zGf {D:Dyn}(hD:DG D)(n:Nat):RS 60 0 (BN D n):=zAM X_ok hD (sc (zEC hD n) (sc (QJ hD n) (SOk.nil))) (by kernel_rfl) (zGg D n)
def s42 (D:Dyn)(n:Nat):Tb:=⟨X,[]⟩
def f42 (D:Dyn)(n:Nat)(vs:List AV)(H:AH):Option (AV×AH):=
 outR (hd vs fun a vs=>hd vs fun b vs=>hd vs fun c vs=>hd vs fun d vs=>nl vs <|
 bA (bxV 88 a) H fun e H=>
 bA (bxV 9 b) H fun f H=>
 bA (bxV 9 c) H fun g H=>
 bA (bxV 93 d) H fun h H=>
 bV (some (.func 60 [] [e,f,g,h])) fun i=>some (.ret i,H))
def h42:Hint:=(.s .o (.s .o .o))
theorem zEE {D:Dyn}(hD:DG D)(n:Nat):FI 42 (f42 D n):=qR (n:=n) (h:=h42) X_ok hD (SOk.nil) Tryz.func42 (by kernel_rfl) (by kernel_rfl)
def s43 (D:Dyn)(n:Nat):Tb:=⟨X,[]⟩
def f43 (D:Dyn)(n:Nat)(vs:List AV)(H:AH):Option (AV×AH):=
 outR (hd vs fun a vs=>nl vs <|
 bA (bxV 65 a) H fun b H=>
 bV (some (.bool false)) fun c=>some (.ret c,H))
def h43:Hint:=(.s .o (.s .o .o))
theorem zM0 {D:Dyn}(hD:DG D)(n:Nat):FI 43 (f43 D n):=qR (n:=n) (h:=h43) X_ok hD (SOk.nil) Tryz.func43 (by kernel_rfl) (by kernel_rfl)
def s18 (D:Dyn)(n:Nat):Tb:=⟨X,[(41,f41 D n),(42,f42 D n)]⟩
def zM3 (D:Dyn)(n:Nat)(vs:List AV)(H:AH):Rs:=
 hd vs fun a vs=>hd vs fun b vs=>hd vs fun c vs=>
 bV (xQ a) fun d=>
 bV (fAd 3 d) fun e=>
 bV (ld1 e H) fun f=>
 bV (qN .neq f (.int .i64 (.ofNat 0))) fun g=>
 cnd g (bV (xQ a) fun h=>
 bV (fAd 3 h) fun i=>
 bV (ld1 i H) fun k=>
 bV (some .nilSlice) fun m=>bV (some (.bool false)) fun o=>bV (some k) fun p=>some (.ret (.tuple [m,o,p]),H))
 (bV (ld1 b H) fun r=>
 bV (ld1 c H) fun t=>
 bV (some r) fun u=>bV (some t) fun v=>bV (some (.int .i64 (.ofNat 0))) fun w=>some (.ret (.tuple [u,v,w]),H))
def f18 (D:Dyn)(n:Nat)(vs:List AV)(H:AH):Option (AV×AH):=
 outR (hd vs fun a vs=>hd vs fun b vs=>hd vs fun c vs=>hd vs fun d vs=>nl vs <|
 bA (bxV 3 d) H fun e H=>
 bV (vH .eql (eqP a .nilPtr)) fun f=>
 cnd f (bV (some .nilSlice) fun g=>bV (some (.bool false)) fun h=>bV (some (.int .i64 (.ofNat 2))) fun i=>some (.ret (.tuple [g,h,i]),H))
 (bV (ld1 e H) fun k=>
 bV (qN .lss k (.int .i64 (.ofNat 0))) fun m=>
 cnd m (bV (some .nilSlice) fun o=>bV (some (.bool false)) fun p=>bV (some (.int .i64 (.ofNat 1))) fun r=>some (.ret (.tuple [o,p,r]),H))
 (bR (f41 D n [a] H) fun t H=>
 bA (bxV 49 .nilSlice) H fun u H=>
 bA (bxV 4 (.bool false)) H fun v H=>
 bR (stN 1 v (.bool false) H) fun w H=>
 bR (f42 D n [t,b,c,(.func 43 [] [])] H) fun x H=>
 jb 0 (zAZ H (.loop ⟨.ready,none,18,0,[7,12,13],[e,u,v]⟩) fun A H=>bR (rfC (s18 D n).S D x A H) fun _ H=>WD A H fun j H=>zKm j (
 some (.norm [t,u,v],H))
 (fun id=>cond (Nat.beq 0 id) (some (.exit id [t,u,v],H)) (none)) (bV (some .nilSlice) fun y=>bV (some (.bool false)) fun z=>bV (some (.int .i64 (.ofNat 0))) fun B=>some (.ret (.tuple [y,z,B]),H))) (zM3 D n))))
def h18:Hint:=(.s .o (.s (.s .o (.cl (.s .o .o) .o)) (.s (.s .o (.cl (.s .o .o) .o)) (.s .o (.s .o (.s .o (.s (.s .o (.b [11,12,13] (.rf 0 [7,12,13]))) (.s (.s .o (.cl (.s .o .o) .o)) (.s .o .o)))))))))
theorem zEK {D:Dyn}(hD:DG D)(n:Nat):FI 18 (f18 D n):=qR (n:=n) (h:=h18) X_ok hD (sc (zEF hD n) (sc (zEE hD n) (SOk.nil))) Tryz.func18 (by kernel_rfl) (by kernel_rfl)
def zBW (D:Dyn)(n:Nat)(A:Nat)(l:ALoop)(az:List AV)(H:AH):Option (AV×AH):=
 bif Y8 [7,12,13] l.live then zM4 A (hd l.vals fun a vs=>hd vs fun b vs=>hd vs fun c vs=>hd az fun d az=>nl az <|
 bA (bxV 85 (.agg [(.str 0 0),(.str 0 0)])) H fun e H=>
 bR (stN 2 e d H) fun f H=>
 dV A H fun H=>
 bV (ld1 b H) fun g=>
 bV (lnSl g) fun h=>
 bV (ld1 a H) fun i=>
 bV (qN .eql h i) fun k=>
 cnd k (bR (stN 1 c (.bool true) H) fun m H=>
 some (.exit 0 [],H))
 (bV (ld1 b H) fun o=>
 bV (ldN 2 e H) fun p=>
 bA (vQ 85 2 1 [(.str 0 0),(.str 0 0)] [(0,p)]) H fun r H=>
 bR (apP 85 2 32 o r H) fun t H=>
 bR (stN 1 b t H) fun u H=>
 some (.norm [],H)))else none
def zL0:Hint:= .o
def zKZ:Hint:=(.b0 (.s (.s .o (.cl (.s .o .o) .o)) .o))
theorem zGi (D:Dyn)(n:Nat):zBW D n=zKR (s18 D n) D n 18 0 [7,12,13] [0] zL0 zKZ:=by kernel_rfl
theorem zGh {D:Dyn}(hD:DG D)(n:Nat):RS 18 0 (zBW D n):=zAM X_ok hD (sc (zEF hD n) (sc (zEE hD n) (SOk.nil))) (by kernel_rfl) (zGi D n)
def s58 (D:Dyn)(n:Nat):Tb:=⟨X,[]⟩
def zH0 (D:Dyn)(n:Nat)(vs:List AV)(H:AH):Rs:=
 hd vs fun a vs=>hd vs fun b vs=>hd vs fun c vs=>
 bV (qN .lss c (.int .i64 (.ofNat 4))) fun d=>
 cnd d (bV (qN .shl b (.int .u64 (.ofNat 8))) fun e=>
 bV (KU a c) fun f=>
 bV (cvI .i64 f) fun g=>
 bV (qN .or e g) fun h=>
 bV (qN .add c (.int .i64 (.ofNat 1))) fun i=>
 some (.norm [a,h,i],H))
 (some (.exit 0 [b],H))
def zLU (D:Dyn)(n:Nat)(vs:List AV)(H:AH):Rs:=
 hd vs fun a vs=>
 bV (some a) fun b=>some (.ret b,H)
def f58 (D:Dyn)(n:Nat)(vs:List AV)(H:AH):Option (AV×AH):=
 outR (hd vs fun a vs=>nl vs <|
 jb 0 (qX n (zH0 D n) [a,(.int .i64 (.ofNat 0)),(.int .i64 (.ofNat 0))] H) (zLU D n))
def h58:Hint:=(.s .o (.s .o (.s (.s .o (.b [3] (.l [0,3,5] (.s .o (.s (.cr .o .o) (.s (.b0 (.s .o .o)) .o)))))) (.s .o .o))))
theorem zIh {D:Dyn}(hD:DG D)(n:Nat):FI 58 (f58 D n):=qR (n:=n) (h:=h58) X_ok hD (SOk.nil) Tryz.func58 (by kernel_rfl) (by kernel_rfl)
def s40 (D:Dyn)(n:Nat):Tb:=⟨X,[(58,f58 D n),(26,f26 D n),(27,f27 D n),(22,f22 D n)]⟩
def f40 (D:Dyn)(n:Nat)(vs:List AV)(H:AH):Option (AV×AH):=
 outR (hd vs fun a vs=>nl vs <|
 bA (bxV 85 a) H fun b H=>
 bA (bxV 71 (.agg [(.str 0 0),(.int .i64 (.ofNat 0)),(.int .i64 (.ofNat 0)),(.str 0 0),(.bool false)])) H fun c H=>
 bV (fAd 0 b) fun d=>
 bV (ld1 d H) fun e=>
 bV (wP e) fun f=>
 bV (qN .neq f (.int .i64 (.ofNat 9))) fun g=>
 cnd g (bV (jT [(0,3),(3,1),(4,1)] [(.str 0 0),(.int .i64 (.ofNat 0)),(.int .i64 (.ofNat 0)),(.str 0 0),(.bool false)] []) fun h=>
 bR (stN 5 c h H) fun i H=>
 bV (ldN 5 c H) fun k=>bV (some (.bool false)) fun m=>some (.ret (.tuple [k,m]),H))
 (bV (fAd 0 b) fun o=>
 bV (ld1 o H) fun p=>
 bV (jT [(0,3),(3,1),(4,1)] [(.str 0 0),(.int .i64 (.ofNat 0)),(.int .i64 (.ofNat 0)),(.str 0 0),(.bool false)] [(1,p)]) fun r=>
 bA (bxV 71 (.agg [(.str 0 0),(.int .i64 (.ofNat 0)),(.int .i64 (.ofNat 0)),(.str 0 0),(.bool false)])) H fun t H=>
 bR (stN 5 t r H) fun u H=>
 bV (fAd 0 b) fun v=>
 bV (ld1 v H) fun w=>
 bV (K6 w (some (.int .i64 (.ofNat 5))) none) fun x=>
 bR (f58 D n [x] H) fun y H=>
 bV (fAd 0 t) fun z=>
 bV (fAd 2 z) fun B=>
 bR (stN 1 B y H) fun C H=>
 bV (fAd 0 t) fun E=>
 bV (fAd 2 E) fun F=>
 bV (ld1 F H) fun G=>
 bV (qN .lss G (.int .i64 (.ofNat 1))) fun I=>
 jn (wnt I false (bV (fAd 0 t) fun J=>
 bV (fAd 2 J) fun K=>
 bV (ld1 K H) fun M=>
 bV (qN .gtr M (.int .i64 (.ofNat 262144))) fun N=>
 some (.norm [N],H)) (some (.norm [qM],H))) fun vs H=>hd vs fun O vs=>
 bV (pk3 (some I) (some (.bool true)) (some O)) fun P=>
 cnd P (bV (jT [(0,3),(3,1),(4,1)] [(.str 0 0),(.int .i64 (.ofNat 0)),(.int .i64 (.ofNat 0)),(.str 0 0),(.bool false)] []) fun Q=>
 bR (stN 5 c Q H) fun R H=>
 bV (ldN 5 c H) fun T=>bV (some (.bool false)) fun U=>some (.ret (.tuple [T,U]),H))
 (bV (fAd 1 b) fun V=>
 bV (ld1 V H) fun W=>
 bV (wP W) fun Y=>
 bV (qN .lss Y (.int .i64 (.ofNat 4))) fun Z=>
 cnd Z (bV (ldN 5 t H) fun a0=>
 bR (stN 5 c a0 H) fun a1 H=>
 bV (ldN 5 c H) fun a2=>bV (some (.bool true)) fun a3=>some (.ret (.tuple [a2,a3]),H))
 (bV (fAd 1 b) fun a4=>
 bV (ld1 a4 H) fun a5=>
 bR (f58 D n [a5] H) fun a6 H=>
 bV (fAd 0 t) fun a7=>
 bV (fAd 1 a7) fun a8=>
 bR (stN 1 a8 a6 H) fun a9 H=>
 bV (fAd 1 b) fun b0=>
 bV (ld1 b0 H) fun b1=>
 bV (K6 b1 (some (.int .i64 (.ofNat 4))) none) fun b2=>
 bV (fAd 0 t) fun b3=>
 bV (fAd 0 b3) fun b4=>
 bR (stN 1 b4 b2 H) fun b5 H=>
 bV (fAd 0 t) fun b6=>
 bV (fAd 1 b6) fun b7=>
 bV (ld1 b7 H) fun b8=>
 bR (f26 D n [b8] H) fun b9 H=>
 jn (wnt b9 true (bV (fAd 0 t) fun c0=>
 bV (fAd 0 c0) fun c1=>
 bV (ld1 c1 H) fun c2=>
 bR (f27 D n [c2] H) fun c3 H=>
 some (.norm [c3],H)) (some (.norm [qM],H))) fun vs H=>hd vs fun c4 vs=>
 bV (pk3 (some b9) (some c4) (some (.bool false))) fun c5=>
 jn (wnt c5 true (bV (fAd 0 t) fun c6=>
 bV (fAd 0 c6) fun c7=>
 bV (ld1 c7 H) fun c8=>
 bV (fAd 0 t) fun c9=>
 bV (fAd 2 c9) fun d0=>
 bV (ld1 d0 H) fun d1=>
 bV (qN .sub d1 (.int .i64 (.ofNat 1))) fun d2=>
 bV (qN .quo d2 (.int .i64 (.ofNat 256))) fun d3=>
 bR (f22 D n [c8] H) fun d4 H=>chk (ld1 d0 H) d1 <|
 bV (qN .eql d4 d3) fun d5=>
 some (.norm [d5],H)) (some (.norm [qM],H))) fun vs H=>hd vs fun d6 vs=>
 bV (pk3 (some c5) (some d6) (some (.bool false))) fun d7=>
 bV (fAd 4 t) fun d8=>
 bR (stN 1 d8 d7 H) fun d9 H=>
 bV (ldN 5 t H) fun e0=>
 bR (stN 5 c e0 H) fun e1 H=>
 bV (ldN 5 c H) fun e2=>bV (some (.bool true)) fun e3=>some (.ret (.tuple [e2,e3]),H)))))
def h40:Hint:=(.s .o (.s (.s .o (.cl (.s .o .o) .o)) (.s .o (.s .o (.s (.s .o (.cl (.s .o .o) .o)) (.s (.s .o (.cl (.s .o .o) .o)) (.s .o (.s .o (.s .o (.s .o .o))))))))))
theorem zEG {D:Dyn}(hD:DG D)(n:Nat):FI 40 (f40 D n):=qR (n:=n) (h:=h40) X_ok hD (sc (zIh hD n) (sc (U1 hD n) (sc (zBm hD n) (sc (QK hD n) (SOk.nil))))) Tryz.func40 (by kernel_rfl) (by kernel_rfl)
def s28 (D:Dyn)(n:Nat):Tb:=⟨X,[(31,f31 D n),(18,f18 D n),(40,f40 D n)]⟩
def zA9 (D:Dyn)(n:Nat)(vs:List AV)(H:AH):Rs:=
 hd vs fun a vs=>hd vs fun b vs=>hd vs fun c vs=>hd vs fun d vs=>
 bV (qN .lss d c) fun e=>
 cnd e (bV (jW 2 b d) fun f=>
 bV (ldN 2 f H) fun g=>
 bA (bxV 85 (.agg [(.str 0 0),(.str 0 0)])) H fun h H=>
 bR (stN 2 h g H) fun i H=>
 bV (ldN 2 h H) fun k=>
 bR (f40 D n [k] H) fun m H=>
 bV (qK m 0) fun o=>
 bV (qK m 1) fun p=>
 bA (bxV 71 (.agg [(.str 0 0),(.int .i64 (.ofNat 0)),(.int .i64 (.ofNat 0)),(.str 0 0),(.bool false)])) H fun r H=>
 bR (stN 5 r o H) fun t H=>
 jn (wnt p true (bV (ldN 5 r H) fun u=>
 bR (callV (s28 D n).S D a [u] H) fun v H=>
 bV (aun .not v) fun w=>
 some (.norm [w],H)) (some (.norm [qM],H))) fun vs H=>hd vs fun x vs=>
 bV (pk3 (some p) (some x) (some (.bool false))) fun y=>
 cnd y (some (.exit 0 [],H))
 (bV (qN .add d (.int .i64 (.ofNat 1))) fun z=>
 some (.norm [a,b,c,z],H)))
 (some (.exit 0 [],H))
def zH1 (D:Dyn)(n:Nat)(vs:List AV)(H:AH):Rs:=
 bV (some (.int .i64 (.ofNat 0))) fun a=>some (.ret a,H)
def f28 (D:Dyn)(n:Nat)(vs:List AV)(H:AH):Option (AV×AH):=
 outR (hd vs fun a vs=>hd vs fun b vs=>hd vs fun c vs=>hd vs fun d vs=>nl vs <|
 bV (qN .mul c (.int .i64 (.ofNat 256))) fun e=>
 bV (qN .add e (.int .i64 (.ofNat 1))) fun f=>
 bR (f31 D n [b,f] H) fun g H=>
 bV (qN .add f (.int .i64 (.ofNat 256))) fun h=>
 bR (f31 D n [b,h] H) fun i H=>
 bR (f18 D n [a,g,i,(.int .i64 (.ofNat 2147483647))] H) fun k H=>
 bV (qK k 0) fun m=>
 bV (qK k 1) fun o=>
 bV (qK k 2) fun p=>
 bV (qN .neq p (.int .i64 (.ofNat 0))) fun r=>
 cnd r (bV (some p) fun t=>some (.ret t,H))
 (bV (lnSl m) fun u=>
 jb 0 (qX n (zA9 D n) [d,m,u,(.int .i64 (.ofNat 0))] H) (zH1 D n)))
def h28:Hint:=(.s .o (.s .o (.s .o (.s (.s .o (.cl (.s .o .o) .o)) (.s (.s .o (.b [] (.l [3,36,37,38] (.s .o (.s (.cr .o .o) (.s (.b0 (.s .o (.s .o (.s .o (.cl .o .o))))) .o)))))) (.s .o .o))))))
theorem zEJ {D:Dyn}(hD:DG D)(n:Nat):FI 28 (f28 D n):=qR (n:=n) (h:=h28) X_ok hD (sc (zBl hD n) (sc (zEK hD n) (sc (zEG hD n) (SOk.nil)))) Tryz.func28 (by kernel_rfl) (by kernel_rfl)
def s70 (D:Dyn)(n:Nat):Tb:=⟨X,[]⟩
def f70 (D:Dyn)(n:Nat)(vs:List AV)(H:AH):Option (AV×AH):=
 outR (hd vs fun a vs=>hd vs fun b vs=>nl vs <|
 bA (bxV 111 b) H fun c H=>
 bA (bxV 65 (.agg [(.int .i64 (.ofNat 0)),(.int .i64 (.ofNat 0)),(.int .u64 (.ofNat 0))])) H fun d H=>
 bV (xQ a) fun e=>
 bV (fAd 1 e) fun f=>
 bV (ld1 f H) fun g=>
 bV (qN .add g (.int .u64 (.ofNat 1))) fun h=>
 bV (xQ a) fun i=>
 bV (fAd 1 i) fun k=>
 bR (stN 1 k h H) fun m H=>
 bV (xQ a) fun o=>
 bV (fAd 2 o) fun p=>
 bV (ld1 p H) fun r=>
 bV (xQ a) fun t=>
 bV (fAd 1 t) fun u=>
 bV (ld1 u H) fun v=>
 bV (ldN 4 c H) fun w=>
 bR (upM [10] r v w H) fun x H=>
 bV (xQ a) fun y=>
 bV (fAd 1 y) fun z=>
 bV (ld1 z H) fun B=>
 bV (jT [(0,1),(1,1),(2,1)] [(.int .i64 (.ofNat 0)),(.int .i64 (.ofNat 0)),(.int .u64 (.ofNat 0))] [(0,(.int .i64 (.ofNat 1))),(2,B)]) fun C=>
 bR (stN 3 d C H) fun E H=>
 bV (ldN 3 d H) fun F=>some (.ret F,H))
def h70:Hint:=(.s .o (.s .o (.s .o (.s .o .o))))
theorem zBj {D:Dyn}(hD:DG D)(n:Nat):FI 70 (f70 D n):=qR (n:=n) (h:=h70) X_ok hD (SOk.nil) Tryz.func70 (by kernel_rfl) (by kernel_rfl)
end Go.Eng.Sh
end
end
section
noncomputable section
namespace Go.Eng.Sh
open Go.Proofs
set_option maxRecDepth 100000
def s69 (D:Dyn)(n:Nat):Tb:=⟨X,[]⟩
def zLN (D:Dyn)(n:Nat)(vs:List AV)(H:AH):Rs:=
 hd vs fun a vs=>hd vs fun b vs=>hd vs fun c vs=>hd vs fun d vs=>hd vs fun e vs=>hd vs fun f vs=>
 bV (qN .add f (.int .i64 (.ofNat 1))) fun g=>
 some (.norm [a,b,c,d,e,g],H)
def zEx (D:Dyn)(n:Nat)(vs:List AV)(H:AH):Rs:=
 hd vs fun a vs=>hd vs fun b vs=>hd vs fun c vs=>hd vs fun d vs=>hd vs fun e vs=>hd vs fun f vs=>
 bV (qN .lss f e) fun g=>
 cnd g (bV (jW 3 d f) fun h=>
 bV (ldN 3 h H) fun i=>
 bA (bxV 65 (.agg [(.int .i64 (.ofNat 0)),(.int .i64 (.ofNat 0)),(.int .u64 (.ofNat 0))])) H fun k H=>
 bR (stN 3 k i H) fun m H=>
 bV (fAd 0 k) fun o=>
 bV (ld1 o H) fun p=>
 bV (qN .eql p (.int .i64 (.ofNat 1))) fun r=>
 jn (cnd r (bV (xQ c) fun t=>
 bV (fAd 5 t) fun u=>
 bV (ld1 u H) fun v=>
 bV (fAd 2 k) fun w=>
 bV (ld1 w H) fun x=>
 bR (dlM [10] v x H) fun y H=>
 some (.norm [a,b,c,d,e,f],H))
 (bV (xQ c) fun z=>
 bV (fAd 7 z) fun B=>
 bV (ld1 B H) fun C=>
 bV (ldN 3 k H) fun E=>
 bA (vQ 65 3 1 [(.int .i64 (.ofNat 0)),(.int .i64 (.ofNat 0)),(.int .u64 (.ofNat 0))] [(0,E)]) H fun F H=>
 bR (apP 65 3 24 C F H) fun G H=>
 bV (xQ c) fun I=>
 bV (fAd 7 I) fun J=>
 bR (stN 1 J G H) fun K H=>
 some (.norm [a,b,c,d,e,f],H))) (zLN D n))
 (some (.exit 0 [a,b,c],H))
def zLO (D:Dyn)(n:Nat)(vs:List AV)(H:AH):Rs:=
 hd vs fun a vs=>hd vs fun b vs=>hd vs fun c vs=>
 tld (aJ [a,b,c] H) H.next fun H=>
 bV (xQ a) fun d=>
 bV (fAd 1 d) fun e=>
 bV (ld1 e H) fun f=>
 bV (xQ c) fun g=>
 bV (fAd 6 g) fun h=>
 bR (stN 1 h f H) fun i H=>
 bV (ldN 3 b H) fun k=>
 bV (xQ c) fun m=>
 bV (fAd 2 m) fun o=>
 bR (stN 3 o k H) fun p H=>
 some (.ret (.tuple []),H)
def f69 (D:Dyn)(n:Nat)(vs:List AV)(H:AH):Option (AV×AH):=
 outR (hd vs fun a vs=>hd vs fun b vs=>nl vs <|
 bA (bxV 65 b) H fun c H=>
 bV (xQ a) fun d=>
 bV (fAd 0 d) fun e=>
 bV (ld1 e H) fun f=>
 bV (xQ a) fun g=>
 bV (fAd 3 g) fun h=>
 bV (ld1 h H) fun i=>
 bV (lnSl i) fun k=>
 jb 0 (qX n (zEx D n) [a,c,f,i,k,(.int .i64 (.ofNat 0))] H) (zLO D n))
def h69:Hint:=(.s .o (.s .o (.s (.s .o (.b [0,3,4] (.l [0,3,4,16,17,18] (.s .o (.s (.cr .o .o) (.s (.b0 (.s .o (.s .o (.c [0,3,4,16,17,18] .o .o)))) .o)))))) (.s (.t [0,3,4] aJ) (.s .o .o)))))
theorem zLP (D:Dyn)(n:Nat):f69 D n=zLw (s69 D n) D n 69 Tryz.f69 h69:=by kernel_rfl
theorem zEy:zAz Tryz.f69 h69=[(zBY.code,[0,3,4],aJ)]:=by kernel_rfl
theorem zGY: ∀x∈zAz Tryz.f69 h69,Y1 PP Tryz.f69.ntmps 69 x.1 x.2.1 x.2.2:=by
 rw[zEy];intro x hx
 simp only[List.mem_cons,List.not_mem_nil,or_false]at hx
 subst hx;exact zG1
theorem zEz {D:Dyn}(hD:DG D)(n:Nat):FI 69 (f69 D n):=zJA X_ok hD (SOk.nil) Tryz.func69 (zD7 (by kernel_rfl) zGY) (zLP D n)
def s92 (D:Dyn)(n:Nat):Tb:=⟨X,[]⟩
def zEp (D:Dyn)(n:Nat)(vs:List AV)(H:AH):Rs:=
 hd vs fun a vs=>hd vs fun b vs=>hd vs fun c vs=>hd vs fun d vs=>hd vs fun e vs=>
 bV (qN .lss e d) fun f=>
 cnd f (bV (jW 1 c e) fun g=>
 bV (ld1 g H) fun h=>
 bV (wP h) fun i=>
 bV (qN .add (.int .i64 (.ofNat 1)) i) fun k=>
 bV (qN .add b k) fun m=>
 bV (qN .add e (.int .i64 (.ofNat 1))) fun o=>
 some (.norm [a,m,c,d,o],H))
 (some (.exit 0 [a,b],H))
def zEo (D:Dyn)(n:Nat)(vs:List AV)(H:AH):Rs:=
 hd vs fun a vs=>hd vs fun b vs=>hd vs fun c vs=>hd vs fun d vs=>
 bV (qN .lss d c) fun e=>
 cnd e (bV (jW 1 b d) fun f=>
 bV (ld1 f H) fun g=>
 bV (wP g) fun h=>
 bV (qN .add (.int .i64 (.ofNat 1)) h) fun i=>
 bV (qN .add a i) fun k=>
 bV (qN .add d (.int .i64 (.ofNat 1))) fun m=>
 some (.norm [k,b,c,m],H))
 (some (.exit 2 [a],H))
def zLF (D:Dyn)(n:Nat)(vs:List AV)(H:AH):Rs:=
 hd vs fun a vs=>
 bV (some a) fun b=>some (.ret b,H)
def zLE (D:Dyn)(n:Nat)(vs:List AV)(H:AH):Rs:=
 hd vs fun a vs=>hd vs fun b vs=>
 bV (fAd 2 a) fun c=>
 bV (ld1 c H) fun d=>
 bV (lnSl d) fun e=>
 jb 2 (qX n (zEo D n) [b,d,e,(.int .i64 (.ofNat 0))] H) (zLF D n)
def f92 (D:Dyn)(n:Nat)(vs:List AV)(H:AH):Option (AV×AH):=
 outR (hd vs fun a vs=>nl vs <|
 bA (bxV 111 a) H fun b H=>
 bV (fAd 3 b) fun c=>
 bV (ld1 c H) fun d=>
 bV (lnSl d) fun e=>
 bV (qN .mul (.int .i64 (.ofNat 16)) e) fun f=>
 bV (qN .add (.int .i64 (.ofNat 2)) f) fun g=>
 bV (fAd 1 b) fun h=>
 bV (ld1 h H) fun i=>
 bV (lnSl i) fun k=>
 jb 0 (qX n (zEp D n) [b,g,i,k,(.int .i64 (.ofNat 0))] H) (zLE D n))
def h92:Hint:=(.s .o (.s .o (.s (.s .o (.b [1,3] (.l [1,3,14,15,16] (.s .o (.s (.cr .o .o) (.s (.b0 (.s .o .o)) .o)))))) (.s (.s .o (.b [3] (.l [3,27,28,29] (.s .o (.s (.cr .o .o) (.s (.b0 (.s .o .o)) .o)))))) (.s .o .o)))))
theorem zBe {D:Dyn}(hD:DG D)(n:Nat):FI 92 (f92 D n):=qR (n:=n) (h:=h92) X_ok hD (SOk.nil) Tryz.func92 (by kernel_rfl) (by kernel_rfl)
def s78 (D:Dyn)(n:Nat):Tb:=⟨X,[]⟩
def f78 (D:Dyn)(n:Nat)(vs:List AV)(H:AH):Option (AV×AH):=
 outR (hd vs fun a vs=>nl vs <|
 bV (wP a) fun b=>
 bV (qN .geq b (.int .i64 (.ofNat 1))) fun c=>
 jn (wnt c true (bV (wP a) fun d=>
 bV (qN .leq d (.int .i64 (.ofNat 40))) fun e=>
 some (.norm [e],H)) (some (.norm [qM],H))) fun vs H=>hd vs fun f vs=>
 bV (pk3 (some c) (some f) (some (.bool false))) fun g=>
 bV (some g) fun h=>some (.ret h,H))
def h78:Hint:=(.s .o (.s .o .o))
theorem zBh {D:Dyn}(hD:DG D)(n:Nat):FI 78 (f78 D n):=qR (n:=n) (h:=h78) X_ok hD (SOk.nil) Tryz.func78 (by kernel_rfl) (by kernel_rfl)
def s77 (D:Dyn)(n:Nat):Tb:=⟨X,[(78,f78 D n)]⟩
def VX (D:Dyn)(n:Nat)(vs:List AV)(H:AH):Rs:=
 hd vs fun a vs=>hd vs fun b vs=>hd vs fun c vs=>hd vs fun d vs=>
 bV (qN .lss d c) fun e=>
 cnd e (bV (jW 1 b d) fun f=>
 bV (ld1 f H) fun g=>
 bR (f78 D n [g] H) fun h H=>
 bV (aun .not h) fun i=>
 jn (wnt i false (bV (qN .gtr d (.int .i64 (.ofNat 0))) fun k=>
 some (.norm [k],H)) (some (.norm [qM],H))) fun vs H=>hd vs fun m vs=>
 jn (wnt m true (bV (fAd 1 a) fun o=>
 bV (ld1 o H) fun p=>
 bV (qN .sub d (.int .i64 (.ofNat 1))) fun r=>
 bV (jW 1 p r) fun t=>
 bV (ld1 t H) fun u=>
 bV (kO .geq u g) fun v=>
 some (.norm [v],H)) (some (.norm [qM],H))) fun vs H=>hd vs fun w vs=>
 jn (wnt i false (bV (pk3 (some m) (some w) (some (.bool false))) fun x=>
 some (.norm [x],H)) (some (.norm [qM],H))) fun vs H=>hd vs fun y vs=>
 bV (pk3 (some i) (some (.bool true)) (some y)) fun z=>
 cnd z (bV (some (.bool false)) fun B=>some (.ret B,H))
 (bV (qN .add d (.int .i64 (.ofNat 1))) fun C=>
 some (.norm [a,b,c,C],H)))
 (some (.exit 0 [a],H))
def zEt (D:Dyn)(n:Nat)(vs:List AV)(H:AH):Rs:=
 hd vs fun a vs=>hd vs fun b vs=>hd vs fun c vs=>
 bV (qN .lss c b) fun d=>
 cnd d (bV (jW 1 a c) fun e=>
 bV (ld1 e H) fun f=>
 bV (wP f) fun g=>
 bV (qN .gtr g (.int .i64 (.ofNat 200))) fun h=>
 cnd h (bV (some (.bool false)) fun i=>some (.ret i,H))
 (bV (qN .add c (.int .i64 (.ofNat 1))) fun k=>
 some (.norm [a,b,k],H)))
 (some (.exit 2 [],H))
def zJG (D:Dyn)(n:Nat)(vs:List AV)(H:AH):Rs:=
 bV (some (.bool true)) fun a=>some (.ret a,H)
def zEs (D:Dyn)(n:Nat)(vs:List AV)(H:AH):Rs:=
 hd vs fun a vs=>hd vs fun b vs=>hd vs fun c vs=>
 bV (qN .lss c b) fun d=>
 cnd d (bV (jW 3 a c) fun e=>
 bV (ldN 3 e H) fun f=>
 bA (bxV 65 (.agg [(.int .i64 (.ofNat 0)),(.int .i64 (.ofNat 0)),(.int .u64 (.ofNat 0))])) H fun g H=>
 bR (stN 3 g f H) fun h H=>
 bV (fAd 0 g) fun i=>
 bV (ld1 i H) fun k=>
 bV (qN .lss k (.int .i64 (.ofNat 1))) fun m=>
 jn (wnt m false (bV (fAd 0 g) fun o=>
 bV (ld1 o H) fun p=>
 bV (qN .geq p (.int .i64 (.ofNat 8192))) fun r=>
 some (.norm [r],H)) (some (.norm [qM],H))) fun vs H=>hd vs fun t vs=>
 bV (pk3 (some m) (some (.bool true)) (some t)) fun u=>
 jn (wnt u false (bV (fAd 1 g) fun v=>
 bV (ld1 v H) fun w=>
 bV (qN .lss w (.int .i64 (.ofNat 0))) fun x=>
 some (.norm [x],H)) (some (.norm [qM],H))) fun vs H=>hd vs fun y vs=>
 bV (pk3 (some u) (some (.bool true)) (some y)) fun z=>
 jn (wnt z false (bV (fAd 1 g) fun B=>
 bV (ld1 B H) fun C=>
 bV (qN .gtr C (.int .i64 (.ofNat 2147483647))) fun E=>
 some (.norm [E],H)) (some (.norm [qM],H))) fun vs H=>hd vs fun F vs=>
 bV (pk3 (some z) (some (.bool true)) (some F)) fun G=>
 cnd G (bV (some (.bool false)) fun I=>some (.ret I,H))
 (bV (qN .add c (.int .i64 (.ofNat 1))) fun J=>
 some (.norm [a,b,J],H)))
 (some (.exit 4 [],H))
def zJF (D:Dyn)(n:Nat)(vs:List AV)(H:AH):Rs:=
 bV (some (.bool true)) fun a=>some (.ret a,H)
def VY (D:Dyn)(n:Nat)(vs:List AV)(H:AH):Rs:=
 hd vs fun a vs=>
 bV (fAd 0 a) fun b=>
 bV (ld1 b H) fun c=>
 cnd c (bV (fAd 2 a) fun d=>
 bV (ld1 d H) fun e=>
 bV (lnSl e) fun f=>
 bV (fAd 1 a) fun g=>
 bV (ld1 g H) fun h=>
 bV (lnSl h) fun i=>
 bV (qN .neq f i) fun k=>
 jn (wnt k false (bV (fAd 3 a) fun m=>
 bV (ld1 m H) fun o=>
 bV (lnSl o) fun p=>
 bV (qN .neq p (.int .i64 (.ofNat 0))) fun r=>
 some (.norm [r],H)) (some (.norm [qM],H))) fun vs H=>hd vs fun t vs=>
 bV (pk3 (some k) (some (.bool true)) (some t)) fun u=>
 cnd u (bV (some (.bool false)) fun v=>some (.ret v,H))
 (bV (fAd 2 a) fun w=>
 bV (ld1 w H) fun x=>
 bV (lnSl x) fun y=>
 jb 2 (qX n (zEt D n) [x,y,(.int .i64 (.ofNat 0))] H) (zJG D n)))
 (bV (fAd 1 a) fun z=>
 bV (ld1 z H) fun B=>
 bV (lnSl B) fun C=>
 bV (qN .eql C (.int .i64 (.ofNat 0))) fun E=>
 jn (wnt E false (bV (fAd 2 a) fun F=>
 bV (ld1 F H) fun G=>
 bV (lnSl G) fun I=>
 bV (qN .neq I (.int .i64 (.ofNat 0))) fun J=>
 some (.norm [J],H)) (some (.norm [qM],H))) fun vs H=>hd vs fun K vs=>
 bV (pk3 (some E) (some (.bool true)) (some K)) fun M=>
 jn (wnt M false (bV (fAd 3 a) fun N=>
 bV (ld1 N H) fun O=>
 bV (lnSl O) fun P=>
 bV (fAd 1 a) fun Q=>
 bV (ld1 Q H) fun R=>
 bV (lnSl R) fun T=>
 bV (qN .add T (.int .i64 (.ofNat 1))) fun U=>
 bV (qN .neq P U) fun V=>
 some (.norm [V],H)) (some (.norm [qM],H))) fun vs H=>hd vs fun W vs=>
 bV (pk3 (some M) (some (.bool true)) (some W)) fun Y=>
 cnd Y (bV (some (.bool false)) fun Z=>some (.ret Z,H))
 (bV (fAd 3 a) fun a0=>
 bV (ld1 a0 H) fun a1=>
 bV (lnSl a1) fun a2=>
 jb 4 (qX n (zEs D n) [a1,a2,(.int .i64 (.ofNat 0))] H) (zJF D n)))
def f77 (D:Dyn)(n:Nat)(vs:List AV)(H:AH):Option (AV×AH):=
 outR (hd vs fun a vs=>nl vs <|
 bA (bxV 111 a) H fun b H=>
 bV (fAd 1 b) fun c=>
 bV (ld1 c H) fun d=>
 bV (lnSl d) fun e=>
 jb 0 (qX n (VX D n) [b,d,e,(.int .i64 (.ofNat 0))] H) (VY D n))
def h77:Hint:=(.s .o (.s (.s .o (.b [1] (.l [1,10,11,12] (.s .o (.s (.cr .o .o) (.s (.b0 (.s .o (.s .o (.cl (.s .o .o) .o)))) .o)))))) (.s (.s .o (.cl (.s (.s .o (.cl (.s .o .o) .o)) (.s (.s .o (.b [] (.l [51,52,53] (.s .o (.s (.cr .o .o) (.s (.b0 (.s .o (.s .o (.cl (.s .o .o) .o)))) .o)))))) (.s .o .o))) .o)) (.s (.s .o (.cl (.s .o .o) .o)) (.s (.s .o (.b [] (.l [82,83,84] (.s .o (.s (.cr .o .o) (.s (.b0 (.s .o (.s .o (.cl (.s .o .o) .o)))) .o)))))) (.s .o .o))))))
theorem VZ {D:Dyn}(hD:DG D)(n:Nat):FI 77 (f77 D n):=qR (n:=n) (h:=h77) X_ok hD (sc (zBh hD n) (SOk.nil)) Tryz.func77 (by kernel_rfl) (by kernel_rfl)
def s127 (D:Dyn)(n:Nat):Tb:=⟨X,[(92,f92 D n)]⟩
def aM (D:Dyn)(n:Nat)(vs:List AV)(H:AH):Rs:=
 hd vs fun a vs=>hd vs fun b vs=>hd vs fun c vs=>hd vs fun d vs=>hd vs fun e vs=>hd vs fun f vs=>hd vs fun g vs=>
 bV (qN .gtr e (.int .i64 (.ofNat 0))) fun h=>
 jn (wnt h true (bV (qN .gtr d b) fun i=>
 some (.norm [i],H)) (some (.norm [qM],H))) fun vs H=>hd vs fun k vs=>
 bV (pk3 (some h) (some k) (some (.bool false))) fun m=>
 cnd m (bV (some e) fun o=>some (.ret o,H))
 (bV (qN .add g (.int .i64 (.ofNat 1))) fun p=>
 some (.norm [a,b,c,d,f,p],H))
def QL (D:Dyn)(n:Nat)(vs:List AV)(H:AH):Rs:=
 hd vs fun a vs=>hd vs fun b vs=>hd vs fun c vs=>hd vs fun d vs=>hd vs fun e vs=>hd vs fun f vs=>
 bV (qN .lss f e) fun g=>
 cnd g (bV (fAd 1 a) fun h=>
 bV (ld1 h H) fun i=>
 bV (jW 1 i f) fun k=>
 bV (ld1 k H) fun m=>
 bV (wP m) fun o=>
 bV (qN .add (.int .i64 (.ofNat 1)) o) fun p=>
 bV (qN .add d p) fun r=>
 bV (fAd 0 a) fun t=>
 bV (ld1 t H) fun u=>
 jn (cnd u (bV (fAd 2 a) fun v=>
 bV (ld1 v H) fun w=>
 bV (jW 1 w f) fun x=>
 bV (ld1 x H) fun y=>
 bV (wP y) fun z=>
 bV (qN .add (.int .i64 (.ofNat 1)) z) fun B=>
 bV (qN .add r B) fun C=>
 some (.norm [a,b,c,C,f,e,f],H))
 (bV (qN .add r (.int .i64 (.ofNat 16))) fun E=>
 some (.norm [a,b,c,E,f,e,f],H))) (aM D n))
 (some (.exit 0 [c],H))
def zEL (D:Dyn)(n:Nat)(vs:List AV)(H:AH):Rs:=
 hd vs fun a vs=>
 bV (some a) fun b=>some (.ret b,H)
def U3 (D:Dyn)(n:Nat)(vs:List AV)(H:AH):Rs:=
 hd vs fun a vs=>hd vs fun b vs=>hd vs fun c vs=>hd vs fun d vs=>
 jb 0 (qX n (QL D n) [a,b,c,d,c,(.int .i64 (.ofNat 0))] H) (zEL D n)
def f127 (D:Dyn)(n:Nat)(vs:List AV)(H:AH):Option (AV×AH):=
 outR (hd vs fun a vs=>nl vs <|
 bA (bxV 111 a) H fun b H=>
 bV (ldN 4 b H) fun c=>
 bR (f92 D n [c] H) fun d H=>
 bV (qN .sub d (.int .i64 (.ofNat 2))) fun e=>
 bV (qN .quo e (.int .i64 (.ofNat 2))) fun f=>
 bV (fAd 1 b) fun g=>
 bV (ld1 g H) fun h=>
 bV (lnSl h) fun i=>
 bV (qN .sub i (.int .i64 (.ofNat 1))) fun k=>
 bV (fAd 0 b) fun m=>
 bV (ld1 m H) fun o=>
 bV (aun .not o) fun p=>
 jn (cnd p (bV (qN .sub k (.int .i64 (.ofNat 1))) fun r=>
 some (.norm [b,f,r,(.int .i64 (.ofNat 16))],H))
 (some (.norm [b,f,k,(.int .i64 (.ofNat 0))],H))) (U3 D n))
def h127:Hint:=(.s .o (.s .o (.s .o (.s .o (.s (.s .o (.c [1,3,4,5] (.s .o .o) .o)) (.s (.s .o (.b [4] (.l [1,3,4,5,20,21] (.s .o (.s (.cr .o .o) (.s (.b0 (.s .o (.s .o (.s (.s .o (.c [1,3,4,5,6,20,21] .o .o)) (.s .o (.cl (.s .o .o) .o)))))) .o)))))) (.s .o .o)))))))
theorem zEM {D:Dyn}(hD:DG D)(n:Nat):FI 127 (f127 D n):=qR (n:=n) (h:=h127) X_ok hD (sc (zBe hD n) (SOk.nil)) Tryz.func127 (by kernel_rfl) (by kernel_rfl)
def s115 (D:Dyn)(n:Nat):Tb:=⟨X,[(77,f77 D n),(127,f127 D n),(79,f79 D n),(118,f118 D n)]⟩
def zEQ (D:Dyn)(n:Nat)(vs:List AV)(H:AH):Rs:=
 hd vs fun a vs=>hd vs fun b vs=>hd vs fun c vs=>hd vs fun d vs=>
 bV (ldN 4 b H) fun e=>
 bV (fAd 1 a) fun f=>
 bV (ld1 f H) fun g=>
 bV (jW 1 g d) fun h=>
 bV (ld1 h H) fun i=>
 bV (ldN 4 c H) fun k=>
 bR (stN 4 b e H) fun m H=>chk (ld1 f H) g <| chk (ld1 h H) i <| chk (ldN 4 c H) k <|
 bR (stN 4 c k H) fun o H=>
 bV (ldN 4 b H) fun p=>bV (some i) fun r=>bV (ldN 4 c H) fun t=>bV (some (.int .i64 (.ofNat 0))) fun u=>some (.ret (.tuple [p,r,t,u]),H)
def f115 (D:Dyn)(n:Nat)(vs:List AV)(H:AH):Option (AV×AH):=
 outR (hd vs fun a vs=>nl vs <|
 bA (bxV 111 a) H fun b H=>
 bA (bxV 111 (.agg [(.bool false), .nilSlice, .nilSlice, .nilSlice])) H fun c H=>
 bA (bxV 111 (.agg [(.bool false), .nilSlice, .nilSlice, .nilSlice])) H fun d H=>
 bV (ldN 4 b H) fun e=>
 bR (f77 D n [e] H) fun f H=>
 bV (aun .not f) fun g=>
 jn (wnt g false (bV (fAd 1 b) fun h=>
 bV (ld1 h H) fun i=>
 bV (lnSl i) fun k=>
 bV (qN .lss k (.int .i64 (.ofNat 2))) fun m=>
 some (.norm [m],H)) (some (.norm [qM],H))) fun vs H=>hd vs fun o vs=>
 bV (pk3 (some g) (some (.bool true)) (some o)) fun p=>
 jn (wnt p false (bV (fAd 0 b) fun r=>
 bV (ld1 r H) fun t=>
 bV (aun .not t) fun u=>
 some (.norm [u],H)) (some (.norm [qM],H))) fun vs H=>hd vs fun v vs=>
 jn (wnt v true (bV (fAd 1 b) fun w=>
 bV (ld1 w H) fun x=>
 bV (lnSl x) fun y=>
 bV (qN .lss y (.int .i64 (.ofNat 3))) fun z=>
 some (.norm [z],H)) (some (.norm [qM],H))) fun vs H=>hd vs fun B vs=>
 jn (wnt p false (bV (pk3 (some v) (some B) (some (.bool false))) fun C=>
 some (.norm [C],H)) (some (.norm [qM],H))) fun vs H=>hd vs fun E vs=>
 bV (pk3 (some p) (some (.bool true)) (some E)) fun F=>
 cnd F (bV (jT [(0,1),(1,1),(2,1),(3,1)] [(.bool false), .nilSlice, .nilSlice, .nilSlice] []) fun G=>
 bV (jT [(0,1),(1,1),(2,1),(3,1)] [(.bool false), .nilSlice, .nilSlice, .nilSlice] []) fun I=>
 bR (stN 4 c G H) fun J H=>
 bR (stN 4 d I H) fun K H=>
 bV (ldN 4 c H) fun M=>bV (some (.str 0 0)) fun N=>bV (ldN 4 d H) fun O=>bV (some (.int .i64 (.ofNat 1))) fun P=>some (.ret (.tuple [M,N,O,P]),H))
 (bV (ldN 4 b H) fun Q=>
 bR (f127 D n [Q] H) fun R H=>
 bV (fAd 0 b) fun T=>
 bV (ld1 T H) fun U=>
 bV (fAd 0 b) fun V=>
 bV (ld1 V H) fun W=>
 bV (fAd 0 c) fun Y=>
 bR (stN 1 Y U H) fun Z H=>chk (ld1 V H) W <|
 bV (fAd 0 d) fun a0=>
 bR (stN 1 a0 W H) fun a1 H=>
 bV (fAd 1 b) fun a2=>
 bV (ld1 a2 H) fun a3=>
 bV (j7 1 a3 none (some R) (some R) H) fun a4=>
 bR (f79 D n [a4] H) fun a5 H=>
 bV (fAd 1 c) fun a6=>
 bR (stN 1 a6 a5 H) fun a7 H=>
 bV (fAd 0 b) fun a8=>
 bV (ld1 a8 H) fun a9=>
 jn (cnd a9 (bV (fAd 1 b) fun b0=>
 bV (ld1 b0 H) fun b1=>
 bV (j7 1 b1 (some R) none none H) fun b2=>
 bR (f79 D n [b2] H) fun b3 H=>
 bV (fAd 1 d) fun b4=>
 bR (stN 1 b4 b3 H) fun b5 H=>
 bV (fAd 2 b) fun b6=>
 bV (ld1 b6 H) fun b7=>
 bV (j7 1 b7 none (some R) (some R) H) fun b8=>
 bV (fAd 2 b) fun b9=>
 bV (ld1 b9 H) fun c0=>
 bV (j7 1 c0 (some R) none none H) fun c1=>
 bR (f79 D n [b8] H) fun c2 H=>chk (ld1 b9 H) c0 <| chk (j7 1 c0 (some R) none none H) c1 <|
 bV (fAd 2 c) fun c3=>
 bR (f79 D n [c1] H) fun c4 H=>
 bR (stN 1 c3 c2 H) fun c5 H=>
 bV (fAd 2 d) fun c6=>
 bR (stN 1 c6 c4 H) fun c7 H=>
 some (.norm [b,c,d,R],H))
 (bV (fAd 1 b) fun c8=>
 bV (ld1 c8 H) fun c9=>
 bV (qN .add R (.int .i64 (.ofNat 1))) fun d0=>
 bV (j7 1 c9 (some d0) none none H) fun d1=>
 bR (f79 D n [d1] H) fun d2 H=>
 bV (fAd 1 d) fun d3=>
 bR (stN 1 d3 d2 H) fun d4 H=>
 bV (fAd 3 b) fun d5=>
 bV (ld1 d5 H) fun d6=>
 bV (qN .add R (.int .i64 (.ofNat 1))) fun d7=>
 bV (qN .add R (.int .i64 (.ofNat 1))) fun d8=>
 bV (j7 3 d6 none (some d7) (some d8) H) fun d9=>
 bV (fAd 3 b) fun e0=>
 bV (ld1 e0 H) fun e1=>
 bV (qN .add R (.int .i64 (.ofNat 1))) fun e2=>
 bV (j7 3 e1 (some e2) none none H) fun e3=>
 bR (f118 D n [d9] H) fun e4 H=>chk (ld1 e0 H) e1 <| chk (j7 3 e1 (some e2) none none H) e3 <|
 bV (fAd 3 c) fun e5=>
 bR (f118 D n [e3] H) fun e6 H=>
 bR (stN 1 e5 e4 H) fun e7 H=>
 bV (fAd 3 d) fun e8=>
 bR (stN 1 e8 e6 H) fun e9 H=>
 some (.norm [b,c,d,R],H))) (zEQ D n)))
def h115:Hint:=(.s .o (.s (.s .o (.cl (.s .o .o) .o)) (.s .o (.s .o (.s .o (.s (.s .o (.c [1,2,4,6] (.s .o .o) (.s .o .o))) (.s .o .o)))))))
theorem zER {D:Dyn}(hD:DG D)(n:Nat):FI 115 (f115 D n):=qR (n:=n) (h:=h115) X_ok hD (sc (VZ hD n) (sc (zEM hD n) (sc (zBg hD n) (sc (zAd hD n) (SOk.nil))))) Tryz.func115 (by kernel_rfl) (by kernel_rfl)
def s94 (D:Dyn)(n:Nat):Tb:=⟨X,[(92,f92 D n),(115,f115 D n)]⟩
def zGR (D:Dyn)(n:Nat)(vs:List AV)(H:AH):Rs:=
 hd vs fun a vs=>hd vs fun b vs=>hd vs fun c vs=>
 bV (ldN 4 a H) fun d=>
 bR (f92 D n [d] H) fun e H=>
 bV (qN .gtr e (.int .i64 (.ofNat 500))) fun f=>
 cnd f (bV (ldN 4 a H) fun g=>
 bR (f115 D n [g] H) fun h H=>
 bV (qK h 0) fun i=>
 bV (qK h 1) fun k=>
 bV (qK h 2) fun m=>
 bV (qK h 3) fun o=>
 bA (bxV 111 (.agg [(.bool false), .nilSlice, .nilSlice, .nilSlice])) H fun p H=>
 bA (bxV 111 (.agg [(.bool false), .nilSlice, .nilSlice, .nilSlice])) H fun r H=>
 bR (stN 4 p i H) fun t H=>
 bR (stN 4 r m H) fun u H=>
 bV (qN .neq o (.int .i64 (.ofNat 0))) fun v=>
 cnd v (bV (some .nilSlice) fun w=>bV (some .nilSlice) fun x=>bV (some (.int .i64 (.ofNat 4))) fun y=>some (.ret (.tuple [w,x,y]),H))
 (bV (ldN 4 p H) fun z=>
 bA (vQ 111 4 1 [(.bool false), .nilSlice, .nilSlice, .nilSlice] [(0,z)]) H fun B H=>
 bR (apP 111 4 80 b B H) fun C H=>
 bA (vQ 9 1 1 [(.str 0 0)] [(0,k)]) H fun E H=>
 bR (apP 9 1 16 c E H) fun F H=>
 bV (ldN 4 r H) fun G=>
 bR (stN 4 a G H) fun I H=>
 some (.norm [a,C,F],H)))
 (some (.exit 0 [a,b,c],H))
def zLD (D:Dyn)(n:Nat)(vs:List AV)(H:AH):Rs:=
 hd vs fun a vs=>hd vs fun b vs=>hd vs fun c vs=>
 bV (ldN 4 a H) fun d=>
 bA (vQ 111 4 1 [(.bool false), .nilSlice, .nilSlice, .nilSlice] [(0,d)]) H fun e H=>
 bR (apP 111 4 80 b e H) fun f H=>
 bV (some f) fun g=>bV (some c) fun h=>bV (some (.int .i64 (.ofNat 0))) fun i=>some (.ret (.tuple [g,h,i]),H)
def f94 (D:Dyn)(n:Nat)(vs:List AV)(H:AH):Option (AV×AH):=
 outR (hd vs fun a vs=>nl vs <|
 bA (bxV 111 a) H fun b H=>
 jb 0 (qX n (zGR D n) [b, .nilSlice, .nilSlice] H) (zLD D n))
def h94:Hint:=(.s .o (.s .o (.s .o (.s (.b [1,5,6] (.l [1,5,6] (.s (.s .o (.cr .o .o)) (.b0 (.s .o (.s (.s .o (.cl (.s .o .o) .o)) (.s .o (.s .o .o)))))))) (.s .o .o)))))
theorem zEn {D:Dyn}(hD:DG D)(n:Nat):FI 94 (f94 D n):=qR (n:=n) (h:=h94) X_ok hD (sc (zBe hD n) (sc (zER hD n) (SOk.nil))) Tryz.func94 (by kernel_rfl) (by kernel_rfl)
def s96 (D:Dyn)(n:Nat):Tb:=⟨X,[(70,f70 D n)]⟩
def zEj (D:Dyn)(n:Nat)(vs:List AV)(H:AH):Rs:=
 hd vs fun a vs=>hd vs fun b vs=>hd vs fun c vs=>hd vs fun d vs=>hd vs fun e vs=>
 bV (qN .lss e d) fun f=>
 cnd f (bV (jW 4 c e) fun g=>
 bV (ldN 4 g H) fun h=>
 bA (bxV 111 (.agg [(.bool false), .nilSlice, .nilSlice, .nilSlice])) H fun i H=>
 bR (stN 4 i h H) fun k H=>
 bV (ldN 4 i H) fun m=>
 bR (f70 D n [a,m] H) fun o H=>
 bA (vQ 65 3 1 [(.int .i64 (.ofNat 0)),(.int .i64 (.ofNat 0)),(.int .u64 (.ofNat 0))] [(0,o)]) H fun p H=>
 bR (apP 65 3 24 b p H) fun r H=>
 bV (qN .add e (.int .i64 (.ofNat 1))) fun t=>
 some (.norm [a,r,c,d,t],H))
 (some (.exit 0 [b],H))
def zLz (D:Dyn)(n:Nat)(vs:List AV)(H:AH):Rs:=
 hd vs fun a vs=>
 bV (some a) fun b=>some (.ret b,H)
def f96 (D:Dyn)(n:Nat)(vs:List AV)(H:AH):Option (AV×AH):=
 outR (hd vs fun a vs=>hd vs fun b vs=>nl vs <|
 bV (lnSl b) fun c=>
 jb 0 (qX n (zEj D n) [a, .nilSlice,b,c,(.int .i64 (.ofNat 0))] H) (zLz D n))
def h96:Hint:=(.s .o (.s .o (.s (.s .o (.b [5] (.l [0,5,8,9,10] (.s .o (.s (.cr .o .o) (.s (.b0 (.s .o .o)) .o)))))) (.s .o .o))))
theorem zEk {D:Dyn}(hD:DG D)(n:Nat):FI 96 (f96 D n):=qR (n:=n) (h:=h96) X_ok hD (sc (zBj hD n) (SOk.nil)) Tryz.func96 (by kernel_rfl) (by kernel_rfl)
def s76 (D:Dyn)(n:Nat):Tb:=⟨X,[(69,f69 D n),(94,f94 D n),(96,f96 D n),(70,f70 D n)]⟩
def zJI (D:Dyn)(n:Nat)(vs:List AV)(H:AH):Rs:=
 bV (some (.int .i64 (.ofNat 0))) fun a=>some (.ret a,H)
def zJH (D:Dyn)(n:Nat)(vs:List AV)(H:AH):Rs:=
 bV (some (.int .i64 (.ofNat 0))) fun a=>some (.ret a,H)
def f76 (D:Dyn)(n:Nat)(vs:List AV)(H:AH):Option (AV×AH):=
 outR (hd vs fun a vs=>hd vs fun b vs=>nl vs <|
 bA (bxV 111 b) H fun c H=>
 bV (fAd 1 c) fun d=>
 bV (ld1 d H) fun e=>
 bV (lnSl e) fun f=>
 bV (qN .eql f (.int .i64 (.ofNat 0))) fun g=>
 cnd g (bV (fAd 0 c) fun h=>
 bV (ld1 h H) fun i=>
 jn (cnd i (bV (jT [(0,1),(1,1),(2,1)] [(.int .i64 (.ofNat 0)),(.int .i64 (.ofNat 0)),(.int .u64 (.ofNat 0))] []) fun k=>
 bR (f69 D n [a,k] H) fun m H=>
 some (.norm [],H))
 (bV (fAd 3 c) fun o=>
 bV (ld1 o H) fun p=>
 bV (jW 3 p (.int .i64 (.ofNat 0))) fun r=>
 bV (ldN 3 r H) fun t=>
 bR (f69 D n [a,t] H) fun u H=>
 some (.norm [],H))) (zJI D n))
 (bV (ldN 4 c H) fun v=>
 bR (f94 D n [v] H) fun w H=>
 bV (qK w 0) fun x=>
 bV (qK w 1) fun y=>
 bV (qK w 2) fun z=>
 bV (qN .neq z (.int .i64 (.ofNat 0))) fun B=>
 cnd B (bV (some z) fun C=>some (.ret C,H))
 (bR (f96 D n [a,x] H) fun E H=>
 bV (lnSl E) fun F=>
 bV (qN .eql F (.int .i64 (.ofNat 1))) fun G=>
 jn (cnd G (bV (jW 3 E (.int .i64 (.ofNat 0))) fun I=>
 bV (ldN 3 I H) fun J=>
 bR (f69 D n [a,J] H) fun K H=>
 some (.norm [],H))
 (bV (jT [(0,1),(1,1),(2,1),(3,1)] [(.bool false), .nilSlice, .nilSlice, .nilSlice] [(1,y),(3,E)]) fun M=>
 bR (f70 D n [a,M] H) fun N H=>
 bR (f69 D n [a,N] H) fun O H=>
 some (.norm [],H))) (zJH D n))))
def h76:Hint:=(.s .o (.s (.s .o (.cl (.s (.s .o (.c [] .o .o)) (.s .o .o)) .o)) (.s .o (.s (.s .o (.cl (.s .o .o) .o)) (.s .o (.s (.s .o (.c [] .o .o)) (.s .o .o)))))))
theorem zIa {D:Dyn}(hD:DG D)(n:Nat):FI 76 (f76 D n):=qR (n:=n) (h:=h76) X_ok hD (sc (zEz hD n) (sc (zEn hD n) (sc (zEk hD n) (sc (zBj hD n) (SOk.nil))))) Tryz.func76 (by kernel_rfl) (by kernel_rfl)
def s72 (D:Dyn)(n:Nat):Tb:=⟨X,[]⟩
def f72 (D:Dyn)(n:Nat)(vs:List AV)(H:AH):Option (AV×AH):=
 outR (hd vs fun a vs=>nl vs <|
 bV (xQ a) fun b=>
 bV (fAd 5 b) fun c=>
 bV (ld1 c H) fun d=>
 bV (VG d H) fun e=>
 bV (qN .add (.int .i64 (.ofNat 8192)) e) fun f=>
 bV (some f) fun g=>some (.ret g,H))
def h72:Hint:=(.s .o (.s .o .o))
theorem zIc {D:Dyn}(hD:DG D)(n:Nat):FI 72 (f72 D n):=qR (n:=n) (h:=h72) X_ok hD (SOk.nil) Tryz.func72 (by kernel_rfl) (by kernel_rfl)
def s75 (D:Dyn)(n:Nat):Tb:=⟨X,[]⟩
def f75 (D:Dyn)(n:Nat)(vs:List AV)(H:AH):Option (AV×AH):=
 outR (hd vs fun a vs=>hd vs fun b vs=>nl vs <|
 bA (bxV 65 b) H fun c H=>
 bV (xQ a) fun d=>
 bV (fAd 3 d) fun e=>
 bV (ld1 e H) fun f=>
 bV (ldN 3 c H) fun g=>
 bA (vQ 65 3 1 [(.int .i64 (.ofNat 0)),(.int .i64 (.ofNat 0)),(.int .u64 (.ofNat 0))] [(0,g)]) H fun h H=>
 bR (apP 65 3 24 f h H) fun i H=>
 bV (xQ a) fun k=>
 bV (fAd 3 k) fun m=>
 bR (stN 1 m i H) fun o H=>
 some (.ret (.tuple []),H))
def h75:Hint:=(.s .o .o)
theorem zEu {D:Dyn}(hD:DG D)(n:Nat):FI 75 (f75 D n):=qR (n:=n) (h:=h75) X_ok hD (SOk.nil) Tryz.func75 (by kernel_rfl) (by kernel_rfl)
def s114 (D:Dyn)(n:Nat):Tb:=⟨X,[(78,f78 D n)]⟩
def f114 (D:Dyn)(n:Nat)(vs:List AV)(H:AH):Option (AV×AH):=
 outR (hd vs fun a vs=>hd vs fun b vs=>hd vs fun c vs=>nl vs <|
 bA (bxV 111 a) H fun d H=>
 bA (bxV 111 c) H fun e H=>
 bR (f78 D n [b] H) fun f H=>
 bV (aun .not f) fun g=>
 jn (wnt g false (bV (fAd 0 d) fun h=>
 bV (ld1 h H) fun i=>
 bV (fAd 0 e) fun k=>
 bV (ld1 k H) fun m=>
 bV (WQ .neq i m) fun o=>
 some (.norm [o],H)) (some (.norm [qM],H))) fun vs H=>hd vs fun p vs=>
 bV (pk3 (some g) (some (.bool true)) (some p)) fun r=>
 cnd r (bV (some (.bool false)) fun t=>some (.ret t,H))
 (bV (fAd 1 d) fun u=>
 bV (ld1 u H) fun v=>
 bV (lnSl v) fun w=>
 bV (qN .gtr w (.int .i64 (.ofNat 0))) fun x=>
 jn (wnt x true (bV (fAd 1 d) fun y=>
 bV (ld1 y H) fun z=>
 bV (qN .sub w (.int .i64 (.ofNat 1))) fun B=>
 bV (jW 1 z B) fun C=>
 bV (ld1 C H) fun E=>
 bV (kO .geq E b) fun F=>
 some (.norm [F],H)) (some (.norm [qM],H))) fun vs H=>hd vs fun G vs=>
 bV (pk3 (some x) (some G) (some (.bool false))) fun I=>
 cnd I (bV (some (.bool false)) fun J=>some (.ret J,H))
 (bV (fAd 1 e) fun K=>
 bV (ld1 K H) fun M=>
 bV (lnSl M) fun N=>
 bV (qN .eql N (.int .i64 (.ofNat 0))) fun O=>
 cnd O (bV (some (.bool true)) fun P=>some (.ret P,H))
 (bV (fAd 1 e) fun Q=>
 bV (ld1 Q H) fun R=>
 bV (jW 1 R (.int .i64 (.ofNat 0))) fun T=>
 bV (ld1 T H) fun U=>
 bV (kO .lss b U) fun V=>
 jn (wnt V false (bV (fAd 0 d) fun W=>
 bV (ld1 W H) fun Y=>
 some (.norm [Y],H)) (some (.norm [qM],H))) fun vs H=>hd vs fun Z vs=>
 jn (wnt Z true (bV (fAd 1 e) fun a0=>
 bV (ld1 a0 H) fun a1=>
 bV (jW 1 a1 (.int .i64 (.ofNat 0))) fun a2=>
 bV (ld1 a2 H) fun a3=>
 bV (kO .eql b a3) fun a4=>
 some (.norm [a4],H)) (some (.norm [qM],H))) fun vs H=>hd vs fun a5 vs=>
 jn (wnt V false (bV (pk3 (some Z) (some a5) (some (.bool false))) fun a6=>
 some (.norm [a6],H)) (some (.norm [qM],H))) fun vs H=>hd vs fun a7 vs=>
 bV (pk3 (some V) (some (.bool true)) (some a7)) fun a8=>
 bV (some a8) fun a9=>some (.ret a9,H)))))
def h114:Hint:=(.s .o (.s (.s .o (.cl (.s .o .o) .o)) (.s (.s .o (.s .o (.cl (.s .o .o) .o))) (.s (.s .o (.cl (.s .o .o) .o)) (.s .o .o)))))
theorem zES {D:Dyn}(hD:DG D)(n:Nat):FI 114 (f114 D n):=qR (n:=n) (h:=h114) X_ok hD (sc (zBh hD n) (SOk.nil)) Tryz.func114 (by kernel_rfl) (by kernel_rfl)
def s99 (D:Dyn)(n:Nat):Tb:=⟨X,[]⟩
def zJE (D:Dyn)(n:Nat)(vs:List AV)(H:AH):Rs:=
 hd vs fun a vs=>
 bV (some a) fun b=>some (.ret b,H)
def zJD (D:Dyn)(n:Nat)(vs:List AV)(H:AH):Rs:=
 hd vs fun a vs=>hd vs fun b vs=>
 bV (zCs X 56 a) fun c=>
 bV (lnSl a) fun d=>
 bV (qN .sub c d) fun e=>
 bV (qN .sub b e) fun f=>
 bV (qN .gtr f (.int .i64 (.ofNat 0))) fun g=>
 jn (cnd g (bV (zCs X 56 a) fun h=>
 bV (j7 1 a none (some h) none H) fun i=>
 bR (apZ 9 1 16 [(.str 0 0)] i f H) fun k H=>
 bV (lnSl a) fun m=>
 bV (j7 1 k none (some m) none H) fun o=>
 some (.norm [o],H))
 (some (.norm [a],H))) (zJE D n)
def f99 (D:Dyn)(n:Nat)(vs:List AV)(H:AH):Option (AV×AH):=
 outR (hd vs fun a vs=>hd vs fun b vs=>nl vs <|
 bV (qN .lss b (.int .i64 (.ofNat 0))) fun c=>
 jn (cnd c (none)
 (some (.norm [a,b],H))) (zJD D n))
def h99:Hint:=(.s .o (.s (.s .o (.c [0,1] .o .o)) (.s (.s .o (.s .o (.c [0] .o .o))) (.s .o .o))))
theorem zI6 {D:Dyn}(hD:DG D)(n:Nat):FI 99 (f99 D n):=qR (n:=n) (h:=h99) X_ok hD (SOk.nil) Tryz.func99 (by kernel_rfl) (by kernel_rfl)
def s81 (D:Dyn)(n:Nat):Tb:=⟨X,[(99,f99 D n)]⟩
def zLI (D:Dyn)(n:Nat)(vs:List AV)(H:AH):Rs:=
 hd vs fun a vs=>hd vs fun b vs=>hd vs fun c vs=>hd vs fun d vs=>hd vs fun e vs=>
 bV (qN .add e (.int .i64 (.ofNat 1))) fun f=>
 some (.norm [a,b,c,d,f],H)
def zGV (D:Dyn)(n:Nat)(vs:List AV)(H:AH):Rs:=
 hd vs fun a vs=>hd vs fun b vs=>hd vs fun c vs=>hd vs fun d vs=>hd vs fun e vs=>
 bV (qN .lss e d) fun f=>
 cnd f (bV (jW 1 c e) fun g=>
 bV (ld1 g H) fun h=>
 bV (lnSl h) fun i=>
 bV (qN .add b i) fun k=>
 bV (qN .lss k (.int .i64 (.ofNat 0))) fun m=>
 jn (cnd m (none)
 (some (.norm [a,k,c,d,e],H))) (zLI D n))
 (some (.exit 0 [a,b],H))
def zEr (D:Dyn)(n:Nat)(vs:List AV)(H:AH):Rs:=
 hd vs fun a vs=>hd vs fun b vs=>hd vs fun c vs=>hd vs fun d vs=>
 bV (qN .lss d c) fun e=>
 cnd e (bV (jW 1 b d) fun f=>
 bV (ld1 f H) fun g=>
 bR (apP 9 1 16 a g H) fun h H=>
 bV (qN .add d (.int .i64 (.ofNat 1))) fun i=>
 some (.norm [h,b,c,i],H))
 (some (.exit 2 [a],H))
def zLK (D:Dyn)(n:Nat)(vs:List AV)(H:AH):Rs:=
 hd vs fun a vs=>
 bV (some a) fun b=>some (.ret b,H)
def zLJ (D:Dyn)(n:Nat)(vs:List AV)(H:AH):Rs:=
 hd vs fun a vs=>hd vs fun b vs=>
 bR (f99 D n [.nilSlice,b] H) fun c H=>
 bV (lnSl a) fun d=>
 jb 2 (qX n (zEr D n) [c,a,d,(.int .i64 (.ofNat 0))] H) (zLK D n)
def f81 (D:Dyn)(n:Nat)(vs:List AV)(H:AH):Option (AV×AH):=
 outR (hd vs fun a vs=>nl vs <|
 bV (lnSl a) fun b=>
 jb 0 (qX n (zGV D n) [a,(.int .i64 (.ofNat 0)),a,b,(.int .i64 (.ofNat 0))] H) (zLJ D n))
def h81:Hint:=(.s .o (.s .o (.s (.s .o (.b [0,3] (.l [0,3,9,10,11] (.s .o (.s (.cr .o .o) (.s (.b0 (.s .o (.s .o (.s .o (.c [0,3,9,10,11] .o .o))))) .o)))))) (.s .o (.s (.s .o (.b [6] (.l [6,25,26,27] (.s .o (.s (.cr .o .o) (.s (.b0 (.s .o .o)) .o)))))) (.s .o .o))))))
theorem zBf {D:Dyn}(hD:DG D)(n:Nat):FI 81 (f81 D n):=qR (n:=n) (h:=h81) X_ok hD (sc (zI6 hD n) (SOk.nil)) Tryz.func81 (by kernel_rfl) (by kernel_rfl)
def s116 (D:Dyn)(n:Nat):Tb:=⟨X,[]⟩
def zEO (D:Dyn)(n:Nat)(vs:List AV)(H:AH):Rs:=
 hd vs fun a vs=>
 bV (some a) fun b=>some (.ret b,H)
def zEN (D:Dyn)(n:Nat)(vs:List AV)(H:AH):Rs:=
 hd vs fun a vs=>hd vs fun b vs=>
 bV (zCs X 105 a) fun c=>
 bV (lnSl a) fun d=>
 bV (qN .sub c d) fun e=>
 bV (qN .sub b e) fun f=>
 bV (qN .gtr f (.int .i64 (.ofNat 0))) fun g=>
 jn (cnd g (bV (zCs X 105 a) fun h=>
 bV (j7 3 a none (some h) none H) fun i=>
 bR (apZ 65 3 24 [(.int .i64 (.ofNat 0)),(.int .i64 (.ofNat 0)),(.int .u64 (.ofNat 0))] i f H) fun k H=>
 bV (lnSl a) fun m=>
 bV (j7 3 k none (some m) none H) fun o=>
 some (.norm [o],H))
 (some (.norm [a],H))) (zEO D n)
def f116 (D:Dyn)(n:Nat)(vs:List AV)(H:AH):Option (AV×AH):=
 outR (hd vs fun a vs=>hd vs fun b vs=>nl vs <|
 bV (qN .lss b (.int .i64 (.ofNat 0))) fun c=>
 jn (cnd c (none)
 (some (.norm [a,b],H))) (zEN D n))
def h116:Hint:=(.s .o (.s (.s .o (.c [0,1] .o .o)) (.s (.s .o (.s .o (.c [0] .o .o))) (.s .o .o))))
theorem zEP {D:Dyn}(hD:DG D)(n:Nat):FI 116 (f116 D n):=qR (n:=n) (h:=h116) X_ok hD (SOk.nil) Tryz.func116 (by kernel_rfl) (by kernel_rfl)
def s95 (D:Dyn)(n:Nat):Tb:=⟨X,[(116,f116 D n)]⟩
def zLA (D:Dyn)(n:Nat)(vs:List AV)(H:AH):Rs:=
 hd vs fun a vs=>hd vs fun b vs=>hd vs fun c vs=>hd vs fun d vs=>hd vs fun e vs=>
 bV (qN .add e (.int .i64 (.ofNat 1))) fun f=>
 some (.norm [a,b,c,d,f],H)
def zGQ (D:Dyn)(n:Nat)(vs:List AV)(H:AH):Rs:=
 hd vs fun a vs=>hd vs fun b vs=>hd vs fun c vs=>hd vs fun d vs=>hd vs fun e vs=>
 bV (qN .lss e d) fun f=>
 cnd f (bV (jW 1 c e) fun g=>
 bV (ld1 g H) fun h=>
 bV (lnSl h) fun i=>
 bV (qN .add b i) fun k=>
 bV (qN .lss k (.int .i64 (.ofNat 0))) fun m=>
 jn (cnd m (none)
 (some (.norm [a,k,c,d,e],H))) (zLA D n))
 (some (.exit 0 [a,b],H))
def zEl (D:Dyn)(n:Nat)(vs:List AV)(H:AH):Rs:=
 hd vs fun a vs=>hd vs fun b vs=>hd vs fun c vs=>hd vs fun d vs=>
 bV (qN .lss d c) fun e=>
 cnd e (bV (jW 1 b d) fun f=>
 bV (ld1 f H) fun g=>
 bR (apP 65 3 24 a g H) fun h H=>
 bV (qN .add d (.int .i64 (.ofNat 1))) fun i=>
 some (.norm [h,b,c,i],H))
 (some (.exit 2 [a],H))
def zLC (D:Dyn)(n:Nat)(vs:List AV)(H:AH):Rs:=
 hd vs fun a vs=>
 bV (some a) fun b=>some (.ret b,H)
def zLB (D:Dyn)(n:Nat)(vs:List AV)(H:AH):Rs:=
 hd vs fun a vs=>hd vs fun b vs=>
 bR (f116 D n [.nilSlice,b] H) fun c H=>
 bV (lnSl a) fun d=>
 jb 2 (qX n (zEl D n) [c,a,d,(.int .i64 (.ofNat 0))] H) (zLC D n)
def f95 (D:Dyn)(n:Nat)(vs:List AV)(H:AH):Option (AV×AH):=
 outR (hd vs fun a vs=>nl vs <|
 bV (lnSl a) fun b=>
 jb 0 (qX n (zGQ D n) [a,(.int .i64 (.ofNat 0)),a,b,(.int .i64 (.ofNat 0))] H) (zLB D n))
def h95:Hint:=(.s .o (.s .o (.s (.s .o (.b [0,3] (.l [0,3,9,10,11] (.s .o (.s (.cr .o .o) (.s (.b0 (.s .o (.s .o (.s .o (.c [0,3,9,10,11] .o .o))))) .o)))))) (.s .o (.s (.s .o (.b [6] (.l [6,25,26,27] (.s .o (.s (.cr .o .o) (.s (.b0 (.s .o .o)) .o)))))) (.s .o .o))))))
theorem zEm {D:Dyn}(hD:DG D)(n:Nat):FI 95 (f95 D n):=qR (n:=n) (h:=h95) X_ok hD (sc (zEP hD n) (SOk.nil)) Tryz.func95 (by kernel_rfl) (by kernel_rfl)
def s93 (D:Dyn)(n:Nat):Tb:=⟨X,[(77,f77 D n),(114,f114 D n),(81,f81 D n),(95,f95 D n)]⟩
def f93 (D:Dyn)(n:Nat)(vs:List AV)(H:AH):Option (AV×AH):=
 outR (hd vs fun a vs=>hd vs fun b vs=>hd vs fun c vs=>nl vs <|
 bA (bxV 111 a) H fun d H=>
 bA (bxV 111 c) H fun e H=>
 bA (bxV 111 (.agg [(.bool false), .nilSlice, .nilSlice, .nilSlice])) H fun f H=>
 bV (ldN 4 d H) fun g=>
 bR (f77 D n [g] H) fun h H=>
 bV (aun .not h) fun i=>
 jn (wnt i false (bV (ldN 4 e H) fun k=>
 bR (f77 D n [k] H) fun m H=>
 bV (aun .not m) fun o=>
 some (.norm [o],H)) (some (.norm [qM],H))) fun vs H=>hd vs fun p vs=>
 bV (pk3 (some i) (some (.bool true)) (some p)) fun r=>
 jn (wnt r false (bV (ldN 4 d H) fun t=>
 bV (ldN 4 e H) fun u=>
 bR (f114 D n [t,b,u] H) fun v H=>
 bV (aun .not v) fun w=>
 some (.norm [w],H)) (some (.norm [qM],H))) fun vs H=>hd vs fun x vs=>
 bV (pk3 (some r) (some (.bool true)) (some x)) fun y=>
 cnd y (bV (jT [(0,1),(1,1),(2,1),(3,1)] [(.bool false), .nilSlice, .nilSlice, .nilSlice] []) fun z=>
 bR (stN 4 f z H) fun B H=>
 bV (ldN 4 f H) fun C=>bV (some (.int .i64 (.ofNat 1))) fun E=>some (.ret (.tuple [C,E]),H))
 (bV (fAd 0 d) fun F=>
 bV (ld1 F H) fun G=>
 cnd G (bV (fAd 1 d) fun I=>
 bV (ld1 I H) fun J=>
 bV (fAd 1 e) fun K=>
 bV (ld1 K H) fun M=>
 bA (vQ 56 1 2 [.nilSlice] [(0,J),(1,M)]) H fun N H=>
 bV (fAd 2 d) fun O=>
 bV (ld1 O H) fun P=>
 bV (fAd 2 e) fun Q=>
 bV (ld1 Q H) fun R=>
 bA (vQ 56 1 2 [.nilSlice] [(0,P),(1,R)]) H fun T H=>
 bR (f81 D n [N] H) fun U H=>chk (ld1 O H) P <| chk (ld1 Q H) R <|
 bR (f81 D n [T] H) fun V H=>
 bV (jT [(0,1),(1,1),(2,1),(3,1)] [(.bool false), .nilSlice, .nilSlice, .nilSlice] [(0,(.bool true)),(1,U),(2,V)]) fun W=>
 bR (stN 4 f W H) fun Y H=>
 bV (ldN 4 f H) fun Z=>bV (some (.int .i64 (.ofNat 0))) fun a0=>some (.ret (.tuple [Z,a0]),H))
 (bV (fAd 1 d) fun a1=>
 bV (ld1 a1 H) fun a2=>
 bA (vQ 9 1 1 [(.str 0 0)] [(0,b)]) H fun a3 H=>
 bV (fAd 1 e) fun a4=>
 bV (ld1 a4 H) fun a5=>
 bA (vQ 56 1 3 [.nilSlice] [(0,a2),(1,a3),(2,a5)]) H fun a6 H=>
 bV (fAd 3 d) fun a7=>
 bV (ld1 a7 H) fun a8=>
 bV (fAd 3 e) fun a9=>
 bV (ld1 a9 H) fun b0=>
 bA (vQ 105 1 2 [.nilSlice] [(0,a8),(1,b0)]) H fun b1 H=>
 bR (f81 D n [a6] H) fun b2 H=>chk (ld1 a7 H) a8 <| chk (ld1 a9 H) b0 <|
 bR (f95 D n [b1] H) fun b3 H=>
 bV (jT [(0,1),(1,1),(2,1),(3,1)] [(.bool false), .nilSlice, .nilSlice, .nilSlice] [(1,b2),(3,b3)]) fun b4=>
 bR (stN 4 f b4 H) fun b5 H=>
 bV (ldN 4 f H) fun b6=>bV (some (.int .i64 (.ofNat 0))) fun b7=>some (.ret (.tuple [b6,b7]),H))))
def h93:Hint:=(.s .o (.s (.s .o (.cl (.s .o .o) .o)) (.s (.s .o (.cl (.s .o .o) .o)) (.s .o .o))))
theorem zI7 {D:Dyn}(hD:DG D)(n:Nat):FI 93 (f93 D n):=qR (n:=n) (h:=h93) X_ok hD (sc (VZ hD n) (sc (zES hD n) (sc (zBf hD n) (sc (zEm hD n) (SOk.nil))))) Tryz.func93 (by kernel_rfl) (by kernel_rfl)
def s74 (D:Dyn)(n:Nat):Tb:=⟨X,[(92,f92 D n),(73,f73 D n),(75,f75 D n),(93,f93 D n),(94,f94 D n),(81,f81 D n),(96,f96 D n),(95,f95 D n)]⟩
def zJK (D:Dyn)(n:Nat)(vs:List AV)(H:AH):Rs:=
 hd vs fun a vs=>hd vs fun b vs=>hd vs fun c vs=>hd vs fun d vs=>hd vs fun e vs=>hd vs fun f vs=>hd vs fun g vs=>
 bV (qN .neq g (.int .i64 (.ofNat 0))) fun h=>
 cnd h (bV (jT [(0,1),(1,1),(2,1),(3,1)] [(.bool false), .nilSlice, .nilSlice, .nilSlice] []) fun i=>
 bR (stN 4 d i H) fun k H=>
 bV (ldN 4 d H) fun m=>bV (some (.int .i64 (.ofNat 4))) fun o=>some (.ret (.tuple [m,o]),H))
 (some (.norm [a,b,c,d,e,f],H))
def zJJ (D:Dyn)(n:Nat)(vs:List AV)(H:AH):Rs:=
 hd vs fun a vs=>hd vs fun b vs=>hd vs fun c vs=>hd vs fun d vs=>hd vs fun e vs=>hd vs fun f vs=>
 bV (xQ a) fun g=>
 bV (fAd 0 g) fun h=>
 bV (ld1 h H) fun i=>
 bV (fAd 3 c) fun k=>
 bV (ld1 k H) fun m=>
 bV (jW 3 m f) fun o=>
 bV (ldN 3 o H) fun p=>
 bA (bxV 111 (.agg [(.bool false), .nilSlice, .nilSlice, .nilSlice])) H fun r H=>
 bR (f73 D n [i,p] H) fun t H=>
 bV (qK t 0) fun u=>
 bV (qK t 1) fun v=>
 bR (stN 4 r u H) fun w H=>
 bV (qN .neq v (.int .i64 (.ofNat 0))) fun x=>
 cnd x (bV (jT [(0,1),(1,1),(2,1),(3,1)] [(.bool false), .nilSlice, .nilSlice, .nilSlice] []) fun y=>
 bR (stN 4 e y H) fun z H=>
 bV (ldN 4 e H) fun B=>bV (some v) fun C=>some (.ret (.tuple [B,C]),H))
 (bV (fAd 3 c) fun E=>
 bV (ld1 E H) fun F=>
 bV (jW 3 F f) fun G=>
 bV (ldN 3 G H) fun I=>
 bR (f75 D n [a,I] H) fun J H=>
 bV (mn2 b f) fun K=>
 bV (mx2 b f) fun M=>
 bV (qN .add M (.int .i64 (.ofNat 1))) fun N=>
 bV (qN .lss f b) fun O=>
 jn (cnd O (bV (ldN 4 r H) fun P=>
 bV (fAd 1 c) fun Q=>
 bV (ld1 Q H) fun R=>
 bV (jW 1 R K) fun T=>
 bV (ld1 T H) fun U=>
 bV (ldN 4 d H) fun V=>
 bR (f93 D n [P,U,V] H) fun W H=>
 bV (qK W 0) fun Y=>
 bV (qK W 1) fun Z=>
 bR (stN 4 d Y H) fun a0 H=>
 some (.norm [a,c,d,e,K,N,Z],H))
 (bV (ldN 4 d H) fun a1=>
 bV (fAd 1 c) fun a2=>
 bV (ld1 a2 H) fun a3=>
 bV (jW 1 a3 K) fun a4=>
 bV (ld1 a4 H) fun a5=>
 bV (ldN 4 r H) fun a6=>
 bR (f93 D n [a1,a5,a6] H) fun a7 H=>
 bV (qK a7 0) fun a8=>
 bV (qK a7 1) fun a9=>
 bR (stN 4 d a8 H) fun b0 H=>
 some (.norm [a,c,d,e,K,N,a9],H))) (zJK D n))
def zEv (D:Dyn)(n:Nat)(vs:List AV)(H:AH):Rs:=
 hd vs fun a vs=>hd vs fun b vs=>hd vs fun c vs=>hd vs fun d vs=>hd vs fun e vs=>hd vs fun f vs=>
 bV (ldN 4 c H) fun g=>
 bR (f94 D n [g] H) fun h H=>
 bV (qK h 0) fun i=>
 bV (qK h 1) fun k=>
 bV (qK h 2) fun m=>
 bV (qN .neq m (.int .i64 (.ofNat 0))) fun o=>
 cnd o (bV (jT [(0,1),(1,1),(2,1),(3,1)] [(.bool false), .nilSlice, .nilSlice, .nilSlice] []) fun p=>
 bR (stN 4 d p H) fun r H=>
 bV (ldN 4 d H) fun t=>bV (some m) fun u=>some (.ret (.tuple [t,u]),H))
 (bV (fAd 1 b) fun v=>
 bV (ld1 v H) fun w=>
 bV (j7 1 w none (some e) (some e) H) fun x=>
 bV (fAd 1 b) fun y=>
 bV (ld1 y H) fun z=>
 bV (qN .sub f (.int .i64 (.ofNat 1))) fun B=>
 bV (j7 1 z (some B) none none H) fun C=>
 bA (vQ 56 1 3 [.nilSlice] [(0,x),(1,k),(2,C)]) H fun E H=>
 bV (fAd 3 b) fun F=>
 bV (ld1 F H) fun G=>
 bV (j7 3 G none (some e) (some e) H) fun I=>
 bV (fAd 3 b) fun J=>
 bV (ld1 J H) fun K=>
 bV (j7 3 K (some f) none none H) fun M=>
 bR (f81 D n [E] H) fun N H=>chk (ld1 F H) G <| chk (j7 3 G none (some e) (some e) H) I <| chk (ld1 J H) K <| chk (j7 3 K (some f) none none H) M <|
 bR (f96 D n [a,i] H) fun O H=>chk (ld1 F H) G <| chk (j7 3 G none (some e) (some e) H) I <| chk (ld1 J H) K <| chk (j7 3 K (some f) none none H) M <|
 bA (vQ 105 1 3 [.nilSlice] [(0,I),(1,O),(2,M)]) H fun P H=>
 bR (f95 D n [P] H) fun Q H=>
 bV (jT [(0,1),(1,1),(2,1),(3,1)] [(.bool false), .nilSlice, .nilSlice, .nilSlice] [(1,N),(3,Q)]) fun R=>
 bR (stN 4 d R H) fun T H=>
 bV (ldN 4 d H) fun U=>bV (some (.int .i64 (.ofNat 0))) fun V=>some (.ret (.tuple [U,V]),H))
def f74 (D:Dyn)(n:Nat)(vs:List AV)(H:AH):Option (AV×AH):=
 outR (hd vs fun a vs=>hd vs fun b vs=>hd vs fun c vs=>hd vs fun d vs=>nl vs <|
 bA (bxV 111 b) H fun e H=>
 bA (bxV 111 d) H fun f H=>
 bA (bxV 111 (.agg [(.bool false), .nilSlice, .nilSlice, .nilSlice])) H fun g H=>
 bV (qN .add c (.int .i64 (.ofNat 1))) fun h=>
 bV (ldN 4 f H) fun i=>
 bR (f92 D n [i] H) fun k H=>
 bV (qN .lss k (.int .i64 (.ofNat 160))) fun m=>
 jn (cnd m (bV (qN .sub c (.int .i64 (.ofNat 1))) fun o=>
 bV (qN .eql c (.int .i64 (.ofNat 0))) fun p=>
 jn (cnd p (some (.norm [a,c,e,f,g,(.int .i64 (.ofNat 1))],H))
 (some (.norm [a,c,e,f,g,o],H))) (zJJ D n))
 (some (.norm [a,e,f,g,c,h],H))) (zEv D n))
def h74:Hint:=(.s .o (.s .o (.s (.s .o (.c [0,5,7,8,10,11] (.s .o (.s (.s .o (.c [0,2,5,7,8,12] .o .o)) (.s .o (.s (.s .o (.cl (.s .o .o) .o)) (.s .o (.s .o (.s (.s .o (.c [0,5,7,8,10,11,14] .o .o)) (.s .o (.cl (.s .o .o) .o))))))))) .o)) (.s .o (.s (.s .o (.cl (.s .o .o) .o)) (.s .o .o))))))
theorem zIb {D:Dyn}(hD:DG D)(n:Nat):FI 74 (f74 D n):=qR (n:=n) (h:=h74) X_ok hD (sc (zBe hD n) (sc (zBi hD n) (sc (zEu hD n) (sc (zI7 hD n) (sc (zEn hD n) (sc (zBf hD n) (sc (zEk hD n) (sc (zEm hD n) (SOk.nil))))))))) Tryz.func74 (by kernel_rfl) (by kernel_rfl)
def s71 (D:Dyn)(n:Nat):Tb:=⟨X,[(72,f72 D n),(73,f73 D n),(62,f62 D n),(74,f74 D n),(75,f75 D n)]⟩
def zEw (D:Dyn)(n:Nat)(vs:List AV)(H:AH):Rs:=
 hd vs fun a vs=>hd vs fun b vs=>hd vs fun c vs=>hd vs fun d vs=>hd vs fun e vs=>
 some (.norm [a,b,c,d,e],H)
def U0 (D:Dyn)(n:Nat)(vs:List AV)(H:AH):Rs:=
 hd vs fun a vs=>hd vs fun b vs=>hd vs fun c vs=>hd vs fun d vs=>hd vs fun e vs=>
 bV (qN .neq e (.int .i64 (.ofNat 0))) fun f=>
 cnd f (bV (jT [(0,1),(1,1),(2,1),(3,1)] [(.bool false), .nilSlice, .nilSlice, .nilSlice] []) fun g=>
 bR (stN 4 c g H) fun h H=>
 bV (ldN 4 c H) fun i=>bV (some e) fun k=>some (.ret (.tuple [i,k]),H))
 (bV (ld1 a H) fun m=>
 bV (ldN 3 b H) fun o=>
 bR (f75 D n [m,o] H) fun p H=>
 bV (ldN 4 d H) fun r=>
 bR (stN 4 c r H) fun t H=>
 bV (ldN 4 c H) fun u=>bV (some (.int .i64 (.ofNat 0))) fun v=>some (.ret (.tuple [u,v]),H))
def f71 (D:Dyn)(n:Nat)(vs:List AV)(H:AH):Option (AV×AH):=
 outR (hd vs fun a vs=>hd vs fun b vs=>hd vs fun c vs=>hd vs fun d vs=>hd vs fun e vs=>hd vs fun f vs=>hd vs fun g vs=>nl vs <|
 bA (bxV 65 a) H fun h H=>
 bA (bxV 111 (.agg [(.bool false), .nilSlice, .nilSlice, .nilSlice])) H fun i H=>
 bV (ld1 b H) fun k=>
 bV (qN .add k (.int .i64 (.ofNat 1))) fun m=>
 bR (stN 1 b m H) fun o H=>
 bV (ld1 b H) fun p=>
 bV (ld1 c H) fun r=>
 bR (f72 D n [r] H) fun t H=>chk (ld1 b H) p <|
 bV (qN .gtr p t) fun u=>
 cnd u (bV (jT [(0,1),(1,1),(2,1),(3,1)] [(.bool false), .nilSlice, .nilSlice, .nilSlice] []) fun v=>
 bR (stN 4 i v H) fun w H=>
 bV (ldN 4 i H) fun x=>bV (some (.int .i64 (.ofNat 4))) fun y=>some (.ret (.tuple [x,y]),H))
 (bV (ld1 c H) fun z=>
 bV (ldN 3 h H) fun B=>
 bR (f73 D n [z,B] H) fun C H=>
 bV (qK C 0) fun E=>
 bV (qK C 1) fun F=>
 bA (bxV 111 (.agg [(.bool false), .nilSlice, .nilSlice, .nilSlice])) H fun G H=>
 bR (stN 4 G E H) fun I H=>
 bV (qN .neq F (.int .i64 (.ofNat 0))) fun J=>
 cnd J (bV (jT [(0,1),(1,1),(2,1),(3,1)] [(.bool false), .nilSlice, .nilSlice, .nilSlice] []) fun K=>
 bR (stN 4 i K H) fun M H=>
 bV (ldN 4 i H) fun N=>bV (some F) fun O=>some (.ret (.tuple [N,O]),H))
 (bV (fAd 0 G) fun P=>
 bV (ld1 P H) fun Q=>
 jn (cnd Q (bV (ld1 d H) fun R=>
 bV (ldN 4 G H) fun T=>
 bR (callV (s71 D n).S D R [T] H) fun U H=>
 bV (qK U 0) fun V=>
 bV (qK U 1) fun W=>
 bR (stN 4 G V H) fun Y H=>
 some (.norm [g,h,i,G,W],H))
 (bV (ldN 4 G H) fun Z=>
 bV (ld1 e H) fun a0=>
 bR (f62 D n [Z,a0] H) fun a1 H=>
 bA (bxV 111 (.agg [(.bool false), .nilSlice, .nilSlice, .nilSlice])) H fun a2 H=>
 bV (ld1 f H) fun a3=>
 bV (fAd 3 G) fun a4=>
 bV (ld1 a4 H) fun a5=>
 bV (jW 3 a5 a1) fun a6=>
 bV (ldN 3 a6 H) fun a7=>
 bR (callV (s71 D n).S D a3 [a7] H) fun a8 H=>
 bV (qK a8 0) fun a9=>
 bV (qK a8 1) fun b0=>
 bR (stN 4 a2 a9 H) fun b1 H=>
 bV (qN .eql b0 (.int .i64 (.ofNat 0))) fun b2=>
 jn (cnd b2 (bV (ld1 g H) fun b3=>
 bV (ldN 4 G H) fun b4=>
 bV (ldN 4 a2 H) fun b5=>
 bR (f74 D n [b3,b4,a1,b5] H) fun b6 H=>
 bV (qK b6 0) fun b7=>
 bV (qK b6 1) fun b8=>
 bR (stN 4 G b7 H) fun b9 H=>
 some (.norm [g,h,i,G,b8],H))
 (some (.norm [g,h,i,G,b0],H))) (zEw D n))) (U0 D n))))
def h71:Hint:=(.s .o (.s (.s .o (.s .o (.cl (.s .o .o) .o))) (.s .o (.s (.s .o (.cl (.s .o .o) .o)) (.s (.s .o (.c [6,7,8,10,11] .o (.s .o (.s .o (.s .o (.s .o (.c [6,7,8,10,11] .o .o))))))) (.s (.s .o (.cl (.s .o .o) .o)) (.s .o (.s .o .o))))))))
theorem zLM {D:Dyn}(hD:DG D)(n:Nat):FI 71 (f71 D n):=qR (n:=n) (h:=h71) X_ok hD (sc (zIc hD n) (sc (zBi hD n) (sc (QJ hD n) (sc (zIb hD n) (sc (zEu hD n) (SOk.nil)))))) Tryz.func71 (by kernel_rfl) (by kernel_rfl)
def s52 (D:Dyn)(n:Nat):Tb:=⟨X,[(70,f70 D n),(69,f69 D n),(76,f76 D n)]⟩
def f52 (D:Dyn)(n:Nat)(vs:List AV)(H:AH):Option (AV×AH):=
 outR (hd vs fun a vs=>hd vs fun b vs=>hd vs fun c vs=>nl vs <|
 bA (bxV 25 a) H fun d H=>
 bA (bxV 9 b) H fun e H=>
 bA (bxV 114 c) H fun f H=>
 bV (ld1 d H) fun g=>
 bV (ld1 d H) fun h=>
 bV (xQ h) fun i=>
 bV (fAd 6 i) fun k=>
 bV (ld1 k H) fun m=>
 bA (mkM [10]) H fun o H=>
 bV (jT [(0,1),(1,1),(2,1),(3,1)] [.nilPtr,(.int .u64 (.ofNat 0)), .nilMap, .nilSlice] [(0,g),(1,m),(2,o)]) fun p=>
 bA (bxV 136 p) H fun r H=>
 bA (bxV 134 .nilPtr) H fun t H=>
 bR (stN 1 t r H) fun u H=>
 bV (ld1 d H) fun v=>
 bV (xQ v) fun w=>
 bV (fAd 2 w) fun x=>
 bV (fAd 0 x) fun y=>
 bV (ld1 y H) fun z=>
 bV (qN .eql z (.int .i64 (.ofNat 0))) fun B=>
 cnd B (bV (ld1 f H) fun C=>
 bV (jT [(0,1),(1,1),(2,1),(3,1)] [(.bool false), .nilSlice, .nilSlice, .nilSlice] [(0,(.bool true))]) fun E=>
 bR (callV (s52 D n).S D C [E] H) fun F H=>
 bV (qK F 0) fun G=>
 bV (qK F 1) fun I=>
 bA (bxV 111 (.agg [(.bool false), .nilSlice, .nilSlice, .nilSlice])) H fun J H=>
 bR (stN 4 J G H) fun K H=>
 bV (qN .neq I (.int .i64 (.ofNat 0))) fun M=>
 cnd M (bV (some I) fun N=>some (.ret N,H))
 (bV (ld1 t H) fun O=>
 bV (ld1 t H) fun P=>
 bV (ldN 4 J H) fun Q=>
 bR (f70 D n [P,Q] H) fun R H=>chk (ld1 t H) O <|
 bR (f69 D n [O,R] H) fun T H=>
 bV (some (.int .i64 (.ofNat 0))) fun U=>some (.ret U,H)))
 (bA (bxV 3 (.int .i64 (.ofNat 0))) H fun V H=>
 bR (stN 1 V (.int .i64 (.ofNat 0)) H) fun W H=>
 bA (bxV 139 .nilFunc) H fun Y H=>
 bR (stN 1 Y (.func 71 [] [V,d,f,e,Y,t]) H) fun Z H=>
 bV (ld1 Y H) fun a0=>
 bV (ld1 d H) fun a1=>
 bV (xQ a1) fun a2=>
 bV (fAd 2 a2) fun a3=>
 bV (ldN 3 a3 H) fun a4=>
 bA (bxV 111 (.agg [(.bool false), .nilSlice, .nilSlice, .nilSlice])) H fun a5 H=>
 bR (callV (s52 D n).S D a0 [a4] H) fun a6 H=>
 bV (qK a6 0) fun a7=>
 bV (qK a6 1) fun a8=>
 bR (stN 4 a5 a7 H) fun a9 H=>
 bV (qN .neq a8 (.int .i64 (.ofNat 0))) fun b0=>
 cnd b0 (bV (some a8) fun b1=>some (.ret b1,H))
 (bV (ld1 t H) fun b2=>
 bV (ldN 4 a5 H) fun b3=>
 bR (f76 D n [b2,b3] H) fun b4 H=>
 bV (some b4) fun b5=>some (.ret b5,H))))
def h52:Hint:=(.s .o (.s .o (.s (.s .o (.cl (.s .o (.s (.s .o (.cl (.s .o .o) .o)) (.s .o (.s .o .o)))) .o)) (.s .o (.s .o (.s .o (.s .o (.s (.s .o (.cl (.s .o .o) .o)) (.s .o .o)))))))))
theorem zED {D:Dyn}(hD:DG D)(n:Nat):FI 52 (f52 D n):=qR (n:=n) (h:=h52) X_ok hD (sc (zBj hD n) (sc (zEz hD n) (sc (zIa hD n) (SOk.nil)))) Tryz.func52 (by kernel_rfl) (by kernel_rfl)
end Go.Eng.Sh
end
end
section
noncomputable section
namespace Go.Eng.Sh
open Go.Proofs
set_option maxRecDepth 100000
def s80 (D:Dyn)(n:Nat):Tb:=⟨X,[]⟩
def f80 (D:Dyn)(n:Nat)(vs:List AV)(H:AH):Option (AV×AH):=
 outR (hd vs fun a vs=>hd vs fun b vs=>hd vs fun c vs=>nl vs <|
 bV (j7 1 a (some b) none none H) fun d=>
 bV (lnSl c) fun e=>
 bV (qN .eql e (.int .i64 (.ofNat 0))) fun f=>
 cnd f (bV (some a) fun g=>some (.ret g,H))
 (bV (lnSl a) fun h=>
 bV (qN .eql b h) fun i=>
 cnd i (bR (apP 9 1 16 a c H) fun k H=>
 bV (some k) fun m=>some (.ret m,H))
 (bV (qN .add h e) fun o=>
 bV (zCs X 56 a) fun p=>
 bV (qN .gtr o p) fun r=>
 cnd r (bV (j7 1 a none (some b) none H) fun t=>
 bV (qN .add h e) fun u=>
 bV (qN .sub u b) fun v=>
 bR (apZ 9 1 16 [(.str 0 0)] t v H) fun w H=>
 bV (j7 1 w (some b) none none H) fun x=>
 bR (cpy 1 x c H) fun y H=>
 bV (qN .add b e) fun z=>
 bV (j7 1 w (some z) none none H) fun B=>
 bV (j7 1 a (some b) none none H) fun C=>
 bR (cpy 1 B C H) fun E H=>
 bV (some w) fun F=>some (.ret F,H))
 (bV (qN .add h e) fun G=>
 bV (j7 1 a none (some G) none H) fun I=>
 bV (qN .add b e) fun J=>
 bV (j7 1 I (some J) none none H) fun K=>
 bR (D.fn 97 [c,K] H) fun M H=>
 bV (aun .not M) fun N=>
 cnd N (bV (qN .add b e) fun O=>
 bV (j7 1 I (some O) none none H) fun P=>
 bV (j7 1 I (some b) none none H) fun Q=>
 bR (cpy 1 P Q H) fun R H=>
 bV (j7 1 I (some b) none none H) fun T=>
 bR (cpy 1 T c H) fun U H=>
 bV (some I) fun V=>some (.ret V,H))
 (bV (j7 1 I (some h) none none H) fun W=>
 bR (cpy 1 W c H) fun Y H=>
 bV (j7 1 I (some b) none none H) fun Z=>
 bR (D.fn 98 [Z,e] H) fun a0 H=>
 bV (some I) fun a1=>some (.ret a1,H))))))
def h80:Hint:=(.s .o (.s .o (.s .o (.s (.s .o (.cl (.s .o .o) .o)) (.s .o (.s (.s .o (.cl (.s .o .o) .o)) (.s (.s .o (.cl (.s .o (.s .o (.s .o (.s .o .o)))) .o)) (.s .o (.s (.s .o (.cl (.s .o (.s .o (.s .o .o))) .o)) (.s .o (.s .o (.s .o .o))))))))))))
theorem zLL {D:Dyn}(hD:DG D)(n:Nat):FI 80 (f80 D n):=qR (n:=n) (h:=h80) X_ok hD (SOk.nil) Tryz.func80 (by kernel_rfl) (by kernel_rfl)
def m80 (D:Dyn)(n:Nat)(vs:List AV)(H:AH):Option (AV×AH):=zJw (f80 D n) vs H
theorem zHZ {D:Dyn}(hD:DG D)(n:Nat):FI 80 (m80 D n):=zJv (by kernel_rfl) (zLL hD n)
def s54 (D:Dyn)(n:Nat):Tb:=⟨X,[(77,f77 D n),(78,f78 D n),(79,f79 D n),(62,f62 D n),(80,m80 D n)]⟩
def f54 (D:Dyn)(n:Nat)(vs:List AV)(H:AH):Option (AV×AH):=
 outR (hd vs fun a vs=>hd vs fun b vs=>hd vs fun c vs=>nl vs <|
 bA (bxV 111 a) H fun d H=>
 bA (bxV 111 (.agg [(.bool false), .nilSlice, .nilSlice, .nilSlice])) H fun e H=>
 bV (ldN 4 d H) fun f=>
 bR (f77 D n [f] H) fun g H=>
 bV (aun .not g) fun h=>
 jn (wnt h false (bV (fAd 0 d) fun i=>
 bV (ld1 i H) fun k=>
 bV (aun .not k) fun m=>
 some (.norm [m],H)) (some (.norm [qM],H))) fun vs H=>hd vs fun o vs=>
 bV (pk3 (some h) (some (.bool true)) (some o)) fun p=>
 jn (wnt p false (bR (f78 D n [b] H) fun r H=>
 bV (aun .not r) fun t=>
 some (.norm [t],H)) (some (.norm [qM],H))) fun vs H=>hd vs fun u vs=>
 bV (pk3 (some p) (some (.bool true)) (some u)) fun v=>
 jn (wnt v false (bV (wP c) fun w=>
 bV (qN .gtr w (.int .i64 (.ofNat 200))) fun x=>
 some (.norm [x],H)) (some (.norm [qM],H))) fun vs H=>hd vs fun y vs=>
 bV (pk3 (some v) (some (.bool true)) (some y)) fun z=>
 cnd z (bV (jT [(0,1),(1,1),(2,1),(3,1)] [(.bool false), .nilSlice, .nilSlice, .nilSlice] []) fun B=>
 bR (stN 4 e B H) fun C H=>
 bV (ldN 4 e H) fun E=>bV (some (.int .i64 (.ofNat 1))) fun F=>some (.ret (.tuple [E,F]),H))
 (bV (fAd 1 d) fun G=>
 bV (ld1 G H) fun I=>
 bV (fAd 2 d) fun J=>
 bV (ld1 J H) fun K=>
 bA (bxV 111 (.agg [(.bool false), .nilSlice, .nilSlice, .nilSlice])) H fun M H=>
 bR (f79 D n [I] H) fun N H=>chk (ld1 J H) K <|
 bR (f79 D n [K] H) fun O H=>
 bV (jT [(0,1),(1,1),(2,1),(3,1)] [(.bool false), .nilSlice, .nilSlice, .nilSlice] [(0,(.bool true)),(1,N),(2,O)]) fun P=>
 bR (stN 4 M P H) fun Q H=>
 bV (ldN 4 d H) fun R=>
 bR (f62 D n [R,b] H) fun T H=>
 bV (fAd 1 d) fun U=>
 bV (ld1 U H) fun V=>
 bV (lnSl V) fun W=>
 bV (qN .lss T W) fun Y=>
 jn (wnt Y true (bV (fAd 1 d) fun Z=>
 bV (ld1 Z H) fun a0=>
 bV (jW 1 a0 T) fun a1=>
 bV (ld1 a1 H) fun a2=>
 bV (kO .eql a2 b) fun a3=>
 some (.norm [a3],H)) (some (.norm [qM],H))) fun vs H=>hd vs fun a4 vs=>
 bV (pk3 (some Y) (some a4) (some (.bool false))) fun a5=>
 cnd a5 (bV (fAd 2 M) fun a6=>
 bV (ld1 a6 H) fun a7=>
 bV (jW 1 a7 T) fun a8=>
 bR (stN 1 a8 c H) fun a9 H=>
 bV (ldN 4 M H) fun b0=>
 bR (stN 4 e b0 H) fun b1 H=>
 bV (ldN 4 e H) fun b2=>bV (some (.int .i64 (.ofNat 0))) fun b3=>some (.ret (.tuple [b2,b3]),H))
 (bV (fAd 1 M) fun b4=>
 bV (ld1 b4 H) fun b5=>
 bA (vQ 9 1 1 [(.str 0 0)] [(0,b)]) H fun b6 H=>
 bR (m80 D n [b5,T,b6] H) fun b7 H=>
 bV (fAd 1 M) fun b8=>
 bR (stN 1 b8 b7 H) fun b9 H=>
 bV (fAd 2 M) fun c0=>
 bV (ld1 c0 H) fun c1=>
 bA (vQ 9 1 1 [(.str 0 0)] [(0,c)]) H fun c2 H=>
 bR (m80 D n [c1,T,c2] H) fun c3 H=>
 bV (fAd 2 M) fun c4=>
 bR (stN 1 c4 c3 H) fun c5 H=>
 bV (ldN 4 M H) fun c6=>
 bR (stN 4 e c6 H) fun c7 H=>
 bV (ldN 4 e H) fun c8=>bV (some (.int .i64 (.ofNat 0))) fun c9=>some (.ret (.tuple [c8,c9]),H))))
def h54:Hint:=(.s .o (.s (.s .o (.cl (.s .o .o) .o)) (.s .o (.s .o (.s (.s .o (.cl (.s .o (.s .o .o)) .o)) (.s .o (.s .o (.s .o .o))))))))
theorem zIj {D:Dyn}(hD:DG D)(n:Nat):FI 54 (f54 D n):=qR (n:=n) (h:=h54) X_ok hD (sc (VZ hD n) (sc (zBh hD n) (sc (zBg hD n) (sc (QJ hD n) (sc (zHZ hD n) (SOk.nil)))))) Tryz.func54 (by kernel_rfl) (by kernel_rfl)
def s53 (D:Dyn)(n:Nat):Tb:=⟨X,[(54,f54 D n)]⟩
def f53 (D:Dyn)(n:Nat)(vs:List AV)(H:AH):Option (AV×AH):=
 outR (hd vs fun a vs=>hd vs fun b vs=>hd vs fun c vs=>nl vs <|
 bA (bxV 111 a) H fun d H=>
 bA (bxV 111 (.agg [(.bool false), .nilSlice, .nilSlice, .nilSlice])) H fun e H=>
 bV (ldN 4 d H) fun f=>
 bV (ld1 b H) fun g=>
 bV (ld1 c H) fun h=>
 bR (f54 D n [f,g,h] H) fun i H=>
 bV (qK i 0) fun k=>
 bV (qK i 1) fun m=>
 bR (stN 4 e k H) fun o H=>
 bV (ldN 4 e H) fun p=>bV (some m) fun r=>some (.ret (.tuple [p,r]),H))
def h53:Hint:=(.s .o (.s .o .o))
theorem zLX {D:Dyn}(hD:DG D)(n:Nat):FI 53 (f53 D n):=qR (n:=n) (h:=h53) X_ok hD (sc (zIj hD n) (SOk.nil)) Tryz.func53 (by kernel_rfl) (by kernel_rfl)
def s30 (D:Dyn)(n:Nat):Tb:=⟨X,[(51,f51 D n),(52,f52 D n)]⟩
def f30 (D:Dyn)(n:Nat)(vs:List AV)(H:AH):Option (AV×AH):=
 outR (hd vs fun a vs=>hd vs fun b vs=>hd vs fun c vs=>nl vs <|
 bA (bxV 9 b) H fun d H=>
 bA (bxV 9 c) H fun e H=>
 bR (f51 D n [a] H) fun f H=>
 cnd f (bV (some (.int .i64 (.ofNat 2))) fun g=>some (.ret g,H))
 (bV (ld1 d H) fun h=>
 bV (wP h) fun i=>
 bV (qN .lss i (.int .i64 (.ofNat 1))) fun k=>
 jn (wnt k false (bV (ld1 d H) fun m=>
 bV (wP m) fun o=>
 bV (qN .gtr o (.int .i64 (.ofNat 40))) fun p=>
 some (.norm [p],H)) (some (.norm [qM],H))) fun vs H=>hd vs fun r vs=>
 bV (pk3 (some k) (some (.bool true)) (some r)) fun t=>
 jn (wnt t false (bV (ld1 e H) fun u=>
 bV (wP u) fun v=>
 bV (qN .gtr v (.int .i64 (.ofNat 200))) fun w=>
 some (.norm [w],H)) (some (.norm [qM],H))) fun vs H=>hd vs fun x vs=>
 bV (pk3 (some t) (some (.bool true)) (some x)) fun y=>
 cnd y (bV (some (.int .i64 (.ofNat 1))) fun z=>some (.ret z,H))
 (bV (ld1 d H) fun B=>
 bR (f52 D n [a,B,(.func 53 [] [d,e])] H) fun C H=>
 bV (some C) fun E=>some (.ret E,H))))
def h30:Hint:=(.s .o (.s (.s .o (.cl (.s .o .o) .o)) (.s (.s .o (.cl (.s .o .o) .o)) (.s .o .o))))
theorem zIp {D:Dyn}(hD:DG D)(n:Nat):FI 30 (f30 D n):=qR (n:=n) (h:=h30) X_ok hD (sc (JC hD n) (sc (zED hD n) (SOk.nil))) Tryz.func30 (by kernel_rfl) (by kernel_rfl)
def s29 (D:Dyn)(n:Nat):Tb:=⟨X,[]⟩
def f29 (D:Dyn)(n:Nat)(vs:List AV)(H:AH):Option (AV×AH):=
 outR (hd vs fun a vs=>hd vs fun b vs=>hd vs fun c vs=>hd vs fun d vs=>nl vs <|
 bA (bxV 71 a) H fun e H=>
 bV (fAd 0 e) fun f=>
 bV (fAd 2 f) fun g=>
 bV (ld1 g H) fun h=>
 bV (qN .sub h (.int .i64 (.ofNat 1))) fun i=>
 bV (qN .rem i (.int .i64 (.ofNat 256))) fun k=>
 bV (QB 256 1 b k) fun m=>
 bR (stN 1 m (.bool true) H) fun o H=>
 bV (ld1 c H) fun p=>
 jn (wnt p false (bV (fAd 4 e) fun r=>
 bV (ld1 r H) fun t=>
 some (.norm [t],H)) (some (.norm [qM],H))) fun vs H=>hd vs fun u vs=>
 jn (wnt u true (bV (fAd 0 e) fun v=>
 bV (fAd 0 v) fun w=>
 bV (ld1 w H) fun x=>
 bV (ld1 d H) fun y=>
 bV (kO .eql x y) fun z=>
 some (.norm [z],H)) (some (.norm [qM],H))) fun vs H=>hd vs fun B vs=>
 jn (wnt p false (bV (pk3 (some u) (some B) (some (.bool false))) fun C=>
 some (.norm [C],H)) (some (.norm [qM],H))) fun vs H=>hd vs fun E vs=>
 bV (pk3 (some p) (some (.bool true)) (some E)) fun F=>
 bR (stN 1 c F H) fun G H=>
 bV (ld1 c H) fun I=>
 bV (aun .not I) fun J=>
 bV (some J) fun K=>some (.ret K,H))
def h29:Hint:=(.s .o (.s .o (.s .o (.s .o .o))))
theorem zM2 {D:Dyn}(hD:DG D)(n:Nat):FI 29 (f29 D n):=qR (n:=n) (h:=h29) X_ok hD (SOk.nil) Tryz.func29 (by kernel_rfl) (by kernel_rfl)
def s8 (D:Dyn)(n:Nat):Tb:=⟨X,[(26,f26 D n),(27,f27 D n),(22,f22 D n),(28,f28 D n),(31,f31 D n),(32,f32 D n),(30,f30 D n)]⟩
def zLG (D:Dyn)(n:Nat)(vs:List AV)(H:AH):Rs:=
 hd vs fun a vs=>hd vs fun b vs=>hd vs fun c vs=>hd vs fun d vs=>hd vs fun e vs=>hd vs fun f vs=>hd vs fun g vs=>
 bV (qN .lss g (.int .i64 (.ofNat 256))) fun h=>
 jn (wnt h true (bV (QB 256 1 e g) fun i=>
 bV (ld1 i H) fun k=>
 some (.norm [k],H)) (some (.norm [qM],H))) fun vs H=>hd vs fun m vs=>
 bV (pk3 (some h) (some m) (some (.bool false))) fun o=>
 cnd o (bV (qN .add g (.int .i64 (.ofNat 1))) fun p=>
 some (.norm [a,b,c,d,e,f,p],H))
 (some (.exit 0 [a,b,c,d,f,g],H))
def f8b1 (D:Dyn)(n:Nat)(vs:List AV)(H:AH):Rs:=
 hd vs fun a vs=>hd vs fun b vs=>hd vs fun c vs=>hd vs fun d vs=>hd vs fun e vs=>hd vs fun f vs=>
 bV (qN .eql f (.int .i64 (.ofNat 256))) fun g=>
 cnd g (bV (some (.int .i64 (.ofNat 0))) fun h=>bV (some (.int .i64 (.ofNat 3))) fun i=>some (.ret (.tuple [h,i]),H))
 (bV (qN .mul e (.int .i64 (.ofNat 256))) fun k=>
 bV (qN .add k f) fun m=>
 bV (qN .add m (.int .i64 (.ofNat 1))) fun o=>
 bV (ld1 d H) fun p=>
 bR (f31 D n [b,o] H) fun r H=>chk (ld1 d H) p <|
 bR (f32 D n [c] H) fun t H=>chk (ld1 d H) p <|
 bV (kO .add t p) fun u=>
 bR (f30 D n [a,r,u] H) fun v H=>
 bV (qN .neq v (.int .i64 (.ofNat 0))) fun w=>
 cnd w (bV (some (.int .i64 (.ofNat 0))) fun x=>bV (some v) fun y=>some (.ret (.tuple [x,y]),H))
 (bV (some o) fun z=>bV (some (.int .i64 (.ofNat 0))) fun B=>some (.ret (.tuple [z,B]),H)))
def f8 (D:Dyn)(n:Nat)(vs:List AV)(H:AH):Option (AV×AH):=
 outR (hd vs fun a vs=>hd vs fun b vs=>hd vs fun c vs=>hd vs fun d vs=>nl vs <|
 bA (bxV 9 c) H fun e H=>
 bV (vH .eql (eqP a .nilPtr)) fun f=>
 cnd f (bV (some (.int .i64 (.ofNat 0))) fun g=>bV (some (.int .i64 (.ofNat 2))) fun h=>some (.ret (.tuple [g,h]),H))
 (bR (f26 D n [b] H) fun i H=>
 bV (aun .not i) fun k=>
 jn (wnt k false (bR (f26 D n [d] H) fun m H=>
 bV (aun .not m) fun o=>
 some (.norm [o],H)) (some (.norm [qM],H))) fun vs H=>hd vs fun p vs=>
 bV (pk3 (some k) (some (.bool true)) (some p)) fun r=>
 cnd r (bV (some (.int .i64 (.ofNat 0))) fun t=>bV (some (.int .i64 (.ofNat 1))) fun u=>some (.ret (.tuple [t,u]),H))
 (bV (ld1 e H) fun v=>
 bR (f27 D n [v] H) fun w H=>
 bV (aun .not w) fun x=>
 cnd x (bV (some (.int .i64 (.ofNat 0))) fun y=>bV (some (.int .i64 (.ofNat 56))) fun z=>some (.ret (.tuple [y,z]),H))
 (bA (bxV 68 (.agg (rep 256 [(.bool false)]))) H fun B H=>
 bA (bxV 4 (.bool false)) H fun C H=>
 bR (stN 1 C (.bool false) H) fun E H=>
 bV (ld1 e H) fun F=>
 bR (f22 D n [F] H) fun G H=>
 bR (f28 D n [a,b,G,(.func 29 [] [B,C,e])] H) fun I H=>
 bV (qN .neq I (.int .i64 (.ofNat 0))) fun J=>
 cnd J (bV (some (.int .i64 (.ofNat 0))) fun K=>bV (some I) fun M=>some (.ret (.tuple [K,M]),H))
 (bV (ld1 C H) fun N=>
 cnd N (bV (some (.int .i64 (.ofNat 0))) fun O=>bV (some (.int .i64 (.ofNat 6))) fun P=>some (.ret (.tuple [O,P]),H))
 (jb 0 (qX n (zLG D n) [a,b,d,e,B,G,(.int .i64 (.ofNat 0))] H) (f8b1 D n)))))))
def h8:Hint:=(.s .o (.s (.s .o (.cl (.s .o .o) .o)) (.s (.s .o (.cl (.s .o .o) .o)) (.s (.s .o (.cl (.s .o .o) .o)) (.s .o (.s .o (.s .o (.s .o (.s (.s .o (.cl (.s .o .o) .o)) (.s (.s .o (.cl (.s .o .o) .o)) (.s .o (.s (.b [0,1,3,6,12,14] (.l [0,1,3,6,10,12,14] (.s (.s .o (.cr .o .o)) (.b0 .o)))) (.s (.s .o (.cl (.s .o .o) .o)) (.s .o (.s (.s .o (.s .o (.cl (.s .o .o) .o))) (.s .o .o))))))))))))))))
theorem zGS {D:Dyn}(hD:DG D)(n:Nat):FI 8 (f8 D n):=qR (n:=n) (h:=h8) X_ok hD (sc (U1 hD n) (sc (zBm hD n) (sc (QK hD n) (sc (zEJ hD n) (sc (zBl hD n) (sc (zBk hD n) (sc (zIp hD n) (SOk.nil)))))))) Tryz.func8 (by kernel_rfl) (by kernel_rfl)
def s55 (D:Dyn)(n:Nat):Tb:=⟨X,[]⟩
def zJN (D:Dyn)(n:Nat)(vs:List AV)(H:AH):Rs:=
 hd vs fun a vs=>
 bV (fAd 4 a) fun b=>
 bV (ld1 b H) fun c=>
 bV (aun .not c) fun d=>
 bV (some d) fun e=>some (.ret e,H)
def f55 (D:Dyn)(n:Nat)(vs:List AV)(H:AH):Option (AV×AH):=
 outR (hd vs fun a vs=>hd vs fun b vs=>hd vs fun c vs=>nl vs <|
 bA (bxV 71 a) H fun d H=>
 bV (fAd 4 d) fun e=>
 bV (ld1 e H) fun f=>
 jn (wnt f true (bV (fAd 0 d) fun g=>
 bV (fAd 0 g) fun h=>
 bV (ld1 h H) fun i=>
 bV (ld1 b H) fun k=>
 bV (kO .eql i k) fun m=>
 some (.norm [m],H)) (some (.norm [qM],H))) fun vs H=>hd vs fun o vs=>
 bV (pk3 (some f) (some o) (some (.bool false))) fun p=>
 jn (cnd p (bV (ldN 5 d H) fun r=>
 bR (stN 5 c r H) fun t H=>
 some (.norm [c],H))
 (some (.norm [c],H))) (zJN D n))
def h55:Hint:=(.s .o (.s (.s .o (.c [2] .o .o)) (.s .o .o)))
theorem zLW {D:Dyn}(hD:DG D)(n:Nat):FI 55 (f55 D n):=qR (n:=n) (h:=h55) X_ok hD (SOk.nil) Tryz.func55 (by kernel_rfl) (by kernel_rfl)
def s37 (D:Dyn)(n:Nat):Tb:=⟨X,[(26,f26 D n),(27,f27 D n),(22,f22 D n),(28,f28 D n)]⟩
def f37 (D:Dyn)(n:Nat)(vs:List AV)(H:AH):Option (AV×AH):=
 outR (hd vs fun a vs=>hd vs fun b vs=>hd vs fun c vs=>nl vs <|
 bA (bxV 9 c) H fun d H=>
 bA (bxV 71 (.agg [(.str 0 0),(.int .i64 (.ofNat 0)),(.int .i64 (.ofNat 0)),(.str 0 0),(.bool false)])) H fun e H=>
 bV (vH .eql (eqP a .nilPtr)) fun f=>
 cnd f (bV (jT [(0,3),(3,1),(4,1)] [(.str 0 0),(.int .i64 (.ofNat 0)),(.int .i64 (.ofNat 0)),(.str 0 0),(.bool false)] []) fun g=>
 bR (stN 5 e g H) fun h H=>
 bV (ldN 5 e H) fun i=>bV (some (.int .i64 (.ofNat 2))) fun k=>some (.ret (.tuple [i,k]),H))
 (bR (f26 D n [b] H) fun m H=>
 bV (aun .not m) fun o=>
 cnd o (bV (jT [(0,3),(3,1),(4,1)] [(.str 0 0),(.int .i64 (.ofNat 0)),(.int .i64 (.ofNat 0)),(.str 0 0),(.bool false)] []) fun p=>
 bR (stN 5 e p H) fun r H=>
 bV (ldN 5 e H) fun t=>bV (some (.int .i64 (.ofNat 1))) fun u=>some (.ret (.tuple [t,u]),H))
 (bV (ld1 d H) fun v=>
 bR (f27 D n [v] H) fun w H=>
 bV (aun .not w) fun x=>
 cnd x (bV (jT [(0,3),(3,1),(4,1)] [(.str 0 0),(.int .i64 (.ofNat 0)),(.int .i64 (.ofNat 0)),(.str 0 0),(.bool false)] []) fun y=>
 bR (stN 5 e y H) fun z H=>
 bV (ldN 5 e H) fun B=>bV (some (.int .i64 (.ofNat 56))) fun C=>some (.ret (.tuple [B,C]),H))
 (bA (bxV 71 (.agg [(.str 0 0),(.int .i64 (.ofNat 0)),(.int .i64 (.ofNat 0)),(.str 0 0),(.bool false)])) H fun E H=>
 bV (ld1 d H) fun F=>
 bR (f22 D n [F] H) fun G H=>
 bR (f28 D n [a,b,G,(.func 55 [] [d,E])] H) fun I H=>
 bV (qN .neq I (.int .i64 (.ofNat 0))) fun J=>
 cnd J (bV (jT [(0,3),(3,1),(4,1)] [(.str 0 0),(.int .i64 (.ofNat 0)),(.int .i64 (.ofNat 0)),(.str 0 0),(.bool false)] []) fun K=>
 bR (stN 5 e K H) fun M H=>
 bV (ldN 5 e H) fun N=>bV (some I) fun O=>some (.ret (.tuple [N,O]),H))
 (bV (fAd 4 E) fun P=>
 bV (ld1 P H) fun Q=>
 bV (aun .not Q) fun R=>
 cnd R (bV (jT [(0,3),(3,1),(4,1)] [(.str 0 0),(.int .i64 (.ofNat 0)),(.int .i64 (.ofNat 0)),(.str 0 0),(.bool false)] []) fun T=>
 bR (stN 5 e T H) fun U H=>
 bV (ldN 5 e H) fun V=>bV (some (.int .i64 (.ofNat 5))) fun W=>some (.ret (.tuple [V,W]),H))
 (bV (ldN 5 E H) fun Y=>
 bR (stN 5 e Y H) fun Z H=>
 bV (ldN 5 e H) fun a0=>bV (some (.int .i64 (.ofNat 0))) fun a1=>some (.ret (.tuple [a0,a1]),H)))))))
def h37:Hint:=(.s .o (.s (.s .o (.cl (.s .o .o) .o)) (.s (.s .o (.cl (.s .o .o) .o)) (.s (.s .o (.cl (.s .o .o) .o)) (.s .o (.s .o (.s (.s .o (.cl (.s .o .o) .o)) (.s (.s .o (.cl (.s .o .o) .o)) (.s .o .o)))))))))
theorem zEH {D:Dyn}(hD:DG D)(n:Nat):FI 37 (f37 D n):=qR (n:=n) (h:=h37) X_ok hD (sc (U1 hD n) (sc (zBm hD n) (sc (QK hD n) (sc (zEJ hD n) (SOk.nil))))) Tryz.func37 (by kernel_rfl) (by kernel_rfl)
def s12 (D:Dyn)(n:Nat):Tb:=⟨X,[(37,f37 D n)]⟩
def f12 (D:Dyn)(n:Nat)(vs:List AV)(H:AH):Option (AV×AH):=
 outR (hd vs fun a vs=>hd vs fun b vs=>hd vs fun c vs=>nl vs <|
 bR (f37 D n [a,b,c] H) fun d H=>
 bV (qK d 0) fun e=>
 bV (qK d 1) fun f=>
 bA (bxV 71 (.agg [(.str 0 0),(.int .i64 (.ofNat 0)),(.int .i64 (.ofNat 0)),(.str 0 0),(.bool false)])) H fun g H=>
 bR (stN 5 g e H) fun h H=>
 bV (fAd 0 g) fun i=>
 bV (fAd 1 i) fun k=>
 bV (ld1 k H) fun m=>
 bV (fAd 0 g) fun o=>
 bV (fAd 2 o) fun p=>
 bV (ld1 p H) fun r=>
 bV (some m) fun t=>bV (some r) fun u=>bV (some f) fun v=>some (.ret (.tuple [t,u,v]),H))
def h12:Hint:=(.s .o (.s .o (.s .o .o)))
theorem zBo {D:Dyn}(hD:DG D)(n:Nat):FI 12 (f12 D n):=qR (n:=n) (h:=h12) X_ok hD (sc (zEH hD n) (SOk.nil)) Tryz.func12 (by kernel_rfl) (by kernel_rfl)
def s39 (D:Dyn)(n:Nat):Tb:=⟨X,[]⟩
def f39l0 (D:Dyn)(n:Nat)(vs:List AV)(H:AH):Rs:=
 hd vs fun a vs=>hd vs fun b vs=>
 bV (qN .geq b (.int .i64 (.ofNat 0))) fun c=>
 cnd c (bV (KU a b) fun d=>
 bV (qN .neq d (.int .u8 (.ofNat 255))) fun e=>
 cnd e (bV (K6 a none (some b)) fun f=>
 bV (KU a b) fun g=>
 bV (qN .add g (.int .u8 (.ofNat 1))) fun h=>
 bA (vQ 5 1 1 [(.int .u8 (.ofNat 0))] [(0,h)]) H fun i H=>
 bV (zFa i H) fun k=>
 bV (kO .add f k) fun m=>
 bV (some m) fun o=>some (.ret o,H))
 (bV (qN .sub b (.int .i64 (.ofNat 1))) fun p=>
 some (.norm [a,p],H)))
 (some (.exit 0 [],H))
def f39b1 (D:Dyn)(n:Nat)(vs:List AV)(H:AH):Rs:=
 bV (some (.str 0 0)) fun a=>some (.ret a,H)
def f39 (D:Dyn)(n:Nat)(vs:List AV)(H:AH):Option (AV×AH):=
 outR (hd vs fun a vs=>nl vs <|
 bV (wP a) fun b=>
 bV (qN .sub b (.int .i64 (.ofNat 1))) fun c=>
 jb 0 (qX n (f39l0 D n) [a,c] H) (f39b1 D n))
def h39:Hint:=(.s .o (.s (.s .o (.b [] (.l [0,3] (.s (.s .o (.cr .o .o)) (.s (.b0 (.s .o (.cl (.s .o .o) .o))) .o))))) (.s .o .o)))
theorem zIn {D:Dyn}(hD:DG D)(n:Nat):FI 39 (f39 D n):=qR (n:=n) (h:=h39) X_ok hD (SOk.nil) Tryz.func39 (by kernel_rfl) (by kernel_rfl)
def s14 (D:Dyn)(n:Nat):Tb:=⟨X,[(26,f26 D n),(31,f31 D n),(32,f32 D n),(39,f39 D n),(18,f18 D n),(40,f40 D n)]⟩
def f14j0 (D:Dyn)(n:Nat)(vs:List AV)(H:AH):Rs:=
 hd vs fun a vs=>hd vs fun b vs=>hd vs fun c vs=>hd vs fun d vs=>hd vs fun e vs=>
 bV (qN .add e (.int .i64 (.ofNat 1))) fun f=>
 some (.norm [a,b,c,d,f],H)
def f14l1 (D:Dyn)(n:Nat)(vs:List AV)(H:AH):Rs:=
 hd vs fun a vs=>hd vs fun b vs=>hd vs fun c vs=>hd vs fun d vs=>hd vs fun e vs=>
 bV (qN .lss e d) fun f=>
 cnd f (bV (jW 2 c e) fun g=>
 bV (ldN 2 g H) fun h=>
 bA (bxV 85 (.agg [(.str 0 0),(.str 0 0)])) H fun i H=>
 bR (stN 2 i h H) fun k H=>
 bV (ldN 2 i H) fun m=>
 bR (f40 D n [m] H) fun o H=>
 bV (qK o 0) fun p=>
 bV (qK o 1) fun r=>
 bA (bxV 71 (.agg [(.str 0 0),(.int .i64 (.ofNat 0)),(.int .i64 (.ofNat 0)),(.str 0 0),(.bool false)])) H fun t H=>
 bR (stN 5 t p H) fun u H=>
 jn (wnt r true (bV (fAd 4 t) fun v=>
 bV (ld1 v H) fun w=>
 some (.norm [w],H)) (some (.norm [qM],H))) fun vs H=>hd vs fun x vs=>
 bV (pk3 (some r) (some x) (some (.bool false))) fun y=>
 jn (cnd y (bV (fAd 0 t) fun z=>
 bV (ldN 3 z H) fun B=>
 bA (vQ 46 3 1 [(.str 0 0),(.int .i64 (.ofNat 0)),(.int .i64 (.ofNat 0))] [(0,B)]) H fun C H=>
 bR (apP 46 3 32 b C H) fun E H=>
 some (.norm [a,E,c,d,e],H))
 (some (.norm [a,b,c,d,e],H))) (f14j0 D n))
 (some (.exit 0 [a,b],H))
def f14b2 (D:Dyn)(n:Nat)(vs:List AV)(H:AH):Rs:=
 hd vs fun a vs=>hd vs fun b vs=>
 bV (aun .not a) fun c=>
 bV (some b) fun d=>bV (some c) fun e=>bV (some (.int .i64 (.ofNat 0))) fun f=>some (.ret (.tuple [d,e,f]),H)
def f14 (D:Dyn)(n:Nat)(vs:List AV)(H:AH):Option (AV×AH):=
 outR (hd vs fun a vs=>hd vs fun b vs=>hd vs fun c vs=>hd vs fun d vs=>nl vs <|
 bV (vH .eql (eqP a .nilPtr)) fun e=>
 cnd e (bV (some .nilSlice) fun f=>bV (some (.bool false)) fun g=>bV (some (.int .i64 (.ofNat 2))) fun h=>some (.ret (.tuple [f,g,h]),H))
 (bR (f26 D n [b] H) fun i H=>
 bV (aun .not i) fun k=>
 jn (wnt k false (bV (qN .lss c (.int .i64 (.ofNat 0))) fun m=>
 some (.norm [m],H)) (some (.norm [qM],H))) fun vs H=>hd vs fun o vs=>
 bV (pk3 (some k) (some (.bool true)) (some o)) fun p=>
 jn (wnt p false (bV (qN .lss d (.int .i64 (.ofNat 0))) fun r=>
 some (.norm [r],H)) (some (.norm [qM],H))) fun vs H=>hd vs fun t vs=>
 bV (pk3 (some p) (some (.bool true)) (some t)) fun u=>
 cnd u (bV (some .nilSlice) fun v=>bV (some (.bool false)) fun w=>bV (some (.int .i64 (.ofNat 1))) fun x=>some (.ret (.tuple [v,w,x]),H))
 (bV (mn2 c (.int .i64 (.ofNat 262144))) fun y=>
 bV (qN .add y (.int .i64 (.ofNat 1))) fun z=>
 bR (f31 D n [b,z] H) fun B H=>
 bR (f32 D n [b] H) fun C H=>
 bV (kO .add (.str 1 101) C) fun E=>
 bR (f39 D n [E] H) fun F H=>
 bR (f18 D n [a,B,F,d] H) fun G H=>
 bV (qK G 0) fun I=>
 bV (qK G 1) fun J=>
 bV (qK G 2) fun K=>
 bV (qN .neq K (.int .i64 (.ofNat 0))) fun M=>
 cnd M (bV (some .nilSlice) fun N=>bV (some (.bool false)) fun O=>bV (some K) fun P=>some (.ret (.tuple [N,O,P]),H))
 (bV (lnSl I) fun Q=>
 jb 0 (qX n (f14l1 D n) [J, .nilSlice,I,Q,(.int .i64 (.ofNat 0))] H) (f14b2 D n)))))
def h14:Hint:=(.s .o (.s (.s .o (.cl (.s .o .o) .o)) (.s (.s .o (.cl (.s .o .o) .o)) (.s .o (.s .o (.s (.s .o (.cl (.s .o .o) .o)) (.s .o (.s (.s .o (.b [13,15] (.l [13,15,53,54,55] (.s .o (.s (.cr .o .o) (.s (.b0 (.s .o (.s .o (.s .o (.c [13,15,53,54,55] .o .o))))) .o)))))) (.s .o .o)))))))))
theorem U2 {D:Dyn}(hD:DG D)(n:Nat):FI 14 (f14 D n):=qR (n:=n) (h:=h14) X_ok hD (sc (U1 hD n) (sc (zBl hD n) (sc (zBk hD n) (sc (zIn hD n) (sc (zEK hD n) (sc (zEG hD n) (SOk.nil))))))) Tryz.func14 (by kernel_rfl) (by kernel_rfl)
def s17 (D:Dyn)(n:Nat):Tb:=⟨X,[(14,f14 D n)]⟩
def f17 (D:Dyn)(n:Nat)(vs:List AV)(H:AH):Option (AV×AH):=
 outR (hd vs fun a vs=>hd vs fun b vs=>nl vs <|
 bR (f14 D n [a,b,(.int .i64 (.ofNat 0)),(.int .i64 (.ofNat 1))] H) fun c H=>
 bV (qK c 0) fun d=>
 bV (qK c 1) fun e=>
 bV (qK c 2) fun f=>
 bV (qN .eql f (.int .i64 (.ofNat 0))) fun g=>
 jn (wnt g true (some (.norm [e],H)) (some (.norm [qM],H))) fun vs H=>hd vs fun h vs=>
 bV (pk3 (some g) (some h) (some (.bool false))) fun i=>
 jn (wnt i true (bV (lnSl d) fun k=>
 bV (qN .eql k (.int .i64 (.ofNat 0))) fun m=>
 some (.norm [m],H)) (some (.norm [qM],H))) fun vs H=>hd vs fun o vs=>
 bV (pk3 (some i) (some o) (some (.bool false))) fun p=>
 bV (some p) fun r=>bV (some f) fun t=>some (.ret (.tuple [r,t]),H))
def h17:Hint:=(.s .o (.s .o (.s .o .o)))
theorem zBn {D:Dyn}(hD:DG D)(n:Nat):FI 17 (f17 D n):=qR (n:=n) (h:=h17) X_ok hD (sc (U2 hD n) (SOk.nil)) Tryz.func17 (by kernel_rfl) (by kernel_rfl)
def s57 (D:Dyn)(n:Nat):Tb:=⟨X,[(77,f77 D n),(62,f62 D n),(81,f81 D n)]⟩
def f57 (D:Dyn)(n:Nat)(vs:List AV)(H:AH):Option (AV×AH):=
 outR (hd vs fun a vs=>hd vs fun b vs=>nl vs <|
 bA (bxV 111 a) H fun c H=>
 bA (bxV 111 (.agg [(.bool false), .nilSlice, .nilSlice, .nilSlice])) H fun d H=>
 bV (ldN 4 c H) fun e=>
 bR (f77 D n [e] H) fun f H=>
 bV (aun .not f) fun g=>
 jn (wnt g false (bV (fAd 0 c) fun h=>
 bV (ld1 h H) fun i=>
 bV (aun .not i) fun k=>
 some (.norm [k],H)) (some (.norm [qM],H))) fun vs H=>hd vs fun m vs=>
 bV (pk3 (some g) (some (.bool true)) (some m)) fun o=>
 cnd o (bV (jT [(0,1),(1,1),(2,1),(3,1)] [(.bool false), .nilSlice, .nilSlice, .nilSlice] []) fun p=>
 bR (stN 4 d p H) fun r H=>
 bV (ldN 4 d H) fun t=>bV (some (.int .i64 (.ofNat 1))) fun u=>some (.ret (.tuple [t,u]),H))
 (bV (ldN 4 c H) fun v=>
 bR (f62 D n [v,b] H) fun w H=>
 bV (fAd 1 c) fun x=>
 bV (ld1 x H) fun y=>
 bV (lnSl y) fun z=>
 bV (qN .geq w z) fun B=>
 jn (wnt B false (bV (fAd 1 c) fun C=>
 bV (ld1 C H) fun E=>
 bV (jW 1 E w) fun F=>
 bV (ld1 F H) fun G=>
 bV (kO .neq G b) fun I=>
 some (.norm [I],H)) (some (.norm [qM],H))) fun vs H=>hd vs fun J vs=>
 bV (pk3 (some B) (some (.bool true)) (some J)) fun K=>
 cnd K (bV (jT [(0,1),(1,1),(2,1),(3,1)] [(.bool false), .nilSlice, .nilSlice, .nilSlice] []) fun M=>
 bR (stN 4 d M H) fun N H=>
 bV (ldN 4 d H) fun O=>bV (some (.int .i64 (.ofNat 5))) fun P=>some (.ret (.tuple [O,P]),H))
 (bV (fAd 1 c) fun Q=>
 bV (ld1 Q H) fun R=>
 bV (j7 1 R none (some w) (some w) H) fun T=>
 bV (fAd 1 c) fun U=>
 bV (ld1 U H) fun V=>
 bV (qN .add w (.int .i64 (.ofNat 1))) fun W=>
 bV (j7 1 V (some W) none none H) fun Y=>
 bA (vQ 56 1 2 [.nilSlice] [(0,T),(1,Y)]) H fun Z H=>
 bV (fAd 2 c) fun a0=>
 bV (ld1 a0 H) fun a1=>
 bV (j7 1 a1 none (some w) (some w) H) fun a2=>
 bV (fAd 2 c) fun a3=>
 bV (ld1 a3 H) fun a4=>
 bV (qN .add w (.int .i64 (.ofNat 1))) fun a5=>
 bV (j7 1 a4 (some a5) none none H) fun a6=>
 bA (vQ 56 1 2 [.nilSlice] [(0,a2),(1,a6)]) H fun a7 H=>
 bR (f81 D n [Z] H) fun a8 H=>chk (ld1 a0 H) a1 <| chk (j7 1 a1 none (some w) (some w) H) a2 <| chk (ld1 a3 H) a4 <| chk (j7 1 a4 (some a5) none none H) a6 <|
 bR (f81 D n [a7] H) fun a9 H=>
 bV (jT [(0,1),(1,1),(2,1),(3,1)] [(.bool false), .nilSlice, .nilSlice, .nilSlice] [(0,(.bool true)),(1,a8),(2,a9)]) fun b0=>
 bR (stN 4 d b0 H) fun b1 H=>
 bV (ldN 4 d H) fun b2=>bV (some (.int .i64 (.ofNat 0))) fun b3=>some (.ret (.tuple [b2,b3]),H))))
def h57:Hint:=(.s .o (.s (.s .o (.cl (.s .o .o) .o)) (.s .o (.s (.s .o (.cl (.s .o .o) .o)) (.s .o .o)))))
theorem zIi {D:Dyn}(hD:DG D)(n:Nat):FI 57 (f57 D n):=qR (n:=n) (h:=h57) X_ok hD (sc (VZ hD n) (sc (QJ hD n) (sc (zBf hD n) (SOk.nil)))) Tryz.func57 (by kernel_rfl) (by kernel_rfl)
def s56 (D:Dyn)(n:Nat):Tb:=⟨X,[(57,f57 D n)]⟩
def f56 (D:Dyn)(n:Nat)(vs:List AV)(H:AH):Option (AV×AH):=
 outR (hd vs fun a vs=>hd vs fun b vs=>nl vs <|
 bA (bxV 111 a) H fun c H=>
 bA (bxV 111 (.agg [(.bool false), .nilSlice, .nilSlice, .nilSlice])) H fun d H=>
 bV (ldN 4 c H) fun e=>
 bV (ld1 b H) fun f=>
 bR (f57 D n [e,f] H) fun g H=>
 bV (qK g 0) fun h=>
 bV (qK g 1) fun i=>
 bR (stN 4 d h H) fun k H=>
 bV (ldN 4 d H) fun m=>bV (some i) fun o=>some (.ret (.tuple [m,o]),H))
def h56:Hint:=(.s .o (.s .o .o))
theorem zLV {D:Dyn}(hD:DG D)(n:Nat):FI 56 (f56 D n):=qR (n:=n) (h:=h56) X_ok hD (sc (zIi hD n) (SOk.nil)) Tryz.func56 (by kernel_rfl) (by kernel_rfl)
def s38 (D:Dyn)(n:Nat):Tb:=⟨X,[(51,f51 D n),(52,f52 D n)]⟩
def f38 (D:Dyn)(n:Nat)(vs:List AV)(H:AH):Option (AV×AH):=
 outR (hd vs fun a vs=>hd vs fun b vs=>nl vs <|
 bA (bxV 9 b) H fun c H=>
 bR (f51 D n [a] H) fun d H=>
 cnd d (bV (some (.int .i64 (.ofNat 2))) fun e=>some (.ret e,H))
 (bV (ld1 c H) fun f=>
 bV (wP f) fun g=>
 bV (qN .lss g (.int .i64 (.ofNat 1))) fun h=>
 jn (wnt h false (bV (ld1 c H) fun i=>
 bV (wP i) fun k=>
 bV (qN .gtr k (.int .i64 (.ofNat 40))) fun m=>
 some (.norm [m],H)) (some (.norm [qM],H))) fun vs H=>hd vs fun o vs=>
 bV (pk3 (some h) (some (.bool true)) (some o)) fun p=>
 cnd p (bV (some (.int .i64 (.ofNat 1))) fun r=>some (.ret r,H))
 (bV (ld1 c H) fun t=>
 bR (f52 D n [a,t,(.func 56 [] [c])] H) fun u H=>
 bV (some u) fun v=>some (.ret v,H))))
def h38:Hint:=(.s .o (.s (.s .o (.cl (.s .o .o) .o)) (.s (.s .o (.cl (.s .o .o) .o)) (.s .o .o))))
theorem zIo {D:Dyn}(hD:DG D)(n:Nat):FI 38 (f38 D n):=qR (n:=n) (h:=h38) X_ok hD (sc (JC hD n) (sc (zED hD n) (SOk.nil))) Tryz.func38 (by kernel_rfl) (by kernel_rfl)
def s10 (D:Dyn)(n:Nat):Tb:=⟨X,[(37,f37 D n),(38,f38 D n)]⟩
def f10 (D:Dyn)(n:Nat)(vs:List AV)(H:AH):Option (AV×AH):=
 outR (hd vs fun a vs=>hd vs fun b vs=>hd vs fun c vs=>nl vs <|
 bR (f37 D n [a,b,c] H) fun d H=>
 bV (qK d 0) fun e=>
 bV (qK d 1) fun f=>
 bA (bxV 71 (.agg [(.str 0 0),(.int .i64 (.ofNat 0)),(.int .i64 (.ofNat 0)),(.str 0 0),(.bool false)])) H fun g H=>
 bR (stN 5 g e H) fun h H=>
 bV (qN .neq f (.int .i64 (.ofNat 0))) fun i=>
 cnd i (bV (some (.int .i64 (.ofNat 0))) fun k=>bV (some f) fun m=>some (.ret (.tuple [k,m]),H))
 (bV (fAd 3 g) fun o=>
 bV (ld1 o H) fun p=>
 bR (f38 D n [a,p] H) fun r H=>
 bV (qN .neq r (.int .i64 (.ofNat 0))) fun t=>
 cnd t (bV (some (.int .i64 (.ofNat 0))) fun u=>bV (some r) fun v=>some (.ret (.tuple [u,v]),H))
 (bV (fAd 0 g) fun w=>
 bV (fAd 1 w) fun x=>
 bV (ld1 x H) fun y=>
 bV (some y) fun z=>bV (some (.int .i64 (.ofNat 0))) fun B=>some (.ret (.tuple [z,B]),H))))
def h10:Hint:=(.s .o (.s .o (.s (.s .o (.cl (.s .o .o) .o)) (.s (.s .o (.s .o (.cl (.s .o .o) .o))) (.s .o .o)))))
theorem zBp {D:Dyn}(hD:DG D)(n:Nat):FI 10 (f10 D n):=qR (n:=n) (h:=h10) X_ok hD (sc (zEH hD n) (sc (zIo hD n) (SOk.nil))) Tryz.func10 (by kernel_rfl) (by kernel_rfl)
def s6 (D:Dyn)(n:Nat):Tb:=⟨X,[(7,f7 D n),(8,f8 D n),(12,f12 D n),(14,f14 D n),(17,f17 D n),(10,f10 D n),(22,f22 D n)]⟩
def f6 (D:Dyn)(n:Nat)(vs:List AV)(H:AH):Option (AV×AH):=
 outR (nl vs <|
 bR (f7 D n [] H) fun a H=>
 bV (vH .eql (eqP a .nilPtr)) fun b=>
 cnd b (bV (some (.bool false)) fun c=>some (.ret c,H))
 (bR (f8 D n [a,(.int .i64 (.ofNat 1)),(.str 1 97),(.int .i64 (.ofNat 7))] H) fun d H=>
 bV (qK d 0) fun e=>
 bV (qK d 1) fun f=>
 bR (f8 D n [a,(.int .i64 (.ofNat 1)),(.str 1 97),(.int .i64 (.ofNat 8))] H) fun g H=>
 bV (qK g 0) fun h=>
 bV (qK g 1) fun i=>
 bR (f12 D n [a,(.int .i64 (.ofNat 1)),(.str 1 98)] H) fun k H=>
 bV (qK k 0) fun m=>
 bV (qK k 1) fun o=>
 bV (qK k 2) fun p=>
 bR (f12 D n [a,(.int .i64 (.ofNat 1)),(.str 2 11822)] H) fun r H=>
 bV (qK r 0) fun t=>
 bV (qK r 1) fun u=>
 bV (qK r 2) fun v=>
 bR (f12 D n [a,(.int .i64 (.ofNat 1)),(.str 1 97)] H) fun w H=>
 bV (qK w 0) fun x=>
 bV (qK w 1) fun y=>
 bV (qK w 2) fun z=>
 bR (f14 D n [a,(.int .i64 (.ofNat 1)),(.int .i64 (.ofNat 0)),(.int .i64 (.ofNat 9))] H) fun B H=>
 bV (qK B 0) fun C=>
 bV (qK B 1) fun E=>
 bV (qK B 2) fun F=>
 bR (f17 D n [a,(.int .i64 (.ofNat 2))] H) fun G H=>
 bV (qK G 0) fun I=>
 bV (qK G 1) fun J=>
 bR (f10 D n [a,(.int .i64 (.ofNat 1)),(.str 1 97)] H) fun K H=>
 bV (qK K 0) fun M=>
 bV (qK K 1) fun N=>
 bR (f22 D n [(.str 1 97)] H) fun O H=>
 bV (qN .mul (.int .i64 (.ofNat 256)) O) fun P=>
 bV (qN .add P (.int .i64 (.ofNat 1))) fun Q=>
 bV (qN .eql e Q) fun R=>
 jn (wnt R true (bV (qN .eql f (.int .i64 (.ofNat 0))) fun T=>
 some (.norm [T],H)) (some (.norm [qM],H))) fun vs H=>hd vs fun U vs=>
 bV (pk3 (some R) (some U) (some (.bool false))) fun V=>
 jn (wnt V true (bV (qN .eql i (.int .i64 (.ofNat 6))) fun W=>
 some (.norm [W],H)) (some (.norm [qM],H))) fun vs H=>hd vs fun Y vs=>
 bV (pk3 (some V) (some Y) (some (.bool false))) fun Z=>
 jn (wnt Z true (bV (qN .eql p (.int .i64 (.ofNat 5))) fun a0=>
 some (.norm [a0],H)) (some (.norm [qM],H))) fun vs H=>hd vs fun a1 vs=>
 bV (pk3 (some Z) (some a1) (some (.bool false))) fun a2=>
 jn (wnt a2 true (bV (qN .eql v (.int .i64 (.ofNat 56))) fun a3=>
 some (.norm [a3],H)) (some (.norm [qM],H))) fun vs H=>hd vs fun a4 vs=>
 bV (pk3 (some a2) (some a4) (some (.bool false))) fun a5=>
 jn (wnt a5 true (bV (qN .eql x (.int .i64 (.ofNat 7))) fun a6=>
 some (.norm [a6],H)) (some (.norm [qM],H))) fun vs H=>hd vs fun a7 vs=>
 bV (pk3 (some a5) (some a7) (some (.bool false))) fun a8=>
 jn (wnt a8 true (bV (qN .eql y e) fun a9=>
 some (.norm [a9],H)) (some (.norm [qM],H))) fun vs H=>hd vs fun b0 vs=>
 bV (pk3 (some a8) (some b0) (some (.bool false))) fun b1=>
 jn (wnt b1 true (bV (qN .eql z (.int .i64 (.ofNat 0))) fun b2=>
 some (.norm [b2],H)) (some (.norm [qM],H))) fun vs H=>hd vs fun b3 vs=>
 bV (pk3 (some b1) (some b3) (some (.bool false))) fun b4=>
 jn (wnt b4 true (bV (lnSl C) fun b5=>
 bV (qN .eql b5 (.int .i64 (.ofNat 1))) fun b6=>
 some (.norm [b6],H)) (some (.norm [qM],H))) fun vs H=>hd vs fun b7 vs=>
 bV (pk3 (some b4) (some b7) (some (.bool false))) fun b8=>
 jn (wnt b8 true (bV (jW 3 C (.int .i64 (.ofNat 0))) fun b9=>
 bV (ldN 3 b9 H) fun c0=>
 bV (jT [(0,1),(1,1),(2,1)] [(.str 0 0),(.int .i64 (.ofNat 0)),(.int .i64 (.ofNat 0))] [(0,(.str 1 97)),(1,(.int .i64 (.ofNat 7))),(2,e)]) fun c1=>
 bV (vH .eql (eqA [2,6,6] c0 c1)) fun c2=>
 some (.norm [c2],H)) (some (.norm [qM],H))) fun vs H=>hd vs fun c3 vs=>
 bV (pk3 (some b8) (some c3) (some (.bool false))) fun c4=>
 jn (wnt c4 true (some (.norm [E],H)) (some (.norm [qM],H))) fun vs H=>hd vs fun c5 vs=>
 bV (pk3 (some c4) (some c5) (some (.bool false))) fun c6=>
 jn (wnt c6 true (bV (qN .eql F (.int .i64 (.ofNat 0))) fun c7=>
 some (.norm [c7],H)) (some (.norm [qM],H))) fun vs H=>hd vs fun c8 vs=>
 bV (pk3 (some c6) (some c8) (some (.bool false))) fun c9=>
 jn (wnt c9 true (some (.norm [I],H)) (some (.norm [qM],H))) fun vs H=>hd vs fun d0 vs=>
 bV (pk3 (some c9) (some d0) (some (.bool false))) fun d1=>
 jn (wnt d1 true (bV (qN .eql J (.int .i64 (.ofNat 0))) fun d2=>
 some (.norm [d2],H)) (some (.norm [qM],H))) fun vs H=>hd vs fun d3 vs=>
 bV (pk3 (some d1) (some d3) (some (.bool false))) fun d4=>
 jn (wnt d4 true (bV (qN .eql M (.int .i64 (.ofNat 7))) fun d5=>
 some (.norm [d5],H)) (some (.norm [qM],H))) fun vs H=>hd vs fun d6 vs=>
 bV (pk3 (some d4) (some d6) (some (.bool false))) fun d7=>
 jn (wnt d7 true (bV (qN .eql N (.int .i64 (.ofNat 0))) fun d8=>
 some (.norm [d8],H)) (some (.norm [qM],H))) fun vs H=>hd vs fun d9 vs=>
 bV (pk3 (some d7) (some d9) (some (.bool false))) fun e0=>
 bV (some e0) fun e1=>some (.ret e1,H)))
def h6:Hint:=(.s .o (.s .o (.s (.s .o (.cl (.s .o .o) .o)) (.s .o (.s .o (.s .o (.s .o (.s .o (.s .o (.s .o (.s .o (.s .o .o))))))))))))
theorem zGX {D:Dyn}(hD:DG D)(n:Nat):FI 6 (f6 D n):=qR (n:=n) (h:=h6) X_ok hD (sc (zGW hD n) (sc (zGS hD n) (sc (zBo hD n) (sc (U2 hD n) (sc (zBn hD n) (sc (zBp hD n) (sc (QK hD n) (SOk.nil)))))))) Tryz.func6 (by kernel_rfl) (by kernel_rfl)
def s4 (D:Dyn)(n:Nat):Tb:=⟨X,[(12,f12 D n),(8,f8 D n),(10,f10 D n),(14,f14 D n),(17,f17 D n),(7,f7 D n),(22,f22 D n),(6,f6 D n)]⟩
def f4j0 (D:Dyn)(n:Nat)(vs:List AV)(H:AH):Rs:=
 hd vs fun a vs=>hd vs fun b vs=>hd vs fun c vs=>hd vs fun d vs=>hd vs fun e vs=>hd vs fun f vs=>hd vs fun g vs=>hd vs fun h vs=>
 bV (qN .add h (.int .i64 (.ofNat 1))) fun i=>
 some (.norm [a,b,c,d,e,f,g,i],H)
def f4l1 (D:Dyn)(n:Nat)(vs:List AV)(H:AH):Rs:=
 hd vs fun a vs=>hd vs fun b vs=>hd vs fun c vs=>hd vs fun d vs=>hd vs fun e vs=>hd vs fun f vs=>hd vs fun g vs=>hd vs fun h vs=>
 bV (lnSl g) fun i=>
 bV (qN .lss i (.int .i64 (.ofNat 257))) fun k=>
 jn (wnt k true (bV (qN .lss h (.int .i64 (.ofNat 600000))) fun m=>
 some (.norm [m],H)) (some (.norm [qM],H))) fun vs H=>hd vs fun o vs=>
 bV (pk3 (some k) (some o) (some (.bool false))) fun p=>
 cnd p (bV (qN .rem h (.int .i64 (.ofNat 26))) fun r=>
 bV (qN .add (.int .i64 (.ofNat 97)) r) fun t=>
 bV (cvI .u8 t) fun u=>
 bV (qN .quo h (.int .i64 (.ofNat 26))) fun v=>
 bV (qN .rem v (.int .i64 (.ofNat 26))) fun w=>
 bV (qN .add (.int .i64 (.ofNat 97)) w) fun x=>
 bV (cvI .u8 x) fun y=>
 bV (qN .quo h (.int .i64 (.ofNat 676))) fun z=>
 bV (qN .rem z (.int .i64 (.ofNat 26))) fun B=>
 bV (qN .add (.int .i64 (.ofNat 97)) B) fun C=>
 bV (cvI .u8 C) fun E=>
 bV (qN .quo h (.int .i64 (.ofNat 17576))) fun F=>
 bV (qN .rem F (.int .i64 (.ofNat 26))) fun G=>
 bV (qN .add (.int .i64 (.ofNat 97)) G) fun I=>
 bV (cvI .u8 I) fun J=>
 bV (qN .quo h (.int .i64 (.ofNat 456976))) fun K=>
 bV (qN .add (.int .i64 (.ofNat 97)) K) fun M=>
 bV (cvI .u8 M) fun N=>
 bA (vQ 5 1 5 [(.int .u8 (.ofNat 0))] [(0,u),(1,y),(2,E),(3,J),(4,N)]) H fun O H=>
 bV (zFa O H) fun P=>
 bR (f22 D n [P] H) fun Q H=>
 bR (f22 D n [(.str 1 97)] H) fun R H=>
 bV (qN .eql Q R) fun T=>
 jn (cnd T (bA (vQ 9 1 1 [(.str 0 0)] [(0,P)]) H fun U H=>
 bR (apP 9 1 16 g U H) fun V H=>
 some (.norm [a,b,c,d,e,f,V,h],H))
 (some (.norm [a,b,c,d,e,f,g,h],H))) (f4j0 D n))
 (some (.exit 0 [a,b,c,d,e,f,g],H))
def f4l2 (D:Dyn)(n:Nat)(vs:List AV)(H:AH):Rs:=
 hd vs fun a vs=>hd vs fun b vs=>hd vs fun c vs=>hd vs fun d vs=>hd vs fun e vs=>hd vs fun f vs=>hd vs fun g vs=>hd vs fun h vs=>
 bV (lnSl g) fun i=>
 bV (qN .lss h i) fun k=>
 cnd k (bV (jW 1 g h) fun m=>
 bV (ld1 m H) fun o=>
 bR (f8 D n [f,(.int .i64 (.ofNat 1)),o,(.int .i64 (.ofNat 9))] H) fun p H=>
 bV (qK p 0) fun r=>
 bV (qK p 1) fun t=>
 bV (qN .lss h (.int .i64 (.ofNat 256))) fun u=>
 jn (wnt u true (bV (qN .neq t (.int .i64 (.ofNat 0))) fun v=>
 some (.norm [v],H)) (some (.norm [qM],H))) fun vs H=>hd vs fun w vs=>
 jn (wnt w false (bR (f22 D n [(.str 1 97)] H) fun x H=>
 bV (qN .mul (.int .i64 (.ofNat 256)) x) fun y=>
 bV (qN .add y h) fun z=>
 bV (qN .add z (.int .i64 (.ofNat 1))) fun B=>
 bV (qN .neq r B) fun C=>
 some (.norm [C],H)) (some (.norm [qM],H))) fun vs H=>hd vs fun E vs=>
 jn (wnt u true (bV (pk3 (some w) (some (.bool true)) (some E)) fun F=>
 some (.norm [F],H)) (some (.norm [qM],H))) fun vs H=>hd vs fun G vs=>
 bV (pk3 (some u) (some G) (some (.bool false))) fun I=>
 jn (wnt I false (bV (qN .eql h (.int .i64 (.ofNat 256))) fun J=>
 some (.norm [J],H)) (some (.norm [qM],H))) fun vs H=>hd vs fun K vs=>
 jn (wnt K true (bV (qN .neq t (.int .i64 (.ofNat 3))) fun M=>
 some (.norm [M],H)) (some (.norm [qM],H))) fun vs H=>hd vs fun N vs=>
 jn (wnt I false (bV (pk3 (some K) (some N) (some (.bool false))) fun O=>
 some (.norm [O],H)) (some (.norm [qM],H))) fun vs H=>hd vs fun P vs=>
 bV (pk3 (some I) (some (.bool true)) (some P)) fun Q=>
 cnd Q (bV (some (.bool false)) fun R=>some (.ret R,H))
 (bV (qN .add h (.int .i64 (.ofNat 1))) fun T=>
 some (.norm [a,b,c,d,e,f,g,T],H)))
 (some (.exit 2 [a,b,c,d,e,f,g],H))
def f4b3 (D:Dyn)(n:Nat)(vs:List AV)(H:AH):Rs:=
 hd vs fun a vs=>hd vs fun b vs=>hd vs fun c vs=>hd vs fun d vs=>hd vs fun e vs=>hd vs fun f vs=>hd vs fun g vs=>
 bV (jW 1 g (.int .i64 (.ofNat 7))) fun h=>
 bV (ld1 h H) fun i=>
 bR (f10 D n [f,(.int .i64 (.ofNat 1)),i] H) fun k H=>
 bV (qK k 0) fun m=>
 bV (qK k 1) fun o=>
 bV (jW 1 g (.int .i64 (.ofNat 256))) fun p=>
 bV (ld1 p H) fun r=>
 bR (f8 D n [f,(.int .i64 (.ofNat 1)),r,(.int .i64 (.ofNat 8))] H) fun t H=>
 bV (qK t 0) fun u=>
 bV (qK t 1) fun v=>
 bV (jW 1 g (.int .i64 (.ofNat 200))) fun w=>
 bV (ld1 w H) fun x=>
 bR (f12 D n [f,(.int .i64 (.ofNat 1)),x] H) fun y H=>
 bV (qK y 0) fun z=>
 bV (qK y 1) fun B=>
 bV (qK y 2) fun C=>
 bR (f8 D n [f,(.int .i64 (.ofNat 0)),(.str 1 97),(.int .i64 (.ofNat 1))] H) fun E H=>
 bV (qK E 0) fun F=>
 bV (qK E 1) fun G=>
 bR (f8 D n [f,(.int .i64 (.ofNat 1)),(.str 1 98),(.int .i64 (.ofNat 0))] H) fun I H=>
 bV (qK I 0) fun J=>
 bV (qK I 1) fun K=>
 bR (f8 D n [f,(.int .i64 (.ofNat 1)),(.str 2 11822),(.int .i64 (.ofNat 1))] H) fun M H=>
 bV (qK M 0) fun N=>
 bV (qK M 1) fun O=>
 bR (f14 D n [f,(.int .i64 (.ofNat 1)),(.int .i64 (.negSucc 0)),(.int .i64 (.ofNat 0))] H) fun P H=>
 bV (qK P 0) fun Q=>
 bV (qK P 1) fun R=>
 bV (qK P 2) fun T=>
 bR (f17 D n [f,(.int .i64 (.ofNat 2147483648))] H) fun U H=>
 bV (qK U 0) fun V=>
 bV (qK U 1) fun W=>
 bV (lnSl g) fun Y=>
 bV (qN .eql Y (.int .i64 (.ofNat 257))) fun Z=>
 jn (wnt Z true (bV (qN .eql a (.int .i64 (.ofNat 2))) fun a0=>
 some (.norm [a0],H)) (some (.norm [qM],H))) fun vs H=>hd vs fun a1 vs=>
 bV (pk3 (some Z) (some a1) (some (.bool false))) fun a2=>
 jn (wnt a2 true (bV (qN .eql b (.int .i64 (.ofNat 2))) fun a3=>
 some (.norm [a3],H)) (some (.norm [qM],H))) fun vs H=>hd vs fun a4 vs=>
 bV (pk3 (some a2) (some a4) (some (.bool false))) fun a5=>
 jn (wnt a5 true (bV (qN .eql c (.int .i64 (.ofNat 2))) fun a6=>
 some (.norm [a6],H)) (some (.norm [qM],H))) fun vs H=>hd vs fun a7 vs=>
 bV (pk3 (some a5) (some a7) (some (.bool false))) fun a8=>
 jn (wnt a8 true (bV (qN .eql d (.int .i64 (.ofNat 2))) fun a9=>
 some (.norm [a9],H)) (some (.norm [qM],H))) fun vs H=>hd vs fun b0 vs=>
 bV (pk3 (some a8) (some b0) (some (.bool false))) fun b1=>
 jn (wnt b1 true (bV (qN .eql e (.int .i64 (.ofNat 2))) fun b2=>
 some (.norm [b2],H)) (some (.norm [qM],H))) fun vs H=>hd vs fun b3 vs=>
 bV (pk3 (some b1) (some b3) (some (.bool false))) fun b4=>
 jn (wnt b4 true (bV (qN .eql m (.int .i64 (.ofNat 9))) fun b5=>
 some (.norm [b5],H)) (some (.norm [qM],H))) fun vs H=>hd vs fun b6 vs=>
 bV (pk3 (some b4) (some b6) (some (.bool false))) fun b7=>
 jn (wnt b7 true (bV (qN .eql o (.int .i64 (.ofNat 0))) fun b8=>
 some (.norm [b8],H)) (some (.norm [qM],H))) fun vs H=>hd vs fun b9 vs=>
 bV (pk3 (some b7) (some b9) (some (.bool false))) fun c0=>
 jn (wnt c0 true (bR (f22 D n [(.str 1 97)] H) fun c1 H=>
 bV (qN .mul (.int .i64 (.ofNat 256)) c1) fun c2=>
 bV (qN .add c2 (.int .i64 (.ofNat 8))) fun c3=>
 bV (qN .eql u c3) fun c4=>
 some (.norm [c4],H)) (some (.norm [qM],H))) fun vs H=>hd vs fun c5 vs=>
 bV (pk3 (some c0) (some c5) (some (.bool false))) fun c6=>
 jn (wnt c6 true (bV (qN .eql v (.int .i64 (.ofNat 0))) fun c7=>
 some (.norm [c7],H)) (some (.norm [qM],H))) fun vs H=>hd vs fun c8 vs=>
 bV (pk3 (some c6) (some c8) (some (.bool false))) fun c9=>
 jn (wnt c9 true (bR (f22 D n [(.str 1 97)] H) fun d0 H=>
 bV (qN .mul (.int .i64 (.ofNat 256)) d0) fun d1=>
 bV (qN .add d1 (.int .i64 (.ofNat 201))) fun d2=>
 bV (qN .eql B d2) fun d3=>
 some (.norm [d3],H)) (some (.norm [qM],H))) fun vs H=>hd vs fun d4 vs=>
 bV (pk3 (some c9) (some d4) (some (.bool false))) fun d5=>
 jn (wnt d5 true (bV (qN .eql C (.int .i64 (.ofNat 0))) fun d6=>
 some (.norm [d6],H)) (some (.norm [qM],H))) fun vs H=>hd vs fun d7 vs=>
 bV (pk3 (some d5) (some d7) (some (.bool false))) fun d8=>
 jn (wnt d8 true (bV (qN .eql G (.int .i64 (.ofNat 1))) fun d9=>
 some (.norm [d9],H)) (some (.norm [qM],H))) fun vs H=>hd vs fun e0 vs=>
 bV (pk3 (some d8) (some e0) (some (.bool false))) fun e1=>
 jn (wnt e1 true (bV (qN .eql K (.int .i64 (.ofNat 1))) fun e2=>
 some (.norm [e2],H)) (some (.norm [qM],H))) fun vs H=>hd vs fun e3 vs=>
 bV (pk3 (some e1) (some e3) (some (.bool false))) fun e4=>
 jn (wnt e4 true (bV (qN .eql O (.int .i64 (.ofNat 56))) fun e5=>
 some (.norm [e5],H)) (some (.norm [qM],H))) fun vs H=>hd vs fun e6 vs=>
 bV (pk3 (some e4) (some e6) (some (.bool false))) fun e7=>
 jn (wnt e7 true (bV (qN .eql T (.int .i64 (.ofNat 1))) fun e8=>
 some (.norm [e8],H)) (some (.norm [qM],H))) fun vs H=>hd vs fun e9 vs=>
 bV (pk3 (some e7) (some e9) (some (.bool false))) fun g0=>
 jn (wnt g0 true (bV (qN .eql W (.int .i64 (.ofNat 1))) fun g1=>
 some (.norm [g1],H)) (some (.norm [qM],H))) fun vs H=>hd vs fun g2 vs=>
 bV (pk3 (some g0) (some g2) (some (.bool false))) fun g3=>
 jn (wnt g3 true (bR (f6 D n [] H) fun g4 H=>
 some (.norm [g4],H)) (some (.norm [qM],H))) fun vs H=>hd vs fun g5 vs=>
 bV (pk3 (some g3) (some g5) (some (.bool false))) fun g6=>
 bV (some g6) fun g7=>some (.ret g7,H)
def f4b4 (D:Dyn)(n:Nat)(vs:List AV)(H:AH):Rs:=
 hd vs fun a vs=>hd vs fun b vs=>hd vs fun c vs=>hd vs fun d vs=>hd vs fun e vs=>hd vs fun f vs=>hd vs fun g vs=>
 jb 2 (qX n (f4l2 D n) [a,b,c,d,e,f,g,(.int .i64 (.ofNat 0))] H) (f4b3 D n)
def f4 (D:Dyn)(n:Nat)(vs:List AV)(H:AH):Option (AV×AH):=
 outR (nl vs <|
 bR (f12 D n [.nilPtr,(.int .i64 (.ofNat 1)),(.str 1 97)] H) fun a H=>
 bV (qK a 0) fun b=>
 bV (qK a 1) fun c=>
 bV (qK a 2) fun d=>
 bR (f8 D n [.nilPtr,(.int .i64 (.ofNat 1)),(.str 1 97),(.int .i64 (.ofNat 1))] H) fun e H=>
 bV (qK e 0) fun f=>
 bV (qK e 1) fun g=>
 bR (f10 D n [.nilPtr,(.int .i64 (.ofNat 1)),(.str 1 97)] H) fun h H=>
 bV (qK h 0) fun i=>
 bV (qK h 1) fun k=>
 bR (f14 D n [.nilPtr,(.int .i64 (.ofNat 1)),(.int .i64 (.ofNat 0)),(.int .i64 (.ofNat 0))] H) fun m H=>
 bV (qK m 0) fun o=>
 bV (qK m 1) fun p=>
 bV (qK m 2) fun r=>
 bR (f17 D n [.nilPtr,(.int .i64 (.ofNat 1))] H) fun t H=>
 bV (qK t 0) fun u=>
 bV (qK t 1) fun v=>
 bR (f7 D n [] H) fun w H=>
 bV (vH .eql (eqP w .nilPtr)) fun x=>
 cnd x (bV (some (.bool false)) fun y=>some (.ret y,H))
 (jb 0 (qX n (f4l1 D n) [d,g,k,r,v,w, .nilSlice,(.int .i64 (.ofNat 0))] H) (f4b4 D n)))
def h4:Hint:=(.s .o (.s .o (.s .o (.s .o (.s .o (.s .o (.s .o (.s (.s .o (.cl (.s .o .o) .o)) (.s .o (.s (.s .o (.b [3,5,7,10,12,13,14] (.l [3,5,7,10,12,13,14,15] (.s (.s .o (.cr .o .o)) (.s (.b0 (.s .o (.s .o (.c [3,5,7,10,12,13,14,15] .o .o)))) .o))))) (.s (.s .o (.b [3,5,7,10,12,13,14] (.l [3,5,7,10,12,13,14,17] (.s (.s .o (.cr .o .o)) (.s (.b0 (.s .o (.s .o (.cl (.s .o .o) .o)))) .o))))) (.s .o (.s .o (.s .o (.s .o (.s .o (.s .o (.s .o (.s .o (.s .o .o))))))))))))))))))))
theorem f4_ok {D:Dyn}(hD:DG D)(n:Nat):FI 4 (f4 D n):=qR (n:=n) (h:=h4) X_ok hD (sc (zBo hD n) (sc (zGS hD n) (sc (zBp hD n) (sc (U2 hD n) (sc (zBn hD n) (sc (zGW hD n) (sc (QK hD n) (sc (zGX hD n) (SOk.nil))))))))) Tryz.func4 (by kernel_rfl) (by kernel_rfl)
end Go.Eng.Sh
end
end
section
noncomputable section
namespace Go.Eng.Sh
open Go.Proofs
set_option maxRecDepth 100000
def tab (D:Dyn)(n:Nat):List (Nat×(List AV→AH→Option (AV×AH))):=[(4,f4 D n),(6,f6 D n),(7,f7 D n),(8,f8 D n),(10,f10 D n),(12,f12 D n),(14,f14 D n),(17,f17 D n),(18,f18 D n),(22,f22 D n),(24,f24 D n),(25,f25 D n),(26,f26 D n),(27,f27 D n),(28,f28 D n),(29,f29 D n),(30,f30 D n),(31,f31 D n),(32,f32 D n),(37,f37 D n),(38,f38 D n),(39,f39 D n),(40,f40 D n),(41,f41 D n),(42,f42 D n),(43,f43 D n),(46,f46 D n),(48,f48 D n),(49,f49 D n),(50,m50 D n),(51,f51 D n),(52,f52 D n),(53,f53 D n),(54,f54 D n),(55,f55 D n),(56,f56 D n),(57,f57 D n),(58,f58 D n),(59,f59 D n),(60,f60 D n),(61,f61 D n),(62,f62 D n),(64,f64 D n),(66,f66 D n),(67,f67 D n),(69,f69 D n),(70,f70 D n),(71,f71 D n),(72,f72 D n),(73,f73 D n),(74,f74 D n),(75,f75 D n),(76,f76 D n),(77,f77 D n),(78,f78 D n),(79,f79 D n),(80,m80 D n),(81,f81 D n),(82,f82 D n),(83,f83 D n),(84,f84 D n),(92,f92 D n),(93,f93 D n),(94,f94 D n),(95,f95 D n),(96,f96 D n),(99,f99 D n),(100,f100 D n),(114,f114 D n),(115,f115 D n),(116,f116 D n),(118,f118 D n),(127,f127 D n)]
def tabR (D:Dyn)(n:Nat):List ((Nat×Nat)×(Nat→ALoop→List AV→AH→Option (AV×AH))):=[((18,0),zBW D n),((60,0),BN D n)]
theorem zKE (D:Dyn)(n:Nat)(hD:DG D):SOk (tab D n):=sc (f4_ok hD n) (sc (zGX hD n) (sc (zGW hD n) (sc (zGS hD n) (sc (zBp hD n) (sc (zBo hD n) (sc (U2 hD n) (sc (zBn hD n) (sc (zEK hD n) (sc (QK hD n) (sc (zIr hD n) (sc (zIq hD n) (sc (U1 hD n) (sc (zBm hD n) (sc (zEJ hD n) (sc (zM2 hD n) (sc (zIp hD n) (sc (zBl hD n) (sc (zBk hD n) (sc (zEH hD n) (sc (zIo hD n) (sc (zIn hD n) (sc (zEG hD n) (sc (zEF hD n) (sc (zEE hD n) (sc (zM0 hD n) (sc (zIm hD n) (sc (zIl hD n) (sc (zIk hD n) (sc (zI0 hD n) (sc (JC hD n) (sc (zED hD n) (sc (zLX hD n) (sc (zIj hD n) (sc (zLW hD n) (sc (zLV hD n) (sc (zIi hD n) (sc (zIh hD n) (sc (zIg hD n) (sc (zLT hD n) (sc (zEC hD n) (sc (QJ hD n) (sc (zIf hD n) (sc (zIe hD n) (sc (zId hD n) (sc (zEz hD n) (sc (zBj hD n) (sc (zLM hD n) (sc (zIc hD n) (sc (zBi hD n) (sc (zIb hD n) (sc (zEu hD n) (sc (zIa hD n) (sc (VZ hD n) (sc (zBh hD n) (sc (zBg hD n) (sc (zHZ hD n) (sc (zBf hD n) (sc (zLH hD n) (sc (zI9 hD n) (sc (zI8 hD n) (sc (zBe hD n) (sc (zI7 hD n) (sc (zEn hD n) (sc (zEm hD n) (sc (zEk hD n) (sc (zI6 hD n) (sc (zET hD n) (sc (zES hD n) (sc (zER hD n) (sc (zEP hD n) (sc (zAd hD n) (sc (zEM hD n) (SOk.nil)))))))))))))))))))))))))))))))))))))))))))))))))))))))))))))))))))))))))
theorem zIG (D:Dyn)(n:Nat)(hD:DG D):ROk (tabR D n):=ROk.cons (zGh hD n) (ROk.cons (zGf hD n) (ROk.nil))
def dy (n:Nat):Dyn:=dyOf tab tabR n
theorem dy_ok (n:Nat):DG (dy n):=zF2 zKE zIG n
end Go.Eng.Sh
end
end
section
noncomputable section
namespace Go.Eng.Sh
open Go.Proofs
set_option maxRecDepth 1000000
theorem c6_r:zIX (f6 (dy 100000) 100000 [] ⟨.leaf,0⟩)=true:=by kernel_rfl
theorem c6 (w:World):Calls PP 6 #[] w fun e w'=>e= .returned (.bool true)∧RowKit.Below w.heap.size w w':=zHn (zGX (dy_ok 100000) 100000) c6_r w
end Go.Eng.Sh
end
end
section
noncomputable section
namespace Go.Eng.Sh
open Go.Proofs
set_option maxRecDepth 1000000
def z6 (D:Dyn)(n:Nat)(vs:List AV)(H:AH):Option (AV×AH):=cloK (f6 D n) vs H
theorem z6_ok {D:Dyn}(hD:DG D)(n:Nat):FI 6 (z6 D n):=zK0 ⟨_,Tryz.func6,rfl⟩ c6 (zGX hD n)
def s4z (D:Dyn)(n:Nat):Tb:=⟨X,[(12,f12 D n),(8,f8 D n),(10,f10 D n),(14,f14 D n),(17,f17 D n),(7,f7 D n),(22,f22 D n),(6,z6 D n)]⟩
def zJO (D:Dyn)(n:Nat)(vs:List AV)(H:AH):Rs:=
 hd vs fun a vs=>hd vs fun b vs=>hd vs fun c vs=>hd vs fun d vs=>hd vs fun e vs=>hd vs fun f vs=>hd vs fun g vs=>hd vs fun h vs=>
 bV (qN .add h (.int .i64 (.ofNat 1))) fun i=>
 some (.norm [a,b,c,d,e,f,g,i],H)
def zA8 (D:Dyn)(n:Nat)(vs:List AV)(H:AH):Rs:=
 hd vs fun a vs=>hd vs fun b vs=>hd vs fun c vs=>hd vs fun d vs=>hd vs fun e vs=>hd vs fun f vs=>hd vs fun g vs=>hd vs fun h vs=>
 bV (lnSl g) fun i=>
 bV (qN .lss i (.int .i64 (.ofNat 257))) fun k=>
 jn (wnt k true (bV (qN .lss h (.int .i64 (.ofNat 600000))) fun m=>
 some (.norm [m],H)) (some (.norm [qM],H))) fun vs H=>hd vs fun o vs=>
 bV (pk3 (some k) (some o) (some (.bool false))) fun p=>
 cnd p (bV (qN .rem h (.int .i64 (.ofNat 26))) fun r=>
 bV (qN .add (.int .i64 (.ofNat 97)) r) fun t=>
 bV (cvI .u8 t) fun u=>
 bV (qN .quo h (.int .i64 (.ofNat 26))) fun v=>
 bV (qN .rem v (.int .i64 (.ofNat 26))) fun w=>
 bV (qN .add (.int .i64 (.ofNat 97)) w) fun x=>
 bV (cvI .u8 x) fun y=>
 bV (qN .quo h (.int .i64 (.ofNat 676))) fun z=>
 bV (qN .rem z (.int .i64 (.ofNat 26))) fun B=>
 bV (qN .add (.int .i64 (.ofNat 97)) B) fun C=>
 bV (cvI .u8 C) fun E=>
 bV (qN .quo h (.int .i64 (.ofNat 17576))) fun F=>
 bV (qN .rem F (.int .i64 (.ofNat 26))) fun G=>
 bV (qN .add (.int .i64 (.ofNat 97)) G) fun I=>
 bV (cvI .u8 I) fun J=>
 bV (qN .quo h (.int .i64 (.ofNat 456976))) fun K=>
 bV (qN .add (.int .i64 (.ofNat 97)) K) fun M=>
 bV (cvI .u8 M) fun N=>
 bA (vQ 5 1 5 [(.int .u8 (.ofNat 0))] [(0,u),(1,y),(2,E),(3,J),(4,N)]) H fun O H=>
 bV (zFa O H) fun P=>
 bR (f22 D n [P] H) fun Q H=>
 bR (f22 D n [(.str 1 97)] H) fun R H=>
 bV (qN .eql Q R) fun T=>
 jn (cnd T (bA (vQ 9 1 1 [(.str 0 0)] [(0,P)]) H fun U H=>
 bR (apP 9 1 16 g U H) fun V H=>
 some (.norm [a,b,c,d,e,f,V,h],H))
 (some (.norm [a,b,c,d,e,f,g,h],H))) (zJO D n))
 (some (.exit 0 [a,b,c,d,e,f,g],H))
def zCe (D:Dyn)(n:Nat)(vs:List AV)(H:AH):Rs:=
 hd vs fun a vs=>hd vs fun b vs=>hd vs fun c vs=>hd vs fun d vs=>hd vs fun e vs=>hd vs fun f vs=>hd vs fun g vs=>hd vs fun h vs=>
 bV (lnSl g) fun i=>
 bV (qN .lss h i) fun k=>
 cnd k (bV (jW 1 g h) fun m=>
 bV (ld1 m H) fun o=>
 bR (f8 D n [f,(.int .i64 (.ofNat 1)),o,(.int .i64 (.ofNat 9))] H) fun p H=>
 bV (qK p 0) fun r=>
 bV (qK p 1) fun t=>
 bV (qN .lss h (.int .i64 (.ofNat 256))) fun u=>
 jn (wnt u true (bV (qN .neq t (.int .i64 (.ofNat 0))) fun v=>
 some (.norm [v],H)) (some (.norm [qM],H))) fun vs H=>hd vs fun w vs=>
 jn (wnt w false (bR (f22 D n [(.str 1 97)] H) fun x H=>
 bV (qN .mul (.int .i64 (.ofNat 256)) x) fun y=>
 bV (qN .add y h) fun z=>
 bV (qN .add z (.int .i64 (.ofNat 1))) fun B=>
 bV (qN .neq r B) fun C=>
 some (.norm [C],H)) (some (.norm [qM],H))) fun vs H=>hd vs fun E vs=>
 jn (wnt u true (bV (pk3 (some w) (some (.bool true)) (some E)) fun F=>
 some (.norm [F],H)) (some (.norm [qM],H))) fun vs H=>hd vs fun G vs=>
 bV (pk3 (some u) (some G) (some (.bool false))) fun I=>
 jn (wnt I false (bV (qN .eql h (.int .i64 (.ofNat 256))) fun J=>
 some (.norm [J],H)) (some (.norm [qM],H))) fun vs H=>hd vs fun K vs=>
 jn (wnt K true (bV (qN .neq t (.int .i64 (.ofNat 3))) fun M=>
 some (.norm [M],H)) (some (.norm [qM],H))) fun vs H=>hd vs fun N vs=>
 jn (wnt I false (bV (pk3 (some K) (some N) (some (.bool false))) fun O=>
 some (.norm [O],H)) (some (.norm [qM],H))) fun vs H=>hd vs fun P vs=>
 bV (pk3 (some I) (some (.bool true)) (some P)) fun Q=>
 cnd Q (bV (some (.bool false)) fun R=>some (.ret R,H))
 (bV (qN .add h (.int .i64 (.ofNat 1))) fun T=>
 some (.norm [a,b,c,d,e,f,g,T],H)))
 (some (.exit 2 [a,b,c,d,e,f,g],H))
def zJP (D:Dyn)(n:Nat)(vs:List AV)(H:AH):Rs:=
 hd vs fun a vs=>hd vs fun b vs=>hd vs fun c vs=>hd vs fun d vs=>hd vs fun e vs=>hd vs fun f vs=>hd vs fun g vs=>
 bV (jW 1 g (.int .i64 (.ofNat 7))) fun h=>
 bV (ld1 h H) fun i=>
 bR (f10 D n [f,(.int .i64 (.ofNat 1)),i] H) fun k H=>
 bV (qK k 0) fun m=>
 bV (qK k 1) fun o=>
 bV (jW 1 g (.int .i64 (.ofNat 256))) fun p=>
 bV (ld1 p H) fun r=>
 bR (f8 D n [f,(.int .i64 (.ofNat 1)),r,(.int .i64 (.ofNat 8))] H) fun t H=>
 bV (qK t 0) fun u=>
 bV (qK t 1) fun v=>
 bV (jW 1 g (.int .i64 (.ofNat 200))) fun w=>
 bV (ld1 w H) fun x=>
 bR (f12 D n [f,(.int .i64 (.ofNat 1)),x] H) fun y H=>
 bV (qK y 0) fun z=>
 bV (qK y 1) fun B=>
 bV (qK y 2) fun C=>
 bR (f8 D n [f,(.int .i64 (.ofNat 0)),(.str 1 97),(.int .i64 (.ofNat 1))] H) fun E H=>
 bV (qK E 0) fun F=>
 bV (qK E 1) fun G=>
 bR (f8 D n [f,(.int .i64 (.ofNat 1)),(.str 1 98),(.int .i64 (.ofNat 0))] H) fun I H=>
 bV (qK I 0) fun J=>
 bV (qK I 1) fun K=>
 bR (f8 D n [f,(.int .i64 (.ofNat 1)),(.str 2 11822),(.int .i64 (.ofNat 1))] H) fun M H=>
 bV (qK M 0) fun N=>
 bV (qK M 1) fun O=>
 bR (f14 D n [f,(.int .i64 (.ofNat 1)),(.int .i64 (.negSucc 0)),(.int .i64 (.ofNat 0))] H) fun P H=>
 bV (qK P 0) fun Q=>
 bV (qK P 1) fun R=>
 bV (qK P 2) fun T=>
 bR (f17 D n [f,(.int .i64 (.ofNat 2147483648))] H) fun U H=>
 bV (qK U 0) fun V=>
 bV (qK U 1) fun W=>
 bV (lnSl g) fun Y=>
 bV (qN .eql Y (.int .i64 (.ofNat 257))) fun Z=>
 jn (wnt Z true (bV (qN .eql a (.int .i64 (.ofNat 2))) fun a0=>
 some (.norm [a0],H)) (some (.norm [qM],H))) fun vs H=>hd vs fun a1 vs=>
 bV (pk3 (some Z) (some a1) (some (.bool false))) fun a2=>
 jn (wnt a2 true (bV (qN .eql b (.int .i64 (.ofNat 2))) fun a3=>
 some (.norm [a3],H)) (some (.norm [qM],H))) fun vs H=>hd vs fun a4 vs=>
 bV (pk3 (some a2) (some a4) (some (.bool false))) fun a5=>
 jn (wnt a5 true (bV (qN .eql c (.int .i64 (.ofNat 2))) fun a6=>
 some (.norm [a6],H)) (some (.norm [qM],H))) fun vs H=>hd vs fun a7 vs=>
 bV (pk3 (some a5) (some a7) (some (.bool false))) fun a8=>
 jn (wnt a8 true (bV (qN .eql d (.int .i64 (.ofNat 2))) fun a9=>
 some (.norm [a9],H)) (some (.norm [qM],H))) fun vs H=>hd vs fun b0 vs=>
 bV (pk3 (some a8) (some b0) (some (.bool false))) fun b1=>
 jn (wnt b1 true (bV (qN .eql e (.int .i64 (.ofNat 2))) fun b2=>
 some (.norm [b2],H)) (some (.norm [qM],H))) fun vs H=>hd vs fun b3 vs=>
 bV (pk3 (some b1) (some b3) (some (.bool false))) fun b4=>
 jn (wnt b4 true (bV (qN .eql m (.int .i64 (.ofNat 9))) fun b5=>
 some (.norm [b5],H)) (some (.norm [qM],H))) fun vs H=>hd vs fun b6 vs=>
 bV (pk3 (some b4) (some b6) (some (.bool false))) fun b7=>
 jn (wnt b7 true (bV (qN .eql o (.int .i64 (.ofNat 0))) fun b8=>
 some (.norm [b8],H)) (some (.norm [qM],H))) fun vs H=>hd vs fun b9 vs=>
 bV (pk3 (some b7) (some b9) (some (.bool false))) fun c0=>
 jn (wnt c0 true (bR (f22 D n [(.str 1 97)] H) fun c1 H=>
 bV (qN .mul (.int .i64 (.ofNat 256)) c1) fun c2=>
 bV (qN .add c2 (.int .i64 (.ofNat 8))) fun c3=>
 bV (qN .eql u c3) fun c4=>
 some (.norm [c4],H)) (some (.norm [qM],H))) fun vs H=>hd vs fun c5 vs=>
 bV (pk3 (some c0) (some c5) (some (.bool false))) fun c6=>
 jn (wnt c6 true (bV (qN .eql v (.int .i64 (.ofNat 0))) fun c7=>
 some (.norm [c7],H)) (some (.norm [qM],H))) fun vs H=>hd vs fun c8 vs=>
 bV (pk3 (some c6) (some c8) (some (.bool false))) fun c9=>
 jn (wnt c9 true (bR (f22 D n [(.str 1 97)] H) fun d0 H=>
 bV (qN .mul (.int .i64 (.ofNat 256)) d0) fun d1=>
 bV (qN .add d1 (.int .i64 (.ofNat 201))) fun d2=>
 bV (qN .eql B d2) fun d3=>
 some (.norm [d3],H)) (some (.norm [qM],H))) fun vs H=>hd vs fun d4 vs=>
 bV (pk3 (some c9) (some d4) (some (.bool false))) fun d5=>
 jn (wnt d5 true (bV (qN .eql C (.int .i64 (.ofNat 0))) fun d6=>
 some (.norm [d6],H)) (some (.norm [qM],H))) fun vs H=>hd vs fun d7 vs=>
 bV (pk3 (some d5) (some d7) (some (.bool false))) fun d8=>
 jn (wnt d8 true (bV (qN .eql G (.int .i64 (.ofNat 1))) fun d9=>
 some (.norm [d9],H)) (some (.norm [qM],H))) fun vs H=>hd vs fun e0 vs=>
 bV (pk3 (some d8) (some e0) (some (.bool false))) fun e1=>
 jn (wnt e1 true (bV (qN .eql K (.int .i64 (.ofNat 1))) fun e2=>
 some (.norm [e2],H)) (some (.norm [qM],H))) fun vs H=>hd vs fun e3 vs=>
 bV (pk3 (some e1) (some e3) (some (.bool false))) fun e4=>
 jn (wnt e4 true (bV (qN .eql O (.int .i64 (.ofNat 56))) fun e5=>
 some (.norm [e5],H)) (some (.norm [qM],H))) fun vs H=>hd vs fun e6 vs=>
 bV (pk3 (some e4) (some e6) (some (.bool false))) fun e7=>
 jn (wnt e7 true (bV (qN .eql T (.int .i64 (.ofNat 1))) fun e8=>
 some (.norm [e8],H)) (some (.norm [qM],H))) fun vs H=>hd vs fun e9 vs=>
 bV (pk3 (some e7) (some e9) (some (.bool false))) fun g0=>
 jn (wnt g0 true (bV (qN .eql W (.int .i64 (.ofNat 1))) fun g1=>
 some (.norm [g1],H)) (some (.norm [qM],H))) fun vs H=>hd vs fun g2 vs=>
 bV (pk3 (some g0) (some g2) (some (.bool false))) fun g3=>
 jn (wnt g3 true (bR (z6 D n [] H) fun g4 H=>
 some (.norm [g4],H)) (some (.norm [qM],H))) fun vs H=>hd vs fun g5 vs=>
 bV (pk3 (some g3) (some g5) (some (.bool false))) fun g6=>
 bV (some g6) fun g7=>some (.ret g7,H)
def zLZ (D:Dyn)(n:Nat)(vs:List AV)(H:AH):Rs:=
 hd vs fun a vs=>hd vs fun b vs=>hd vs fun c vs=>hd vs fun d vs=>hd vs fun e vs=>hd vs fun f vs=>hd vs fun g vs=>
 jb 2 (qX n (zCe D n) [a,b,c,d,e,f,g,(.int .i64 (.ofNat 0))] H) (zJP D n)
def f4z (D:Dyn)(n:Nat)(vs:List AV)(H:AH):Option (AV×AH):=
 outR (nl vs <|
 bR (f12 D n [.nilPtr,(.int .i64 (.ofNat 1)),(.str 1 97)] H) fun a H=>
 bV (qK a 0) fun b=>
 bV (qK a 1) fun c=>
 bV (qK a 2) fun d=>
 bR (f8 D n [.nilPtr,(.int .i64 (.ofNat 1)),(.str 1 97),(.int .i64 (.ofNat 1))] H) fun e H=>
 bV (qK e 0) fun f=>
 bV (qK e 1) fun g=>
 bR (f10 D n [.nilPtr,(.int .i64 (.ofNat 1)),(.str 1 97)] H) fun h H=>
 bV (qK h 0) fun i=>
 bV (qK h 1) fun k=>
 bR (f14 D n [.nilPtr,(.int .i64 (.ofNat 1)),(.int .i64 (.ofNat 0)),(.int .i64 (.ofNat 0))] H) fun m H=>
 bV (qK m 0) fun o=>
 bV (qK m 1) fun p=>
 bV (qK m 2) fun r=>
 bR (f17 D n [.nilPtr,(.int .i64 (.ofNat 1))] H) fun t H=>
 bV (qK t 0) fun u=>
 bV (qK t 1) fun v=>
 bR (f7 D n [] H) fun w H=>
 bV (vH .eql (eqP w .nilPtr)) fun x=>
 cnd x (bV (some (.bool false)) fun y=>some (.ret y,H))
 (jb 0 (qX n (zA8 D n) [d,g,k,r,v,w, .nilSlice,(.int .i64 (.ofNat 0))] H) (zLZ D n)))
def h4z:Hint:=(.s .o (.s .o (.s .o (.s .o (.s .o (.s .o (.s .o (.s (.s .o (.cl (.s .o .o) .o)) (.s .o (.s (.s .o (.b [3,5,7,10,12,13,14] (.l [3,5,7,10,12,13,14,15] (.s (.s .o (.cr .o .o)) (.s (.b0 (.s .o (.s .o (.c [3,5,7,10,12,13,14,15] .o .o)))) .o))))) (.s (.s .o (.b [3,5,7,10,12,13,14] (.l [3,5,7,10,12,13,14,17] (.s (.s .o (.cr .o .o)) (.s (.b0 (.s .o (.s .o (.cl (.s .o .o) .o)))) .o))))) (.s .o (.s .o (.s .o (.s .o (.s .o (.s .o (.s .o (.s .o (.s .o .o))))))))))))))))))))
theorem f4z_ok {D:Dyn}(hD:DG D)(n:Nat):FI 4 (f4z D n):=qR (n:=n) (h:=h4z) X_ok hD (sc (zBo hD n) (sc (zGS hD n) (sc (zBp hD n) (sc (U2 hD n) (sc (zBn hD n) (sc (zGW hD n) (sc (QK hD n) (sc (z6_ok hD n) (SOk.nil))))))))) Tryz.func4 (by kernel_rfl) (by kernel_rfl)
end Go.Eng.Sh
end
end
section
namespace Go.Nd
abbrev Str:=List UInt8
structure Ptr where
 at_:Int
 birth:Int
 sum:Int
 deriving DecidableEq
structure Node where
 leaf:Bool
 keys:List Str
 vals:List Str
 kids:List Ptr
 deriving DecidableEq
def be:Nat→Nat→Str
 | 0,_=>[]
 | k+1,n=>be k (n / 256)++[UInt8.ofNat n]
theorem be_length: ∀k n,(be k n).length=k
 | 0,_=>rfl
 | k+1,n=>by simp[be,be_length k]
def zJi (p:Ptr):Bool:=if p.at_=0 then decide (p.birth=0)&&decide (p.sum=0)else decide (0<p.at_)&&decide (p.at_<8192)&&decide (0≤p.birth)&&decide (p.birth≤2147483647)
def encP (p:Ptr):Str:=be 4 p.at_.toNat++(be 4 p.birth.toNat++be 8 p.sum.toNat)
theorem encP_length (p:Ptr):(encP p).length=16:=by simp[encP,be_length]
def sumOk (p:Ptr):Prop:=0≤p.sum∧p.sum<18446744073709551616
def encT (s:Str):Str:=UInt8.ofNat s.length::s
def mayK (k:Str):Bool:=decide (1≤k.length)&&decide (k.length≤40)
def rising (lt:Str→Str→Bool):List Str→Bool
 | []=>true
 | [_]=>true
 | a::b::l=>lt a b&&rising lt (b::l)
def kidOk (p:Ptr):Bool:=decide (1≤p.at_)&&decide (p.at_<8192)&&decide (0≤p.birth)&&decide (p.birth≤2147483647)
def shaped (lt:Str→Str→Bool)(n:Node):Bool:=
 n.keys.all mayK&&rising lt n.keys&&
 (if n.leaf then decide (n.vals.length=n.keys.length)&&decide (n.kids=[])&&n.vals.all (fun v=>decide (v.length≤200))
  else decide (n.keys≠[])&&decide (n.vals=[])&&decide (n.kids.length=n.keys.length+1)&&n.kids.all kidOk)
def yF (l:List Str):Nat:=l.foldl (fun n s=>n+(1+s.length)) 0
theorem XJ (l:List Str)(a:Nat):l.foldl (fun n s=>n+(1+s.length)) a=a+yF l:=by
 induction l generalizing a with
 | nil=>simp[yF]
 | cons s l ih=>simp only[List.foldl_cons,yF];rw[ih,ih];omega
theorem sumL_cons (s:Str)(l:List Str):yF (s::l)=1+s.length+yF l:=by
 simp only[yF,List.foldl_cons];rw[XJ,XJ];simp[yF]
theorem sumL_append (l m:List Str):yF (l++m)=yF l+yF m:=by
 induction l with
 | nil=>simp[yF]
 | cons s l ih=>rw[List.cons_append,sumL_cons,sumL_cons,ih];omega
def size (n:Node):Nat:=2+16*n.kids.length+yF n.keys+yF n.vals
def may (lt:Str→Str→Bool)(n:Node):Bool:=shaped lt n&&decide (size n≤500)
def encL:List Str→List Str→Str
 | k::ks,v::vs=>encT k++(encT v++encL ks vs)
 | _,_=>[]
def encI:List Str→List Ptr→Str
 | k::ks,p::ps=>encT k++(encP p++encI ks ps)
 | _,_=>[]
def encB (n:Node):Str:=if n.leaf then encL n.keys n.vals else match n.kids with
 | p::ps=>encP p++encI n.keys ps
 | []=>[]
def encN (n:Node):Str:=be 2 n.keys.length++encB n
theorem sumL_ge (l:List Str):l.length≤yF l:=by
 induction l with
 | nil=>simp
 | cons s l ih=>rw[sumL_cons,zG];omega
end Go.Nd
end
section
namespace Go.Eng
theorem xV {b:List AV→AH→Rs}{H:AH}{r:Rs}(st:Nat→List AV)(N:Nat)(step: ∀i,i<N→b (st i) H=some (.norm (st (i+1)),H))(last: ∀n,qX (n+1) b (st N) H=r): ∀n,N<n→qX n b (st 0) H=r:=by
 suffices h: ∀(m i n:Nat),i+m=N→m<n→qX n b (st i) H=r from fun n hn=>h N 0 n (by omega) hn
 intro m
 induction m with
 | zero=>
  intro i n hi hn
  obtain⟨n,rfl⟩: ∃k,n=k+1:=⟨n - 1,by omega⟩
  rw[show i=N by omega];exact last n
 | succ m ih=>
  intro i n hi hn
  obtain⟨n,rfl⟩: ∃k,n=k+1:=⟨n - 1,by omega⟩
  rw[vN (step i (by omega))]
  exact ih (i+1) n (by omega) (by omega)
theorem fU {α:Type}(l:List α)(i:Nat)(h:i<l.length):l.take (i+1)=l.take i++[l[i]]:=by
 rw[zN h]
theorem aZ (H:AH)(l:List AV)(e sz o:Nat)(g:Bool):ld1 (.ptr H.next o) (H.push (.cells l e sz g))=l[o]? :=by simp only[ld1,AH.push_get_eq,hJ]
theorem zGE (H:AH)(l:List AV)(e sz o n:Nat)(g:Bool):ldN n (.ptr H.next o) (H.push (.cells l e sz g))=(vT l o n).map .agg:=by
 simp only[ldN,AH.push_get_eq];cases vT l o n<;>rfl
theorem zDW {H:AH}{A:Nat}(o:Nat)(x:AObj)(h:A<H.next):ld1 (.ptr A o) (H.push x)=ld1 (.ptr A o) H:=by simp only[ld1,AH.push_get_ne _ _ h]
theorem zJn {H:AH}{A:Nat}(o n:Nat)(x:AObj)(h:A<H.next):ldN n (.ptr A o) (H.push x)=ldN n (.ptr A o) H:=by simp only[ldN,AH.push_get_ne _ _ h]
theorem xU {b:List AV→AH→Rs}(N:Nat)(I:Nat→List AV→AH→Prop)(step: ∀i vs H,i<N→I i vs H→ ∃vs' H',b vs H=some (.norm vs',H')∧I (i+1) vs' H'):
  ∀(n:Nat) (vs:List AV) (H:AH),I 0 vs H→N<n→ ∃m vs' H',qX n b vs H=qX (m+1) b vs' H'∧I N vs' H':=by
 suffices h: ∀(m i n:Nat) (vs:List AV) (H:AH),i+m=N→m<n→I i vs H→ ∃m vs' H',qX n b vs H=qX (m+1) b vs' H'∧I N vs' H' from fun n vs H h0 hn=>h N 0 n vs H (by omega) hn h0
 intro m
 induction m with
 | zero=>
  intro i n vs H hi hn hI
  obtain⟨n,rfl⟩: ∃k,n=k+1:=⟨n - 1,by omega⟩
  exact⟨n,vs,H,rfl,by rw[show N=i by omega];exact hI⟩
 | succ m ih=>
  intro i n vs H hi hn hI
  obtain⟨n,rfl⟩: ∃k,n=k+1:=⟨n - 1,by omega⟩
  obtain⟨vs',H',h1,h2⟩:=step i vs H (by omega) hI
  rw[vN h1]
  exact ih (i+1) n vs' H' (by omega) (by omega) h2
def notN:Ex→Bool
 | .norm _=>false
 | _=>true
theorem zDZ {e:Ex}{H:AH}{K:List AV→AH→Rs}(h:notN e=true):jn (some (e,H)) K=some (e,H):=by cases e<;>first | rfl | (simp[notN]at h)
theorem KM {b:List AV→AH→Rs}(N:Nat)(good:Nat→Bool)(I:Nat→List AV→AH→Prop)(Good Bad:Ex→AH→Prop)
  (step: ∀i vs H,i<N→I i vs H→good i=true→ ∃vs' H',b vs H=some (.norm vs',H')∧I (i+1) vs' H')
  (bad: ∀i vs H,i<N→I i vs H→good i=false→ ∃e H',b vs H=some (e,H')∧notN e=true∧Bad e H')
  (last: ∀vs H,I N vs H→ ∃e H',b vs H=some (e,H')∧notN e=true∧Good e H'):
  ∀(n:Nat) (vs:List AV) (H:AH),I 0 vs H→N<n→ ∃e H',qX n b vs H=some (e,H')∧if(List.range N).all good then Good e H' else Bad e H':=by
 suffices h: ∀(m i n:Nat) (vs:List AV) (H:AH),i+m=N→m<n→I i vs H→(∀j,j<i→good j=true)→ ∃e H',qX n b vs H=some (e,H')∧if(List.range N).all good then Good e H' else Bad e H' from
  fun n vs H h0 hn=>h N 0 n vs H (by omega) hn h0 (fun j hj=>by omega)
 intro m
 induction m with
 | zero=>
  intro i n vs H hi hn hI hg
  obtain⟨n,rfl⟩: ∃k,n=k+1:=⟨n - 1,by omega⟩
  rw[show i=N by omega]at hI hg
  obtain⟨e,H',h1,h2,h3⟩:=last vs H hI
  refine⟨e,H', ?_, ?_⟩
  ·show jn (b vs H) _=_
   rw[h1,zDZ h2]
  ·rw[if_pos (by simpa[List.all_eq_true]using hg)];exact h3
 | succ m ih=>
  intro i n vs H hi hn hI hg
  obtain⟨n,rfl⟩: ∃k,n=k+1:=⟨n - 1,by omega⟩
  cases hgi:good i with
  | true=>
   obtain⟨vs',H',h1,h2⟩:=step i vs H (by omega) hI hgi
   rw[vN h1]
   exact ih (i+1) n vs' H' (by omega) (by omega) h2 (fun j hj=>by
    rcases Nat.lt_succ_iff_lt_or_eq.1 hj with h | rfl
    ·exact hg j h
    ·exact hgi)
  | false=>
   obtain⟨e,H',h1,h2,h3⟩:=bad i vs H (by omega) hI hgi
   refine⟨e,H', ?_, ?_⟩
   ·show jn (b vs H) _=_
    rw[h1,zDZ h2]
   ·rw[if_neg (by
     simp only[List.all_eq_true,List.mem_range];intro h
     have:=h i (by omega)
     rw[hgi]at this;cases this)];exact h3
theorem zCu (want:Bool)(x y:Rs):wnt qM want x y=y:=by cases want<;>rfl
theorem zBy (k k':IntKind){a:Int}{s:Nat}(ha:0≤a)(hs:s≤k.bits):qN .shr (.int k a) (.int k' (s:Int))=some (.int k (a / 2 ^ s)):=by
 show fI (a.fdiv ((2 ^ (Nat.min s k.bits):Nat):Int)) (fun r=>some (AV.int k r))=_
 rw[zA5,show Nat.min s k.bits=s from Nat.min_eq_left hs,Int.fdiv_eq_ediv_of_nonneg _ (Int.natCast_nonneg _)]
 simp
theorem zHu (k k':IntKind)(a:Int){s:Nat}(hs:s≤k.bits):qN .shl (.int k a) (.int k' (s:Int))=some (.int k (k.wrap (a*2 ^ s))):=by
 show mkI k (a*(2 ^ (Nat.min s k.bits):Nat))=_
 rw[kV,show Nat.min s k.bits=s from Nat.min_eq_left hs];simp
theorem yI {v:AV}(h:isCell v=true):qS v=[v]:=by cases v<;>first | rfl | (simp[isCell]at h)
theorem Rw.isCell {k n:Nat}{H:AH}{v:AV}{l:List AV}(h:Rw k H v n l):Eng.isCell v=true:=by
 obtain⟨_,⟨rfl,_⟩ | ⟨rfl,_⟩ | ⟨A,off,cc,c,e,sz,g,rfl,_⟩⟩:=h<;>rfl
theorem JR (k:IntKind)(a b:Int):UJ (dI k) (.int k a) (.int k b)=some (decide (a=b)):=by
 have:keq k k=true:=by rw[kB];simp
 simp only[UJ,Nat.beq_refl,this,Bool.and_self,cond_true,kC]
 congr 1
theorem yK {k n:Nat}{H:AH}{v:AV}{l:List AV}(h:Rw k H v n l):aveq v v=true:=by
 obtain⟨_,⟨rfl,_⟩ | ⟨rfl,_⟩ | ⟨A,off,cc,c,e,sz,g,rfl,_⟩⟩:=h
 ·rfl
 ·rfl
 ·simp[aveq]
theorem j0 {x:Option AV}{v:AV}{K:Rs}(h:x=some v)(hv:aveq v v=true):chk x v K=K:=by subst h;simp[chk,hv]
theorem qL {H:AH}{A:Nat}{l:List AV}{e:TypeId}{sz:Nat}{g:Bool}(h:H.h.get A=some (.cells l e sz g))(o:Nat):ld1 (.ptr A o) H=l[o]? :=by simp only[ld1,h,hJ]
theorem qQ {H:AH}{A:Nat}{l:List AV}{e:TypeId}{sz:Nat}{g:Bool}(h:H.h.get A=some (.cells l e sz g))(o n:Nat):ldN n (.ptr A o) H=(vT l o n).map .agg:=by simp only[ldN,h];cases vT l o n<;>rfl
theorem zLm (b c:Bool)(H:AH)(K:AV→AH→Rs):
  jn (if b=false then some (.norm [.bool c],H)else some (.norm [qM],H)) (fun vs H=>hd vs fun y _=>bV (if b=true then some (.bool true)else some y) fun x=>K x H)=K (.bool (b||c)) H:=by
 cases b<;>simp[jn,hd,bV]
theorem zLl (p:Prop)[Decidable p](b:Bool)(H:AH)(K:AV→AH→Rs):
  jn (if ¬p then some (.norm [.bool b],H)else some (.norm [qM],H)) (fun vs H=>hd vs fun y _=>bV (if p then some (.bool true)else some y) fun x=>K x H)=K (.bool (decide p||b)) H:=by
 by_cases h:p<;>simp[h,jn,hd,bV]
theorem lg:(∀(p:Prop) [Decidable p] (b:Bool) (H:AH) (K:AV→AH→Rs),jn (if ¬p then some (.norm [.bool b],H)else some (.norm [qM],H)) (fun vs H=>hd vs fun y _=>bV (if p then some (.bool true)else some y) fun x=>K x H)=K (.bool (decide p||b)) H)∧
  (∀(p:Prop) [Decidable p] (b:Bool) (H:AH) (K:AV→AH→Rs),jn (if p then some (.norm [.bool b],H)else some (.norm [qM],H)) (fun vs H=>hd vs fun y _=>bV (if p then some y else some (.bool false)) fun x=>K x H)=K (.bool (decide p&&b)) H)∧
  (∀(p:Prop) [Decidable p] (b:Bool) (H:AH) (K:AV→AH→Rs),jn (if p then some (.norm [qM],H)else some (.norm [.bool b],H)) (fun vs H=>hd vs fun y _=>bV (if p then some (.bool true)else some y) fun x=>K x H)=K (.bool (decide p||b)) H)∧
  (∀(b c:Bool) (H:AH) (K:AV→AH→Rs),jn (if b=false then some (.norm [.bool c],H)else some (.norm [qM],H)) (fun vs H=>hd vs fun y _=>bV (if b=true then some (.bool true)else some y) fun x=>K x H)=K (.bool (b||c)) H)∧
  (∀(p:Prop) [Decidable p],(decide p=true)=p)∧(∀(p:Prop) [Decidable p],(decide p=false)= ¬p)∧(∀(b:Bool),decide (b=true)=b):=
 ⟨fun p _ b H K=>zLl p b H K,fun p _ b H K=>zLo p b H K,fun p _ b H K=>jn_or p b H K,zLm,fun p _=>zD,fun p _=>by simp,fun b=>by simp⟩
theorem ev:(∀(v:AV) (vs:List AV) (K:AV→List AV→Rs),hd (v::vs) K=K v vs)∧
 (∀(K:Rs),nl [] K=K)∧
 (∀(v:AV) (K:AV→Rs),bV (some v) K=K v)∧
 (∀(v:AV) (H:AH) (K:AV→AH→Rs),bR (some (v,H)) K=K v H)∧
 (∀(vs:List AV) (H:AH) (K:List AV→AH→Rs),jn (some (.norm vs,H)) K=K vs H)∧
 (∀(v:AV) (H:AH) (K:List AV→AH→Rs),jn (some (.ret v,H)) K=some (.ret v,H))∧
 (∀(i:Nat) (vs:List AV) (H:AH) (K:List AV→AH→Rs),jn (some (.exit i vs,H)) K=some (.exit i vs,H))∧
 (∀(id:Nat) (vs:List AV) (H:AH) (K:List AV→AH→Rs),jb id (some (.norm vs,H)) K=K vs H)∧
 (∀(id:Nat) (v:AV) (H:AH) (K:List AV→AH→Rs),jb id (some (.ret v,H)) K=some (.ret v,H))∧
 (∀(id:Nat) (vs:List AV) (H:AH) (K:List AV→AH→Rs),jb id (some (.exit id vs,H)) K=K vs H)∧
 (∀(v:AV) (H:AH),outR (some (.ret v,H))=some (v,H))∧
 (∀(b:Bool) (x y:Rs),cnd (.bool b) x y=if b then x else y)∧
 (∀(b want:Bool) (x y:Rs),wnt (.bool b) want x y=if b=want then x else y)∧
 (∀(b:Bool) (x y:Option AV),pk3 (some (.bool b)) x y=if b then x else y)∧
 (∀(k:IntKind) (a b:Int),qN .add (.int k a) (.int k b)=some (.int k (k.wrap (a+b))))∧
 (∀(k:IntKind) (a b:Int),qN .sub (.int k a) (.int k b)=some (.int k (k.wrap (a - b))))∧
 (∀(k:IntKind) (a b:Int),qN .mul (.int k a) (.int k b)=some (.int k (k.wrap (a*b))))∧
 (∀(k:IntKind) (a b:Int),qN .eql (.int k a) (.int k b)=some (.bool (decide (a=b))))∧
 (∀(k:IntKind) (a b:Int),qN .neq (.int k a) (.int k b)=some (.bool (decide (a≠b))))∧
 (∀(k:IntKind) (a b:Int),qN .lss (.int k a) (.int k b)=some (.bool (decide (a<b))))∧
 (∀(k:IntKind) (a b:Int),qN .leq (.int k a) (.int k b)=some (.bool (decide (a≤b))))∧
 (∀(k:IntKind) (a b:Int),qN .gtr (.int k a) (.int k b)=some (.bool (decide (b<a))))∧
 (∀(k:IntKind) (a b:Int),qN .geq (.int k a) (.int k b)=some (.bool (decide (b≤a))))∧
 (∀(k k':IntKind) (z:Int),cvI k (.int k' z)=some (.int k (k.wrap z)))∧
 (∀(a b:Bool),WQ .eql (.bool a) (.bool b)=some (.bool (a==b)))∧
 (∀(a b:Bool),WQ .neq (.bool a) (.bool b)=some (.bool (!(a==b))))∧
 (∀(b:Bool),aun .not (.bool b)=some (.bool !b))∧
 (∀(l:Str),wP (S l)=some (.int .i64 (l.length:Nat)))∧
 (∀(l m:Str),kO .eql (S l) (S m)=some (.bool (decide (l=m))))∧
 (∀(l m:Str),kO .neq (S l) (S m)=some (.bool (decide (l≠m))))∧
 (∀(l m:Str),kO .lss (S l) (S m)=some (.bool (ltS l m)))∧
 (∀(l m:Str),kO .geq (S l) (S m)=some (.bool (!ltS l m)))∧
 (∀(A o:Nat),xQ (.ptr A o)=some (.ptr A o))∧
 (∀(f A o:Nat),fAd f (.ptr A o)=some (.ptr A (o+f)))∧
 (∀(e:TypeId) (x:AV),bxV e x=some (.cells (qS x) e 1 false,fun A=> .ptr A 0))∧
 (∀(l:List AV),qS (.agg l)=l)∧
 (∀(H:AH) (l:List AV) (e sz o:Nat) (g:Bool),ld1 (.ptr H.next o) (H.push (.cells l e sz g))=l[o]?)∧
 (∀(H:AH) (l:List AV) (e sz o n:Nat) (g:Bool),ldN n (.ptr H.next o) (H.push (.cells l e sz g))=(vT l o n).map .agg)∧
 (∀(a:AV) (l:List AV),(a::l)[0]? =some a)∧
 (∀(a:AV) (l:List AV) (i:Nat),(a::l)[i+1]? =l[i]?)∧
 (∀(n:Nat),0+n=n)∧
 (∀(n:Nat),Int.ofNat n=(n:Int))∧
 (∀(z:Int), -9223372036854775808≤z→z≤9223372036854775807→IntKind.wrap .i64 z=z):=
 ⟨fC,zDO,bVs,bRs,KT,zLk,zJq,zJr,zLp,zJs,zAR,zCi,zKy,zL3,Z7,zHt,zBB,zHw,zBA,dY,zBC,zBD,zBE,zAj,zFu,zFt,zK5,u0,jK,u5,WN,dW,zGo,zJC,fun _ _=>rfl,fun _=>rfl,aZ,zGE,fun _ _=>List.getElem?_cons_zero,fun _ _ _=>List.getElem?_cons_succ,Nat.zero_add,fun _=>rfl,fun _ h1 h2=>wrap_i64 h1 h2⟩
def eZ:=And.intro zCu (And.intro ev (And.intro lg ew))
def jA (k e:Nat)(H:AH)(v:AV)(n:Nat)(l:List AV):Prop:=
 Own k e H v n l∨(l.length=n*k∧ ∃A e' g,v= .slice A 0 n (2*n)∧A<H.next∧H.h.get A=some (.cells l e' k g))
theorem jA.len {k e n:Nat}{H:AH}{v:AV}{l:List AV}(h:jA k e H v n l):l.length=n*k:=by
 rcases h with h | h
 ·exact h.1
 ·exact h.1
theorem jA.row {k e n:Nat}{H:AH}{v:AV}{l:List AV}(h:jA k e H v n l):Rw k H v n l:=by
 rcases h with h | ⟨h0,A,e',g,rfl,hA,hg⟩
 ·exact h.row
 ·exact⟨h0, .inr (.inr ⟨A,0,2*n,l,e',k,g,rfl,hg,hA,by omega,by rw[List.drop_zero,zL (by omega)]⟩)⟩
theorem jA.mono {k e n:Nat}{S:Nat→Prop}{H H':AH}{v:AV}{l:List AV}(h:jA k e H v n l)(s:Stp S H H')(hS: ∀A,Blk v A→ ¬S A):jA k e H' v n l:=by
 rcases h with h | ⟨h0,A,e',g,rfl,hA,hg⟩
 ·exact .inl (h.mono s hS)
 ·exact .inr ⟨h0,A,e',g,rfl,zQ hA s.next,by rw[s.keep A hA (hS A (Blk.slice.2 rfl))];exact hg⟩
theorem jA.lt {k e n:Nat}{H:AH}{v:AV}{l:List AV}(h:jA k e H v n l){B:Nat}(hB:Blk v B):B<H.next:=by
 rcases h with⟨_,⟨rfl,_⟩ | ⟨A,rfl,hA,_⟩⟩ | ⟨_,A,e',g,rfl,hA,_⟩
 ·exact(Blk.nil.1 hB).elim
 ·rw[Blk.slice.1 hB];exact hA
 ·rw[Blk.slice.1 hB];exact hA
theorem jA.app1 {k e bytes n m:Nat}{H:AH}{v:AV}{l new:List AV}(hk:H.ok)(hpos:0<k)(h:jA k e H v n l)(hm:new.length=m*k)(hn:n+m≤1000000000)(hb:bytes≤1000):
  ∃v' H',Eng.app1 e k bytes m new v H=some (v',H')∧jA k e H' v' (n+m) (l++new)∧Stp (Blk v) H H'∧(∀B,Blk v' B→Blk v B∨H.next≤B):=by
 by_cases h0:m=0
 ·subst h0
  have:new=[]:=zF (by simpa using hm)
  subst this
  rcases h with h | ⟨h0,A,e',g,rfl,hA,hg⟩
  ·obtain⟨H',h1,h2,h3,h4⟩:=UT (bytes:=bytes) hk hpos h
   exact⟨v,H',h1, .inl (by simpa using h2),h3.mono (fun _ _ x=>x.elim),fun B hB=> .inl hB⟩
  ·have hroom:yG l g k 0 (2*n) k=n:=by
    simp only[yG,show((2*n) % 2).beq 0=true by rw[Nat.mul_mod_right];rfl,cond_true,Nat.mul_div_cancel_left n (show 0<2 by omega)]
   have hz:Nat.blt 0 k=true:=by rw[zJ];exact hpos
   have hset:setAt l (0+n*k) []=some l:=by rw[vL (by simp;omega)];simp
   have hg':(H.put A (.cells l e' k g)).h.get A=some (.cells l e' k g):=by rw[AH.put_get,if_pos rfl]
   refine⟨.slice A 0 n (2*n),H.put A (.cells l e' k g), ?_, .inr ⟨by simpa using h0,A,e',g,rfl,hA,by simpa using hg'⟩,(Stp.refl hk).put hA _ (.inr (Blk.slice.2 rfl)),fun B hB=> .inl hB⟩
   simp only[Eng.app1,hg,zFx,hroom,Nat.add_zero,Nat.ble_eq_true_of_le (Nat.le_refl n),cond_true,hz,hset,zAq,jB,yB]
 ·rcases h with h | ⟨hl,A,e',g,rfl,hA,hg⟩
  ·obtain⟨H',h1,h2,h3,h4⟩:=WT (bytes:=bytes) hk hpos h hm (by omega) hn hb
   exact⟨_,H',h1, .inl h2,h3,fun B hB=> .inr (by rw[Blk.slice.1 hB];exact Nat.le_refl _)⟩
  ·have h1:=UV (k:=k) (e:=e) (bytes:=bytes) (n:=n) (m:=m) (off:=0) (new:=new) hk hg (by omega) (by omega) hn hb
   rw[List.drop_zero,zL (by omega)]at h1
   refine⟨_,_,h1, .inl ⟨by simp[hl,hm,Nat.add_mul], .inr ⟨H.next,rfl,Nat.lt_succ_self _,AH.push_get_eq _ _⟩⟩,(Stp.refl hk).push _,fun B hB=> .inr (by rw[Blk.slice.1 hB];exact Nat.le_refl _)⟩
theorem jA.app {k e bytes n m:Nat}{H:AH}{v s:AV}{l new:List AV}(hk:H.ok)(hpos:0<k)(h:jA k e H v n l)(hs:srcOf k s H=some (m,new))(hm:new.length=m*k)(hc:qO new=true)(hn:n+m≤1000000000)(hb:bytes≤1000):
  ∃v' H',apP e k bytes v s H=some (v',H')∧jA k e H' v' (n+m) (l++new)∧Stp (Blk v) H H'∧(∀B,Blk v' B→Blk v B∨H.next≤B):=by
 obtain⟨v',H',h1,h2⟩:=h.app1 (bytes:=bytes) (e:=e) hk hpos hm hn hb
 exact⟨v',H',by simp only[apP,hs,hc,cond_true,h1],h2⟩
theorem jA.isCell {k e n:Nat}{H:AH}{v:AV}{l:List AV}(h:jA k e H v n l):isCell v=true:=h.row.isCell
def Box (H:AH)(A:Nat)(v:AV):Prop:= ∃e,H.h.get A=some (.cells [v] e 1 false)
theorem Box.ld {H:AH}{A:Nat}{v:AV}(h:Box H A v):ld1 (.ptr A 0) H=some v:=by
 obtain⟨e,h⟩:=h;rw[qL h];rfl
theorem Box.st {H:AH}{A:Nat}{v x:AV}(h:Box H A v)(hk:H.ok)(hx:Eng.isCell x=true): ∃H',stN 1 (.ptr A 0) x H=some (qM,H')∧Box H' A x∧Stp (fun B=>B=A) H H':=by
 obtain⟨e,h⟩:=h
 exact⟨_,YQ h (by decide) hx (by simp),⟨e,by rw[AH.put_get,if_pos rfl];rfl⟩,(Stp.refl hk).put (hk.lt h) _ (.inr rfl)⟩
theorem Box.mono {S:Nat→Prop}{H H':AH}{A:Nat}{v:AV}(h:Box H A v)(hk:H.ok)(s:Stp S H H')(hA: ¬S A):Box H' A v:=by
 obtain⟨e,h⟩:=h;exact⟨e,by rw[s.keep A (hk.lt h) hA];exact h⟩
theorem Box.lt {H:AH}{A:Nat}{v:AV}(h:Box H A v)(hk:H.ok):A<H.next:=by obtain⟨e,h⟩:=h;exact hk.lt h
end Go.Eng
end
section
namespace Go.Nd
theorem rising_ix (lt:Str→Str→Bool): ∀l:List Str,rising lt l=true↔ ∀i (h:i+1<l.length),lt l[i] l[i+1]=true
 | []=>by simp[rising]
 | [a]=>by simp[rising]
 | a::b::l=>by
  have ih:=rising_ix lt (b::l)
  simp only[rising,z8,ih]
  constructor
  ·rintro⟨h1,h2⟩ i h
   cases i with
   | zero=>exact h1
   | succ i=>exact h2 i (by simpa using h)
  ·intro h
   exact⟨h 0 (by simp),fun i hi=>h (i+1) (by simpa using hi)⟩
theorem rising_take {lt:Str→Str→Bool}{l:List Str}(h:rising lt l=true)(k:Nat):rising lt (l.take k)=true:=by
 rw[rising_ix]at h⊢
 intro i hi
 simp only[zI]at hi
 simp only[List.getElem_take]
 exact h i (by omega)
theorem rising_drop {lt:Str→Str→Bool}{l:List Str}(h:rising lt l=true)(k:Nat):rising lt (l.drop k)=true:=by
 rw[rising_ix]at h⊢
 intro i hi
 simp only[zO]at hi
 simp only[List.getElem_drop]
 exact h (k+i) (by omega)
theorem Z8 {α:Type}{f:α→Bool}{l:List α}(h:l.all f=true)(k:Nat):(l.take k).all f=true:=by
 simp only[List.all_eq_true]at h⊢
 exact fun x hx=>h x (List.mem_of_mem_take hx)
theorem Z9 {α:Type}{f:α→Bool}{l:List α}(h:l.all f=true)(k:Nat):(l.drop k).all f=true:=by
 simp only[List.all_eq_true]at h⊢
 exact fun x hx=>h x (List.mem_of_mem_drop hx)
def cutA (n:Node)(k:Nat):Node:=if n.leaf then⟨true,n.keys.take k,n.vals.take k,[]⟩else⟨false,n.keys.take k,[],n.kids.take (k+1)⟩
def fE (n:Node)(k:Nat):Node:=if n.leaf then⟨true,n.keys.drop k,n.vals.drop k,[]⟩else⟨false,n.keys.drop (k+1),[],n.kids.drop (k+1)⟩
def bY (a:Node)(sep:Str)(b:Node):Node:=if a.leaf then⟨true,a.keys++b.keys,a.vals++b.vals,[]⟩else⟨false,a.keys++([sep]++b.keys),[],a.kids++b.kids⟩
def cutOk (n:Node)(k:Nat):Prop:=1≤k∧k+(if n.leaf then 1 else 2)≤n.keys.length
theorem cut_shaped {lt:Str→Str→Bool}{n:Node}{k:Nat}(h:shaped lt n=true)(hk:cutOk n k):shaped lt (cutA n k)=true∧shaped lt (fE n k)=true:=by
 obtain⟨leaf,keys,vals,kids⟩:=n
 obtain⟨k1,k2⟩:=hk
 cases leaf with
 | true=>
  simp only[shaped,if_true,z8,zD]at h k2
  obtain⟨⟨h1,h2⟩,⟨h3,h4⟩,h5⟩:=h
  simp only[shaped,cutA,fE,if_true,z8,zD]
  exact⟨⟨⟨Z8 h1 k,rising_take h2 k⟩,⟨by simp[h3],trivial⟩,Z8 h5 k⟩,⟨Z9 h1 k,rising_drop h2 k⟩,⟨by simp[h3],trivial⟩,Z9 h5 k⟩
 | false=>
  simp only[shaped,Bool.false_eq_true,if_false,z8,zD]at h k2
  obtain⟨⟨h1,h2⟩,⟨⟨h3,h4⟩,h5⟩,h6⟩:=h
  simp only[shaped,cutA,fE,Bool.false_eq_true,if_false,z8,zD]
  refine⟨⟨⟨Z8 h1 k,rising_take h2 k⟩,⟨⟨?_,trivial⟩, ?_⟩,Z8 h6 _⟩,⟨Z9 h1 _,rising_drop h2 _⟩,⟨⟨?_,trivial⟩, ?_⟩,Z9 h6 _⟩
  ·intro e;have:=congrArg List.length e;rw[zI]at this;simp only[zX]at this;omega
  ·rw[zI,zI];omega
  ·intro e;have:=congrArg List.length e;rw[zO]at this;simp only[zX]at this;omega
  ·rw[zO,zO];omega
theorem sumL_drop_le (l:List Str)(k:Nat):yF (l.drop k)≤yF l:=by
 have:yF l=yF (l.take k)+yF (l.drop k):=by rw[← sumL_append,List.take_append_drop]
 omega
theorem sumL_take_le (l:List Str)(k:Nat):yF (l.take k)≤yF l:=by
 have:yF l=yF (l.take k)+yF (l.drop k):=by rw[← sumL_append,List.take_append_drop]
 omega
theorem cH (l:List Str)(k:Nat):yF l=yF (l.take k)+yF (l.drop k):=by rw[← sumL_append,List.take_append_drop]
theorem cut_size {lt:Str→Str→Bool}{n:Node}{k:Nat}(h:shaped lt n=true)(hk:cutOk n k):size (cutA n k)<size n∧size (fE n k)<size n:=by
 obtain⟨leaf,keys,vals,kids⟩:=n
 obtain⟨k1,k2⟩:=hk
 have p1:=cH keys k
 have g1:=sumL_ge (keys.take k)
 have g2:=sumL_ge (keys.drop k)
 simp only[zI,zO]at g1 g2
 cases leaf with
 | true=>
  simp only[if_true]at k2
  simp only[shaped,if_true,z8,zD]at h
  have p2:=cH vals k
  simp only[cutA,fE,if_true,size,zX,h.2.1.2]
  omega
 | false=>
  simp only[Bool.false_eq_true,if_false]at k2
  simp only[shaped,Bool.false_eq_true,if_false,z8,zD]at h
  have h5:=h.2.1.2
  have p3:=cH keys (k+1)
  have g3:=sumL_ge (keys.take (k+1))
  simp only[zI]at g3
  simp only[cutA,fE,Bool.false_eq_true,if_false,size,h.2.1.1.2,zI,zO]
  have:yF []=0:=rfl
  omega
end Go.Nd
end
section
section
namespace Go.Eng.Sh
open Go.Nd (Ptr yF)
theorem yQ (D:Dyn)(n:Nat)(s:Str)(H:AH):f78 D n [S s] H=some (.bool (Nd.mayK s),H):=by
 simp only[f78,fC,zDO,u0,bVs,zBE,zBC,zKy,zLn,KT,zL3,zGp,zAR]
 have h1:(Int.ofNat 1≤((s.length:Nat):Int))=(1≤s.length):=by simp;omega
 have h2:(((s.length:Nat):Int)≤Int.ofNat 40)=(s.length≤40):=by simp;omega
 simp only[h1,h2,Nd.mayK]
 by_cases h:1≤s.length<;>simp[h,bVs,outR]
theorem sumL_nil:yF []=0:=rfl
theorem zCZ (l:List Str)(i:Nat)(hi:i<l.length):yF (l.take (i+1))=yF (l.take i)+(1+l[i].length)∧yF (l.take i)+(1+l[i].length)≤yF l:=by
 have hs:yF l=yF (l.take i)+(1+l[i].length+yF (l.drop (i+1))):=by
  rw[← Nd.sumL_cons, ← zM hi, ← Nd.sumL_append,List.take_append_drop]
 refine⟨?_,by omega⟩
 rw[fU l i hi,Nd.sumL_append,Nd.sumL_cons];simp[yF]
theorem size0 (D:Dyn)(n0:Nat){H:AH}{ks:AV}{l:List Str}(h:Strs H ks l)(x:AV)(a:Int)(n:Nat)(ha:0≤a)(hn:l.length<n)(hb:a+yF l≤1000000000000):
  qX n (zEp D n0) [x, .int .i64 a,ks, .int .i64 (l.length:Nat), .int .i64 (0:Nat)] H=some (.exit 0 [x, .int .i64 (a+yF l)],H):=by
 have key:=xV (b:=zEp D n0) (H:=H) (r:=some (.exit 0 [x, .int .i64 (a+yF l)],H)) (fun i=>[x, .int .i64 (a+yF (l.take i)),ks, .int .i64 (l.length:Nat), .int .i64 (i:Nat)]) l.length (fun i hi=>by
  obtain⟨p,h1,h2⟩:=h.at hi
  obtain⟨hs1,hs⟩:=zCZ l i hi
  have hge:=Nd.sumL_ge l
  simp(disch:=omega) [zEp,fC,bVs,dY,zCi,hi,h1,h2,u0,Z7,wrap_i64,hs1,Int.add_assoc]) (fun n=>yE (by
  simp[zEp,fC,bVs,dY,zCi])) n hn
 simpa[sumL_nil]using key
theorem size1 (D:Dyn)(n0:Nat){H:AH}{ks:AV}{l:List Str}(h:Strs H ks l)(a:Int)(n:Nat)(ha:0≤a)(hn:l.length<n)(hb:a+yF l≤1000000000000):
  qX n (zEo D n0) [.int .i64 a,ks, .int .i64 (l.length:Nat), .int .i64 (0:Nat)] H=some (.exit 2 [.int .i64 (a+yF l)],H):=by
 have key:=xV (b:=zEo D n0) (H:=H) (r:=some (.exit 2 [.int .i64 (a+yF l)],H)) (fun i=>[.int .i64 (a+yF (l.take i)),ks, .int .i64 (l.length:Nat), .int .i64 (i:Nat)]) l.length (fun i hi=>by
  obtain⟨p,h1,h2⟩:=h.at hi
  obtain⟨hs1,hs⟩:=zCZ l i hi
  have hge:=Nd.sumL_ge l
  simp(disch:=omega) [zEo,fC,bVs,dY,zCi,hi,h1,h2,u0,Z7,wrap_i64,hs1,Int.add_assoc]) (fun n=>yE (by
  simp[zEo,fC,bVs,dY,zCi])) n hn
 simpa[sumL_nil]using key
def qW (p:Ptr):List AV:=[.int .i64 p.at_, .int .i64 p.birth, .int .u64 p.sum]
def uI (H:AH)(v:AV)(l:List Ptr):Prop:=Rw 3 H v l.length (l.flatMap qW)
def fM (H:AH)(v:AV)(n:Nd.Node):Prop:= ∃ks vs ps,v= .agg [.bool n.leaf,ks,vs,ps]∧Strs H ks n.keys∧Strs H vs n.vals∧uI H ps n.kids
theorem uI.lnSl {H:AH}{v:AV}{l:List Ptr}(h:uI H v l):Eng.lnSl v=some (.int .i64 (l.length:Int)):=Rw.lnSl h
theorem uI.prs {H H':AH}{v:AV}{l:List Ptr}(h:uI H v l)(s:Prs H H'):uI H' v l:=Rw.prs h s
theorem zLy: ∀(l:List Ptr) (i:Nat) (hi:i<l.length),((l.flatMap qW).drop (i*3)).take 3=qW l[i]
 | [],i,hi=>by simp at hi
 | p::l,0,_=>rfl
 | p::l,i+1,hi=>by
  have:=zLy l i (by simpa using hi)
  rw[show(i+1)*3=i*3+3 from by omega]
  exact this
theorem uI.at {H:AH}{v:AV}{l:List Ptr}(h:uI H v l){i:Nat}(hi:i<l.length): ∃p,(∀κ (z:Int),z=(i:Int)→jW 3 v (.int κ z)=some p)∧Eng.ldN 3 p H=some (.agg (qW l[i])):=by
 obtain⟨p,h1,h2⟩:=Rw.ldN h hi
 rw[zLy l i hi]at h2
 exact⟨p,h1,h2⟩
theorem fM.prs {H H':AH}{v:AV}{n:Nd.Node}(h:fM H v n)(s:Prs H H'):fM H' v n:=by
 obtain⟨ks,vs,ps,rfl,h1,h2,h3⟩:=h;exact⟨ks,vs,ps,rfl,h1.prs s,h2.prs s,h3.prs s⟩
def small (n:Nd.Node):Prop:=n.kids.length≤100000∧yF n.keys≤100000000∧yF n.vals≤100000000
theorem BI (D:Dyn)(n:Nat){H:AH}(hk:H.ok){v:AV}{nd:Nd.Node}(h:fM H v nd)(hs:small nd)(hn:200000000≤n):
  Ret (f92 D n [v] H) fun r H'=>r= .int .i64 (Nd.size nd:Nat)∧Prs H H':=by
 obtain⟨ks,vs,ps,rfl,h1,h2,h3⟩:=h
 obtain⟨s1,s2,s3⟩:=hs
 have hP:Prs H (H.push (.cells [.bool nd.leaf,ks,vs,ps] 111 1 false)):=(Stp.refl hk).push _
 have hkl:=Nd.sumL_ge nd.keys
 have hvl:=Nd.sumL_ge nd.vals
 simp(disch:=omega) only[f92,ev,u9 hk,h1.lnSl,h2.lnSl,h3.lnSl,size0 D n (h1.prs hP),zLE,size1 D n (h2.prs hP),zLF]
 apply Ret.pure;refine⟨?_,hP⟩
 simp only[Nd.size,AV.int.injEq,true_and];omega
open Go.Nd (be zJi encP)
theorem YT (lt:Str→Str→Bool): ∀l:List Str,Nd.rising lt l=true↔ ∀i (h:i+1<l.length),lt l[i] l[i+1]=true
 | []=>by simp[Nd.rising]
 | [a]=>by simp[Nd.rising]
 | a::b::l=>by
  have ih:=YT lt (b::l)
  simp only[Nd.rising,z8,ih]
  constructor
  ·rintro⟨h1,h2⟩ i h
   cases i with
   | zero=>exact h1
   | succ i=>exact h2 i (by simpa using h)
  ·intro h
   exact⟨h 0 (by simp),fun i hi=>h (i+1) (by simpa using hi)⟩
def zCc (l:List Str)(i:Nat):Bool:=Nd.mayK (l.getD i [])&&(decide (i=0)||ltS (l.getD (i - 1) []) (l.getD i []))
theorem zEe (l:List Str):(List.range l.length).all (zCc l)=(l.all Nd.mayK&&Nd.rising ltS l):=by
 rw[Bool.eq_iff_iff,z8,YT]
 simp only[List.all_eq_true,List.mem_range,zCc,z8,Bool.or_eq_true,zD]
 constructor
 ·intro h
  refine⟨fun x hx=> ?_,fun i hi=> ?_⟩
  ·obtain⟨i,hi,rfl⟩:=List.mem_iff_getElem.1 hx
   have:=(h i hi).1
   rwa[zK,zC hi]at this
  ·have:=(h (i+1) hi).2
   simp only[Nat.add_eq_zero_iff,Nat.one_ne_zero,and_false,false_or,Nat.add_sub_cancel]at this
   rwa[zK,zC (by omega),zK,zC hi]at this
 ·rintro⟨h1,h2⟩ i hi
  refine⟨?_, ?_⟩
  ·rw[zK,zC hi];exact h1 _ (zS hi)
  ·by_cases h0:i=0
   ·exact .inl h0
   ·right
    have:=h2 (i - 1) (by omega)
    rw[zK,zC (show i - 1<l.length by omega),zK,zC hi]
    simpa[show i - 1+1=i by omega]using this
theorem UW {α:Type}(l:List α)(d:α)(f:α→Bool):(List.range l.length).all (fun i=>f (l.getD i d))=l.all f:=by
 rw[Bool.eq_iff_iff]
 simp only[List.all_eq_true,List.mem_range]
 constructor
 ·intro h x hx
  obtain⟨i,hi,rfl⟩:=List.mem_iff_getElem.1 hx
  have:=h i hi
  rwa[zK,zC hi]at this
 ·intro h i hi
  rw[zK,zC hi];exact h _ (zS hi)
theorem kN {α:Type}{l:List α}{i:Nat}{d:α}(h:i<l.length):l.getD i d=l[i]:=by rw[zK,zC h];rfl
theorem zIU (D:Dyn)(n:Nat){H:AH}{ks:AV}{l:List Str}(h:Strs H ks l){A e:Nat}{c:List AV}(hA:H.h.get A=some (.cells c e 1 false))(hc:c[1]? =some ks)(hl:l.length≤1000000000)(n':Nat)(hn:l.length<n'):
  ∃e H',qX n' (VX D n) [.ptr A 0,ks, .int .i64 (l.length:Nat), .int .i64 (0:Nat)] H=some (e,H')∧if(List.range l.length).all (zCc l)then(e= .exit 0 [.ptr A 0]∧H'=H)else(e= .ret (.bool false)∧H'=H):=by
 refine KM l.length (zCc l) (fun i vs H'=>H'=H∧vs=[.ptr A 0,ks, .int .i64 (l.length:Nat), .int .i64 (i:Nat)]) (fun e H'=>e= .exit 0 [.ptr A 0]∧H'=H) (fun e H'=>e= .ret (.bool false)∧H'=H) ?_ ?_ ?_ n' _ H ⟨rfl,rfl⟩ hn
 ·rintro i vs H' hi ⟨rfl,rfl⟩ hg
  obtain⟨p,h1,h2⟩:=h.at hi
  simp only[zCc,kN hi,z8,Bool.or_eq_true,zD]at hg
  refine⟨_,H', ?_,rfl,rfl⟩
  have hiI:((i:Nat):Int)< ((l.length:Nat):Int):=by omega
  by_cases h0:i=0
  ·subst h0
   simp(disch:=omega) only[VX,eZ,hiI,h1,h2,yQ,hg.1,zZ,show((0:Nat):Int)+((1:Nat):Int)=((0+1:Nat):Int)from rfl]
  ·have hlt:i - 1<l.length:=by omega
   obtain⟨q,q1,q2⟩:=h.at hlt
   have hg2:=hg.2.resolve_left h0
   rw[kN hlt]at hg2
   have hsub:((i:Nat):Int) - ((1:Nat):Int)=((i - 1:Nat):Int):=by omega
   have hpos:((0:Nat):Int)< (i:Int):=by omega
   simp(disch:=omega) only[VX,eZ,hiI,hpos,h1,h2,yQ,hg.1,qL hA,hc,hsub,q1,q2,hg2,Int.natCast_add]
 ·rintro i vs H' hi ⟨rfl,rfl⟩ hg
  obtain⟨p,h1,h2⟩:=h.at hi
  have hiI:((i:Nat):Int)< ((l.length:Nat):Int):=by omega
  refine⟨.ret (.bool false),H', ?_,rfl,rfl,rfl⟩
  simp only[zCc,kN hi]at hg
  cases hm:Nd.mayK l[i]with
  | false=>simp(disch:=omega) only[VX,eZ,hiI,h1,h2,yQ,hm]
  | true=>
   simp only[hm,Bool.true_and,Bool.or_eq_false_iff,decide_eq_false_iff_not]at hg
   have hlt:i - 1<l.length:=by omega
   obtain⟨q,q1,q2⟩:=h.at hlt
   have hg2:=hg.2
   rw[kN hlt]at hg2
   have hsub:((i:Nat):Int) - ((1:Nat):Int)=((i - 1:Nat):Int):=by omega
   have hpos:((0:Nat):Int)< (i:Int):=by omega
   simp(disch:=omega) only[VX,eZ,hiI,hpos,h1,h2,yQ,hm,qL hA,hc,hsub,q1,q2,hg2]
 ·rintro vs H' ⟨rfl,rfl⟩
  refine⟨.exit 0 [.ptr A 0],H', ?_,rfl,rfl,rfl⟩
  simp only[VX,eZ,zZ]
theorem zIT (D:Dyn)(n:Nat){H:AH}{vs:AV}{l:List Str}(h:Strs H vs l)(hl:l.length≤1000000000)(n':Nat)(hn:l.length<n'):
  ∃e H',qX n' (zEt D n) [vs, .int .i64 (l.length:Nat), .int .i64 (0:Nat)] H=some (e,H')∧if(List.range l.length).all (fun i=>decide ((l.getD i []).length≤200))then(e= .exit 2 []∧H'=H)else(e= .ret (.bool false)∧H'=H):=by
 refine KM l.length _ (fun i us H'=>H'=H∧us=[vs, .int .i64 (l.length:Nat), .int .i64 (i:Nat)]) (fun e H'=>e= .exit 2 []∧H'=H) (fun e H'=>e= .ret (.bool false)∧H'=H) ?_ ?_ ?_ n' _ H ⟨rfl,rfl⟩ hn
 ·rintro i us H' hi ⟨rfl,rfl⟩ hg
  obtain⟨p,h1,h2⟩:=h.at hi
  simp only[kN hi,zD]at hg
  refine⟨_,H', ?_,rfl,rfl⟩
  have hiI:((i:Nat):Int)< ((l.length:Nat):Int):=by omega
  have hg': ¬((200:Nat):Int)< ((l[i].length:Nat):Int):=by omega
  simp(disch:=omega) only[zEt,eZ,hiI,h1,h2,hg',Int.natCast_add]
 ·rintro i us H' hi ⟨rfl,rfl⟩ hg
  obtain⟨p,h1,h2⟩:=h.at hi
  simp only[kN hi,decide_eq_false_iff_not]at hg
  refine⟨.ret (.bool false),H', ?_,rfl,rfl,rfl⟩
  have hiI:((i:Nat):Int)< ((l.length:Nat):Int):=by omega
  have hg':((200:Nat):Int)< ((l[i].length:Nat):Int):=by omega
  simp(disch:=omega) only[zEt,eZ,hiI,h1,h2,hg',Int.natCast_add]
 ·rintro us H' ⟨rfl,rfl⟩
  refine⟨.exit 2 [],H', ?_,rfl,rfl,rfl⟩
  simp only[zEt,eZ,zZ]
def pz:Ptr:=⟨0,0,0⟩
theorem zLi (x:Ptr):(((decide (x.at_< ((1:Nat):Int))||decide (((8192:Nat):Int)≤x.at_))||decide (x.birth< ((0:Nat):Int)))||decide (((2147483647:Nat):Int)<x.birth))= !(Nd.kidOk x):=by
 rw[Bool.eq_iff_iff];simp only[Nd.kidOk,Bool.or_eq_true,zD,Bool.not_eq_true',Bool.and_eq_false_iff,decide_eq_false_iff_not];omega
theorem zFo {H':AH}(hk:H'.ok)(x:Ptr): ∃H2,stN 3 (.ptr H'.next 0) (.agg (qW x)) (H'.push (.cells [.int .i64 (0:Nat), .int .i64 (0:Nat), .int .u64 (0:Nat)] 65 1 false))=some (qM,H2)∧Prs H' H2∧H2.next=H'.next+1∧H2.h.get H'.next=some (.cells (qW x) 65 1 false):=by
 refine⟨_,XO (AH.push_get_eq _ _) (by decide) rfl rfl (by decide), ?_,rfl,by rw[AH.put_get,if_pos rfl];rfl⟩
 exact((Stp.refl hk).push _).fresh ((Stp.refl (hk.push _)).put (by rw[AH.push_next];omega) _ (.inr rfl)) (fun A hA=>by omega)
theorem zIS (D:Dyn)(n:Nat){H:AH}(hk:H.ok){vs:AV}{l:List Ptr}(h:uI H vs l)(hl:l.length≤1000000000)(n':Nat)(hn:l.length<n'):
  ∃e H',qX n' (zEs D n) [vs, .int .i64 (l.length:Nat), .int .i64 (0:Nat)] H=some (e,H')∧if(List.range l.length).all (fun i=>Nd.kidOk (l.getD i pz))then(e= .exit 4 []∧Prs H H')else(e= .ret (.bool false)∧Prs H H'):=by
 refine KM l.length _ (fun i us H'=>Prs H H'∧us=[vs, .int .i64 (l.length:Nat), .int .i64 (i:Nat)]) (fun e H'=>e= .exit 4 []∧Prs H H') (fun e H'=>e= .ret (.bool false)∧Prs H H') ?_ ?_ ?_ n' _ H ⟨Stp.refl hk,rfl⟩ hn
 ·rintro i us H' hi ⟨hP,rfl⟩ hg
  obtain⟨p,h1,h2⟩:=(h.prs hP).at hi
  simp only[kN hi]at hg
  generalize l[i]=x at hg h2
  obtain⟨H2,hH2,hP2,n2,g2⟩:=zFo hP.ok x
  have hiI:((i:Nat):Int)< ((l.length:Nat):Int):=by omega
  have hb:=zLi x
  rw[hg]at hb
  simp only[qW]at g2 hH2 h2
  refine⟨_,H2, ?_,hP.trans hP2,rfl⟩
  simp(disch:=omega) only[zEs,eZ,hiI,h1,h2,u9 hP.ok,hH2,qL g2,hb,Int.natCast_add]
 ·rintro i us H' hi ⟨hP,rfl⟩ hg
  obtain⟨p,h1,h2⟩:=(h.prs hP).at hi
  simp only[kN hi]at hg
  generalize l[i]=x at hg h2
  obtain⟨H2,hH2,hP2,n2,g2⟩:=zFo hP.ok x
  have hiI:((i:Nat):Int)< ((l.length:Nat):Int):=by omega
  have hb:=zLi x
  rw[hg]at hb
  simp only[qW]at g2 hH2 h2
  refine⟨.ret (.bool false),H2, ?_,rfl,rfl,hP.trans hP2⟩
  simp(disch:=omega) only[zEs,eZ,hiI,h1,h2,u9 hP.ok,hH2,qL g2,hb]
 ·rintro us H' ⟨hP,rfl⟩
  refine⟨.exit 4 [],H', ?_,rfl,rfl,hP⟩
  simp only[zEs,eZ,zZ]
theorem uO (D:Dyn)(n:Nat){H:AH}(hk:H.ok){v:AV}{nd:Nd.Node}(h:fM H v nd)(hs:small nd)(hn:200000000≤n):
  ∃H',f77 D n [v] H=some (.bool (Nd.shaped ltS nd),H')∧Prs H H':=by
 obtain⟨ks,vs,ps,rfl,h1,h2,h3⟩:=h
 obtain⟨s1,s2,s3⟩:=hs
 have hP:Prs H (H.push (.cells [.bool nd.leaf,ks,vs,ps] 111 1 false)):=(Stp.refl hk).push _
 have hg:(H.push (.cells [.bool nd.leaf,ks,vs,ps] 111 1 false)).h.get H.next=some (.cells [.bool nd.leaf,ks,vs,ps] 111 1 false):=AH.push_get_eq _ _
 have hkl:=Nd.sumL_ge nd.keys
 have hvl:=Nd.sumL_ge nd.vals
 have hf:f77 D n [.agg [.bool nd.leaf,ks,vs,ps]] H=outR (jb 0 (qX n (VX D n) [.ptr H.next 0,ks, .int .i64 (nd.keys.length:Nat), .int .i64 (0:Nat)] (H.push (.cells [.bool nd.leaf,ks,vs,ps] 111 1 false))) (VY D n)):=by
  simp only[f77,eZ,u9 hk,h1.lnSl]
 rw[hf]
 generalize H.push (.cells [.bool nd.leaf,ks,vs,ps] 111 1 false)=H1 at hP hg
 obtain⟨e0,H2,e1,e2⟩:=zIU D n (h1.prs hP) hg (by rfl) (by omega) n (by omega)
 rw[e1]
 rw[zEe]at e2
 split at e2
 ·rename_i hgood
  obtain⟨rfl,rfl⟩:=e2
  simp only[Nd.shaped,hgood,Bool.true_and]
  obtain⟨leaf,keys,vals,kids⟩:=nd
  simp only at h1 h2 h3 hg hkl hvl s1 s2 s3 hgood⊢
  cases leaf with
  | true=>
   by_cases hc:vals.length=keys.length∧kids.length=0
   ·obtain⟨hc1,hc2⟩:=hc
    obtain⟨e3,H3,e4,e5⟩:=zIT D n (h2.prs hP) (by omega) n (by omega)
    have hz: ¬(((vals.length:Nat):Int)≠((keys.length:Nat):Int)):=by omega
    have hz2: ¬(((kids.length:Nat):Int)≠((0:Nat):Int)):=by omega
    have hkn:kids=[]:=zF hc2
    rw[UW vals ([]:Str) (fun v=>decide (v.length≤200))]at e5
    split at e5
    ·rename_i hv
     obtain⟨rfl,rfl⟩:=e5
     refine⟨H3, ?_,hP⟩
     have hr:(decide (vals.length=keys.length)&&decide (kids=[])&&vals.all fun v=>decide (v.length≤200))=true:=by simp only[hc1,hkn,hv,decide_true,Bool.and_self]
     simp only[VY,eZ,qL hg,h1.lnSl,h2.lnSl,h3.lnSl,hz,hz2,e4,zJG,hr]
    ·rename_i hv
     obtain⟨rfl,rfl⟩:=e5
     refine⟨H3, ?_,hP⟩
     have hr:(decide (vals.length=keys.length)&&decide (kids=[])&&vals.all fun v=>decide (v.length≤200))=false:=by simp only[Bool.eq_false_iff.2 hv,Bool.and_false]
     simp only[VY,eZ,qL hg,h1.lnSl,h2.lnSl,h3.lnSl,hz,hz2,e4,zJG,hr]
   ·refine⟨H2, ?_,hP⟩
    have hr:(decide (vals.length=keys.length)&&decide (kids=[]))=false:=by
     rw[Bool.and_eq_false_iff,decide_eq_false_iff_not,decide_eq_false_iff_not]
     by_cases ha:vals.length=keys.length
     ·right;intro hb;exact hc ⟨ha,by rw[hb];rfl⟩
     ·exact .inl ha
    simp only[VY,eZ,qL hg,h1.lnSl,h2.lnSl,h3.lnSl,hr]
    rw[if_pos (by simp only[Bool.or_eq_true,zD];omega)]
    simp only[eZ]
  | false=>
   by_cases hc:keys.length≠0∧vals.length=0∧kids.length=keys.length+1
   ·obtain⟨hc1,hc2,hc3⟩:=hc
    obtain⟨e3,H3,e4,e5⟩:=zIS D n hP.ok (h3.prs hP) (by omega) n (by omega)
    have hz: ¬(((keys.length:Nat):Int)=((0:Nat):Int)):=by omega
    have hz2: ¬(((vals.length:Nat):Int)≠((0:Nat):Int)):=by omega
    have hz3: ¬(((kids.length:Nat):Int)≠((keys.length:Nat):Int)+((1:Nat):Int)):=by omega
    have hvn:vals=[]:=zF hc2
    have hkn:keys≠[]:=fun e=>hc1 (by rw[e];rfl)
    rw[UW kids pz Nd.kidOk]at e5
    split at e5
    ·rename_i hv
     obtain⟨rfl,hP3⟩:=e5
     refine⟨H3, ?_,hP.trans hP3⟩
     have hr:(decide (keys≠[])&&decide (vals=[])&&decide (kids.length=keys.length+1)&&kids.all Nd.kidOk)=true:=by simp only[hc3,hvn,hv,decide_eq_true hkn,decide_true,Bool.and_self]
     simp(disch:=omega) only[VY,eZ,qL hg,h1.lnSl,h2.lnSl,h3.lnSl,hz,hz2,hz3,e4,zJF,hr]
    ·rename_i hv
     obtain⟨rfl,hP3⟩:=e5
     refine⟨H3, ?_,hP.trans hP3⟩
     have hr:(decide (keys≠[])&&decide (vals=[])&&decide (kids.length=keys.length+1)&&kids.all Nd.kidOk)=false:=by simp only[Bool.eq_false_iff.2 hv,Bool.and_false]
     simp(disch:=omega) only[VY,eZ,qL hg,h1.lnSl,h2.lnSl,h3.lnSl,hz,hz2,hz3,e4,zJF,hr]
   ·refine⟨H2, ?_,hP⟩
    have hr:(decide (keys≠[])&&decide (vals=[])&&decide (kids.length=keys.length+1))=false:=by
     rw[Bool.eq_false_iff];intro hh
     simp only[z8,zD]at hh
     exact hc ⟨fun e=>hh.1.1 (zF e),by rw[hh.1.2];rfl,hh.2⟩
    simp(disch:=omega) only[VY,eZ,qL hg,h1.lnSl,h2.lnSl,h3.lnSl,hr]
    rw[if_pos (by simp only[Bool.or_eq_true,zD];omega)]
    simp only[eZ]
 ·rename_i hbad
  obtain⟨rfl,rfl⟩:=e2
  refine⟨H2, ?_,hP⟩
  simp only[Nd.shaped,Bool.eq_false_iff.2 hbad,eZ]
open Go.Nd (encT)
def zMi (P:Nat→Prop)(H:AH)(A:Nat)(l:Str):Prop:= ∃v,Box H A v∧jA 1 5 H v l.length (yJ l)∧(∀B,Blk v B→ ¬P B∧B≠A)∧ ¬P A
theorem zMi.app {P:Nat→Prop}{H:AH}{A:Nat}{l m:Str}(h:zMi P H A l)(hk:H.ok)(hP: ∀B,P B→B<H.next){s:AV}(hs:srcOf 1 s H=some (m.length,yJ m))(hn:l.length+m.length≤1000000000):
  ∃v v' H' H'',ld1 (.ptr A 0) H=some v∧apP 5 1 1 v s H=some (v',H')∧stN 1 (.ptr A 0) v' H'=some (qM,H'')∧zMi P H'' A (l++m)∧Stp (fun B=> ¬P B) H H'':=by
 obtain⟨v,hb,hg,hv,hA⟩:=h
 obtain⟨v',H',e1,g1,s1,n1⟩:=hg.app (bytes:=1) hk (by decide) hs (by simp[yJ]) (UM m) hn (by decide)
 have hb':Box H' A v:=hb.mono hk s1 (fun x=>(hv A x).2 rfl)
 obtain⟨H'',e2,b2,s2⟩:=hb'.st s1.ok g1.isCell
 have hlt:=hb.lt hk
 have hne: ∀B,Blk v' B→B≠A:=fun B hB e=>by
  rcases n1 B hB with h | h
  ·exact(hv B h).2 e
  ·omega
 refine⟨v,v',H',H'',hb.ld,e1,e2,⟨v',b2, ?_,fun B hB=>⟨fun hp=> ?_,hne B hB⟩,hA⟩, ?_⟩
 ·have:=g1.mono s2 (fun B hB=>hne B hB)
  simpa[yJ]using this
 ·rcases n1 B hB with h | h
  ·exact(hv B h).1 hp
  ·have:=hP B hp;omega
 ·exact(s1.mono (fun B _ hB=>(hv B hB).1)).trans (s2.mono (fun B _ hB=>by rw[hB];exact hA))
structure EncI (N E:Nat)(A:Nat)(H0 H:AH)(l:Str):Prop where
 prs:Prs H0 H
 n:H0.next=N
 out:zMi (fun B=>B<N∨B=E) H A l
 err:Box H E (.int .i64 (0:Nat))
theorem EncI.step {N E A:Nat}{H0 H H':AH}{l l':Str}(h:EncI N E A H0 H l)(h1:zMi (fun B=>B<N∨B=E) H' A l')(h2:Stp (fun B=> ¬(B<N∨B=E)) H H'):EncI N E A H0 H' l':=
 ⟨h.prs.fresh h2 (fun B hB=>by rw[h.n];omega),h.n,h1,h.err.mono h.prs.ok h2 (fun hh=>hh (.inr rfl))⟩
theorem EncI.lt {N E A:Nat}{H0 H:AH}{l:Str}(h:EncI N E A H0 H l): ∀B,(B<N∨B=E)→B<H.next:=by
 rintro B (hB | rfl)
 ·have:=h.prs.next;rw[h.n]at this;omega
 ·exact h.err.lt h.prs.ok
theorem Box.new (H:AH)(v:AV)(e:TypeId):Box (H.push (.cells [v] e 1 false)) H.next v:=⟨e,AH.push_get_eq _ _⟩
theorem cJ (a b c d:AV):vT [a,b,c,d] 0 4=some [a,b,c,d]:=rfl
theorem qV {H:AH}(hk:H.ok){A:Nat}{l l':List AV}{e:TypeId}(h:H.h.get A=some (.cells l e 1 false))(hl:l'.length=l.length)(hc:qO l'=true):
  ∃H',stN l.length (.ptr A 0) (.agg l') H=some (qM,H')∧H'.h.get A=some (.cells l' e 1 false)∧Stp (fun B=>B=A) H H'∧H'.next=H.next:=by
 refine⟨_,XO h (by decide) hl hc (by omega), ?_,(Stp.refl hk).put (hk.lt h) _ (.inr rfl),rfl⟩
 rw[AH.put_get,if_pos rfl]
 simp[qS]
structure RdI (R:Nat)(H0 H:AH)(rest:Str)(bad leaf:Bool)(kv vv pv:AV)(ks vs:List Str)(ps:List Ptr):Prop where
 prs:Stp (fun B=>B=R) H0 H
 get: ∃e,H.h.get R=some (.cells [S rest, .bool bad, .bool leaf,kv,vv,pv] e 1 false)
 k:Own 1 9 H kv ks.length (ks.map S)
 v:Own 1 9 H vv vs.length (vs.map S)
 p:Own 3 65 H pv ps.length (ps.flatMap qW)
 kb: ∀B,Blk kv B→H0.next≤B∧B≠R∧ ¬Blk vv B∧ ¬Blk pv B
 vb: ∀B,Blk vv B→H0.next≤B∧B≠R∧ ¬Blk pv B
 pb: ∀B,Blk pv B→H0.next≤B∧B≠R
 small:rest.length≤10000∧ks.length≤1000000∧vs.length≤1000000∧ps.length≤1000000
theorem RdI.put {R:Nat}{H0 H:AH}{rest:Str}{bad leaf:Bool}{kv vv pv:AV}{ks vs:List Str}{ps:List Ptr}(h:RdI R H0 H rest bad leaf kv vv pv ks vs ps){o:Nat}{x:AV}(hx:isCell x=true)(ho:o<6){rest':Str}{bad':Bool}(hr:rest'.length≤10000)
  (hl:[S rest, .bool bad, .bool leaf,kv,vv,pv].set o x=[S rest', .bool bad', .bool leaf,kv,vv,pv]): ∃H',stN 1 (.ptr R o) x H=some (qM,H')∧RdI R H0 H' rest' bad' leaf kv vv pv ks vs ps:=by
 obtain⟨e,hg⟩:=h.get
 have hlt:=h.prs.ok.lt hg
 have hst:Stp (fun B=>B=R) H (H.put R (.cells ([S rest, .bool bad, .bool leaf,kv,vv,pv].set o x) e 1 false)):=(Stp.refl h.prs.ok).put hlt _ (.inr rfl)
 refine⟨_,YQ hg (by decide) hx ho,⟨h.prs.trans hst,⟨e,by rw[AH.put_get,if_pos rfl,hl]⟩,h.k.mono hst (fun B hB=>(h.kb B hB).2.1),h.v.mono hst (fun B hB=>(h.vb B hB).2.1),h.p.mono hst (fun B hB=>(h.pb B hB).2),h.kb,h.vb,h.pb,hr,h.small.2⟩⟩
theorem RdI.lt {R:Nat}{H0 H:AH}{rest:Str}{bad leaf:Bool}{kv vv pv:AV}{ks vs:List Str}{ps:List Ptr}(h:RdI R H0 H rest bad leaf kv vv pv ks vs ps):R<H.next:=by
 obtain⟨e,hg⟩:=h.get;exact h.prs.ok.lt hg
theorem Own.lt {k e n:Nat}{H:AH}{v:AV}{l:List AV}(h:Own k e H v n l){B:Nat}(hB:Blk v B):B<H.next:=(jA.lt (.inl h) hB)
def Y3 (H0 H:AH)(v:AV)(nd:Nd.Node):Prop:= ∃ks vs ps,v= .agg [.bool nd.leaf,ks,vs,ps]∧Own 1 9 H ks nd.keys.length (nd.keys.map S)∧Own 1 9 H vs nd.vals.length (nd.vals.map S)∧Own 3 65 H ps nd.kids.length (nd.kids.flatMap qW)∧(∀B,Blk ks B∨Blk vs B∨Blk ps B→H0.next≤B)∧(∀B,Blk ks B→ ¬Blk vs B∧ ¬Blk ps B)∧ ∀B,Blk vs B→ ¬Blk ps B
theorem Y3.node {H0 H:AH}{v:AV}{nd:Nd.Node}(h:Y3 H0 H v nd):fM H v nd:=by
 obtain⟨ks,vs,ps,e,h1,h2,h3,_⟩:=h;exact⟨ks,vs,ps,e,h1.row,h2.row,h3.row⟩
theorem cB (x:Bool)(a b c:AV)(ha:isCell a=true)(hb:isCell b=true)(hc:isCell c=true):qO [.bool x,a,b,c]=true:=by
 simp only[qO,ha,hb,hc];rfl
theorem jA.zero (k e:Nat){H:AH}{A:Nat}{e':TypeId}{g:Bool}(h:H.h.get A=some (.cells [] e' k g))(hk:H.ok):jA k e H (.slice A 0 0 0) 0 []:= .inr ⟨by simp,A,e',g,rfl,hk.lt h,h⟩
theorem UP (b:Bool):aveq (.bool b) (.bool b)=true:=by cases b<;>rfl
theorem kJ (l:List Str):qO (l.map S)=true:=by
 rw[kD];intro x hx;obtain⟨s,_,rfl⟩:=List.mem_map.1 hx;rfl
theorem wX (l:List Ptr):qO (l.flatMap qW)=true:=by
 rw[kD];intro x hx
 obtain⟨p,_,hp⟩:=List.mem_flatMap.1 hx
 simp only[qW,List.mem_cons,List.not_mem_nil,or_false]at hp
 rcases hp with rfl | rfl | rfl<;>rfl
theorem Rw.blk {k n:Nat}{H:AH}{v:AV}{l:List AV}(h:Rw k H v n l){B:Nat}(hB:Blk v B):B<H.next:=by
 obtain⟨_,⟨rfl,_⟩ | ⟨rfl,_⟩ | ⟨A,off,cc,c,e,sz,g,rfl,_,hlt,_⟩⟩:=h
 ·exact(Blk.nil.1 hB).elim
 ·obtain⟨_,_,_,h⟩:=hB;cases h
 ·rw[Blk.slice.1 hB];exact hlt
def y8 (H:AH)(v:AV)(nd:Nd.Node):Prop:= ∃ks vs ps,v= .agg [.bool nd.leaf,ks,vs,ps]∧jA 1 9 H ks nd.keys.length (nd.keys.map S)∧jA 1 9 H vs nd.vals.length (nd.vals.map S)∧jA 3 65 H ps nd.kids.length (nd.kids.flatMap qW)
theorem y8.node {H:AH}{v:AV}{nd:Nd.Node}(h:y8 H v nd):fM H v nd:=by
 obtain⟨ks,vs,ps,e,h1,h2,h3⟩:=h;exact⟨ks,vs,ps,e,h1.row,h2.row,h3.row⟩
theorem y8.prs {H H':AH}{v:AV}{nd:Nd.Node}(h:y8 H v nd)(s:Prs H H'):y8 H' v nd:=by
 obtain⟨ks,vs,ps,e,h1,h2,h3⟩:=h;exact⟨ks,vs,ps,e,h1.mono s (fun _ _ x=>x),h2.mono s (fun _ _ x=>x),h3.mono s (fun _ _ x=>x)⟩
theorem Own.st {k e n:Nat}{H:AH}{v:AV}{l:List AV}(h:Own k e H v n l)(hk:H.ok)(hpos:0<k){i:Nat}(hi:i<n){x:AV}(hx:(qS x).length=k)(hc:qO (qS x)=true):
  ∃p H' l',(∀κ (z:Int),z=(i:Int)→jW k v (.int κ z)=some p)∧stN k p x H=some (qM,H')∧Own k e H' v n l'∧Stp (Blk v) H H':=by
 obtain⟨h0,⟨_,rfl⟩ | ⟨A,rfl,hA,hg⟩⟩:=h
 ·omega
 ·have hik:i*k+k≤n*k:=by rw[← Nat.succ_mul];exact zU _ hi
  have hb:Nat.blt i n=true:=by rw[zJ];exact hi
  refine⟨.ptr A (0+i*k),_,_,fun κ z hz=> ?_,XO hg hpos hx hc (by omega),⟨?_, .inr ⟨A,rfl,hA,by rw[AH.put_get,if_pos rfl]⟩⟩,(Stp.refl hk).put hA _ (.inr (Blk.slice.2 rfl))⟩
  ·subst hz
   simp only[jW,yO κ (show(0:Int)≤(i:Int)by omega),zW,hb,cond_true,yB]
  ·simp only[zH,zI,zO,hx];omega
theorem zMc (x:Nat):Nat.ble 0 x=true:=by rw[zR];omega
theorem K7 {k e n:Nat}{H:AH}{v:AV}{l:List AV}(h:jA k e H v n l)(hpos:0<k){i:Nat}(hi:i≤n)(κ κ':IntKind):
  ∃r,j7 k v none (some (.int κ (i:Nat))) (some (.int κ' (i:Nat))) H=some r∧Rw k H r i (l.take (i*k))∧(0<i→r≠ .nilSlice∧r≠ .emptySl):=by
 have n1:=yO κ (z:=((i:Nat):Int)) (by omega)
 have n2:=yO κ' (z:=((i:Nat):Int)) (by omega)
 simp only[zW]at n1 n2
 have hb:Nat.blt 0 k=true:=by rw[zJ];exact hpos
 have hz:Nat.beq i 0=decide (i=0):=by rw[Bool.eq_iff_iff];simp
 have hmul:i*k≤n*k:=zU _ hi
 have b1:Nat.ble i n=true:=by rw[zR];exact hi
 have b2:Nat.ble i i=true:=by rw[zR];exact Nat.le_refl _
 have b3:Nat.ble 0 i=true:=by rw[zR];omega
 rcases h with⟨h0,⟨rfl,rfl⟩ | ⟨A,rfl,hA,hg⟩⟩ | ⟨h0,A,e',g,rfl,hA,hg⟩
 ·obtain rfl:i=0:=by omega
  exact⟨.nilSlice,by simp only[j7,yN,n1,n2];simp,⟨by simp, .inl ⟨rfl,rfl⟩⟩,fun h=>absurd h (by omega)⟩
 ·have hroom:yG l true k 0 1 k=n:=by
   simp only[yG,show((1 % 2).beq 0)=false from rfl,cond_false,Nat.beq_refl,show Nat.beq 0 (1 / 2*k)=true from by simp,Bool.and_self,cond_true,qY,h0,Nat.sub_zero]
   exact Nat.mul_div_cancel _ hpos
  by_cases hi0:i=0
  ·subst hi0
   refine⟨.slice A 0 0 0, ?_,⟨by simp, .inr (.inr ⟨A,0,0,l,e,k,true,rfl,hg,hA,by simp,by simp⟩)⟩,fun h=>absurd h (by omega)⟩
   simp only[j7,yN,n1,n2,hg,hb,cond_true];simp[ZA,hroom,yB,zMc]
  ·have hz0:Nat.beq i 0=false:=by rw[hz];simpa using hi0
   refine⟨.slice A 0 i (2*i), ?_,⟨by rw[zI,h0,Nat.min_eq_left hmul], .inr (.inr ⟨A,0,2*i,l,e,k,true,rfl,hg,hA,by omega,by simp⟩)⟩,fun _=>⟨by simp,by simp⟩⟩
   simp only[j7,yN,n1,n2,hg,hb,cond_true];simp[ZA,hroom,b1,b2,hz0,yB,zMc]
 ·have hroom:yG l g k 0 (2*n) k=n:=by
   simp only[yG,show((2*n) % 2).beq 0=true by rw[Nat.mul_mod_right];rfl,cond_true,Nat.mul_div_cancel_left n (show 0<2 by omega)]
  by_cases hi0:i=0
  ·subst hi0
   refine⟨.slice A 0 0 0, ?_,⟨by simp, .inr (.inr ⟨A,0,0,l,e',k,g,rfl,hg,hA,by simp,by simp⟩)⟩,fun h=>absurd h (by omega)⟩
   simp only[j7,yN,n1,n2,hg,hb,cond_true];simp[ZA,hroom,yB,zMc]
  ·have hz0:Nat.beq i 0=false:=by rw[hz];simpa using hi0
   refine⟨.slice A 0 i (2*i), ?_,⟨by rw[zI,h0,Nat.min_eq_left hmul], .inr (.inr ⟨A,0,2*i,l,e',k,g,rfl,hg,hA,by omega,by simp⟩)⟩,fun _=>⟨by simp,by simp⟩⟩
   simp only[j7,yN,n1,n2,hg,hb,cond_true];simp[ZA,hroom,b1,b2,hz0,yB,zMc]
theorem ZO {k e n:Nat}{H:AH}{v:AV}{l:List AV}(h:jA k e H v n l)(hpos:0<k){i:Nat}(hi:i<n)(κ:IntKind):
  ∃r,j7 k v (some (.int κ (i:Nat))) none none H=some r∧Rw k H r (n - i) (l.drop (i*k))∧r≠ .nilSlice∧r≠ .emptySl:=by
 have n1:=yO κ (z:=((i:Nat):Int)) (by omega)
 simp only[zW]at n1
 have hb:Nat.blt 0 k=true:=by rw[zJ];exact hpos
 have hmul:i*k≤n*k:=zU _ (by omega)
 have hsub:(n - i)*k=n*k - i*k:=Nat.sub_mul _ _ _
 have b1:Nat.ble n n=true:=by rw[zR];exact Nat.le_refl _
 have b2:Nat.ble i n=true:=by rw[zR];omega
 have b3:Nat.blt i n=true:=by rw[zJ];exact hi
 have b4:Nat.beq n i=false:=by rw[Bool.eq_false_iff];intro h;have:=Nat.eq_of_beq_eq_true h;omega
 rcases h with⟨h0,⟨rfl,rfl⟩ | ⟨A,rfl,hA,hg⟩⟩ | ⟨h0,A,e',g,rfl,hA,hg⟩
 ·omega
 ·have hroom:yG l true k 0 1 k=n:=by
   simp only[yG,show((1 % 2).beq 0)=false from rfl,cond_false,Nat.beq_refl,show Nat.beq 0 (1 / 2*k)=true from by simp,Bool.and_self,cond_true,qY,h0,Nat.sub_zero]
   exact Nat.mul_div_cancel _ hpos
  by_cases hi0:i=0
  ·subst hi0
   refine⟨.slice A 0 n 1, ?_,⟨by simp[h0], .inr (.inr ⟨A,0,1,l,e,k,true,by simp,hg,hA,by simp[h0],by rw[Nat.sub_zero,Nat.zero_mul,List.drop_zero,zL (by omega)]⟩)⟩,by simp,by simp⟩
   simp only[j7,yN,n1,hg,hb,cond_true];simp[ZA,hroom,b1,yB,zMc,show Nat.beq 1 0=false from rfl]
  ·have hz0:Nat.beq i 0=false:=by rw[Bool.eq_false_iff];intro h;exact hi0 (Nat.eq_of_beq_eq_true h)
   refine⟨.slice A (0+i*k) (n - i) (1+2*i), ?_,⟨by simp[h0,hsub], .inr (.inr ⟨A,0+i*k,1+2*i,l,e,k,true,rfl,hg,hA,by omega,by rw[Nat.zero_add,zL (by simp[h0,hsub])]⟩)⟩,by simp,by simp⟩
   simp only[j7,yN,n1,hg,hb,cond_true];simp[ZA,hroom,b1,b2,b3,hz0,yB,show Nat.beq 1 0=false from rfl]
 ·have hroom:yG l g k 0 (2*n) k=n:=by
   simp only[yG,show((2*n) % 2).beq 0=true by rw[Nat.mul_mod_right];rfl,cond_true,Nat.mul_div_cancel_left n (show 0<2 by omega)]
  have b4':Nat.beq (2*n / 2) i=false:=by rw[Nat.mul_div_cancel_left n (show 0<2 by omega)];exact b4
  refine⟨.slice A (0+i*k) (n - i) (2*(2*n / 2 - i)), ?_,⟨by simp[h0,hsub], .inr (.inr ⟨A,0+i*k,2*(2*n / 2 - i),l,e',k,g,rfl,hg,hA,by omega,by rw[Nat.zero_add,zL (by simp[h0,hsub])]⟩)⟩,by simp,by simp⟩
  simp only[j7,yN,n1,hg,hb,cond_true];simp[ZA,hroom,b1,b2,b4',yB,b4]
theorem dQ (D:Dyn)(n:Nat){H:AH}(hk:H.ok){v:AV}{l:List Str}(h:Strs H v l)(hn:v≠ .nilSlice)(he:v≠ .emptySl)(hl:l.length≤1000000000):
  ∃v' H',f79 D n [v] H=some (v',H')∧Prs H H'∧jA 1 9 H' v' l.length (l.map S)∧ ∀B,Blk v' B→H.next≤B:=by
 have p1:Prs H (H.push (.cells [] 9 1 false)):=(Stp.refl hk).push _
 have g1:(H.push (.cells [] 9 1 false)).h.get H.next=some (.cells [] 9 1 false):=AH.push_get_eq _ _
 have n1:(H.push (.cells [] 9 1 false)).next=H.next+1:=rfl
 generalize hH1:H.push (.cells [] 9 1 false)=H1 at p1 g1 n1
 obtain⟨v',H2,e2,w2,s2,f2⟩:=(jA.zero 1 9 g1 p1.ok).app (bytes:=16) p1.ok (by decide) (Rw.srcOf (h.prs p1)) (by simp) (kJ _) (by omega) (by decide)
 have hz1:vQ 9 1 0 [.str 0 0] []=some (.cells [] 9 1 false,fun A=> .slice A 0 0 0):=rfl
 have heq:vH .eql (eqS v .nilSlice)=some (.bool false):=by
  obtain⟨_,⟨rfl,_⟩ | ⟨rfl,_⟩ | ⟨A,off,cc,c,e,sz,g,rfl,_⟩⟩:=h
  ·exact absurd rfl hn
  ·exact absurd rfl he
  ·rfl
 refine⟨v',H2, ?_,p1.fresh s2 (fun B hB=>by rw[Blk.slice.1 hB];exact Nat.le_refl _),by simpa using w2,fun B hB=> ?_⟩
 ·simp only[f79,eZ,heq,hz1,u9 hk,hH1,e2]
 ·rcases f2 B hB with h | h
  ·rw[Blk.slice.1 h];exact Nat.le_refl _
  ·omega
theorem QQ (D:Dyn)(n:Nat){H:AH}(hk:H.ok){v:AV}{l:List Ptr}(h:uI H v l)(hn:v≠ .nilSlice)(he:v≠ .emptySl)(hl:l.length≤1000000000):
  ∃v' H',f118 D n [v] H=some (v',H')∧Prs H H'∧jA 3 65 H' v' l.length (l.flatMap qW)∧ ∀B,Blk v' B→H.next≤B:=by
 have p1:Prs H (H.push (.cells [] 65 3 false)):=(Stp.refl hk).push _
 have g1:(H.push (.cells [] 65 3 false)).h.get H.next=some (.cells [] 65 3 false):=AH.push_get_eq _ _
 have n1:(H.push (.cells [] 65 3 false)).next=H.next+1:=rfl
 generalize hH1:H.push (.cells [] 65 3 false)=H1 at p1 g1 n1
 obtain⟨v',H2,e2,w2,s2,f2⟩:=(jA.zero 3 65 g1 p1.ok).app (bytes:=24) p1.ok (by decide) (Rw.srcOf (h.prs p1)) h.1 (wX _) (by omega) (by decide)
 have hz1: ∀a b c:AV,vQ 65 3 0 [a,b,c] []=some (.cells [] 65 3 false,fun A=> .slice A 0 0 0):=fun _ _ _=>rfl
 have heq:vH .eql (eqS v .nilSlice)=some (.bool false):=by
  obtain⟨_,⟨rfl,_⟩ | ⟨rfl,_⟩ | ⟨A,off,cc,c,e,sz,g,rfl,_⟩⟩:=h
  ·exact absurd rfl hn
  ·exact absurd rfl he
  ·rfl
 refine⟨v',H2, ?_,p1.fresh s2 (fun B hB=>by rw[Blk.slice.1 hB];exact Nat.le_refl _),by simpa using w2,fun B hB=> ?_⟩
 ·simp only[f118,eZ,heq,hz1,u9 hk,hH1,e2]
 ·rcases f2 B hB with h | h
  ·rw[Blk.slice.1 h];exact Nat.le_refl _
  ·omega
end Go.Eng.Sh
end
end
section
namespace Go.Eng.Sh
open Go.Nd (Ptr yF cutOk)
def v6 (nd:Nd.Node):Prop:=2≤nd.keys.length∧(nd.leaf=true∨3≤nd.keys.length)
def hbnd (nd:Nd.Node)(k:Nat):Prop:=
 (k=1∨Nd.size (Nd.cutA nd k)≤(Nd.size nd - 2) / 2+2)∧(k+(if nd.leaf then 1 else 2)=nd.keys.length∨(Nd.size nd - 2) / 2+2<Nd.size (Nd.cutA nd (k+1)))
theorem ZJ (l:List Str){i:Nat}(h:i<l.length):yF (l.take (i+1))=yF (l.take i)+(1+(l[i]).length):=by
 rw[zN h,Nd.sumL_append,Nd.sumL_cons];rfl
theorem size_leaf {nd:Nd.Node}(hl:nd.leaf=true)(hv:nd.vals.length=nd.keys.length){i:Nat}(h:i<nd.keys.length):Nd.size (Nd.cutA nd (i+1))=Nd.size (Nd.cutA nd i)+(1+(nd.keys[i]).length)+(1+(nd.vals[i]'(by omega)).length):=by
 simp only[Nd.cutA,hl,if_true,Nd.size,ZJ nd.keys h,ZJ nd.vals (i:=i) (by omega)];omega
theorem size_inner {nd:Nd.Node}(hl:nd.leaf=false)(hv:nd.kids.length=nd.keys.length+1){i:Nat}(h:i<nd.keys.length):Nd.size (Nd.cutA nd (i+1))=Nd.size (Nd.cutA nd i)+(1+(nd.keys[i]).length)+16:=by
 simp only[Nd.cutA,hl,Bool.false_eq_true,if_false,Nd.size,ZJ nd.keys h,zI];omega
theorem K9 (nd:Nd.Node):2≤Nd.size nd:=by simp only[Nd.size];omega
theorem zB8 (D:Dyn)(n:Nat){H:AH}{ks vs ps:AV}{nd:Nd.Node}(h1:Strs H ks nd.keys)(h2:Strs H vs nd.vals)(hv:nd.leaf=true→nd.vals.length=nd.keys.length)(hp:nd.leaf=false→nd.kids.length=nd.keys.length+1){A:Nat}{e:TypeId}(hA:H.h.get A=some (.cells [.bool nd.leaf,ks,vs,ps] e 1 false))
  (most:Nat) (L:Nat) (hL:L≤nd.keys.length) (hb:nd.keys.length≤1000000000) (hz:Nd.size nd≤1000000000) (n':Nat) (hn:L<n'):
  Fin (qX n' (QL D n) [.ptr A 0, .int .i64 (most:Nat), .int .i64 (L:Nat), .int .i64 ((Nd.size (Nd.cutA nd 0) - 2:Nat):Int), .int .i64 (L:Nat), .int .i64 (0:Nat)] H) fun x H'=>H'=H∧((∃j:Nat,0<j∧j<L∧x= .ret (.int .i64 (j:Nat))∧(j=1∨Nd.size (Nd.cutA nd j)≤most+2)∧most+2<Nd.size (Nd.cutA nd (j+1)))∨(x= .exit 0 [.int .i64 (L:Nat)]∧(L≤1∨Nd.size (Nd.cutA nd L)≤most+2))):=by
 refine Fin.loop (fun k us H'=>H'=H∧ ∃(i:Nat),us=[.ptr A 0, .int .i64 (most:Nat), .int .i64 (L:Nat), .int .i64 ((Nd.size (Nd.cutA nd i) - 2:Nat):Int), .int .i64 (L:Nat), .int .i64 (i:Nat)]∧i≤L∧k=L - i∧(i≤1∨Nd.size (Nd.cutA nd i)≤most+2)) ?_ n' L _ H ⟨rfl,0,rfl,by omega,by omega, .inl (by omega)⟩ hn
 rintro k us H' ⟨rfl,i,rfl,hi,rfl,hpre⟩
 by_cases hlt:i<L
 ·have hik:i<nd.keys.length:=by omega
  obtain⟨p,p1,p2⟩:=h1.at hik
  have hiI:((i:Nat):Int)< ((L:Nat):Int):=by omega
  have z2:=K9 (Nd.cutA nd i)
  have z2':=K9 (Nd.cutA nd (i+1))
  have tail:Fin (aM D n [.ptr A 0, .int .i64 (most:Nat), .int .i64 (L:Nat), .int .i64 ((Nd.size (Nd.cutA nd (i+1)) - 2:Nat):Int), .int .i64 (i:Nat), .int .i64 (L:Nat), .int .i64 (i:Nat)] H')
    (orN (fun us' H''=> ∃k',k'<L - i∧H''=H'∧ ∃(i:Nat),us'=[.ptr A 0, .int .i64 (most:Nat), .int .i64 (L:Nat), .int .i64 ((Nd.size (Nd.cutA nd i) - 2:Nat):Int), .int .i64 (L:Nat), .int .i64 (i:Nat)]∧i≤L∧k'=L - i∧(i≤1∨Nd.size (Nd.cutA nd i)≤most+2))
     (fun x H''=>H''=H'∧((∃j:Nat,0<j∧j<L∧x= .ret (.int .i64 (j:Nat))∧(j=1∨Nd.size (Nd.cutA nd j)≤most+2)∧most+2<Nd.size (Nd.cutA nd (j+1)))∨(x= .exit 0 [.int .i64 (L:Nat)]∧(L≤1∨Nd.size (Nd.cutA nd L)≤most+2))))):=by
   by_cases hc:0<i∧most<Nd.size (Nd.cutA nd (i+1)) - 2
   ·have c1:((0:Nat):Int)< (i:Int):=by omega
    have c2:((most:Nat):Int)< ((Nd.size (Nd.cutA nd (i+1)) - 2:Nat):Int):=by omega
    have:aM D n [.ptr A 0, .int .i64 (most:Nat), .int .i64 (L:Nat), .int .i64 ((Nd.size (Nd.cutA nd (i+1)) - 2:Nat):Int), .int .i64 (i:Nat), .int .i64 (L:Nat), .int .i64 (i:Nat)] H'=some (.ret (.int .i64 (i:Nat)),H'):=by
     simp(disch:=omega) only[aM,eZ,c1,c2]
    rw[this]
    exact⟨_,_,rfl,rfl, .inl ⟨i,hc.1,hlt,rfl,by omega,by omega⟩⟩
   ·have hcb:(decide (((0:Nat):Int)< (i:Int))&&decide (((most:Nat):Int)< ((Nd.size (Nd.cutA nd (i+1)) - 2:Nat):Int)))=false:=by
     rw[Bool.eq_false_iff];intro hh
     simp only[z8,zD]at hh
     exact hc ⟨by omega,by omega⟩
    have:aM D n [.ptr A 0, .int .i64 (most:Nat), .int .i64 (L:Nat), .int .i64 ((Nd.size (Nd.cutA nd (i+1)) - 2:Nat):Int), .int .i64 (i:Nat), .int .i64 (L:Nat), .int .i64 (i:Nat)] H'=some (.norm [.ptr A 0, .int .i64 (most:Nat), .int .i64 (L:Nat), .int .i64 ((Nd.size (Nd.cutA nd (i+1)) - 2:Nat):Int), .int .i64 (L:Nat), .int .i64 ((i+1:Nat):Int)],H'):=by
     simp(disch:=omega) only[aM,eZ,hcb,Int.natCast_add]
    rw[this]
    exact⟨_,_,rfl,L - (i+1),by omega,rfl,i+1,rfl,by omega,rfl,by omega⟩
  have hsz:Nd.size (Nd.cutA nd i)≤1000000002:=by
   have t1:=Nd.sumL_take_le nd.keys i;have t2:=Nd.sumL_take_le nd.vals i
   have:Nd.size nd=2+16*nd.kids.length+yF nd.keys+yF nd.vals:=rfl
   have z0:yF []=0:=rfl
   simp only[Nd.cutA]
   split<;>simp only[Nd.size,zX,zI,z0]<;>omega
  have hkl:(nd.keys[i]).length≤1000000000:=by
   have:=Nd.sumL_drop_le nd.keys i
   rw[zM hik,Nd.sumL_cons]at this
   have:Nd.size nd=2+16*nd.kids.length+yF nd.keys+yF nd.vals:=rfl
   omega
  cases hl:nd.leaf with
  | true=>
   rw[hl]at hA
   obtain⟨q,q1,q2⟩:=h2.at (i:=i) (by rw[hv hl];exact hik)
   have hs:=size_leaf hl (hv hl) hik
   have hvl:(nd.vals[i]'(by rw[hv hl];exact hik)).length≤1000000000:=by
    have:=Nd.sumL_drop_le nd.vals i
    rw[zM (by rw[hv hl];exact hik),Nd.sumL_cons]at this
    have:Nd.size nd=2+16*nd.kids.length+yF nd.keys+yF nd.vals:=rfl
    omega
   have hz:((Nd.size (Nd.cutA nd (i+1)) - 2:Nat):Int)=((Nd.size (Nd.cutA nd i) - 2:Nat):Int)+(((1:Nat):Int)+(((nd.keys[i]).length:Nat):Int))+(((1:Nat):Int)+(((nd.vals[i]'(by rw[hv hl];exact hik)).length:Nat):Int)):=by omega
   have:QL D n [.ptr A 0, .int .i64 (most:Nat), .int .i64 (L:Nat), .int .i64 ((Nd.size (Nd.cutA nd i) - 2:Nat):Int), .int .i64 (L:Nat), .int .i64 (i:Nat)] H'=jn (some (.norm [.ptr A 0, .int .i64 (most:Nat), .int .i64 (L:Nat), .int .i64 ((Nd.size (Nd.cutA nd (i+1)) - 2:Nat):Int), .int .i64 (i:Nat), .int .i64 (L:Nat), .int .i64 (i:Nat)],H')) (aM D n):=by
    rw[hz]
    simp(disch:=omega) only[QL,eZ,hiI,qL hA,p1,p2,q1,q2]
   rw[this,KT];exact tail
  | false=>
   rw[hl]at hA
   have hs:=size_inner hl (hp hl) hik
   have hz:((Nd.size (Nd.cutA nd (i+1)) - 2:Nat):Int)=((Nd.size (Nd.cutA nd i) - 2:Nat):Int)+(((1:Nat):Int)+(((nd.keys[i]).length:Nat):Int))+((16:Nat):Int):=by omega
   have:QL D n [.ptr A 0, .int .i64 (most:Nat), .int .i64 (L:Nat), .int .i64 ((Nd.size (Nd.cutA nd i) - 2:Nat):Int), .int .i64 (L:Nat), .int .i64 (i:Nat)] H'=jn (some (.norm [.ptr A 0, .int .i64 (most:Nat), .int .i64 (L:Nat), .int .i64 ((Nd.size (Nd.cutA nd (i+1)) - 2:Nat):Int), .int .i64 (i:Nat), .int .i64 (L:Nat), .int .i64 (i:Nat)],H')) (aM D n):=by
    rw[hz]
    simp(disch:=omega) only[QL,eZ,hiI,qL hA,p1,p2]
   rw[this,KT];exact tail
 ·have hiI: ¬((i:Nat):Int)< ((L:Nat):Int):=by omega
  have hiL:i=L:=by omega
  subst hiL
  refine⟨.exit 0 [.int .i64 (i:Nat)],H', ?_,rfl, .inr ⟨rfl,hpre⟩⟩
  simp only[QL,eZ,hiI]
theorem zEc (D:Dyn)(n:Nat)(hn:200000000≤n){H:AH}(hk:H.ok){v:AV}{nd:Nd.Node}(h:fM H v nd)(hs:small nd)(hsh:Nd.shaped ltS nd=true)(hc:v6 nd):
  ∃(k:Nat) (H':AH),f127 D n [v] H=some (.int .i64 (k:Nat),H')∧Prs H H'∧cutOk nd k∧hbnd nd k:=by
 have h0:=h
 obtain⟨ks,vs,ps,rfl,h1,h2,h3⟩:=h
 have hkl:=Nd.sumL_ge nd.keys
 obtain⟨s1,s2,s3⟩:=id hs
 obtain⟨c1,c2⟩:=hc
 have hv:nd.leaf=true→nd.vals.length=nd.keys.length:=by
  intro hl
  simp only[Nd.shaped,hl,if_true,z8,zD]at hsh
  exact hsh.2.1.1
 have hp:nd.leaf=false→nd.kids.length=nd.keys.length+1:=by
  intro hl
  simp only[Nd.shaped,hl,Bool.false_eq_true,if_false,z8,zD]at hsh
  exact hsh.2.1.2
 have p1:Prs H (H.push (.cells [.bool nd.leaf,ks,vs,ps] 111 1 false)):=(Stp.refl hk).push _
 have g1:(H.push (.cells [.bool nd.leaf,ks,vs,ps] 111 1 false)).h.get H.next=some (.cells [.bool nd.leaf,ks,vs,ps] 111 1 false):=AH.push_get_eq _ _
 generalize hH1:H.push (.cells [.bool nd.leaf,ks,vs,ps] 111 1 false)=H1 at p1 g1
 obtain⟨z,H2,e2,rfl,p2⟩:=BI D n p1.ok (h0.prs p1) hs hn
 have g2:=p2.get p1.ok g1
 have P:Prs H H2:=p1.trans p2
 have hq:=WP .i64 (((Nd.size nd:Nat):Int) - ((2:Nat):Int)) ((2:Nat):Int) (by omega)
 have hsz:Nd.size nd≤1000000000:=by simp only[Nd.size];omega
 have hz2:=K9 nd
 have hmost:IntKind.wrap .i64 ((((Nd.size nd:Nat):Int) - ((2:Nat):Int)).tdiv ((2:Nat):Int))=(((Nd.size nd - 2) / 2:Nat):Int):=by
  rw[show((Nd.size nd:Nat):Int) - ((2:Nat):Int)=((Nd.size nd - 2:Nat):Int)by omega,Int.tdiv_eq_ediv_of_nonneg (by omega)]
  rw[wrap_i64 (by omega) (by omega)];omega
 rw[hmost]at hq
 cases hl:nd.leaf with
 | true=>
  obtain⟨x,H3,e3,rfl,hx⟩:=zB8 D n (h1.prs P) (h2.prs P) hv hp g2 ((Nd.size nd - 2) / 2) (nd.keys.length - 1) (by omega) (by omega) hsz n (by omega)
  have hL:((nd.keys.length:Nat):Int) - ((1:Nat):Int)=((nd.keys.length - 1:Nat):Int):=by omega
  rw[hl]at g2 hH1 e2
  rw[show Nd.size (Nd.cutA nd 0) - 2=0 by simp[Nd.cutA,hl,Nd.size,yF]]at e3
  rcases hx with⟨j,j1,j2,rfl,j3,j4⟩ | ⟨rfl,j3⟩
  ·refine⟨j,H3, ?_,P,⟨j1,by rw[hl];simp only[if_true];omega⟩,j3, .inr j4⟩
   simp(disch:=omega) only[f127,eZ,u9 hk,hH1,cJ,Option.map_some,hl,e2,hq,qL g2,h1.lnSl,hL,U3,e3]
  ·refine⟨nd.keys.length - 1,H3, ?_,P,⟨by omega,by rw[hl];simp only[if_true];omega⟩,by omega, .inl (by rw[hl];simp only[if_true];omega)⟩
   simp(disch:=omega) only[f127,eZ,u9 hk,hH1,cJ,Option.map_some,hl,e2,hq,qL g2,h1.lnSl,hL,U3,e3,zEL]
 | false=>
  have c3:3≤nd.keys.length:=by rcases c2 with h | h;rw[hl]at h;cases h;exact h
  obtain⟨x,H3,e3,rfl,hx⟩:=zB8 D n (h1.prs P) (h2.prs P) hv hp g2 ((Nd.size nd - 2) / 2) (nd.keys.length - 2) (by omega) (by omega) hsz n (by omega)
  have hL:((nd.keys.length:Nat):Int) - ((1:Nat):Int) - ((1:Nat):Int)=((nd.keys.length - 2:Nat):Int):=by omega
  rw[hl]at g2 hH1 e2
  rw[show Nd.size (Nd.cutA nd 0) - 2=16 by have hpl:=hp hl;simp only[Nd.cutA,hl,Bool.false_eq_true,if_false,Nd.size,List.take_zero,zI,Nat.zero_add,show yF []=0 from rfl];omega]at e3
  rcases hx with⟨j,j1,j2,rfl,j3,j4⟩ | ⟨rfl,j3⟩
  ·refine⟨j,H3, ?_,P,⟨j1,by rw[hl];simp only[Bool.false_eq_true,if_false];omega⟩,j3, .inr j4⟩
   simp(disch:=omega) only[f127,eZ,u9 hk,hH1,cJ,Option.map_some,hl,e2,hq,qL g2,h1.lnSl,hL,U3,e3]
  ·refine⟨nd.keys.length - 2,H3, ?_,P,⟨by omega,by rw[hl];simp only[Bool.false_eq_true,if_false];omega⟩,by omega, .inl (by rw[hl];simp only[Bool.false_eq_true,if_false];omega)⟩
   simp(disch:=omega) only[f127,eZ,u9 hk,hH1,cJ,Option.map_some,hl,e2,hq,qL g2,h1.lnSl,hL,U3,e3,zEL]
open Go.Nd (cutA fE)
theorem vK {k e n:Nat}{H H':AH}{v:AV}{l l':List AV}(h:jA k e H v n l)(h':jA k e H' v n l')(hpos:0<k)(lo hi mx:Option AV):j7 k v lo hi mx H'=j7 k v lo hi mx H:=by
 have room1: ∀l:List AV,l.length=n*k→yG l true k 0 1 k=n:=fun l h0=>by
  simp only[yG,show((1 % 2).beq 0)=false from rfl,cond_false,Nat.beq_refl,show Nat.beq 0 (1 / 2*k)=true from by simp,Bool.and_self,cond_true,qY,h0,Nat.sub_zero]
  exact Nat.mul_div_cancel _ hpos
 have room2: ∀(l:List AV) (g:Bool),yG l g k 0 (2*n) k=n:=fun l g=>by
  simp only[yG,show((2*n) % 2).beq 0=true by rw[Nat.mul_mod_right];rfl,cond_true,Nat.mul_div_cancel_left n (show 0<2 by omega)]
 rcases h with⟨h0,⟨rfl,_⟩ | ⟨A,rfl,hA,hg⟩⟩ | ⟨h0,A,e',g,rfl,hA,hg⟩
 ·rfl
 ·rcases h' with⟨h0',⟨hv,_⟩ | ⟨A',hv,hA',hg'⟩⟩ | ⟨h0',A',e'',g',hv,hA',hg'⟩
  ·cases hv
  ·simp only[AV.slice.injEq]at hv;obtain⟨rfl,_⟩:=hv
   simp only[j7,hg,hg',room1 l h0,room1 l' h0']
  ·simp only[AV.slice.injEq]at hv;omega
 ·rcases h' with⟨h0',⟨hv,_⟩ | ⟨A',hv,hA',hg'⟩⟩ | ⟨h0',A',e'',g',hv,hA',hg'⟩
  ·cases hv
  ·simp only[AV.slice.injEq]at hv;omega
  ·simp only[AV.slice.injEq]at hv;obtain⟨rfl,_⟩:=hv
   simp only[j7,hg,hg',room2]
theorem ZN {H:AH}(hk:H.ok){A o:Nat}{l:List AV}{e:TypeId}{x:AV}(h:H.h.get A=some (.cells l e 1 false))(hx:isCell x=true)(ho:o<l.length):
  ∃H',stN 1 (.ptr A o) x H=some (qM,H')∧H'.h.get A=some (.cells (l.set o x) e 1 false)∧Stp (fun B=>B=A) H H'∧H'.next=H.next:=
 ⟨_,YQ h (by decide) hx ho,by rw[AH.put_get,if_pos rfl],(Stp.refl hk).put (hk.lt h) _ (.inr rfl),rfl⟩
theorem map_take (l:List Str)(k:Nat):(l.map S).take (k*1)=(l.take k).map S:=by simp
theorem map_drop (l:List Str)(k:Nat):(l.map S).drop (k*1)=(l.drop k).map S:=by simp
theorem QG: ∀(l:List Ptr) (k:Nat),(l.flatMap qW).take (k*3)=(l.take k).flatMap qW
 | _,0=>by simp
 | [],k+1=>by simp
 | p::l,k+1=>by
  have ih:=QG l k
  rw[show(k+1)*3=k*3+3 from by omega]
  show((qW p)++l.flatMap qW).take (k*3+3)=qW p++(l.take k).flatMap qW
  rw[← ih];rfl
theorem QH: ∀(l:List Ptr) (k:Nat),(l.flatMap qW).drop (k*3)=(l.drop k).flatMap qW
 | _,0=>by simp
 | [],k+1=>by simp
 | p::l,k+1=>by
  have ih:=QH l k
  rw[show(k+1)*3=k*3+3 from by omega]
  show((qW p)++l.flatMap qW).drop (k*3+3)=(l.drop k).flatMap qW
  rw[← ih];rfl
structure CutI (H0:AH)(A1 A2 A4:Nat)(H:AH)(l1 l2 l4:List AV):Prop where
 prs:Prs H0 H
 a1:H.h.get A1=some (.cells l1 111 1 false)
 a2:H.h.get A2=some (.cells l2 111 1 false)
 a4:H.h.get A4=some (.cells l4 111 1 false)
 o1:H0.next≤A1
 o2:A1<A2
 o4:A2<A4
theorem CutI.lt {H0 H:AH}{A1 A2 A4:Nat}{l1 l2 l4:List AV}(h:CutI H0 A1 A2 A4 H l1 l2 l4):A4<H.next:=h.prs.ok.lt h.a4
theorem CutI.step {H0 H H':AH}{A1 A2 A4:Nat}{l1 l2 l4:List AV}(h:CutI H0 A1 A2 A4 H l1 l2 l4)(s:Prs H H'):CutI H0 A1 A2 A4 H' l1 l2 l4:=
 ⟨h.prs.trans s,s.get h.prs.ok h.a1,s.get h.prs.ok h.a2,s.get h.prs.ok h.a4,h.o1,h.o2,h.o4⟩
theorem CutI.st2 {H0 H:AH}{A1 A2 A4:Nat}{l1 l2 l4:List AV}(h:CutI H0 A1 A2 A4 H l1 l2 l4){o:Nat}{x:AV}(hx:isCell x=true)(ho:o<l2.length):
  ∃H',stN 1 (.ptr A2 o) x H=some (qM,H')∧CutI H0 A1 A2 A4 H' l1 (l2.set o x) l4∧Stp (fun B=>B=A2) H H':=by
 obtain⟨H',e,g,s,n⟩:=ZN h.prs.ok h.a2 hx ho
 have:=h.o1;have:=h.o2;have:=h.o4;have l4:=h.lt
 exact⟨H',e,⟨h.prs.fresh s (fun B hB=>by omega),by rw[s.keep _ (by omega) (by omega)];exact h.a1,g,by rw[s.keep _ l4 (by omega)];exact h.a4,h.o1,h.o2,h.o4⟩,s⟩
theorem CutI.st4 {H0 H:AH}{A1 A2 A4:Nat}{l1 l2 l4:List AV}(h:CutI H0 A1 A2 A4 H l1 l2 l4){o:Nat}{x:AV}(hx:isCell x=true)(ho:o<l4.length):
  ∃H',stN 1 (.ptr A4 o) x H=some (qM,H')∧CutI H0 A1 A2 A4 H' l1 l2 (l4.set o x)∧Stp (fun B=>B=A4) H H':=by
 obtain⟨H',e,g,s,n⟩:=ZN h.prs.ok h.a4 hx ho
 have:=h.o1;have:=h.o2;have:=h.o4;have l4:=h.lt
 exact⟨H',e,⟨h.prs.fresh s (fun B hB=>by omega),by rw[s.keep _ (by omega) (by omega)];exact h.a1,by rw[s.keep _ (by omega) (by omega)];exact h.a2,g,h.o1,h.o2,h.o4⟩,s⟩
theorem CutI.all2 {H0 H:AH}{A1 A2 A4:Nat}{l1 l2 l4 l':List AV}(h:CutI H0 A1 A2 A4 H l1 l2 l4)(hl:l'.length=l2.length)(hc:qO l'=true):
  ∃H',stN l2.length (.ptr A2 0) (.agg l') H=some (qM,H')∧CutI H0 A1 A2 A4 H' l1 l' l4∧Stp (fun B=>B=A2) H H':=by
 obtain⟨H',e,g,s,n⟩:=qV h.prs.ok h.a2 hl hc
 have:=h.o1;have:=h.o2;have:=h.o4;have l4:=h.lt
 exact⟨H',e,⟨h.prs.fresh s (fun B hB=>by omega),by rw[s.keep _ (by omega) (by omega)];exact h.a1,g,by rw[s.keep _ l4 (by omega)];exact h.a4,h.o1,h.o2,h.o4⟩,s⟩
theorem CutI.all4 {H0 H:AH}{A1 A2 A4:Nat}{l1 l2 l4 l':List AV}(h:CutI H0 A1 A2 A4 H l1 l2 l4)(hl:l'.length=l4.length)(hc:qO l'=true):
  ∃H',stN l4.length (.ptr A4 0) (.agg l') H=some (qM,H')∧CutI H0 A1 A2 A4 H' l1 l2 l'∧Stp (fun B=>B=A4) H H':=by
 obtain⟨H',e,g,s,n⟩:=qV h.prs.ok h.a4 hl hc
 have:=h.o1;have:=h.o2;have:=h.o4;have l4:=h.lt
 exact⟨H',e,⟨h.prs.fresh s (fun B hB=>by omega),by rw[s.keep _ (by omega) (by omega)];exact h.a1,by rw[s.keep _ (by omega) (by omega)];exact h.a2,g,h.o1,h.o2,h.o4⟩,s⟩
def xJ (u:AV)(B:Nat):Prop:= ∃x ks vs ps,u= .agg [x,ks,vs,ps]∧(Blk ks B∨Blk vs B∨Blk ps B)
theorem jS {x ks vs ps:AV}{B:Nat} :xJ (.agg [x,ks,vs,ps]) B↔(Blk ks B∨Blk vs B∨Blk ps B):=
 ⟨fun⟨_,_,_,_,e,h⟩=>by simp only[AV.agg.injEq,List.cons.injEq,and_true]at e;obtain⟨rfl,rfl,rfl,rfl⟩:=e;exact h,fun h=>⟨_,_,_,_,rfl,h⟩⟩
def kS (N:Nat)(H:AH)(v:AV)(nd:Nd.Node):Prop:=y8 H v nd∧ ∀B,xJ v B→N≤B
structure FrG (A k e:Nat)(H:AH)(v:AV)(n:Nat)(l:List AV):Prop where
 g:jA k e H v n l
 f: ∀B,Blk v B→A<B
theorem FrG.prs {A k e n:Nat}{H H':AH}{v:AV}{l:List AV}(h:FrG A k e H v n l)(s:Prs H H'):FrG A k e H' v n l:=⟨h.g.mono s (fun _ _ x=>x),h.f⟩
theorem FrG.stp {A A' k e n:Nat}{H H':AH}{v:AV}{l:List AV}(h:FrG A k e H v n l)(s:Stp (fun B=>B=A') H H')(hA:A'≤A):FrG A k e H' v n l:=
 ⟨h.g.mono s (fun B hB e=>by have:=h.f B hB;omega),h.f⟩
theorem zMe (l:Str):aveq (S l) (S l)=true:=by simp[S,aveq]
theorem FrG.nil (A k e:Nat)(H:AH):FrG A k e H .nilSlice 0 []:=⟨.inl ⟨by simp, .inl ⟨rfl,rfl⟩⟩,fun B hB=>(Blk.nil.1 hB).elim⟩
theorem FrG.isCell {A k e n:Nat}{H:AH}{v:AV}{l:List AV}(h:FrG A k e H v n l):isCell v=true:=h.g.isCell
theorem FrG.aveq {A k e n:Nat}{H:AH}{v:AV}{l:List AV}(h:FrG A k e H v n l):aveq v v=true:=yK h.g.row
structure FrN (A:Nat)(H:AH)(a b c:AV)(nd:Nd.Node):Prop where
 k:FrG A 1 9 H a nd.keys.length (nd.keys.map S)
 v:FrG A 1 9 H b nd.vals.length (nd.vals.map S)
 p:FrG A 3 65 H c nd.kids.length (nd.kids.flatMap qW)
theorem FrN.stp {A A':Nat}{H H':AH}{a b c:AV}{nd:Nd.Node}(h:FrN A H a b c nd)(s:Stp (fun B=>B=A') H H')(hA:A'≤A):FrN A H' a b c nd:=⟨h.k.stp s hA,h.v.stp s hA,h.p.stp s hA⟩
theorem FrN.fresh {A N:Nat}{H:AH}{x a b c:AV}{nd:Nd.Node}(h:FrN A H a b c nd)(hN:N≤A): ∀B,xJ (.agg [x,a,b,c]) B→N≤B:=fun B hB=>by
 rcases jS.1 hB with k | k | k
 ·have:=h.k.f B k;omega
 ·have:=h.v.f B k;omega
 ·have:=h.p.f B k;omega
theorem zFd (D:Dyn)(n:Nat){H0 H:AH}{A1 A2 A4 k:Nat}{b:Bool}{ks vs ps k2 v2 p2 k4 v4 p4:AV}{keys:List Str}{na nb:Nd.Node}
  (h:CutI H0 A1 A2 A4 H [.bool b,ks,vs,ps] [.bool b,k2,v2,p2] [.bool b,k4,v4,p4]) (hks:Strs H ks keys) (hR: ∀B,Blk ks B→B<H0.next) (hk:k<keys.length) (ha:FrN A4 H k2 v2 p2 na) (hb:FrN A4 H k4 v4 p4 nb):
  ∃H',zEQ D n [.ptr A1 0, .ptr A2 0, .ptr A4 0, .int .i64 (k:Nat)] H=some (.ret (.tuple [.agg [.bool b,k2,v2,p2],S (keys.getD k []), .agg [.bool b,k4,v4,p4], .int .i64 ((0:Nat):Int)]),H')∧Prs H0 H'∧FrN A4 H' k2 v2 p2 na∧FrN A4 H' k4 v4 p4 nb:=by
 have o1:=h.o1;have o2:=h.o2;have o4:=h.o4
 obtain⟨q,q1,q2⟩:=hks.at hk
 obtain⟨H1,e1,h1,s1⟩:=h.all2 (l':=[.bool b,k2,v2,p2]) rfl (cB _ _ _ _ ha.k.isCell ha.v.isCell ha.p.isCell)
 have hks1:Strs H1 ks keys:=Rw.stp hks s1 (fun B hB e=>by have:=hR B hB;omega)
 obtain⟨q',q1',q2'⟩:=hks1.at hk
 obtain rfl:q=q':=by have:=q1 .i64 k rfl;rw[q1' .i64 k rfl]at this;cases this;rfl
 obtain⟨H2,e2,h2,s2⟩:=h1.all4 (l':=[.bool b,k4,v4,p4]) rfl (cB _ _ _ _ hb.k.isCell hb.v.isCell hb.p.isCell)
 have e1':stN 4 (.ptr A2 0) (.agg [.bool b,k2,v2,p2]) H=some (qM,H1):=e1
 have e2':stN 4 (.ptr A4 0) (.agg [.bool b,k4,v4,p4]) H1=some (qM,H2):=e2
 have hagg:aveq (.agg [.bool b,k4,v4,p4]) (.agg [.bool b,k4,v4,p4])=true:=by simp[Eng.aveq,aD,hb.k.aveq,hb.v.aveq,hb.p.aveq]
 have hg:keys.getD k []=keys[k]:=by rw[zK,zC hk];rfl
 have l4:ldN 4 (.ptr A4 0) H1=some (.agg [.bool b,k4,v4,p4]):=by rw[qQ h1.a4];rfl
 refine⟨H2, ?_,h2.prs,(ha.stp s1 (by omega)).stp s2 (by omega),(hb.stp s1 (by omega)).stp s2 (by omega)⟩
 rw[hg]
 simp(disch:=omega) only[zEQ,eZ,qQ h.a2,qQ h.a4,qL h.a1,q1,q2,e1',e2',j0 (qL h1.a1 1) (yK hks),j0 q2' (zMe _),j0 l4 hagg,qQ h2.a2,qQ h2.a4,cJ,Option.map_some]
theorem zEa (D:Dyn)(n:Nat){H:AH}(hk:H.ok){v:AV}{l:List Str}(h:jA 1 9 H v l.length (l.map S))(hl:l.length≤1000000000){i:Nat}(h0:0<i)(hi:i≤l.length)(A:Nat)(hA:A<H.next):
  ∃r v' H',j7 1 v none (some (.int .i64 (i:Nat))) (some (.int .i64 (i:Nat))) H=some r∧f79 D n [r] H=some (v',H')∧Prs H H'∧FrG A 1 9 H' v' (l.take i).length ((l.take i).map S):=by
 obtain⟨r,e1,w,hz⟩:=K7 h (by decide) hi .i64 .i64
 rw[map_take]at w
 have hlen:(l.take i).length=i:=by rw[zI];omega
 have w':Strs H r (l.take i):=by rw[Strs,hlen];exact w
 obtain⟨v',H',e2,p,g,f⟩:=dQ D n hk w' (hz h0).1 (hz h0).2 (by omega)
 exact⟨r,v',H',e1,e2,p,g,fun B hB=>by have:=f B hB;omega⟩
theorem zDU (D:Dyn)(n:Nat){H:AH}(hk:H.ok){v:AV}{l:List Str}(h:jA 1 9 H v l.length (l.map S))(hl:l.length≤1000000000){i:Nat}(hi:i<l.length)(A:Nat)(hA:A<H.next):
  ∃r v' H',aveq r r=true∧j7 1 v (some (.int .i64 (i:Nat))) none none H=some r∧f79 D n [r] H=some (v',H')∧Prs H H'∧FrG A 1 9 H' v' (l.drop i).length ((l.drop i).map S):=by
 obtain⟨r,e1,w,z1,z2⟩:=ZO h (by decide) hi .i64
 rw[map_drop]at w
 have hlen:(l.drop i).length=l.length - i:=by rw[zO]
 have w':Strs H r (l.drop i):=by rw[Strs,hlen];exact w
 obtain⟨v',H',e2,p,g,f⟩:=dQ D n hk w' z1 z2 (by omega)
 exact⟨r,v',H',yK w,e1,e2,p,g,fun B hB=>by have:=f B hB;omega⟩
theorem zLv (D:Dyn)(n:Nat){H:AH}(hk:H.ok){v:AV}{l:List Ptr}(h:jA 3 65 H v l.length (l.flatMap qW))(hl:l.length≤1000000000){i:Nat}(h0:0<i)(hi:i≤l.length)(A:Nat)(hA:A<H.next):
  ∃r v' H',j7 3 v none (some (.int .i64 (i:Nat))) (some (.int .i64 (i:Nat))) H=some r∧f118 D n [r] H=some (v',H')∧Prs H H'∧FrG A 3 65 H' v' (l.take i).length ((l.take i).flatMap qW):=by
 obtain⟨r,e1,w,hz⟩:=K7 h (by decide) hi .i64 .i64
 rw[QG]at w
 have hlen:(l.take i).length=i:=by rw[zI];omega
 have w':uI H r (l.take i):=by rw[uI,hlen];exact w
 obtain⟨v',H',e2,p,g,f⟩:=QQ D n hk w' (hz h0).1 (hz h0).2 (by omega)
 exact⟨r,v',H',e1,e2,p,g,fun B hB=>by have:=f B hB;omega⟩
theorem zLd (D:Dyn)(n:Nat){H:AH}(hk:H.ok){v:AV}{l:List Ptr}(h:jA 3 65 H v l.length (l.flatMap qW))(hl:l.length≤1000000000){i:Nat}(hi:i<l.length)(A:Nat)(hA:A<H.next):
  ∃r v' H',aveq r r=true∧j7 3 v (some (.int .i64 (i:Nat))) none none H=some r∧f118 D n [r] H=some (v',H')∧Prs H H'∧FrG A 3 65 H' v' (l.drop i).length ((l.drop i).flatMap qW):=by
 obtain⟨r,e1,w,z1,z2⟩:=ZO h (by decide) hi .i64
 rw[QH]at w
 have hlen:(l.drop i).length=l.length - i:=by rw[zO]
 have w':uI H r (l.drop i):=by rw[uI,hlen];exact w
 obtain⟨v',H',e2,p,g,f⟩:=QQ D n hk w' z1 z2 (by omega)
 exact⟨r,v',H',yK w,e1,e2,p,g,fun B hB=>by have:=f B hB;omega⟩
theorem zAk (D:Dyn)(n:Nat)(hn:200000000≤n){H:AH}(hk:H.ok){b:Bool}{ks vs ps:AV}{nd:Nd.Node}(hb:nd.leaf=b)(h:fM H (.agg [.bool b,ks,vs,ps]) nd)(hs:small nd):
  ∃H1 H2 H3 H4 A1 A2 A4,(∀K,bA (some (AObj.cells [.bool b,ks,vs,ps] 111 1 false,fun A=>AV.ptr A 0)) H K=K (.ptr A1 0) H1)∧(∀K,bA (some (AObj.cells [.bool false, .nilSlice, .nilSlice, .nilSlice] 111 1 false,fun A=>AV.ptr A 0)) H1 K=K (.ptr A2 0) H2)∧
   (∀K,bA (some (AObj.cells [.bool false, .nilSlice, .nilSlice, .nilSlice] 111 1 false,fun A=>AV.ptr A 0)) H2 K=K (.ptr A4 0) H3)∧f77 D n [.agg [.bool b,ks,vs,ps]] H3=some (.bool (Nd.shaped ltS nd),H4)∧
   CutI H A1 A2 A4 H3 [.bool b,ks,vs,ps] [.bool false, .nilSlice, .nilSlice, .nilSlice] [.bool false, .nilSlice, .nilSlice, .nilSlice]∧CutI H A1 A2 A4 H4 [.bool b,ks,vs,ps] [.bool false, .nilSlice, .nilSlice, .nilSlice] [.bool false, .nilSlice, .nilSlice, .nilSlice]:=by
 have p1:Prs H (H.push (.cells [.bool b,ks,vs,ps] 111 1 false)):=(Stp.refl hk).push _
 have g1:(H.push (.cells [.bool b,ks,vs,ps] 111 1 false)).h.get H.next=some (.cells [.bool b,ks,vs,ps] 111 1 false):=AH.push_get_eq _ _
 have n1:(H.push (.cells [.bool b,ks,vs,ps] 111 1 false)).next=H.next+1:=rfl
 generalize hH1:H.push (.cells [.bool b,ks,vs,ps] 111 1 false)=H1 at p1 g1 n1
 have p2:Prs H1 (H1.push (.cells [.bool false, .nilSlice, .nilSlice, .nilSlice] 111 1 false)):=(Stp.refl p1.ok).push _
 have g2:(H1.push (.cells [.bool false, .nilSlice, .nilSlice, .nilSlice] 111 1 false)).h.get H1.next=some (.cells [.bool false, .nilSlice, .nilSlice, .nilSlice] 111 1 false):=AH.push_get_eq _ _
 have n2:(H1.push (.cells [.bool false, .nilSlice, .nilSlice, .nilSlice] 111 1 false)).next=H1.next+1:=rfl
 have g12:=p2.get p1.ok g1
 generalize hH2:H1.push (.cells [.bool false, .nilSlice, .nilSlice, .nilSlice] 111 1 false)=H2 at p2 g2 n2 g12
 have p3:Prs H2 (H2.push (.cells [.bool false, .nilSlice, .nilSlice, .nilSlice] 111 1 false)):=(Stp.refl p2.ok).push _
 have g3:(H2.push (.cells [.bool false, .nilSlice, .nilSlice, .nilSlice] 111 1 false)).h.get H2.next=some (.cells [.bool false, .nilSlice, .nilSlice, .nilSlice] 111 1 false):=AH.push_get_eq _ _
 have g13:=p3.get p2.ok g12
 have g23:=p3.get p2.ok g2
 generalize hH3:H2.push (.cells [.bool false, .nilSlice, .nilSlice, .nilSlice] 111 1 false)=H3 at p3 g3 g13 g23
 have P3:Prs H H3:=(p1.trans p2).trans p3
 obtain⟨H4,e4,p4⟩:=uO D n p3.ok (h.prs P3) hs hn
 have c3:CutI H H.next H1.next H2.next H3 [.bool b,ks,vs,ps] [.bool false, .nilSlice, .nilSlice, .nilSlice] [.bool false, .nilSlice, .nilSlice, .nilSlice]:=⟨P3,g13,g23,g3,by omega,by omega,by omega⟩
 refine⟨H1,H2,H3,H4,H.next,H1.next,H2.next,fun K=> ?_,fun K=> ?_,fun K=> ?_,e4,c3,c3.step p4⟩
 ·simp only[eZ,u9 hk,hH1]
 ·simp only[eZ,u9 p1.ok,hH2]
 ·simp only[eZ,u9 p2.ok,hH3]
end Go.Eng.Sh
end
