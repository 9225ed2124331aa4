/- A checked evaluator for the program, and what it tells, part 4: no condition. -/
import Derived.Test.YtnnimbgajljgaaaGreatOQ3
import Derived.Test.YtnnimbgajljgaaaGreatProg
import Derived.KernelRfl
set_option linter.all false
set_option linter.unusedVariables false
set_option linter.unusedSimpArgs false
set_option maxHeartbeats 8000000
set_option maxRecDepth 20000
section
noncomputable section
namespace Go.Eng.Sh
open Go.Proofs
set_option maxRecDepth 100000
theorem sc {i:Nat}{m:List AV->AH->Option (AV×AH)}{S:List (Nat×(List AV->AH->Option (AV×AH)))}(h:FI i m)(k:SOk S):SOk ((i,m)::S):=SOk.cons h.fs k
def s48 (D:Dyn)(n:Nat):Tb:=⟨X,[]⟩
def f48 (D:Dyn)(n:Nat)(vs:List AV)(H:AH):Option (AV×AH):=
 yP (hd vs fun a vs=>hd vs fun b vs=>nl vs <|
 bA (mkM [6]) H fun c H=>
 bV (jT [(0,1),(1,1),(2,1),(3,1),(4,1),(5,1),(6,1)] [(.int .i64 (.ofNat 0)), .nilMap, .nilSlice, .nilMap,(.int .i64 (.ofNat 0)), .nilSlice,(.bool false)] [(0,a),(1,b),(3,c)]) fun d=>
 bA (bxV 130 d) H fun e H=>
 bV (some e) fun f=>some (.ret f,H))
def h48:Hint:=(.s .o (.s .o .o))
theorem zJC {D:Dyn}(hD:DG D)(n:Nat):FI 48 (f48 D n):=qS (n:=n) (h:=h48) X_ok hD (SOk.nil) Tryz.func48 (by kernel_rfl) (by kernel_rfl)
def s24 (D:Dyn)(n:Nat):Tb:=⟨X,[(48,f48 D n)]⟩
def f24 (D:Dyn)(n:Nat)(vs:List AV)(H:AH):Option (AV×AH):=
 yP (hd vs fun a vs=>nl vs <|
 bV (qO .lss a (.int .i64 (.ofNat 64))) fun b=>
 jn (wnt b false (bV (qO .gtr a (.int .i64 (.ofNat 8192))) fun c=>
 some (.norm [c],H)) (some (.norm [qN],H))) fun vs H=>hd vs fun d vs=>
 bV (pk3 (some b) (some (.bool true)) (some d)) fun e=>
 cnd e (bV (some .nilPtr) fun f=>bV (some (.int .i64 (.ofNat 1))) fun g=>some (.ret (.tuple [f,g]),H))
 (bA (mkM [6]) H fun h H=>
 bR (f48 D n [a,h] H) fun i H=>
 bV (some i) fun k=>bV (some (.int .i64 (.ofNat 0))) fun m=>some (.ret (.tuple [k,m]),H)))
def h24:Hint:=(.s .o (.s (.s .o (.cl (.s .o .o) .o)) (.s .o .o)))
theorem zJM {D:Dyn}(hD:DG D)(n:Nat):FI 24 (f24 D n):=qS (n:=n) (h:=h24) X_ok hD (sc (zJC hD n) (SOk.nil)) Tryz.func24 (by kernel_rfl) (by kernel_rfl)
def s66 (D:Dyn)(n:Nat):Tb:=⟨X,[]⟩
def f66 (D:Dyn)(n:Nat)(vs:List AV)(H:AH):Option (AV×AH):=
 yP (hd vs fun a vs=>nl vs <|
 bA (bxV 65 a) H fun b H=>
 bV (fAd 0 b) fun c=>
 bV (ld1 c H) fun d=>
 bV (qO .eql d (.int .i64 (.ofNat 0))) fun e=>
 cnd e (bV (ldN 3 b H) fun f=>
 bV (jT [(0,1),(1,1),(2,1)] [(.int .i64 (.ofNat 0)),(.int .i64 (.ofNat 0)),(.int .u64 (.ofNat 0))] []) fun g=>
 bV (vI .eql (eqA [6,6,10] f g)) fun h=>
 bV (some h) fun i=>some (.ret i,H))
 (bV (fAd 0 b) fun k=>
 bV (ld1 k H) fun m=>
 bV (qO .gtr m (.int .i64 (.ofNat 0))) fun o=>
 jn (wnt o true (bV (fAd 0 b) fun p=>
 bV (ld1 p H) fun r=>
 bV (qO .lss r (.int .i64 (.ofNat 8192))) fun t=>
 some (.norm [t],H)) (some (.norm [qN],H))) fun vs H=>hd vs fun u vs=>
 bV (pk3 (some o) (some u) (some (.bool false))) fun v=>
 jn (wnt v true (bV (fAd 1 b) fun w=>
 bV (ld1 w H) fun x=>
 bV (qO .geq x (.int .i64 (.ofNat 0))) fun y=>
 some (.norm [y],H)) (some (.norm [qN],H))) fun vs H=>hd vs fun z vs=>
 bV (pk3 (some v) (some z) (some (.bool false))) fun B=>
 jn (wnt B true (bV (fAd 1 b) fun C=>
 bV (ld1 C H) fun E=>
 bV (qO .leq E (.int .i64 (.ofNat 2147483647))) fun F=>
 some (.norm [F],H)) (some (.norm [qN],H))) fun vs H=>hd vs fun G vs=>
 bV (pk3 (some B) (some G) (some (.bool false))) fun I=>
 bV (some I) fun J=>some (.ret J,H)))
def h66:Hint:=(.s .o (.s (.s .o (.cl (.s .o .o) .o)) (.s .o .o)))
theorem zJt {D:Dyn}(hD:DG D)(n:Nat):FI 66 (f66 D n):=qS (n:=n) (h:=h66) X_ok hD (SOk.nil) Tryz.func66 (by kernel_rfl) (by kernel_rfl)
def s67 (D:Dyn)(n:Nat):Tb:=⟨X,[]⟩
def zFo (D:Dyn)(n:Nat)(vs:List AV)(H:AH):Rs:=
 hd vs fun a vs=>hd vs fun b vs=>hd vs fun c vs=>hd vs fun d vs=>
 bV (qO .lss d c) fun e=>
 cnd e (bV (lnSl a) fun f=>
 bV (qO .sub f (.int .i64 (.ofNat 1))) fun g=>
 bV (qO .sub g d) fun h=>
 bV (qO .mul (.int .i64 (.ofNat 8)) d) fun i=>
 bV (qO .shr b i) fun k=>
 bV (cvI .u8 k) fun m=>
 bV (jB 1 a h) fun o=>
 bR (stN 1 o m H) fun p H=>
 bV (qO .add d (.int .i64 (.ofNat 1))) fun r=>
 some (.norm [a,b,c,r],H))
 (some (.exit 0 [],H))
def zNm (D:Dyn)(n:Nat)(vs:List AV)(H:AH):Rs:=
 some (.ret (.tuple []),H)
def f67 (D:Dyn)(n:Nat)(vs:List AV)(H:AH):Option (AV×AH):=
 yP (hd vs fun a vs=>hd vs fun b vs=>nl vs <|
 bV (lnSl a) fun c=>
 jb 0 (qT n (zFo D n) [a,b,c,(.int .i64 (.ofNat 0))] H) (zNm D n))
def h67:Hint:=(.s .o (.b [] (.l [0,1,6,7] (.s .o (.s (.cr .o .o) (.s (.b0 (.s .o .o)) .o))))))
theorem zJs {D:Dyn}(hD:DG D)(n:Nat):FI 67 (f67 D n):=qS (n:=n) (h:=h67) X_ok hD (SOk.nil) Tryz.func67 (by kernel_rfl) (by kernel_rfl)
def s49 (D:Dyn)(n:Nat):Tb:=⟨X,[(66,f66 D n),(67,f67 D n)]⟩
def f49 (D:Dyn)(n:Nat)(vs:List AV)(H:AH):Option (AV×AH):=
 yP (hd vs fun a vs=>nl vs <|
 bA (bxV 65 a) H fun b H=>
 bV (ldN 3 b H) fun c=>
 bR (f66 D n [c] H) fun d H=>
 bV (aun .not d) fun e=>
 cnd e (bV (some (.str 0 0)) fun f=>bV (some (.int .i64 (.ofNat 4))) fun g=>some (.ret (.tuple [f,g]),H))
 (bA (bxV 131 (.agg (rep 16 [(.int .u8 (.ofNat 0))]))) H fun h H=>
 bV (gW 16 1 h none (some (.int .i64 (.ofNat 4))) none) fun i=>
 bV (fAd 0 b) fun k=>
 bV (ld1 k H) fun m=>
 bV (cvI .u64 m) fun o=>
 bR (f67 D n [i,o] H) fun p H=>
 bV (gW 16 1 h (some (.int .i64 (.ofNat 4))) (some (.int .i64 (.ofNat 8))) none) fun r=>
 bV (fAd 1 b) fun t=>
 bV (ld1 t H) fun u=>
 bV (cvI .u64 u) fun v=>
 bR (f67 D n [r,v] H) fun w H=>
 bV (gW 16 1 h (some (.int .i64 (.ofNat 8))) none none) fun x=>
 bV (fAd 2 b) fun y=>
 bV (ld1 y H) fun z=>
 bR (f67 D n [x,z] H) fun B H=>
 bV (gW 16 1 h none none none) fun C=>
 bV (zD6 C H) fun E=>
 bV (some E) fun F=>bV (some (.int .i64 (.ofNat 0))) fun G=>some (.ret (.tuple [F,G]),H)))
def h49:Hint:=(.s .o (.s (.s .o (.cl (.s .o .o) .o)) (.s .o (.s .o (.s .o (.s .o (.s .o .o)))))))
theorem zJB {D:Dyn}(hD:DG D)(n:Nat):FI 49 (f49 D n):=qS (n:=n) (h:=h49) X_ok hD (sc (zJt hD n) (sc (zJs hD n) (SOk.nil))) Tryz.func49 (by kernel_rfl) (by kernel_rfl)
def s25 (D:Dyn)(n:Nat):Tb:=⟨X,[(49,f49 D n)]⟩
def f25 (D:Dyn)(n:Nat)(vs:List AV)(H:AH):Option (AV×AH):=
 yP (hd vs fun a vs=>hd vs fun b vs=>hd vs fun c vs=>nl vs <|
 bA (bxV 65 c) H fun d H=>
 bV (vI .eql (eqP a .nilPtr)) fun e=>
 cnd e (bV (some .nilPtr) fun f=>bV (some (.int .i64 (.ofNat 2))) fun g=>some (.ret (.tuple [f,g]),H))
 (bV (ldN 3 d H) fun h=>
 bR (f49 D n [h] H) fun i H=>
 bV (qL i 0) fun k=>
 bV (qL i 1) fun m=>
 bV (qO .neq m (.int .i64 (.ofNat 0))) fun o=>
 jn (wnt o false (bV (fAd 0 d) fun p=>
 bV (ld1 p H) fun r=>
 bV (qO .eql r (.int .i64 (.ofNat 1))) fun t=>
 some (.norm [t],H)) (some (.norm [qN],H))) fun vs H=>hd vs fun u vs=>
 bV (pk3 (some o) (some (.bool true)) (some u)) fun v=>
 cnd v (bV (some .nilPtr) fun w=>bV (some (.int .i64 (.ofNat 1))) fun x=>some (.ret (.tuple [w,x]),H))
 (bV (ldN 3 d H) fun y=>
 bA (mkM [10]) H fun z H=>
 bV (jT [(0,1),(1,1),(2,3),(5,1),(6,1),(7,1)] [.nilPtr, .nilPtr,(.int .i64 (.ofNat 0)),(.int .i64 (.ofNat 0)),(.int .u64 (.ofNat 0)), .nilMap,(.int .u64 (.ofNat 0)), .nilSlice] [(0,a),(1,b),(2,y),(3,z)]) fun B=>
 bA (bxV 107 B) H fun C H=>
 bV (some C) fun E=>bV (some (.int .i64 (.ofNat 0))) fun F=>some (.ret (.tuple [E,F]),H))))
def h25:Hint:=(.s .o (.s (.s .o (.cl (.s .o .o) .o)) (.s (.s .o (.s .o (.cl (.s .o .o) .o))) (.s .o .o))))
theorem zJL {D:Dyn}(hD:DG D)(n:Nat):FI 25 (f25 D n):=qS (n:=n) (h:=h25) X_ok hD (sc (zJB hD n) (SOk.nil)) Tryz.func25 (by kernel_rfl) (by kernel_rfl)
def s7 (D:Dyn)(n:Nat):Tb:=⟨X,[(24,f24 D n),(25,f25 D n)]⟩
def f7 (D:Dyn)(n:Nat)(vs:List AV)(H:AH):Option (AV×AH):=
 yP (nl vs <|
 bR (f24 D n [(.int .i64 (.ofNat 64))] H) fun a H=>
 bV (qL a 0) fun b=>
 bV (qL a 1) fun c=>
 bV (qO .neq c (.int .i64 (.ofNat 0))) fun d=>
 cnd d (bV (some .nilPtr) fun e=>some (.ret e,H))
 (bV (jT [(0,1),(1,1),(2,1)] [(.int .i64 (.ofNat 0)),(.int .i64 (.ofNat 0)),(.int .u64 (.ofNat 0))] []) fun f=>
 bR (f25 D n [b, .nilPtr,f] H) fun g H=>
 bV (qL g 0) fun h=>
 bV (qL g 1) fun i=>
 bV (qO .neq i (.int .i64 (.ofNat 0))) fun k=>
 cnd k (bV (some .nilPtr) fun m=>some (.ret m,H))
 (bV (some h) fun o=>some (.ret o,H))))
def h7:Hint:=(.s .o (.s .o (.s (.s .o (.cl (.s .o .o) .o)) (.s .o (.s (.s .o (.cl (.s .o .o) .o)) (.s .o .o))))))
theorem zI1 {D:Dyn}(hD:DG D)(n:Nat):FI 7 (f7 D n):=qS (n:=n) (h:=h7) X_ok hD (sc (zJM hD n) (sc (zJL hD n) (SOk.nil))) Tryz.func7 (by kernel_rfl) (by kernel_rfl)
def s26 (D:Dyn)(n:Nat):Tb:=⟨X,[]⟩
def f26 (D:Dyn)(n:Nat)(vs:List AV)(H:AH):Option (AV×AH):=
 yP (hd vs fun a vs=>nl vs <|
 bV (qO .geq a (.int .i64 (.ofNat 1))) fun b=>
 jn (wnt b true (bV (qO .leq a (.int .i64 (.ofNat 2147483647))) fun c=>
 some (.norm [c],H)) (some (.norm [qN],H))) fun vs H=>hd vs fun d vs=>
 bV (pk3 (some b) (some d) (some (.bool false))) fun e=>
 bV (some e) fun f=>some (.ret f,H))
def h26:Hint:=(.s .o (.s .o .o))
theorem UN {D:Dyn}(hD:DG D)(n:Nat):FI 26 (f26 D n):=qS (n:=n) (h:=h26) X_ok hD (SOk.nil) Tryz.func26 (by kernel_rfl) (by kernel_rfl)
def s50 (D:Dyn)(n:Nat):Tb:=⟨X,[]⟩
def f50 (D:Dyn)(n:Nat)(vs:List AV)(H:AH):Option (AV×AH):=
 yP (hd vs fun a vs=>hd vs fun b vs=>nl vs <|
 bR (D.fn 68 [a,b] H) fun c H=>
 bV (qO .geq c (.int .i64 (.ofNat 0))) fun d=>
 bV (some d) fun e=>some (.ret e,H))
def h50:Hint:=(.s .o (.s .o .o))
theorem zNw {D:Dyn}(hD:DG D)(n:Nat):FI 50 (f50 D n):=qS (n:=n) (h:=h50) X_ok hD (SOk.nil) Tryz.func50 (by kernel_rfl) (by kernel_rfl)
def m50 (D:Dyn)(n:Nat)(vs:List AV)(H:AH):Option (AV×AH):=zIB (f50 D n) vs H
theorem zJh {D:Dyn}(hD:DG D)(n:Nat):FI 50 (m50 D n):=zIA (by kernel_rfl) (zNw hD n)
def s27 (D:Dyn)(n:Nat):Tb:=⟨X,[(50,m50 D n)]⟩
def zAt (D:Dyn)(n:Nat)(vs:List AV)(H:AH):Rs:=
 hd vs fun a vs=>hd vs fun b vs=>
 some (.norm [a,b],H)
def zAs (D:Dyn)(n:Nat)(vs:List AV)(H:AH):Rs:=
 hd vs fun a vs=>hd vs fun b vs=>
 some (.norm [a,b],H)
def zAr (D:Dyn)(n:Nat)(vs:List AV)(H:AH):Rs:=
 hd vs fun a vs=>hd vs fun b vs=>
 cnd b (bV (some (.bool false)) fun c=>some (.ret c,H))
 (bV (kN a) fun d=>
 bV (qO .leq d (.int .i64 (.ofNat 32))) fun e=>
 jn (wnt e true (bR (m50 D n [a,(.str 2 12032)] H) fun f H=>
 bV (aun .not f) fun g=>
 some (.norm [g],H)) (some (.norm [qN],H))) fun vs H=>hd vs fun h vs=>
 bV (pk3 (some e) (some h) (some (.bool false))) fun i=>
 bV (some i) fun k=>some (.ret k,H))
def f27 (D:Dyn)(n:Nat)(vs:List AV)(H:AH):Option (AV×AH):=
 yP (hd vs fun a vs=>nl vs <|
 bV (jU .eql a (.str 0 0)) fun b=>
 jn (cnd b (some (.norm [a,b],H))
 (bV (jU .eql a (.str 1 46)) fun c=>
 jn (cnd c (some (.norm [a,c],H))
 (bV (jU .eql a (.str 2 11822)) fun d=>
 jn (cnd d (some (.norm [a,d],H))
 (bV (jU .eql a (.str 9 2147850105812604056366)) fun e=>
 some (.norm [a,e],H))) (zAt D n))) (zAs D n))) (zAr D n))
def h27:Hint:=(.s .o (.s (.s .o (.b0 (.s (.s .o (.c [0,4] .o (.s .o (.c [0,4] .o (.s .o (.c [0,4] .o .o)))))) (.cl (.s .o .o) .o)))) (.s .o .o)))
theorem zBN {D:Dyn}(hD:DG D)(n:Nat):FI 27 (f27 D n):=qS (n:=n) (h:=h27) X_ok hD (sc (zJh hD n) (SOk.nil)) Tryz.func27 (by kernel_rfl) (by kernel_rfl)
def s64 (D:Dyn)(n:Nat):Tb:=⟨X,[]⟩
def zI5 (D:Dyn)(n:Nat)(vs:List AV)(H:AH):Rs:=
 hd vs fun a vs=>hd vs fun b vs=>hd vs fun c vs=>hd vs fun d vs=>
 bV (qO .lss d c) fun e=>
 cnd e (bV (dL b d) fun f=>
 bV (cvI .u64 f) fun g=>
 bV (qO .xor a g) fun h=>
 bV (qO .mul h (.int .u64 (.ofNat 1099511628211))) fun i=>
 bV (qO .add d (.int .i64 (.ofNat 1))) fun k=>
 some (.norm [i,b,c,k],H))
 (some (.exit 0 [a],H))
def zNo (D:Dyn)(n:Nat)(vs:List AV)(H:AH):Rs:=
 hd vs fun a vs=>
 bV (some a) fun b=>some (.ret b,H)
def f64 (D:Dyn)(n:Nat)(vs:List AV)(H:AH):Option (AV×AH):=
 yP (hd vs fun a vs=>hd vs fun b vs=>nl vs <|
 bV (kN b) fun c=>
 jb 0 (qT n (zI5 D n) [a,b,c,(.int .i64 (.ofNat 0))] H) (zNo D n))
def h64:Hint:=(.s .o (.s (.s .o (.b [0] (.l [0,1,7,8] (.s .o (.s (.cr .o .o) (.s (.b0 (.s .o .o)) .o)))))) (.s .o .o)))
theorem zJv {D:Dyn}(hD:DG D)(n:Nat):FI 64 (f64 D n):=qS (n:=n) (h:=h64) X_ok hD (SOk.nil) Tryz.func64 (by kernel_rfl) (by kernel_rfl)
def s46 (D:Dyn)(n:Nat):Tb:=⟨X,[(64,f64 D n)]⟩
def f46 (D:Dyn)(n:Nat)(vs:List AV)(H:AH):Option (AV×AH):=
 yP (hd vs fun a vs=>nl vs <|
 bR (f64 D n [(.int .u64 (.ofNat 14695981039346656037)),a] H) fun b H=>
 bV (some b) fun c=>some (.ret c,H))
def h46:Hint:=(.s .o (.s .o .o))
theorem zJE {D:Dyn}(hD:DG D)(n:Nat):FI 46 (f46 D n):=qS (n:=n) (h:=h46) X_ok hD (sc (zJv hD n) (SOk.nil)) Tryz.func46 (by kernel_rfl) (by kernel_rfl)
def s22 (D:Dyn)(n:Nat):Tb:=⟨X,[(46,f46 D n)]⟩
def f22 (D:Dyn)(n:Nat)(vs:List AV)(H:AH):Option (AV×AH):=
 yP (hd vs fun a vs=>nl vs <|
 bR (f46 D n [a] H) fun b H=>
 bV (qO .and b (.int .u64 (.ofNat 1023))) fun c=>
 bV (cvI .i64 c) fun d=>
 bV (some d) fun e=>some (.ret e,H))
def h22:Hint:=(.s .o (.s .o .o))
theorem Y4 {D:Dyn}(hD:DG D)(n:Nat):FI 22 (f22 D n):=qS (n:=n) (h:=h22) X_ok hD (sc (zJE hD n) (SOk.nil)) Tryz.func22 (by kernel_rfl) (by kernel_rfl)
def s32 (D:Dyn)(n:Nat):Tb:=⟨X,[]⟩
def zFA (D:Dyn)(n:Nat)(vs:List AV)(H:AH):Rs:=
 hd vs fun a vs=>hd vs fun b vs=>hd vs fun c vs=>
 bV (qO .lss c (.int .i64 (.ofNat 4))) fun d=>
 cnd d (bV (qO .sub (.int .i64 (.ofNat 3)) c) fun e=>
 bV (qO .mul (.int .i64 (.ofNat 8)) e) fun f=>
 bV (qO .shr a f) fun g=>
 bV (cvI .u8 g) fun h=>
 bV (QW 4 1 b c) fun i=>
 bR (stN 1 i h H) fun k H=>
 bV (qO .add c (.int .i64 (.ofNat 1))) fun m=>
 some (.norm [a,b,m],H))
 (some (.exit 0 [b],H))
def zNE (D:Dyn)(n:Nat)(vs:List AV)(H:AH):Rs:=
 hd vs fun a vs=>
 bV (gW 4 1 a none none none) fun b=>
 bV (zD6 b H) fun c=>
 bV (some c) fun d=>some (.ret d,H)
def f32 (D:Dyn)(n:Nat)(vs:List AV)(H:AH):Option (AV×AH):=
 yP (hd vs fun a vs=>nl vs <|
 bA (bxV 115 (.agg [(.int .u8 (.ofNat 0)),(.int .u8 (.ofNat 0)),(.int .u8 (.ofNat 0)),(.int .u8 (.ofNat 0))])) H fun b H=>
 jb 0 (qT n (zFA D n) [a,b,(.int .i64 (.ofNat 0))] H) (zNE D n))
def h32:Hint:=(.s .o (.s .o (.s (.s .o (.b [3] (.l [0,3,5] (.s .o (.s (.cr .o .o) (.s (.b0 (.s .o .o)) .o)))))) (.s .o .o))))
theorem zBL {D:Dyn}(hD:DG D)(n:Nat):FI 32 (f32 D n):=qS (n:=n) (h:=h32) X_ok hD (SOk.nil) Tryz.func32 (by kernel_rfl) (by kernel_rfl)
def s31 (D:Dyn)(n:Nat):Tb:=⟨X,[(32,f32 D n)]⟩
def f31 (D:Dyn)(n:Nat)(vs:List AV)(H:AH):Option (AV×AH):=
 yP (hd vs fun a vs=>hd vs fun b vs=>nl vs <|
 bR (f32 D n [a] H) fun c H=>
 bV (jU .add (.str 1 101) c) fun d=>
 bR (f32 D n [b] H) fun e H=>
 bV (jU .add d e) fun f=>
 bV (some f) fun g=>some (.ret g,H))
def h31:Hint:=(.s .o (.s .o .o))
theorem zBM {D:Dyn}(hD:DG D)(n:Nat):FI 31 (f31 D n):=qS (n:=n) (h:=h31) X_ok hD (sc (zBL hD n) (SOk.nil)) Tryz.func31 (by kernel_rfl) (by kernel_rfl)
def s51 (D:Dyn)(n:Nat):Tb:=⟨X,[]⟩
def f51 (D:Dyn)(n:Nat)(vs:List AV)(H:AH):Option (AV×AH):=
 yP (hd vs fun a vs=>nl vs <|
 bV (vI .eql (eqP a .nilPtr)) fun b=>
 jn (wnt b false (bV (vC a) fun c=>
 bV (fAd 0 c) fun d=>
 bV (ld1 d H) fun e=>
 bV (vI .eql (eqP e .nilPtr)) fun f=>
 some (.norm [f],H)) (some (.norm [qN],H))) fun vs H=>hd vs fun g vs=>
 bV (pk3 (some b) (some (.bool true)) (some g)) fun h=>
 jn (wnt h false (bV (vC a) fun i=>
 bV (fAd 5 i) fun k=>
 bV (ld1 k H) fun m=>
 bV (vI .eql (eqM m .nilMap)) fun o=>
 some (.norm [o],H)) (some (.norm [qN],H))) fun vs H=>hd vs fun p vs=>
 bV (pk3 (some h) (some (.bool true)) (some p)) fun r=>
 bV (some r) fun t=>some (.ret t,H))
def h51:Hint:=(.s .o (.s .o .o))
theorem JX {D:Dyn}(hD:DG D)(n:Nat):FI 51 (f51 D n):=qS (n:=n) (h:=h51) X_ok hD (SOk.nil) Tryz.func51 (by kernel_rfl) (by kernel_rfl)
def s59 (D:Dyn)(n:Nat):Tb:=⟨X,[(51,f51 D n)]⟩
def f59 (D:Dyn)(n:Nat)(vs:List AV)(H:AH):Option (AV×AH):=
 yP (hd vs fun a vs=>nl vs <|
 bR (f51 D n [a] H) fun b H=>
 cnd b (bV (some (.int .i64 (.ofNat 0))) fun c=>some (.ret c,H))
 (bV (vC a) fun d=>
 bV (fAd 5 d) fun e=>
 bV (ld1 e H) fun f=>
 bV (U6 f H) fun g=>
 bV (some g) fun h=>some (.ret h,H)))
def h59:Hint:=(.s .o (.s (.s .o (.cl (.s .o .o) .o)) (.s .o .o)))
theorem zJx {D:Dyn}(hD:DG D)(n:Nat):FI 59 (f59 D n):=qS (n:=n) (h:=h59) X_ok hD (sc (JX hD n) (SOk.nil)) Tryz.func59 (by kernel_rfl) (by kernel_rfl)
def s41 (D:Dyn)(n:Nat):Tb:=⟨X,[(59,f59 D n)]⟩
def f41 (D:Dyn)(n:Nat)(vs:List AV)(H:AH):Option (AV×AH):=
 yP (hd vs fun a vs=>nl vs <|
 bR (f59 D n [a] H) fun b H=>
 bV (qO .add (.int .i64 (.ofNat 8192)) b) fun c=>
 bV (jT [(0,1),(1,1),(2,1),(3,1)] [.nilPtr, .nilMap,(.int .i64 (.ofNat 0)),(.int .i64 (.ofNat 0))] [(0,a),(2,c)]) fun d=>
 bA (bxV 96 d) H fun e H=>
 bV (some e) fun f=>some (.ret f,H))
def h41:Hint:=(.s .o (.s .o .o))
theorem zFu {D:Dyn}(hD:DG D)(n:Nat):FI 41 (f41 D n):=qS (n:=n) (h:=h41) X_ok hD (sc (zJx hD n) (SOk.nil)) Tryz.func41 (by kernel_rfl) (by kernel_rfl)
def s83 (D:Dyn)(n:Nat):Tb:=⟨X,[(51,f51 D n)]⟩
def f83 (D:Dyn)(n:Nat)(vs:List AV)(H:AH):Option (AV×AH):=
 yP (hd vs fun a vs=>nl vs <|
 bA (bxV 65 (.agg [(.int .i64 (.ofNat 0)),(.int .i64 (.ofNat 0)),(.int .u64 (.ofNat 0))])) H fun b H=>
 bR (f51 D n [a] H) fun c H=>
 cnd c (bV (jT [(0,1),(1,1),(2,1)] [(.int .i64 (.ofNat 0)),(.int .i64 (.ofNat 0)),(.int .u64 (.ofNat 0))] []) fun d=>
 bR (stN 3 b d H) fun e H=>
 bV (ldN 3 b H) fun f=>some (.ret f,H))
 (bV (vC a) fun g=>
 bV (fAd 2 g) fun h=>
 bV (ldN 3 h H) fun i=>
 bR (stN 3 b i H) fun k H=>
 bV (ldN 3 b H) fun m=>some (.ret m,H)))
def h83:Hint:=(.s .o (.s (.s .o (.cl (.s .o .o) .o)) (.s .o .o)))
theorem zJo {D:Dyn}(hD:DG D)(n:Nat):FI 83 (f83 D n):=qS (n:=n) (h:=h83) X_ok hD (sc (JX hD n) (SOk.nil)) Tryz.func83 (by kernel_rfl) (by kernel_rfl)
def s73 (D:Dyn)(n:Nat):Tb:=⟨X,[]⟩
def f73 (D:Dyn)(n:Nat)(vs:List AV)(H:AH):Option (AV×AH):=
 yP (hd vs fun a vs=>hd vs fun b vs=>nl vs <|
 bA (bxV 65 b) H fun c H=>
 bA (bxV 111 (.agg [(.bool false), .nilSlice, .nilSlice, .nilSlice])) H fun d H=>
 bV (fAd 0 c) fun e=>
 bV (ld1 e H) fun f=>
 bV (qO .eql f (.int .i64 (.ofNat 1))) fun g=>
 cnd g (bV (vC a) fun h=>
 bV (fAd 5 h) fun i=>
 bV (ld1 i H) fun k=>
 bV (fAd 2 c) fun m=>
 bV (ld1 m H) fun o=>
 bV (lkM [10] (.agg [(.bool false), .nilSlice, .nilSlice, .nilSlice]) true k o H) fun p=>
 bV (qL p 0) fun r=>
 bV (qL p 1) fun t=>
 bA (bxV 111 (.agg [(.bool false), .nilSlice, .nilSlice, .nilSlice])) H fun u H=>
 bR (stN 4 u r H) fun v H=>
 bV (aun .not t) fun w=>
 jn (wnt w false (bV (fAd 1 c) fun x=>
 bV (ld1 x H) fun y=>
 bV (qO .neq y (.int .i64 (.ofNat 0))) fun z=>
 some (.norm [z],H)) (some (.norm [qN],H))) fun vs H=>hd vs fun B vs=>
 bV (pk3 (some w) (some (.bool true)) (some B)) fun C=>
 cnd C (bV (jT [(0,1),(1,1),(2,1),(3,1)] [(.bool false), .nilSlice, .nilSlice, .nilSlice] []) fun E=>
 bR (stN 4 d E H) fun F H=>
 bV (ldN 4 d H) fun G=>bV (some (.int .i64 (.ofNat 1))) fun I=>some (.ret (.tuple [G,I]),H))
 (bV (ldN 4 u H) fun J=>
 bR (stN 4 d J H) fun K H=>
 bV (ldN 4 d H) fun M=>bV (some (.int .i64 (.ofNat 0))) fun N=>some (.ret (.tuple [M,N]),H)))
 (bV (ldN 3 c H) fun O=>
 bR (D.fn 90 [a,O] H) fun P H=>
 bV (qL P 0) fun Q=>
 bV (qL P 1) fun R=>
 bV (qL P 2) fun T=>
 bV (qO .neq T (.int .i64 (.ofNat 0))) fun U=>
 cnd U (bV (jT [(0,1),(1,1),(2,1),(3,1)] [(.bool false), .nilSlice, .nilSlice, .nilSlice] []) fun V=>
 bR (stN 4 d V H) fun W H=>
 bV (ldN 4 d H) fun Y=>bV (some T) fun Z=>some (.ret (.tuple [Y,Z]),H))
 (bV (qO .neq Q (.int .u8 (.ofNat 1))) fun a0=>
 jn (wnt a0 true (bV (qO .neq Q (.int .u8 (.ofNat 2))) fun a1=>
 some (.norm [a1],H)) (some (.norm [qN],H))) fun vs H=>hd vs fun a2 vs=>
 bV (pk3 (some a0) (some a2) (some (.bool false))) fun a3=>
 cnd a3 (bV (jT [(0,1),(1,1),(2,1),(3,1)] [(.bool false), .nilSlice, .nilSlice, .nilSlice] []) fun a4=>
 bR (stN 4 d a4 H) fun a5 H=>
 bV (ldN 4 d H) fun a6=>bV (some (.int .i64 (.ofNat 4))) fun a7=>some (.ret (.tuple [a6,a7]),H))
 (bV (qO .eql Q (.int .u8 (.ofNat 1))) fun a8=>
 bR (D.fn 91 [a8,R] H) fun a9 H=>
 bV (qL a9 0) fun b0=>
 bV (qL a9 1) fun b1=>
 bR (stN 4 d b0 H) fun b2 H=>
 bV (ldN 4 d H) fun b3=>bV (some b1) fun b4=>some (.ret (.tuple [b3,b4]),H)))))
def h73:Hint:=(.s .o (.s (.s .o (.cl (.s .o (.s (.s .o (.cl (.s .o .o) .o)) (.s .o .o))) .o)) (.s .o (.s (.s .o (.cl (.s .o .o) .o)) (.s (.s .o (.cl (.s .o .o) .o)) (.s .o .o))))))
theorem zBH {D:Dyn}(hD:DG D)(n:Nat):FI 73 (f73 D n):=qS (n:=n) (h:=h73) X_ok hD (SOk.nil) Tryz.func73 (by kernel_rfl) (by kernel_rfl)
def s79 (D:Dyn)(n:Nat):Tb:=⟨X,[]⟩
def f79 (D:Dyn)(n:Nat)(vs:List AV)(H:AH):Option (AV×AH):=
 yP (hd vs fun a vs=>nl vs <|
 bV (vI .eql (eqS a .nilSlice)) fun b=>
 cnd b (bV (some .nilSlice) fun c=>some (.ret c,H))
 (bA (wK 9 1 0 [(.str 0 0)] []) H fun d H=>
 bR (apP 9 1 16 d a H) fun e H=>
 bV (some e) fun f=>some (.ret f,H)))
def h79:Hint:=(.s .o (.s (.s .o (.cl (.s .o .o) .o)) (.s .o .o)))
theorem zBF {D:Dyn}(hD:DG D)(n:Nat):FI 79 (f79 D n):=qS (n:=n) (h:=h79) X_ok hD (SOk.nil) Tryz.func79 (by kernel_rfl) (by kernel_rfl)
def s118 (D:Dyn)(n:Nat):Tb:=⟨X,[]⟩
def f118 (D:Dyn)(n:Nat)(vs:List AV)(H:AH):Option (AV×AH):=
 yP (hd vs fun a vs=>nl vs <|
 bV (vI .eql (eqS a .nilSlice)) fun b=>
 cnd b (bV (some .nilSlice) fun c=>some (.ret c,H))
 (bA (wK 65 3 0 [(.int .i64 (.ofNat 0)),(.int .i64 (.ofNat 0)),(.int .u64 (.ofNat 0))] []) H fun d H=>
 bR (apP 65 3 24 d a H) fun e H=>
 bV (some e) fun f=>some (.ret f,H)))
def h118:Hint:=(.s .o (.s (.s .o (.cl (.s .o .o) .o)) (.s .o .o)))
theorem zAv {D:Dyn}(hD:DG D)(n:Nat):FI 118 (f118 D n):=qS (n:=n) (h:=h118) X_ok hD (SOk.nil) Tryz.func118 (by kernel_rfl) (by kernel_rfl)
def s100 (D:Dyn)(n:Nat):Tb:=⟨X,[(51,f51 D n),(73,f73 D n),(79,f79 D n),(118,f118 D n)]⟩
def f100 (D:Dyn)(n:Nat)(vs:List AV)(H:AH):Option (AV×AH):=
 yP (hd vs fun a vs=>hd vs fun b vs=>nl vs <|
 bA (bxV 65 b) H fun c H=>
 bA (bxV 111 (.agg [(.bool false), .nilSlice, .nilSlice, .nilSlice])) H fun d H=>
 bR (f51 D n [a] H) fun e H=>
 cnd e (bV (jT [(0,1),(1,1),(2,1),(3,1)] [(.bool false), .nilSlice, .nilSlice, .nilSlice] []) fun f=>
 bR (stN 4 d f H) fun g H=>
 bV (ldN 4 d H) fun h=>bV (some (.int .i64 (.ofNat 2))) fun i=>some (.ret (.tuple [h,i]),H))
 (bV (fAd 0 c) fun k=>
 bV (ld1 k H) fun m=>
 bV (qO .eql m (.int .i64 (.ofNat 0))) fun o=>
 cnd o (bV (jT [(0,1),(1,1),(2,1),(3,1)] [(.bool false), .nilSlice, .nilSlice, .nilSlice] []) fun p=>
 bR (stN 4 d p H) fun r H=>
 bV (ldN 4 d H) fun t=>bV (some (.int .i64 (.ofNat 1))) fun u=>some (.ret (.tuple [t,u]),H))
 (bV (ldN 3 c H) fun v=>
 bR (f73 D n [a,v] H) fun w H=>
 bV (qL w 0) fun x=>
 bV (qL w 1) fun y=>
 bA (bxV 111 (.agg [(.bool false), .nilSlice, .nilSlice, .nilSlice])) H fun z H=>
 bR (stN 4 z x H) fun B H=>
 bV (qO .neq y (.int .i64 (.ofNat 0))) fun C=>
 cnd C (bV (jT [(0,1),(1,1),(2,1),(3,1)] [(.bool false), .nilSlice, .nilSlice, .nilSlice] []) fun E=>
 bR (stN 4 d E H) fun F H=>
 bV (ldN 4 d H) fun G=>bV (some y) fun I=>some (.ret (.tuple [G,I]),H))
 (bV (fAd 0 z) fun J=>
 bV (ld1 J H) fun K=>
 bV (fAd 1 z) fun M=>
 bV (ld1 M H) fun N=>
 bV (fAd 2 z) fun O=>
 bV (ld1 O H) fun P=>
 bV (fAd 3 z) fun Q=>
 bV (ld1 Q H) fun R=>
 bR (f79 D n [N] H) fun T H=>chk (ld1 J H) K <| chk (ld1 O H) P <| chk (ld1 Q H) R <|
 bR (f79 D n [P] H) fun U H=>chk (ld1 J H) K <| chk (ld1 Q H) R <|
 bR (f118 D n [R] H) fun V H=>chk (ld1 J H) K <|
 bV (jT [(0,1),(1,1),(2,1),(3,1)] [(.bool false), .nilSlice, .nilSlice, .nilSlice] [(0,K),(1,T),(2,U),(3,V)]) fun W=>
 bR (stN 4 d W H) fun Y H=>
 bV (ldN 4 d H) fun Z=>bV (some (.int .i64 (.ofNat 0))) fun a0=>some (.ret (.tuple [Z,a0]),H)))))
def h100:Hint:=(.s .o (.s (.s .o (.cl (.s .o .o) .o)) (.s (.s .o (.cl (.s .o .o) .o)) (.s .o (.s (.s .o (.cl (.s .o .o) .o)) (.s .o .o))))))
theorem zFS {D:Dyn}(hD:DG D)(n:Nat):FI 100 (f100 D n):=qS (n:=n) (h:=h100) X_ok hD (sc (JX hD n) (sc (zBH hD n) (sc (zBF hD n) (sc (zAv hD n) (SOk.nil))))) Tryz.func100 (by kernel_rfl) (by kernel_rfl)
def s62 (D:Dyn)(n:Nat):Tb:=⟨X,[]⟩
def zFp (D:Dyn)(n:Nat)(vs:List AV)(H:AH):Rs:=
 hd vs fun a vs=>hd vs fun b vs=>hd vs fun c vs=>hd vs fun d vs=>hd vs fun e vs=>hd vs fun f vs=>
 bV (qO .add f (.int .i64 (.ofNat 1))) fun g=>
 some (.norm [a,b,c,d,e,g],H)
def zAn (D:Dyn)(n:Nat)(vs:List AV)(H:AH):Rs:=
 hd vs fun a vs=>hd vs fun b vs=>hd vs fun c vs=>hd vs fun d vs=>hd vs fun e vs=>hd vs fun f vs=>
 bV (qO .lss f e) fun g=>
 cnd g (bV (jB 1 d f) fun h=>
 bV (ld1 h H) fun i=>
 bV (jU .lss i a) fun k=>
 jn (wnt k false (bV (fAd 0 b) fun m=>
 bV (ld1 m H) fun o=>
 bV (aun .not o) fun p=>
 some (.norm [p],H)) (some (.norm [qN],H))) fun vs H=>hd vs fun r vs=>
 jn (wnt r true (bV (jU .eql i a) fun t=>
 some (.norm [t],H)) (some (.norm [qN],H))) fun vs H=>hd vs fun u vs=>
 jn (wnt k false (bV (pk3 (some r) (some u) (some (.bool false))) fun v=>
 some (.norm [v],H)) (some (.norm [qN],H))) fun vs H=>hd vs fun w vs=>
 bV (pk3 (some k) (some (.bool true)) (some w)) fun x=>
 jn (cnd x (bV (qO .add c (.int .i64 (.ofNat 1))) fun y=>
 some (.norm [a,b,y,d,e,f],H))
 (some (.norm [a,b,c,d,e,f],H))) (zFp D n))
 (some (.exit 0 [c],H))
def zNq (D:Dyn)(n:Nat)(vs:List AV)(H:AH):Rs:=
 hd vs fun a vs=>
 bV (some a) fun b=>some (.ret b,H)
def f62 (D:Dyn)(n:Nat)(vs:List AV)(H:AH):Option (AV×AH):=
 yP (hd vs fun a vs=>hd vs fun b vs=>nl vs <|
 bA (bxV 111 a) H fun c H=>
 bV (fAd 1 c) fun d=>
 bV (ld1 d H) fun e=>
 bV (lnSl e) fun f=>
 jb 0 (qT n (zAn D n) [b,c,(.int .i64 (.ofNat 0)),e,f,(.int .i64 (.ofNat 0))] H) (zNq D n))
def h62:Hint:=(.s .o (.s .o (.s (.s .o (.b [5] (.l [1,2,5,9,10,11] (.s .o (.s (.cr .o .o) (.s (.b0 (.s .o (.s .o (.c [1,2,5,9,10,11] .o .o)))) .o)))))) (.s .o .o))))
theorem Y3 {D:Dyn}(hD:DG D)(n:Nat):FI 62 (f62 D n):=qS (n:=n) (h:=h62) X_ok hD (SOk.nil) Tryz.func62 (by kernel_rfl) (by kernel_rfl)
def s84 (D:Dyn)(n:Nat):Tb:=⟨X,[(100,f100 D n),(62,f62 D n)]⟩
def YW (D:Dyn)(n:Nat)(vs:List AV)(H:AH):Rs:=
 hd vs fun a vs=>hd vs fun b vs=>hd vs fun c vs=>hd vs fun d vs=>hd vs fun e vs=>hd vs fun f vs=>hd vs fun g vs=>hd vs fun h vs=>
 bV (fAd 3 f) fun i=>
 bV (ld1 i H) fun k=>
 bV (lnSl k) fun m=>
 bV (qO .lss h m) fun o=>
 cnd o (bV (qO .gtr h g) fun p=>
 jn (wnt p true (bV (jU .neq c (.str 0 0)) fun r=>
 some (.norm [r],H)) (some (.norm [qN],H))) fun vs H=>hd vs fun t vs=>
 bV (pk3 (some p) (some t) (some (.bool false))) fun u=>
 jn (wnt u true (bV (fAd 1 f) fun v=>
 bV (ld1 v H) fun w=>
 bV (qO .sub h (.int .i64 (.ofNat 1))) fun x=>
 bV (jB 1 w x) fun y=>
 bV (ld1 y H) fun z=>
 bV (jU .geq z c) fun B=>
 some (.norm [B],H)) (some (.norm [qN],H))) fun vs H=>hd vs fun C vs=>
 bV (pk3 (some u) (some C) (some (.bool false))) fun E=>
 cnd E (some (.exit 0 [],H))
 (bV (fAd 3 f) fun F=>
 bV (ld1 F H) fun G=>
 bV (jB 3 G h) fun I=>
 bV (ldN 3 I H) fun J=>
 bR (D.fn 84 [a,J,b,c,d,e] H) fun K H=>
 bV (aun .not K) fun M=>
 cnd M (bV (some (.bool false)) fun N=>some (.ret N,H))
 (bV (qO .add h (.int .i64 (.ofNat 1))) fun O=>
 some (.norm [a,b,c,d,e,f,g,O],H))))
 (some (.exit 0 [],H))
def zHZ (D:Dyn)(n:Nat)(vs:List AV)(H:AH):Rs:=
 bV (some (.bool true)) fun a=>some (.ret a,H)
def zHY (D:Dyn)(n:Nat)(vs:List AV)(H:AH):Rs:=
 hd vs fun a vs=>hd vs fun b vs=>hd vs fun c vs=>hd vs fun d vs=>hd vs fun e vs=>hd vs fun f vs=>hd vs fun g vs=>
 bV (vC a) fun h=>
 bV (fAd 3 h) fun i=>
 bV (ld1 i H) fun k=>
 bV (qO .neq k (.int .i64 (.ofNat 0))) fun m=>
 jn (wnt m false (bV (ldN 3 f H) fun o=>
 bV (ldN 4 g H) fun p=>
 bR (callV (s84 D n).S D e [o,p] H) fun r H=>
 bV (aun .not r) fun t=>
 some (.norm [t],H)) (some (.norm [qN],H))) fun vs H=>hd vs fun u vs=>
 bV (pk3 (some m) (some (.bool true)) (some u)) fun v=>
 cnd v (bV (some (.bool false)) fun w=>some (.ret w,H))
 (bV (fAd 0 g) fun x=>
 bV (ld1 x H) fun y=>
 cnd y (bV (some (.bool true)) fun z=>some (.ret z,H))
 (bV (ldN 4 g H) fun B=>
 bR (f62 D n [B,b] H) fun C H=>
 jb 0 (qT n (YW D n) [a,b,c,d,e,g,C,C] H) (zHZ D n)))
def f84 (D:Dyn)(n:Nat)(vs:List AV)(H:AH):Option (AV×AH):=
 yP (hd vs fun a vs=>hd vs fun b vs=>hd vs fun c vs=>hd vs fun d vs=>hd vs fun e vs=>hd vs fun f vs=>nl vs <|
 bA (bxV 65 b) H fun g H=>
 bV (ldN 3 g H) fun h=>
 bR (callV (s84 D n).S D e [h] H) fun i H=>
 cnd i (bV (some (.bool true)) fun k=>some (.ret k,H))
 (bV (vC a) fun m=>
 bV (fAd 2 m) fun o=>
 bV (ld1 o H) fun p=>
 bV (qO .sub p (.int .i64 (.ofNat 1))) fun r=>
 bV (vC a) fun t=>
 bV (fAd 2 t) fun u=>
 bR (stN 1 u r H) fun v H=>
 bV (vC a) fun w=>
 bV (fAd 2 w) fun x=>
 bV (ld1 x H) fun y=>
 bV (qO .lss y (.int .i64 (.ofNat 0))) fun z=>
 cnd z (bV (vC a) fun B=>
 bV (fAd 3 B) fun C=>
 bR (stN 1 C (.int .i64 (.ofNat 4)) H) fun E H=>
 bV (some (.bool false)) fun F=>some (.ret F,H))
 (bV (vC a) fun G=>
 bV (fAd 1 G) fun I=>
 bV (ld1 I H) fun J=>
 bV (ldN 3 g H) fun K=>
 bV (lkM (1::[6,6,10]) (.agg [(.bool false), .nilSlice, .nilSlice, .nilSlice]) true J K H) fun M=>
 bV (qL M 0) fun N=>
 bV (qL M 1) fun O=>
 bA (bxV 111 (.agg [(.bool false), .nilSlice, .nilSlice, .nilSlice])) H fun P H=>
 bR (stN 4 P N H) fun Q H=>
 bV (aun .not O) fun R=>
 jn (cnd R (bV (vC a) fun T=>
 bV (fAd 0 T) fun U=>
 bV (ld1 U H) fun V=>
 bV (ldN 3 g H) fun W=>
 bR (f100 D n [V,W] H) fun Y H=>
 bV (qL Y 0) fun Z=>
 bV (qL Y 1) fun a0=>
 bR (stN 4 P Z H) fun a1 H=>
 bV (vC a) fun a2=>
 bV (fAd 3 a2) fun a3=>
 bR (stN 1 a3 a0 H) fun a4 H=>
 some (.norm [a,c,d,e,f,g,P],H))
 (some (.norm [a,c,d,e,f,g,P],H))) (zHY D n))))
def h84:Hint:=(.s .o (.s (.s .o (.cl (.s .o .o) .o)) (.s (.s .o (.s .o (.cl (.s .o (.s .o .o)) .o))) (.s .o (.s (.s .o (.c [0,2,3,4,5,7,13] .o .o)) (.s (.s .o (.cl (.s .o .o) .o)) (.s (.s .o (.cl (.s .o .o) .o)) (.s .o (.s (.s .o (.b [] (.l [0,2,3,4,5,13,15,16] (.s (.s .o (.cr .o .o)) (.s (.b0 (.s (.s .o (.cl .o .o)) (.s .o (.cl (.s .o .o) .o)))) .o))))) (.s .o .o))))))))))
theorem zJn {D:Dyn}(hD:DG D)(n:Nat):FI 84 (f84 D n):=qS (n:=n) (h:=h84) X_ok hD (sc (zFS hD n) (sc (Y3 hD n) (SOk.nil))) Tryz.func84 (by kernel_rfl) (by kernel_rfl)
def s82 (D:Dyn)(n:Nat):Tb:=⟨X,[(83,f83 D n),(84,f84 D n)]⟩
def zFe (D:Dyn)(n:Nat)(vs:List AV)(H:AH):Rs:=
 some (.ret (.tuple []),H)
def f82 (D:Dyn)(n:Nat)(vs:List AV)(H:AH):Option (AV×AH):=
 yP (hd vs fun a vs=>hd vs fun b vs=>hd vs fun c vs=>hd vs fun d vs=>hd vs fun e vs=>nl vs <|
 bV (ld1 b H) fun f=>
 bV (vC f) fun g=>
 bV (fAd 0 g) fun h=>
 bV (ld1 h H) fun i=>
 bR (f83 D n [i] H) fun k H=>
 bA (bxV 65 (.agg [(.int .i64 (.ofNat 0)),(.int .i64 (.ofNat 0)),(.int .u64 (.ofNat 0))])) H fun m H=>
 bR (stN 3 m k H) fun o H=>
 bV (fAd 0 m) fun p=>
 bV (ld1 p H) fun r=>
 bV (qO .neq r (.int .i64 (.ofNat 0))) fun t=>
 jn (wnt t true (bV (ld1 c H) fun u=>
 bV (jU .eql u (.str 0 0)) fun v=>
 some (.norm [v],H)) (some (.norm [qN],H))) fun vs H=>hd vs fun w vs=>
 jn (wnt w false (bV (ld1 d H) fun x=>
 bV (ld1 c H) fun y=>
 bV (jU .lss x y) fun z=>
 some (.norm [z],H)) (some (.norm [qN],H))) fun vs H=>hd vs fun B vs=>
 jn (wnt t true (bV (pk3 (some w) (some (.bool true)) (some B)) fun C=>
 some (.norm [C],H)) (some (.norm [qN],H))) fun vs H=>hd vs fun E vs=>
 bV (pk3 (some t) (some E) (some (.bool false))) fun F=>
 jn (cnd F (bV (ld1 b H) fun G=>
 bV (ldN 3 m H) fun I=>
 bV (ld1 d H) fun J=>
 bV (ld1 c H) fun K=>
 bV (ld1 e H) fun M=>
 bR (f84 D n [G,I,J,K,M,a] H) fun N H=>
 some (.norm [],H))
 (some (.norm [],H))) (zFe D n))
def h82:Hint:=(.s .o (.s .o (.c [] .o .o)))
theorem zNd {D:Dyn}(hD:DG D)(n:Nat):FI 82 (f82 D n):=qS (n:=n) (h:=h82) X_ok hD (sc (zJo hD n) (sc (zJn hD n) (SOk.nil))) Tryz.func82 (by kernel_rfl) (by kernel_rfl)
def s61 (D:Dyn)(n:Nat):Tb:=⟨X,[]⟩
def f61 (D:Dyn)(n:Nat)(vs:List AV)(H:AH):Option (AV×AH):=
 yP (hd vs fun a vs=>hd vs fun b vs=>hd vs fun c vs=>hd vs fun d vs=>nl vs <|
 bA (bxV 88 a) H fun e H=>
 bA (bxV 9 b) H fun f H=>
 bA (bxV 9 c) H fun g H=>
 bA (bxV 93 d) H fun h H=>
 bV (some (.func 82 [] [e,g,f,h])) fun i=>some (.ret i,H))
def h61:Hint:=(.s .o (.s .o .o))
theorem zFq {D:Dyn}(hD:DG D)(n:Nat):FI 61 (f61 D n):=qS (n:=n) (h:=h61) X_ok hD (SOk.nil) Tryz.func61 (by kernel_rfl) (by kernel_rfl)
def s60 (D:Dyn)(n:Nat):Tb:=⟨X,[(61,f61 D n),(62,f62 D n)]⟩
def f60 (D:Dyn)(n:Nat)(vs:List AV)(H:AH):Option (AV×AH):=
 yP (hd vs fun a vs=>hd vs fun b vs=>hd vs fun c vs=>hd vs fun d vs=>hd vs fun e vs=>nl vs <|
 bA (bxV 118 a) H fun f H=>
 bV (ld1 b H) fun g=>
 bV (ld1 c H) fun h=>
 bV (ld1 d H) fun i=>
 bV (ld1 e H) fun k=>
 bR (f61 D n [g,h,i,k] H) fun m H=>
 zBk H (.loop ⟨.ready,none,60,0,[2,3,5],[c,d,f]⟩) fun A H=>bR (rfC (s60 D n).S D m A H) fun _ H=>X1 A H fun j H=>zLR j (
 some (.ret (.tuple []),H))
 (fun id=>none) (some (.ret (.tuple []),H)))
def h60:Hint:=(.s .o (.s .o (.b0 (.rf 0 [2,3,5]))))
theorem zNr {D:Dyn}(hD:DG D)(n:Nat):FI 60 (f60 D n):=qS (n:=n) (h:=h60) X_ok hD (sc (zFq hD n) (sc (Y3 hD n) (SOk.nil))) Tryz.func60 (by kernel_rfl) (by kernel_rfl)
def zAo (D:Dyn)(n:Nat)(vs:List AV)(H:AH):Rs:=
 hd vs fun a vs=>hd vs fun b vs=>hd vs fun c vs=>hd vs fun d vs=>
 bV (fAd 1 c) fun e=>
 bV (ld1 e H) fun f=>
 bV (lnSl f) fun g=>
 bV (qO .lss d g) fun h=>
 cnd h (bV (ld1 a H) fun i=>
 bV (jU .neq i (.str 0 0)) fun k=>
 jn (wnt k true (bV (fAd 1 c) fun m=>
 bV (ld1 m H) fun o=>
 bV (jB 1 o d) fun p=>
 bV (ld1 p H) fun r=>
 bV (ld1 a H) fun t=>
 bV (jU .geq r t) fun u=>
 some (.norm [u],H)) (some (.norm [qN],H))) fun vs H=>hd vs fun v vs=>
 bV (pk3 (some k) (some v) (some (.bool false))) fun w=>
 jn (wnt w false (bV (ld1 b H) fun x=>
 bV (fAd 1 c) fun y=>
 bV (ld1 y H) fun z=>
 bV (jB 1 z d) fun B=>
 bV (ld1 B H) fun C=>
 bV (fAd 2 c) fun E=>
 bV (ld1 E H) fun F=>
 bV (jB 1 F d) fun G=>
 bV (ld1 G H) fun I=>
 bV (jT [(0,1),(1,1)] [(.str 0 0),(.str 0 0)] [(0,C),(1,I)]) fun J=>
 bR (callV (s60 D n).S D x [J] H) fun K H=>
 bV (aun .not K) fun M=>
 some (.norm [M],H)) (some (.norm [qN],H))) fun vs H=>hd vs fun N vs=>
 bV (pk3 (some w) (some (.bool true)) (some N)) fun O=>
 cnd O (some (.ret (.tuple []),H))
 (bV (qO .add d (.int .i64 (.ofNat 1))) fun P=>
 some (.norm [a,b,c,P],H)))
 (some (.exit 2 [],H))
def zLd (D:Dyn)(n:Nat)(vs:List AV)(H:AH):Rs:=
 some (.norm [],H)
def zLc (D:Dyn)(n:Nat)(vs:List AV)(H:AH):Rs:=
 some (.norm [],H)
def zA6 (D:Dyn)(n:Nat)(A:Nat)(l:ALoop)(az:List AV)(H:AH):Option (AV×AH):=
 bif YS [2,3,5] l.live then zNQ A (hd l.vals fun a vs=>hd vs fun b vs=>hd vs fun c vs=>hd az fun d az=>hd az fun e az=>nl az <|
 bA (bxV 111 (.agg [(.bool false), .nilSlice, .nilSlice, .nilSlice])) H fun f H=>
 bR (stN 4 f e H) fun g H=>
 cB A H fun H=>
 jb 1 (bV (fAd 0 f) fun h=>
 bV (ld1 h H) fun i=>
 bV (aun .not i) fun k=>
 cnd k (some (.exit 1 [],H))
 (bV (ldN 4 f H) fun m=>
 bV (ld1 a H) fun o=>
 bR (f62 D n [m,o] H) fun p H=>
 jb 2 (qT n (zAo D n) [b,c,f,p] H) (zLd D n))) (zLc D n))else none
def zMq:Hint:= .o
def zMp:Hint:=(.b [] (.s (.s .o (.cl .o .o)) (.s .o (.b [] (.l [3,5,7,8] (.s (.s .o (.cr .o .o)) (.s (.b0 (.s .o (.cl .o .o))) .o)))))))
theorem zHj (D:Dyn)(n:Nat):zA6 D n=zMj (s60 D n) D n 60 0 [2,3,5] [] zMq zMp:=by kernel_rfl
theorem zHi {D:Dyn}(hD:DG D)(n:Nat):RS 60 0 (zA6 D n):=zB4 X_ok hD (sc (zFq hD n) (sc (Y3 hD n) (SOk.nil))) (by kernel_rfl) (zHj D n)
def s42 (D:Dyn)(n:Nat):Tb:=⟨X,[]⟩
def f42 (D:Dyn)(n:Nat)(vs:List AV)(H:AH):Option (AV×AH):=
 yP (hd vs fun a vs=>hd vs fun b vs=>hd vs fun c vs=>hd vs fun d vs=>nl vs <|
 bA (bxV 88 a) H fun e H=>
 bA (bxV 9 b) H fun f H=>
 bA (bxV 9 c) H fun g H=>
 bA (bxV 93 d) H fun h H=>
 bV (some (.func 60 [] [e,f,g,h])) fun i=>some (.ret i,H))
def h42:Hint:=(.s .o (.s .o .o))
theorem zFt {D:Dyn}(hD:DG D)(n:Nat):FI 42 (f42 D n):=qS (n:=n) (h:=h42) X_ok hD (SOk.nil) Tryz.func42 (by kernel_rfl) (by kernel_rfl)
def s43 (D:Dyn)(n:Nat):Tb:=⟨X,[]⟩
def f43 (D:Dyn)(n:Nat)(vs:List AV)(H:AH):Option (AV×AH):=
 yP (hd vs fun a vs=>nl vs <|
 bA (bxV 65 a) H fun b H=>
 bV (some (.bool false)) fun c=>some (.ret c,H))
def h43:Hint:=(.s .o (.s .o .o))
theorem zNy {D:Dyn}(hD:DG D)(n:Nat):FI 43 (f43 D n):=qS (n:=n) (h:=h43) X_ok hD (SOk.nil) Tryz.func43 (by kernel_rfl) (by kernel_rfl)
def s18 (D:Dyn)(n:Nat):Tb:=⟨X,[(41,f41 D n),(42,f42 D n)]⟩
def zNK (D:Dyn)(n:Nat)(vs:List AV)(H:AH):Rs:=
 hd vs fun a vs=>hd vs fun b vs=>hd vs fun c vs=>
 bV (vC a) fun d=>
 bV (fAd 3 d) fun e=>
 bV (ld1 e H) fun f=>
 bV (qO .neq f (.int .i64 (.ofNat 0))) fun g=>
 cnd g (bV (vC a) fun h=>
 bV (fAd 3 h) fun i=>
 bV (ld1 i H) fun k=>
 bV (some .nilSlice) fun m=>bV (some (.bool false)) fun o=>bV (some k) fun p=>some (.ret (.tuple [m,o,p]),H))
 (bV (ld1 b H) fun r=>
 bV (ld1 c H) fun t=>
 bV (some r) fun u=>bV (some t) fun v=>bV (some (.int .i64 (.ofNat 0))) fun w=>some (.ret (.tuple [u,v,w]),H))
def f18 (D:Dyn)(n:Nat)(vs:List AV)(H:AH):Option (AV×AH):=
 yP (hd vs fun a vs=>hd vs fun b vs=>hd vs fun c vs=>hd vs fun d vs=>nl vs <|
 bA (bxV 3 d) H fun e H=>
 bV (vI .eql (eqP a .nilPtr)) fun f=>
 cnd f (bV (some .nilSlice) fun g=>bV (some (.bool false)) fun h=>bV (some (.int .i64 (.ofNat 2))) fun i=>some (.ret (.tuple [g,h,i]),H))
 (bV (ld1 e H) fun k=>
 bV (qO .lss k (.int .i64 (.ofNat 0))) fun m=>
 cnd m (bV (some .nilSlice) fun o=>bV (some (.bool false)) fun p=>bV (some (.int .i64 (.ofNat 1))) fun r=>some (.ret (.tuple [o,p,r]),H))
 (bR (f41 D n [a] H) fun t H=>
 bA (bxV 49 .nilSlice) H fun u H=>
 bA (bxV 4 (.bool false)) H fun v H=>
 bR (stN 1 v (.bool false) H) fun w H=>
 bR (f42 D n [t,b,c,(.func 43 [] [])] H) fun x H=>
 jb 0 (zBk H (.loop ⟨.ready,none,18,0,[7,12,13],[e,u,v]⟩) fun A H=>bR (rfC (s18 D n).S D x A H) fun _ H=>X1 A H fun j H=>zLR j (
 some (.norm [t,u,v],H))
 (fun id=>cond (Nat.beq 0 id) (some (.exit id [t,u,v],H)) (none)) (bV (some .nilSlice) fun y=>bV (some (.bool false)) fun z=>bV (some (.int .i64 (.ofNat 0))) fun B=>some (.ret (.tuple [y,z,B]),H))) (zNK D n))))
def h18:Hint:=(.s .o (.s (.s .o (.cl (.s .o .o) .o)) (.s (.s .o (.cl (.s .o .o) .o)) (.s .o (.s .o (.s .o (.s (.s .o (.b [11,12,13] (.rf 0 [7,12,13]))) (.s (.s .o (.cl (.s .o .o) .o)) (.s .o .o)))))))))
theorem UO {D:Dyn}(hD:DG D)(n:Nat):FI 18 (f18 D n):=qS (n:=n) (h:=h18) X_ok hD (sc (zFu hD n) (sc (zFt hD n) (SOk.nil))) Tryz.func18 (by kernel_rfl) (by kernel_rfl)
def zCv (D:Dyn)(n:Nat)(A:Nat)(l:ALoop)(az:List AV)(H:AH):Option (AV×AH):=
 bif YS [7,12,13] l.live then zNQ A (hd l.vals fun a vs=>hd vs fun b vs=>hd vs fun c vs=>hd az fun d az=>nl az <|
 bA (bxV 85 (.agg [(.str 0 0),(.str 0 0)])) H fun e H=>
 bR (stN 2 e d H) fun f H=>
 cB A H fun H=>
 bV (ld1 b H) fun g=>
 bV (lnSl g) fun h=>
 bV (ld1 a H) fun i=>
 bV (qO .eql h i) fun k=>
 cnd k (bR (stN 1 c (.bool true) H) fun m H=>
 some (.exit 0 [],H))
 (bV (ld1 b H) fun o=>
 bV (ldN 2 e H) fun p=>
 bA (wK 85 2 1 [(.str 0 0),(.str 0 0)] [(0,p)]) H fun r H=>
 bR (apP 85 2 32 o r H) fun t H=>
 bR (stN 1 b t H) fun u H=>
 some (.norm [],H)))else none
def zMs:Hint:= .o
def zMr:Hint:=(.b0 (.s (.s .o (.cl (.s .o .o) .o)) .o))
theorem zHl (D:Dyn)(n:Nat):zCv D n=zMj (s18 D n) D n 18 0 [7,12,13] [0] zMs zMr:=by kernel_rfl
theorem zHk {D:Dyn}(hD:DG D)(n:Nat):RS 18 0 (zCv D n):=zB4 X_ok hD (sc (zFu hD n) (sc (zFt hD n) (SOk.nil))) (by kernel_rfl) (zHl D n)
def s58 (D:Dyn)(n:Nat):Tb:=⟨X,[]⟩
def zI6 (D:Dyn)(n:Nat)(vs:List AV)(H:AH):Rs:=
 hd vs fun a vs=>hd vs fun b vs=>hd vs fun c vs=>
 bV (qO .lss c (.int .i64 (.ofNat 4))) fun d=>
 cnd d (bV (qO .shl b (.int .u64 (.ofNat 8))) fun e=>
 bV (dL a c) fun f=>
 bV (cvI .i64 f) fun g=>
 bV (qO .or e g) fun h=>
 bV (qO .add c (.int .i64 (.ofNat 1))) fun i=>
 some (.norm [a,h,i],H))
 (some (.exit 0 [b],H))
def zNs (D:Dyn)(n:Nat)(vs:List AV)(H:AH):Rs:=
 hd vs fun a vs=>
 bV (some a) fun b=>some (.ret b,H)
def f58 (D:Dyn)(n:Nat)(vs:List AV)(H:AH):Option (AV×AH):=
 yP (hd vs fun a vs=>nl vs <|
 jb 0 (qT n (zI6 D n) [a,(.int .i64 (.ofNat 0)),(.int .i64 (.ofNat 0))] H) (zNs D n))
def h58:Hint:=(.s .o (.s .o (.s (.s .o (.b [3] (.l [0,3,5] (.s .o (.s (.cr .o .o) (.s (.b0 (.s .o .o)) .o)))))) (.s .o .o))))
theorem zJy {D:Dyn}(hD:DG D)(n:Nat):FI 58 (f58 D n):=qS (n:=n) (h:=h58) X_ok hD (SOk.nil) Tryz.func58 (by kernel_rfl) (by kernel_rfl)
def s40 (D:Dyn)(n:Nat):Tb:=⟨X,[(58,f58 D n),(26,f26 D n),(27,f27 D n),(22,f22 D n)]⟩
def f40 (D:Dyn)(n:Nat)(vs:List AV)(H:AH):Option (AV×AH):=
 yP (hd vs fun a vs=>nl vs <|
 bA (bxV 85 a) H fun b H=>
 bA (bxV 71 (.agg [(.str 0 0),(.int .i64 (.ofNat 0)),(.int .i64 (.ofNat 0)),(.str 0 0),(.bool false)])) H fun c H=>
 bV (fAd 0 b) fun d=>
 bV (ld1 d H) fun e=>
 bV (kN e) fun f=>
 bV (qO .neq f (.int .i64 (.ofNat 9))) fun g=>
 cnd g (bV (jT [(0,3),(3,1),(4,1)] [(.str 0 0),(.int .i64 (.ofNat 0)),(.int .i64 (.ofNat 0)),(.str 0 0),(.bool false)] []) fun h=>
 bR (stN 5 c h H) fun i H=>
 bV (ldN 5 c H) fun k=>bV (some (.bool false)) fun m=>some (.ret (.tuple [k,m]),H))
 (bV (fAd 0 b) fun o=>
 bV (ld1 o H) fun p=>
 bV (jT [(0,3),(3,1),(4,1)] [(.str 0 0),(.int .i64 (.ofNat 0)),(.int .i64 (.ofNat 0)),(.str 0 0),(.bool false)] [(1,p)]) fun r=>
 bA (bxV 71 (.agg [(.str 0 0),(.int .i64 (.ofNat 0)),(.int .i64 (.ofNat 0)),(.str 0 0),(.bool false)])) H fun t H=>
 bR (stN 5 t r H) fun u H=>
 bV (fAd 0 b) fun v=>
 bV (ld1 v H) fun w=>
 bV (Z7 w (some (.int .i64 (.ofNat 5))) none) fun x=>
 bR (f58 D n [x] H) fun y H=>
 bV (fAd 0 t) fun z=>
 bV (fAd 2 z) fun B=>
 bR (stN 1 B y H) fun C H=>
 bV (fAd 0 t) fun E=>
 bV (fAd 2 E) fun F=>
 bV (ld1 F H) fun G=>
 bV (qO .lss G (.int .i64 (.ofNat 1))) fun I=>
 jn (wnt I false (bV (fAd 0 t) fun J=>
 bV (fAd 2 J) fun K=>
 bV (ld1 K H) fun M=>
 bV (qO .gtr M (.int .i64 (.ofNat 262144))) fun N=>
 some (.norm [N],H)) (some (.norm [qN],H))) fun vs H=>hd vs fun O vs=>
 bV (pk3 (some I) (some (.bool true)) (some O)) fun P=>
 cnd P (bV (jT [(0,3),(3,1),(4,1)] [(.str 0 0),(.int .i64 (.ofNat 0)),(.int .i64 (.ofNat 0)),(.str 0 0),(.bool false)] []) fun Q=>
 bR (stN 5 c Q H) fun R H=>
 bV (ldN 5 c H) fun T=>bV (some (.bool false)) fun U=>some (.ret (.tuple [T,U]),H))
 (bV (fAd 1 b) fun V=>
 bV (ld1 V H) fun W=>
 bV (kN W) fun Y=>
 bV (qO .lss Y (.int .i64 (.ofNat 4))) fun Z=>
 cnd Z (bV (ldN 5 t H) fun a0=>
 bR (stN 5 c a0 H) fun a1 H=>
 bV (ldN 5 c H) fun a2=>bV (some (.bool true)) fun a3=>some (.ret (.tuple [a2,a3]),H))
 (bV (fAd 1 b) fun a4=>
 bV (ld1 a4 H) fun a5=>
 bR (f58 D n [a5] H) fun a6 H=>
 bV (fAd 0 t) fun a7=>
 bV (fAd 1 a7) fun a8=>
 bR (stN 1 a8 a6 H) fun a9 H=>
 bV (fAd 1 b) fun b0=>
 bV (ld1 b0 H) fun b1=>
 bV (Z7 b1 (some (.int .i64 (.ofNat 4))) none) fun b2=>
 bV (fAd 0 t) fun b3=>
 bV (fAd 0 b3) fun b4=>
 bR (stN 1 b4 b2 H) fun b5 H=>
 bV (fAd 0 t) fun b6=>
 bV (fAd 1 b6) fun b7=>
 bV (ld1 b7 H) fun b8=>
 bR (f26 D n [b8] H) fun b9 H=>
 jn (wnt b9 true (bV (fAd 0 t) fun c0=>
 bV (fAd 0 c0) fun c1=>
 bV (ld1 c1 H) fun c2=>
 bR (f27 D n [c2] H) fun c3 H=>
 some (.norm [c3],H)) (some (.norm [qN],H))) fun vs H=>hd vs fun c4 vs=>
 bV (pk3 (some b9) (some c4) (some (.bool false))) fun c5=>
 jn (wnt c5 true (bV (fAd 0 t) fun c6=>
 bV (fAd 0 c6) fun c7=>
 bV (ld1 c7 H) fun c8=>
 bV (fAd 0 t) fun c9=>
 bV (fAd 2 c9) fun d0=>
 bV (ld1 d0 H) fun d1=>
 bV (qO .sub d1 (.int .i64 (.ofNat 1))) fun d2=>
 bV (qO .quo d2 (.int .i64 (.ofNat 256))) fun d3=>
 bR (f22 D n [c8] H) fun d4 H=>chk (ld1 d0 H) d1 <|
 bV (qO .eql d4 d3) fun d5=>
 some (.norm [d5],H)) (some (.norm [qN],H))) fun vs H=>hd vs fun d6 vs=>
 bV (pk3 (some c5) (some d6) (some (.bool false))) fun d7=>
 bV (fAd 4 t) fun d8=>
 bR (stN 1 d8 d7 H) fun d9 H=>
 bV (ldN 5 t H) fun e0=>
 bR (stN 5 c e0 H) fun e1 H=>
 bV (ldN 5 c H) fun e2=>bV (some (.bool true)) fun e3=>some (.ret (.tuple [e2,e3]),H)))))
def h40:Hint:=(.s .o (.s (.s .o (.cl (.s .o .o) .o)) (.s .o (.s .o (.s (.s .o (.cl (.s .o .o) .o)) (.s (.s .o (.cl (.s .o .o) .o)) (.s .o (.s .o (.s .o (.s .o .o))))))))))
theorem zFv {D:Dyn}(hD:DG D)(n:Nat):FI 40 (f40 D n):=qS (n:=n) (h:=h40) X_ok hD (sc (zJy hD n) (sc (UN hD n) (sc (zBN hD n) (sc (Y4 hD n) (SOk.nil))))) Tryz.func40 (by kernel_rfl) (by kernel_rfl)
def s28 (D:Dyn)(n:Nat):Tb:=⟨X,[(31,f31 D n),(18,f18 D n),(40,f40 D n)]⟩
def zAq (D:Dyn)(n:Nat)(vs:List AV)(H:AH):Rs:=
 hd vs fun a vs=>hd vs fun b vs=>hd vs fun c vs=>hd vs fun d vs=>
 bV (qO .lss d c) fun e=>
 cnd e (bV (jB 2 b d) fun f=>
 bV (ldN 2 f H) fun g=>
 bA (bxV 85 (.agg [(.str 0 0),(.str 0 0)])) H fun h H=>
 bR (stN 2 h g H) fun i H=>
 bV (ldN 2 h H) fun k=>
 bR (f40 D n [k] H) fun m H=>
 bV (qL m 0) fun o=>
 bV (qL m 1) fun p=>
 bA (bxV 71 (.agg [(.str 0 0),(.int .i64 (.ofNat 0)),(.int .i64 (.ofNat 0)),(.str 0 0),(.bool false)])) H fun r H=>
 bR (stN 5 r o H) fun t H=>
 jn (wnt p true (bV (ldN 5 r H) fun u=>
 bR (callV (s28 D n).S D a [u] H) fun v H=>
 bV (aun .not v) fun w=>
 some (.norm [w],H)) (some (.norm [qN],H))) fun vs H=>hd vs fun x vs=>
 bV (pk3 (some p) (some x) (some (.bool false))) fun y=>
 cnd y (some (.exit 0 [],H))
 (bV (qO .add d (.int .i64 (.ofNat 1))) fun z=>
 some (.norm [a,b,c,z],H)))
 (some (.exit 0 [],H))
def zI9 (D:Dyn)(n:Nat)(vs:List AV)(H:AH):Rs:=
 bV (some (.int .i64 (.ofNat 0))) fun a=>some (.ret a,H)
def f28 (D:Dyn)(n:Nat)(vs:List AV)(H:AH):Option (AV×AH):=
 yP (hd vs fun a vs=>hd vs fun b vs=>hd vs fun c vs=>hd vs fun d vs=>nl vs <|
 bV (qO .mul c (.int .i64 (.ofNat 256))) fun e=>
 bV (qO .add e (.int .i64 (.ofNat 1))) fun f=>
 bR (f31 D n [b,f] H) fun g H=>
 bV (qO .add f (.int .i64 (.ofNat 256))) fun h=>
 bR (f31 D n [b,h] H) fun i H=>
 bR (f18 D n [a,g,i,(.int .i64 (.ofNat 2147483647))] H) fun k H=>
 bV (qL k 0) fun m=>
 bV (qL k 1) fun o=>
 bV (qL k 2) fun p=>
 bV (qO .neq p (.int .i64 (.ofNat 0))) fun r=>
 cnd r (bV (some p) fun t=>some (.ret t,H))
 (bV (lnSl m) fun u=>
 jb 0 (qT n (zAq D n) [d,m,u,(.int .i64 (.ofNat 0))] H) (zI9 D n)))
def h28:Hint:=(.s .o (.s .o (.s .o (.s (.s .o (.cl (.s .o .o) .o)) (.s (.s .o (.b [] (.l [3,36,37,38] (.s .o (.s (.cr .o .o) (.s (.b0 (.s .o (.s .o (.s .o (.cl .o .o))))) .o)))))) (.s .o .o))))))
theorem zFB {D:Dyn}(hD:DG D)(n:Nat):FI 28 (f28 D n):=qS (n:=n) (h:=h28) X_ok hD (sc (zBM hD n) (sc (UO hD n) (sc (zFv hD n) (SOk.nil)))) Tryz.func28 (by kernel_rfl) (by kernel_rfl)
def s70 (D:Dyn)(n:Nat):Tb:=⟨X,[]⟩
def f70 (D:Dyn)(n:Nat)(vs:List AV)(H:AH):Option (AV×AH):=
 yP (hd vs fun a vs=>hd vs fun b vs=>nl vs <|
 bA (bxV 111 b) H fun c H=>
 bA (bxV 65 (.agg [(.int .i64 (.ofNat 0)),(.int .i64 (.ofNat 0)),(.int .u64 (.ofNat 0))])) H fun d H=>
 bV (vC a) fun e=>
 bV (fAd 1 e) fun f=>
 bV (ld1 f H) fun g=>
 bV (qO .add g (.int .u64 (.ofNat 1))) fun h=>
 bV (vC a) fun i=>
 bV (fAd 1 i) fun k=>
 bR (stN 1 k h H) fun m H=>
 bV (vC a) fun o=>
 bV (fAd 2 o) fun p=>
 bV (ld1 p H) fun r=>
 bV (vC a) fun t=>
 bV (fAd 1 t) fun u=>
 bV (ld1 u H) fun v=>
 bV (ldN 4 c H) fun w=>
 bR (upM [10] r v w H) fun x H=>
 bV (vC a) fun y=>
 bV (fAd 1 y) fun z=>
 bV (ld1 z H) fun B=>
 bV (jT [(0,1),(1,1),(2,1)] [(.int .i64 (.ofNat 0)),(.int .i64 (.ofNat 0)),(.int .u64 (.ofNat 0))] [(0,(.int .i64 (.ofNat 1))),(2,B)]) fun C=>
 bR (stN 3 d C H) fun E H=>
 bV (ldN 3 d H) fun F=>some (.ret F,H))
def h70:Hint:=(.s .o (.s .o (.s .o (.s .o .o))))
theorem zBI {D:Dyn}(hD:DG D)(n:Nat):FI 70 (f70 D n):=qS (n:=n) (h:=h70) X_ok hD (SOk.nil) Tryz.func70 (by kernel_rfl) (by kernel_rfl)
end Go.Eng.Sh
end
end
section
noncomputable section
namespace Go.Eng.Sh
open Go.Proofs
set_option maxRecDepth 100000
def s69 (D:Dyn)(n:Nat):Tb:=⟨X,[]⟩
def zNj (D:Dyn)(n:Nat)(vs:List AV)(H:AH):Rs:=
 hd vs fun a vs=>hd vs fun b vs=>hd vs fun c vs=>hd vs fun d vs=>hd vs fun e vs=>hd vs fun f vs=>
 bV (qO .add f (.int .i64 (.ofNat 1))) fun g=>
 some (.norm [a,b,c,d,e,g],H)
def zFl (D:Dyn)(n:Nat)(vs:List AV)(H:AH):Rs:=
 hd vs fun a vs=>hd vs fun b vs=>hd vs fun c vs=>hd vs fun d vs=>hd vs fun e vs=>hd vs fun f vs=>
 bV (qO .lss f e) fun g=>
 cnd g (bV (jB 3 d f) fun h=>
 bV (ldN 3 h H) fun i=>
 bA (bxV 65 (.agg [(.int .i64 (.ofNat 0)),(.int .i64 (.ofNat 0)),(.int .u64 (.ofNat 0))])) H fun k H=>
 bR (stN 3 k i H) fun m H=>
 bV (fAd 0 k) fun o=>
 bV (ld1 o H) fun p=>
 bV (qO .eql p (.int .i64 (.ofNat 1))) fun r=>
 jn (cnd r (bV (vC c) fun t=>
 bV (fAd 5 t) fun u=>
 bV (ld1 u H) fun v=>
 bV (fAd 2 k) fun w=>
 bV (ld1 w H) fun x=>
 bR (dlM [10] v x H) fun y H=>
 some (.norm [a,b,c,d,e,f],H))
 (bV (vC c) fun z=>
 bV (fAd 7 z) fun B=>
 bV (ld1 B H) fun C=>
 bV (ldN 3 k H) fun E=>
 bA (wK 65 3 1 [(.int .i64 (.ofNat 0)),(.int .i64 (.ofNat 0)),(.int .u64 (.ofNat 0))] [(0,E)]) H fun F H=>
 bR (apP 65 3 24 C F H) fun G H=>
 bV (vC c) fun I=>
 bV (fAd 7 I) fun J=>
 bR (stN 1 J G H) fun K H=>
 some (.norm [a,b,c,d,e,f],H))) (zNj D n))
 (some (.exit 0 [a,b,c],H))
def zNk (D:Dyn)(n:Nat)(vs:List AV)(H:AH):Rs:=
 hd vs fun a vs=>hd vs fun b vs=>hd vs fun c vs=>
 tld (aW [a,b,c] H) H.next fun H=>
 bV (vC a) fun d=>
 bV (fAd 1 d) fun e=>
 bV (ld1 e H) fun f=>
 bV (vC c) fun g=>
 bV (fAd 6 g) fun h=>
 bR (stN 1 h f H) fun i H=>
 bV (ldN 3 b H) fun k=>
 bV (vC c) fun m=>
 bV (fAd 2 m) fun o=>
 bR (stN 3 o k H) fun p H=>
 some (.ret (.tuple []),H)
def f69 (D:Dyn)(n:Nat)(vs:List AV)(H:AH):Option (AV×AH):=
 yP (hd vs fun a vs=>hd vs fun b vs=>nl vs <|
 bA (bxV 65 b) H fun c H=>
 bV (vC a) fun d=>
 bV (fAd 0 d) fun e=>
 bV (ld1 e H) fun f=>
 bV (vC a) fun g=>
 bV (fAd 3 g) fun h=>
 bV (ld1 h H) fun i=>
 bV (lnSl i) fun k=>
 jb 0 (qT n (zFl D n) [a,c,f,i,k,(.int .i64 (.ofNat 0))] H) (zNk D n))
def h69:Hint:=(.s .o (.s .o (.s (.s .o (.b [0,3,4] (.l [0,3,4,16,17,18] (.s .o (.s (.cr .o .o) (.s (.b0 (.s .o (.s .o (.c [0,3,4,16,17,18] .o .o)))) .o)))))) (.s (.t [0,3,4] aW) (.s .o .o)))))
theorem zNl (D:Dyn)(n:Nat):f69 D n=zN1 (s69 D n) D n 69 Tryz.f69 h69:=by kernel_rfl
theorem zFm:zAP Tryz.f69 h69=[(zCx.code,[0,3,4],aW)]:=by kernel_rfl
theorem zI3: ∀x∈zAP Tryz.f69 h69,YM PP Tryz.f69.ntmps 69 x.1 x.2.1 x.2.2:=by
 rw[zFm];intro x hx;simp only[List.mem_cons,List.not_mem_nil,or_false]at hx;subst hx;exact zGZ
theorem zFn {D:Dyn}(hD:DG D)(n:Nat):FI 69 (f69 D n):=zKZ X_ok hD (SOk.nil) Tryz.func69 (zDN (by kernel_rfl) zI3) (zNl D n)
def s92 (D:Dyn)(n:Nat):Tb:=⟨X,[]⟩
def zFd (D:Dyn)(n:Nat)(vs:List AV)(H:AH):Rs:=
 hd vs fun a vs=>hd vs fun b vs=>hd vs fun c vs=>hd vs fun d vs=>hd vs fun e vs=>
 bV (qO .lss e d) fun f=>
 cnd f (bV (jB 1 c e) fun g=>
 bV (ld1 g H) fun h=>
 bV (kN h) fun i=>
 bV (qO .add (.int .i64 (.ofNat 1)) i) fun k=>
 bV (qO .add b k) fun m=>
 bV (qO .add e (.int .i64 (.ofNat 1))) fun o=>
 some (.norm [a,m,c,d,o],H))
 (some (.exit 0 [a,b],H))
def zFc (D:Dyn)(n:Nat)(vs:List AV)(H:AH):Rs:=
 hd vs fun a vs=>hd vs fun b vs=>hd vs fun c vs=>hd vs fun d vs=>
 bV (qO .lss d c) fun e=>
 cnd e (bV (jB 1 b d) fun f=>
 bV (ld1 f H) fun g=>
 bV (kN g) fun h=>
 bV (qO .add (.int .i64 (.ofNat 1)) h) fun i=>
 bV (qO .add a i) fun k=>
 bV (qO .add d (.int .i64 (.ofNat 1))) fun m=>
 some (.norm [k,b,c,m],H))
 (some (.exit 2 [a],H))
def zNb (D:Dyn)(n:Nat)(vs:List AV)(H:AH):Rs:=
 hd vs fun a vs=>
 bV (some a) fun b=>some (.ret b,H)
def zNa (D:Dyn)(n:Nat)(vs:List AV)(H:AH):Rs:=
 hd vs fun a vs=>hd vs fun b vs=>
 bV (fAd 2 a) fun c=>
 bV (ld1 c H) fun d=>
 bV (lnSl d) fun e=>
 jb 2 (qT n (zFc D n) [b,d,e,(.int .i64 (.ofNat 0))] H) (zNb D n)
def f92 (D:Dyn)(n:Nat)(vs:List AV)(H:AH):Option (AV×AH):=
 yP (hd vs fun a vs=>nl vs <|
 bA (bxV 111 a) H fun b H=>
 bV (fAd 3 b) fun c=>
 bV (ld1 c H) fun d=>
 bV (lnSl d) fun e=>
 bV (qO .mul (.int .i64 (.ofNat 16)) e) fun f=>
 bV (qO .add (.int .i64 (.ofNat 2)) f) fun g=>
 bV (fAd 1 b) fun h=>
 bV (ld1 h H) fun i=>
 bV (lnSl i) fun k=>
 jb 0 (qT n (zFd D n) [b,g,i,k,(.int .i64 (.ofNat 0))] H) (zNa D n))
def h92:Hint:=(.s .o (.s .o (.s (.s .o (.b [1,3] (.l [1,3,14,15,16] (.s .o (.s (.cr .o .o) (.s (.b0 (.s .o .o)) .o)))))) (.s (.s .o (.b [3] (.l [3,27,28,29] (.s .o (.s (.cr .o .o) (.s (.b0 (.s .o .o)) .o)))))) (.s .o .o)))))
theorem zBD {D:Dyn}(hD:DG D)(n:Nat):FI 92 (f92 D n):=qS (n:=n) (h:=h92) X_ok hD (SOk.nil) Tryz.func92 (by kernel_rfl) (by kernel_rfl)
def s78 (D:Dyn)(n:Nat):Tb:=⟨X,[]⟩
def f78 (D:Dyn)(n:Nat)(vs:List AV)(H:AH):Option (AV×AH):=
 yP (hd vs fun a vs=>nl vs <|
 bV (kN a) fun b=>
 bV (qO .geq b (.int .i64 (.ofNat 1))) fun c=>
 jn (wnt c true (bV (kN a) fun d=>
 bV (qO .leq d (.int .i64 (.ofNat 40))) fun e=>
 some (.norm [e],H)) (some (.norm [qN],H))) fun vs H=>hd vs fun f vs=>
 bV (pk3 (some c) (some f) (some (.bool false))) fun g=>
 bV (some g) fun h=>some (.ret h,H))
def h78:Hint:=(.s .o (.s .o .o))
theorem zBG {D:Dyn}(hD:DG D)(n:Nat):FI 78 (f78 D n):=qS (n:=n) (h:=h78) X_ok hD (SOk.nil) Tryz.func78 (by kernel_rfl) (by kernel_rfl)
def s77 (D:Dyn)(n:Nat):Tb:=⟨X,[(78,f78 D n)]⟩
def UJ (D:Dyn)(n:Nat)(vs:List AV)(H:AH):Rs:=
 hd vs fun a vs=>hd vs fun b vs=>hd vs fun c vs=>hd vs fun d vs=>
 bV (qO .lss d c) fun e=>
 cnd e (bV (jB 1 b d) fun f=>
 bV (ld1 f H) fun g=>
 bR (f78 D n [g] H) fun h H=>
 bV (aun .not h) fun i=>
 jn (wnt i false (bV (qO .gtr d (.int .i64 (.ofNat 0))) fun k=>
 some (.norm [k],H)) (some (.norm [qN],H))) fun vs H=>hd vs fun m vs=>
 jn (wnt m true (bV (fAd 1 a) fun o=>
 bV (ld1 o H) fun p=>
 bV (qO .sub d (.int .i64 (.ofNat 1))) fun r=>
 bV (jB 1 p r) fun t=>
 bV (ld1 t H) fun u=>
 bV (jU .geq u g) fun v=>
 some (.norm [v],H)) (some (.norm [qN],H))) fun vs H=>hd vs fun w vs=>
 jn (wnt i false (bV (pk3 (some m) (some w) (some (.bool false))) fun x=>
 some (.norm [x],H)) (some (.norm [qN],H))) fun vs H=>hd vs fun y vs=>
 bV (pk3 (some i) (some (.bool true)) (some y)) fun z=>
 cnd z (bV (some (.bool false)) fun B=>some (.ret B,H))
 (bV (qO .add d (.int .i64 (.ofNat 1))) fun C=>
 some (.norm [a,b,c,C],H)))
 (some (.exit 0 [a],H))
def zFh (D:Dyn)(n:Nat)(vs:List AV)(H:AH):Rs:=
 hd vs fun a vs=>hd vs fun b vs=>hd vs fun c vs=>
 bV (qO .lss c b) fun d=>
 cnd d (bV (jB 1 a c) fun e=>
 bV (ld1 e H) fun f=>
 bV (kN f) fun g=>
 bV (qO .gtr g (.int .i64 (.ofNat 200))) fun h=>
 cnd h (bV (some (.bool false)) fun i=>some (.ret i,H))
 (bV (qO .add c (.int .i64 (.ofNat 1))) fun k=>
 some (.norm [a,b,k],H)))
 (some (.exit 2 [],H))
def zL6 (D:Dyn)(n:Nat)(vs:List AV)(H:AH):Rs:=
 bV (some (.bool true)) fun a=>some (.ret a,H)
def zFg (D:Dyn)(n:Nat)(vs:List AV)(H:AH):Rs:=
 hd vs fun a vs=>hd vs fun b vs=>hd vs fun c vs=>
 bV (qO .lss c b) fun d=>
 cnd d (bV (jB 3 a c) fun e=>
 bV (ldN 3 e H) fun f=>
 bA (bxV 65 (.agg [(.int .i64 (.ofNat 0)),(.int .i64 (.ofNat 0)),(.int .u64 (.ofNat 0))])) H fun g H=>
 bR (stN 3 g f H) fun h H=>
 bV (fAd 0 g) fun i=>
 bV (ld1 i H) fun k=>
 bV (qO .lss k (.int .i64 (.ofNat 1))) fun m=>
 jn (wnt m false (bV (fAd 0 g) fun o=>
 bV (ld1 o H) fun p=>
 bV (qO .geq p (.int .i64 (.ofNat 8192))) fun r=>
 some (.norm [r],H)) (some (.norm [qN],H))) fun vs H=>hd vs fun t vs=>
 bV (pk3 (some m) (some (.bool true)) (some t)) fun u=>
 jn (wnt u false (bV (fAd 1 g) fun v=>
 bV (ld1 v H) fun w=>
 bV (qO .lss w (.int .i64 (.ofNat 0))) fun x=>
 some (.norm [x],H)) (some (.norm [qN],H))) fun vs H=>hd vs fun y vs=>
 bV (pk3 (some u) (some (.bool true)) (some y)) fun z=>
 jn (wnt z false (bV (fAd 1 g) fun B=>
 bV (ld1 B H) fun C=>
 bV (qO .gtr C (.int .i64 (.ofNat 2147483647))) fun E=>
 some (.norm [E],H)) (some (.norm [qN],H))) fun vs H=>hd vs fun F vs=>
 bV (pk3 (some z) (some (.bool true)) (some F)) fun G=>
 cnd G (bV (some (.bool false)) fun I=>some (.ret I,H))
 (bV (qO .add c (.int .i64 (.ofNat 1))) fun J=>
 some (.norm [a,b,J],H)))
 (some (.exit 4 [],H))
def zL5 (D:Dyn)(n:Nat)(vs:List AV)(H:AH):Rs:=
 bV (some (.bool true)) fun a=>some (.ret a,H)
def UK (D:Dyn)(n:Nat)(vs:List AV)(H:AH):Rs:=
 hd vs fun a vs=>
 bV (fAd 0 a) fun b=>
 bV (ld1 b H) fun c=>
 cnd c (bV (fAd 2 a) fun d=>
 bV (ld1 d H) fun e=>
 bV (lnSl e) fun f=>
 bV (fAd 1 a) fun g=>
 bV (ld1 g H) fun h=>
 bV (lnSl h) fun i=>
 bV (qO .neq f i) fun k=>
 jn (wnt k false (bV (fAd 3 a) fun m=>
 bV (ld1 m H) fun o=>
 bV (lnSl o) fun p=>
 bV (qO .neq p (.int .i64 (.ofNat 0))) fun r=>
 some (.norm [r],H)) (some (.norm [qN],H))) fun vs H=>hd vs fun t vs=>
 bV (pk3 (some k) (some (.bool true)) (some t)) fun u=>
 cnd u (bV (some (.bool false)) fun v=>some (.ret v,H))
 (bV (fAd 2 a) fun w=>
 bV (ld1 w H) fun x=>
 bV (lnSl x) fun y=>
 jb 2 (qT n (zFh D n) [x,y,(.int .i64 (.ofNat 0))] H) (zL6 D n)))
 (bV (fAd 1 a) fun z=>
 bV (ld1 z H) fun B=>
 bV (lnSl B) fun C=>
 bV (qO .eql C (.int .i64 (.ofNat 0))) fun E=>
 jn (wnt E false (bV (fAd 2 a) fun F=>
 bV (ld1 F H) fun G=>
 bV (lnSl G) fun I=>
 bV (qO .neq I (.int .i64 (.ofNat 0))) fun J=>
 some (.norm [J],H)) (some (.norm [qN],H))) fun vs H=>hd vs fun K vs=>
 bV (pk3 (some E) (some (.bool true)) (some K)) fun M=>
 jn (wnt M false (bV (fAd 3 a) fun N=>
 bV (ld1 N H) fun O=>
 bV (lnSl O) fun P=>
 bV (fAd 1 a) fun Q=>
 bV (ld1 Q H) fun R=>
 bV (lnSl R) fun T=>
 bV (qO .add T (.int .i64 (.ofNat 1))) fun U=>
 bV (qO .neq P U) fun V=>
 some (.norm [V],H)) (some (.norm [qN],H))) fun vs H=>hd vs fun W vs=>
 bV (pk3 (some M) (some (.bool true)) (some W)) fun Y=>
 cnd Y (bV (some (.bool false)) fun Z=>some (.ret Z,H))
 (bV (fAd 3 a) fun a0=>
 bV (ld1 a0 H) fun a1=>
 bV (lnSl a1) fun a2=>
 jb 4 (qT n (zFg D n) [a1,a2,(.int .i64 (.ofNat 0))] H) (zL5 D n)))
def f77 (D:Dyn)(n:Nat)(vs:List AV)(H:AH):Option (AV×AH):=
 yP (hd vs fun a vs=>nl vs <|
 bA (bxV 111 a) H fun b H=>
 bV (fAd 1 b) fun c=>
 bV (ld1 c H) fun d=>
 bV (lnSl d) fun e=>
 jb 0 (qT n (UJ D n) [b,d,e,(.int .i64 (.ofNat 0))] H) (UK D n))
def h77:Hint:=(.s .o (.s (.s .o (.b [1] (.l [1,10,11,12] (.s .o (.s (.cr .o .o) (.s (.b0 (.s .o (.s .o (.cl (.s .o .o) .o)))) .o)))))) (.s (.s .o (.cl (.s (.s .o (.cl (.s .o .o) .o)) (.s (.s .o (.b [] (.l [51,52,53] (.s .o (.s (.cr .o .o) (.s (.b0 (.s .o (.s .o (.cl (.s .o .o) .o)))) .o)))))) (.s .o .o))) .o)) (.s (.s .o (.cl (.s .o .o) .o)) (.s (.s .o (.b [] (.l [82,83,84] (.s .o (.s (.cr .o .o) (.s (.b0 (.s .o (.s .o (.cl (.s .o .o) .o)))) .o)))))) (.s .o .o))))))
theorem UL {D:Dyn}(hD:DG D)(n:Nat):FI 77 (f77 D n):=qS (n:=n) (h:=h77) X_ok hD (sc (zBG hD n) (SOk.nil)) Tryz.func77 (by kernel_rfl) (by kernel_rfl)
def s127 (D:Dyn)(n:Nat):Tb:=⟨X,[(92,f92 D n)]⟩
def aY (D:Dyn)(n:Nat)(vs:List AV)(H:AH):Rs:=
 hd vs fun a vs=>hd vs fun b vs=>hd vs fun c vs=>hd vs fun d vs=>hd vs fun e vs=>hd vs fun f vs=>hd vs fun g vs=>
 bV (qO .gtr e (.int .i64 (.ofNat 0))) fun h=>
 jn (wnt h true (bV (qO .gtr d b) fun i=>
 some (.norm [i],H)) (some (.norm [qN],H))) fun vs H=>hd vs fun k vs=>
 bV (pk3 (some h) (some k) (some (.bool false))) fun m=>
 cnd m (bV (some e) fun o=>some (.ret o,H))
 (bV (qO .add g (.int .i64 (.ofNat 1))) fun p=>
 some (.norm [a,b,c,d,f,p],H))
def Y5 (D:Dyn)(n:Nat)(vs:List AV)(H:AH):Rs:=
 hd vs fun a vs=>hd vs fun b vs=>hd vs fun c vs=>hd vs fun d vs=>hd vs fun e vs=>hd vs fun f vs=>
 bV (qO .lss f e) fun g=>
 cnd g (bV (fAd 1 a) fun h=>
 bV (ld1 h H) fun i=>
 bV (jB 1 i f) fun k=>
 bV (ld1 k H) fun m=>
 bV (kN m) fun o=>
 bV (qO .add (.int .i64 (.ofNat 1)) o) fun p=>
 bV (qO .add d p) fun r=>
 bV (fAd 0 a) fun t=>
 bV (ld1 t H) fun u=>
 jn (cnd u (bV (fAd 2 a) fun v=>
 bV (ld1 v H) fun w=>
 bV (jB 1 w f) fun x=>
 bV (ld1 x H) fun y=>
 bV (kN y) fun z=>
 bV (qO .add (.int .i64 (.ofNat 1)) z) fun B=>
 bV (qO .add r B) fun C=>
 some (.norm [a,b,c,C,f,e,f],H))
 (bV (qO .add r (.int .i64 (.ofNat 16))) fun E=>
 some (.norm [a,b,c,E,f,e,f],H))) (aY D n))
 (some (.exit 0 [c],H))
def zFJ (D:Dyn)(n:Nat)(vs:List AV)(H:AH):Rs:=
 hd vs fun a vs=>
 bV (some a) fun b=>some (.ret b,H)
def UQ (D:Dyn)(n:Nat)(vs:List AV)(H:AH):Rs:=
 hd vs fun a vs=>hd vs fun b vs=>hd vs fun c vs=>hd vs fun d vs=>
 jb 0 (qT n (Y5 D n) [a,b,c,d,c,(.int .i64 (.ofNat 0))] H) (zFJ D n)
def f127 (D:Dyn)(n:Nat)(vs:List AV)(H:AH):Option (AV×AH):=
 yP (hd vs fun a vs=>nl vs <|
 bA (bxV 111 a) H fun b H=>
 bV (ldN 4 b H) fun c=>
 bR (f92 D n [c] H) fun d H=>
 bV (qO .sub d (.int .i64 (.ofNat 2))) fun e=>
 bV (qO .quo e (.int .i64 (.ofNat 2))) fun f=>
 bV (fAd 1 b) fun g=>
 bV (ld1 g H) fun h=>
 bV (lnSl h) fun i=>
 bV (qO .sub i (.int .i64 (.ofNat 1))) fun k=>
 bV (fAd 0 b) fun m=>
 bV (ld1 m H) fun o=>
 bV (aun .not o) fun p=>
 jn (cnd p (bV (qO .sub k (.int .i64 (.ofNat 1))) fun r=>
 some (.norm [b,f,r,(.int .i64 (.ofNat 16))],H))
 (some (.norm [b,f,k,(.int .i64 (.ofNat 0))],H))) (UQ D n))
def h127:Hint:=(.s .o (.s .o (.s .o (.s .o (.s (.s .o (.c [1,3,4,5] (.s .o .o) .o)) (.s (.s .o (.b [4] (.l [1,3,4,5,20,21] (.s .o (.s (.cr .o .o) (.s (.b0 (.s .o (.s .o (.s (.s .o (.c [1,3,4,5,6,20,21] .o .o)) (.s .o (.cl (.s .o .o) .o)))))) .o)))))) (.s .o .o)))))))
theorem zFK {D:Dyn}(hD:DG D)(n:Nat):FI 127 (f127 D n):=qS (n:=n) (h:=h127) X_ok hD (sc (zBD hD n) (SOk.nil)) Tryz.func127 (by kernel_rfl) (by kernel_rfl)
def s115 (D:Dyn)(n:Nat):Tb:=⟨X,[(77,f77 D n),(127,f127 D n),(79,f79 D n),(118,f118 D n)]⟩
def zFP (D:Dyn)(n:Nat)(vs:List AV)(H:AH):Rs:=
 hd vs fun a vs=>hd vs fun b vs=>hd vs fun c vs=>hd vs fun d vs=>
 bV (ldN 4 b H) fun e=>
 bV (fAd 1 a) fun f=>
 bV (ld1 f H) fun g=>
 bV (jB 1 g d) fun h=>
 bV (ld1 h H) fun i=>
 bV (ldN 4 c H) fun k=>
 bR (stN 4 b e H) fun m H=>chk (ld1 f H) g <| chk (ld1 h H) i <| chk (ldN 4 c H) k <|
 bR (stN 4 c k H) fun o H=>
 bV (ldN 4 b H) fun p=>bV (some i) fun r=>bV (ldN 4 c H) fun t=>bV (some (.int .i64 (.ofNat 0))) fun u=>some (.ret (.tuple [p,r,t,u]),H)
def f115 (D:Dyn)(n:Nat)(vs:List AV)(H:AH):Option (AV×AH):=
 yP (hd vs fun a vs=>nl vs <|
 bA (bxV 111 a) H fun b H=>
 bA (bxV 111 (.agg [(.bool false), .nilSlice, .nilSlice, .nilSlice])) H fun c H=>
 bA (bxV 111 (.agg [(.bool false), .nilSlice, .nilSlice, .nilSlice])) H fun d H=>
 bV (ldN 4 b H) fun e=>
 bR (f77 D n [e] H) fun f H=>
 bV (aun .not f) fun g=>
 jn (wnt g false (bV (fAd 1 b) fun h=>
 bV (ld1 h H) fun i=>
 bV (lnSl i) fun k=>
 bV (qO .lss k (.int .i64 (.ofNat 2))) fun m=>
 some (.norm [m],H)) (some (.norm [qN],H))) fun vs H=>hd vs fun o vs=>
 bV (pk3 (some g) (some (.bool true)) (some o)) fun p=>
 jn (wnt p false (bV (fAd 0 b) fun r=>
 bV (ld1 r H) fun t=>
 bV (aun .not t) fun u=>
 some (.norm [u],H)) (some (.norm [qN],H))) fun vs H=>hd vs fun v vs=>
 jn (wnt v true (bV (fAd 1 b) fun w=>
 bV (ld1 w H) fun x=>
 bV (lnSl x) fun y=>
 bV (qO .lss y (.int .i64 (.ofNat 3))) fun z=>
 some (.norm [z],H)) (some (.norm [qN],H))) fun vs H=>hd vs fun B vs=>
 jn (wnt p false (bV (pk3 (some v) (some B) (some (.bool false))) fun C=>
 some (.norm [C],H)) (some (.norm [qN],H))) fun vs H=>hd vs fun E vs=>
 bV (pk3 (some p) (some (.bool true)) (some E)) fun F=>
 cnd F (bV (jT [(0,1),(1,1),(2,1),(3,1)] [(.bool false), .nilSlice, .nilSlice, .nilSlice] []) fun G=>
 bV (jT [(0,1),(1,1),(2,1),(3,1)] [(.bool false), .nilSlice, .nilSlice, .nilSlice] []) fun I=>
 bR (stN 4 c G H) fun J H=>
 bR (stN 4 d I H) fun K H=>
 bV (ldN 4 c H) fun M=>bV (some (.str 0 0)) fun N=>bV (ldN 4 d H) fun O=>bV (some (.int .i64 (.ofNat 1))) fun P=>some (.ret (.tuple [M,N,O,P]),H))
 (bV (ldN 4 b H) fun Q=>
 bR (f127 D n [Q] H) fun R H=>
 bV (fAd 0 b) fun T=>
 bV (ld1 T H) fun U=>
 bV (fAd 0 b) fun V=>
 bV (ld1 V H) fun W=>
 bV (fAd 0 c) fun Y=>
 bR (stN 1 Y U H) fun Z H=>chk (ld1 V H) W <|
 bV (fAd 0 d) fun a0=>
 bR (stN 1 a0 W H) fun a1 H=>
 bV (fAd 1 b) fun a2=>
 bV (ld1 a2 H) fun a3=>
 bV (j0 1 a3 none (some R) (some R) H) fun a4=>
 bR (f79 D n [a4] H) fun a5 H=>
 bV (fAd 1 c) fun a6=>
 bR (stN 1 a6 a5 H) fun a7 H=>
 bV (fAd 0 b) fun a8=>
 bV (ld1 a8 H) fun a9=>
 jn (cnd a9 (bV (fAd 1 b) fun b0=>
 bV (ld1 b0 H) fun b1=>
 bV (j0 1 b1 (some R) none none H) fun b2=>
 bR (f79 D n [b2] H) fun b3 H=>
 bV (fAd 1 d) fun b4=>
 bR (stN 1 b4 b3 H) fun b5 H=>
 bV (fAd 2 b) fun b6=>
 bV (ld1 b6 H) fun b7=>
 bV (j0 1 b7 none (some R) (some R) H) fun b8=>
 bV (fAd 2 b) fun b9=>
 bV (ld1 b9 H) fun c0=>
 bV (j0 1 c0 (some R) none none H) fun c1=>
 bR (f79 D n [b8] H) fun c2 H=>chk (ld1 b9 H) c0 <| chk (j0 1 c0 (some R) none none H) c1 <|
 bV (fAd 2 c) fun c3=>
 bR (f79 D n [c1] H) fun c4 H=>
 bR (stN 1 c3 c2 H) fun c5 H=>
 bV (fAd 2 d) fun c6=>
 bR (stN 1 c6 c4 H) fun c7 H=>
 some (.norm [b,c,d,R],H))
 (bV (fAd 1 b) fun c8=>
 bV (ld1 c8 H) fun c9=>
 bV (qO .add R (.int .i64 (.ofNat 1))) fun d0=>
 bV (j0 1 c9 (some d0) none none H) fun d1=>
 bR (f79 D n [d1] H) fun d2 H=>
 bV (fAd 1 d) fun d3=>
 bR (stN 1 d3 d2 H) fun d4 H=>
 bV (fAd 3 b) fun d5=>
 bV (ld1 d5 H) fun d6=>
 bV (qO .add R (.int .i64 (.ofNat 1))) fun d7=>
 bV (qO .add R (.int .i64 (.ofNat 1))) fun d8=>
 bV (j0 3 d6 none (some d7) (some d8) H) fun d9=>
 bV (fAd 3 b) fun e0=>
 bV (ld1 e0 H) fun e1=>
 bV (qO .add R (.int .i64 (.ofNat 1))) fun e2=>
 bV (j0 3 e1 (some e2) none none H) fun e3=>
 bR (f118 D n [d9] H) fun e4 H=>chk (ld1 e0 H) e1 <| chk (j0 3 e1 (some e2) none none H) e3 <|
 bV (fAd 3 c) fun e5=>
 bR (f118 D n [e3] H) fun e6 H=>
 bR (stN 1 e5 e4 H) fun e7 H=>
 bV (fAd 3 d) fun e8=>
 bR (stN 1 e8 e6 H) fun e9 H=>
 some (.norm [b,c,d,R],H))) (zFP D n)))
def h115:Hint:=(.s .o (.s (.s .o (.cl (.s .o .o) .o)) (.s .o (.s .o (.s .o (.s (.s .o (.c [1,2,4,6] (.s .o .o) (.s .o .o))) (.s .o .o)))))))
theorem zFQ {D:Dyn}(hD:DG D)(n:Nat):FI 115 (f115 D n):=qS (n:=n) (h:=h115) X_ok hD (sc (UL hD n) (sc (zFK hD n) (sc (zBF hD n) (sc (zAv hD n) (SOk.nil))))) Tryz.func115 (by kernel_rfl) (by kernel_rfl)
def s94 (D:Dyn)(n:Nat):Tb:=⟨X,[(92,f92 D n),(115,f115 D n)]⟩
def zHW (D:Dyn)(n:Nat)(vs:List AV)(H:AH):Rs:=
 hd vs fun a vs=>hd vs fun b vs=>hd vs fun c vs=>
 bV (ldN 4 a H) fun d=>
 bR (f92 D n [d] H) fun e H=>
 bV (qO .gtr e (.int .i64 (.ofNat 500))) fun f=>
 cnd f (bV (ldN 4 a H) fun g=>
 bR (f115 D n [g] H) fun h H=>
 bV (qL h 0) fun i=>
 bV (qL h 1) fun k=>
 bV (qL h 2) fun m=>
 bV (qL h 3) fun o=>
 bA (bxV 111 (.agg [(.bool false), .nilSlice, .nilSlice, .nilSlice])) H fun p H=>
 bA (bxV 111 (.agg [(.bool false), .nilSlice, .nilSlice, .nilSlice])) H fun r H=>
 bR (stN 4 p i H) fun t H=>
 bR (stN 4 r m H) fun u H=>
 bV (qO .neq o (.int .i64 (.ofNat 0))) fun v=>
 cnd v (bV (some .nilSlice) fun w=>bV (some .nilSlice) fun x=>bV (some (.int .i64 (.ofNat 4))) fun y=>some (.ret (.tuple [w,x,y]),H))
 (bV (ldN 4 p H) fun z=>
 bA (wK 111 4 1 [(.bool false), .nilSlice, .nilSlice, .nilSlice] [(0,z)]) H fun B H=>
 bR (apP 111 4 80 b B H) fun C H=>
 bA (wK 9 1 1 [(.str 0 0)] [(0,k)]) H fun E H=>
 bR (apP 9 1 16 c E H) fun F H=>
 bV (ldN 4 r H) fun G=>
 bR (stN 4 a G H) fun I H=>
 some (.norm [a,C,F],H)))
 (some (.exit 0 [a,b,c],H))
def zN9 (D:Dyn)(n:Nat)(vs:List AV)(H:AH):Rs:=
 hd vs fun a vs=>hd vs fun b vs=>hd vs fun c vs=>
 bV (ldN 4 a H) fun d=>
 bA (wK 111 4 1 [(.bool false), .nilSlice, .nilSlice, .nilSlice] [(0,d)]) H fun e H=>
 bR (apP 111 4 80 b e H) fun f H=>
 bV (some f) fun g=>bV (some c) fun h=>bV (some (.int .i64 (.ofNat 0))) fun i=>some (.ret (.tuple [g,h,i]),H)
def f94 (D:Dyn)(n:Nat)(vs:List AV)(H:AH):Option (AV×AH):=
 yP (hd vs fun a vs=>nl vs <|
 bA (bxV 111 a) H fun b H=>
 jb 0 (qT n (zHW D n) [b, .nilSlice, .nilSlice] H) (zN9 D n))
def h94:Hint:=(.s .o (.s .o (.s .o (.s (.b [1,5,6] (.l [1,5,6] (.s (.s .o (.cr .o .o)) (.b0 (.s .o (.s (.s .o (.cl (.s .o .o) .o)) (.s .o (.s .o .o)))))))) (.s .o .o)))))
theorem zFb {D:Dyn}(hD:DG D)(n:Nat):FI 94 (f94 D n):=qS (n:=n) (h:=h94) X_ok hD (sc (zBD hD n) (sc (zFQ hD n) (SOk.nil))) Tryz.func94 (by kernel_rfl) (by kernel_rfl)
def s96 (D:Dyn)(n:Nat):Tb:=⟨X,[(70,f70 D n)]⟩
def zF7 (D:Dyn)(n:Nat)(vs:List AV)(H:AH):Rs:=
 hd vs fun a vs=>hd vs fun b vs=>hd vs fun c vs=>hd vs fun d vs=>hd vs fun e vs=>
 bV (qO .lss e d) fun f=>
 cnd f (bV (jB 4 c e) fun g=>
 bV (ldN 4 g H) fun h=>
 bA (bxV 111 (.agg [(.bool false), .nilSlice, .nilSlice, .nilSlice])) H fun i H=>
 bR (stN 4 i h H) fun k H=>
 bV (ldN 4 i H) fun m=>
 bR (f70 D n [a,m] H) fun o H=>
 bA (wK 65 3 1 [(.int .i64 (.ofNat 0)),(.int .i64 (.ofNat 0)),(.int .u64 (.ofNat 0))] [(0,o)]) H fun p H=>
 bR (apP 65 3 24 b p H) fun r H=>
 bV (qO .add e (.int .i64 (.ofNat 1))) fun t=>
 some (.norm [a,r,c,d,t],H))
 (some (.exit 0 [b],H))
def zN5 (D:Dyn)(n:Nat)(vs:List AV)(H:AH):Rs:=
 hd vs fun a vs=>
 bV (some a) fun b=>some (.ret b,H)
def f96 (D:Dyn)(n:Nat)(vs:List AV)(H:AH):Option (AV×AH):=
 yP (hd vs fun a vs=>hd vs fun b vs=>nl vs <|
 bV (lnSl b) fun c=>
 jb 0 (qT n (zF7 D n) [a, .nilSlice,b,c,(.int .i64 (.ofNat 0))] H) (zN5 D n))
def h96:Hint:=(.s .o (.s .o (.s (.s .o (.b [5] (.l [0,5,8,9,10] (.s .o (.s (.cr .o .o) (.s (.b0 (.s .o .o)) .o)))))) (.s .o .o))))
theorem zF8 {D:Dyn}(hD:DG D)(n:Nat):FI 96 (f96 D n):=qS (n:=n) (h:=h96) X_ok hD (sc (zBI hD n) (SOk.nil)) Tryz.func96 (by kernel_rfl) (by kernel_rfl)
def s76 (D:Dyn)(n:Nat):Tb:=⟨X,[(69,f69 D n),(94,f94 D n),(96,f96 D n),(70,f70 D n)]⟩
def zL8 (D:Dyn)(n:Nat)(vs:List AV)(H:AH):Rs:=
 bV (some (.int .i64 (.ofNat 0))) fun a=>some (.ret a,H)
def zL7 (D:Dyn)(n:Nat)(vs:List AV)(H:AH):Rs:=
 bV (some (.int .i64 (.ofNat 0))) fun a=>some (.ret a,H)
def f76 (D:Dyn)(n:Nat)(vs:List AV)(H:AH):Option (AV×AH):=
 yP (hd vs fun a vs=>hd vs fun b vs=>nl vs <|
 bA (bxV 111 b) H fun c H=>
 bV (fAd 1 c) fun d=>
 bV (ld1 d H) fun e=>
 bV (lnSl e) fun f=>
 bV (qO .eql f (.int .i64 (.ofNat 0))) fun g=>
 cnd g (bV (fAd 0 c) fun h=>
 bV (ld1 h H) fun i=>
 jn (cnd i (bV (jT [(0,1),(1,1),(2,1)] [(.int .i64 (.ofNat 0)),(.int .i64 (.ofNat 0)),(.int .u64 (.ofNat 0))] []) fun k=>
 bR (f69 D n [a,k] H) fun m H=>
 some (.norm [],H))
 (bV (fAd 3 c) fun o=>
 bV (ld1 o H) fun p=>
 bV (jB 3 p (.int .i64 (.ofNat 0))) fun r=>
 bV (ldN 3 r H) fun t=>
 bR (f69 D n [a,t] H) fun u H=>
 some (.norm [],H))) (zL8 D n))
 (bV (ldN 4 c H) fun v=>
 bR (f94 D n [v] H) fun w H=>
 bV (qL w 0) fun x=>
 bV (qL w 1) fun y=>
 bV (qL w 2) fun z=>
 bV (qO .neq z (.int .i64 (.ofNat 0))) fun B=>
 cnd B (bV (some z) fun C=>some (.ret C,H))
 (bR (f96 D n [a,x] H) fun E H=>
 bV (lnSl E) fun F=>
 bV (qO .eql F (.int .i64 (.ofNat 1))) fun G=>
 jn (cnd G (bV (jB 3 E (.int .i64 (.ofNat 0))) fun I=>
 bV (ldN 3 I H) fun J=>
 bR (f69 D n [a,J] H) fun K H=>
 some (.norm [],H))
 (bV (jT [(0,1),(1,1),(2,1),(3,1)] [(.bool false), .nilSlice, .nilSlice, .nilSlice] [(1,y),(3,E)]) fun M=>
 bR (f70 D n [a,M] H) fun N H=>
 bR (f69 D n [a,N] H) fun O H=>
 some (.norm [],H))) (zL7 D n))))
def h76:Hint:=(.s .o (.s (.s .o (.cl (.s (.s .o (.c [] .o .o)) (.s .o .o)) .o)) (.s .o (.s (.s .o (.cl (.s .o .o) .o)) (.s .o (.s (.s .o (.c [] .o .o)) (.s .o .o)))))))
theorem zJp {D:Dyn}(hD:DG D)(n:Nat):FI 76 (f76 D n):=qS (n:=n) (h:=h76) X_ok hD (sc (zFn hD n) (sc (zFb hD n) (sc (zF8 hD n) (sc (zBI hD n) (SOk.nil))))) Tryz.func76 (by kernel_rfl) (by kernel_rfl)
def s72 (D:Dyn)(n:Nat):Tb:=⟨X,[]⟩
def f72 (D:Dyn)(n:Nat)(vs:List AV)(H:AH):Option (AV×AH):=
 yP (hd vs fun a vs=>nl vs <|
 bV (vC a) fun b=>
 bV (fAd 5 b) fun c=>
 bV (ld1 c H) fun d=>
 bV (U6 d H) fun e=>
 bV (qO .add (.int .i64 (.ofNat 8192)) e) fun f=>
 bV (some f) fun g=>some (.ret g,H))
def h72:Hint:=(.s .o (.s .o .o))
theorem zJr {D:Dyn}(hD:DG D)(n:Nat):FI 72 (f72 D n):=qS (n:=n) (h:=h72) X_ok hD (SOk.nil) Tryz.func72 (by kernel_rfl) (by kernel_rfl)
def s75 (D:Dyn)(n:Nat):Tb:=⟨X,[]⟩
def f75 (D:Dyn)(n:Nat)(vs:List AV)(H:AH):Option (AV×AH):=
 yP (hd vs fun a vs=>hd vs fun b vs=>nl vs <|
 bA (bxV 65 b) H fun c H=>
 bV (vC a) fun d=>
 bV (fAd 3 d) fun e=>
 bV (ld1 e H) fun f=>
 bV (ldN 3 c H) fun g=>
 bA (wK 65 3 1 [(.int .i64 (.ofNat 0)),(.int .i64 (.ofNat 0)),(.int .u64 (.ofNat 0))] [(0,g)]) H fun h H=>
 bR (apP 65 3 24 f h H) fun i H=>
 bV (vC a) fun k=>
 bV (fAd 3 k) fun m=>
 bR (stN 1 m i H) fun o H=>
 some (.ret (.tuple []),H))
def h75:Hint:=(.s .o .o)
theorem zFi {D:Dyn}(hD:DG D)(n:Nat):FI 75 (f75 D n):=qS (n:=n) (h:=h75) X_ok hD (SOk.nil) Tryz.func75 (by kernel_rfl) (by kernel_rfl)
def s114 (D:Dyn)(n:Nat):Tb:=⟨X,[(78,f78 D n)]⟩
def f114 (D:Dyn)(n:Nat)(vs:List AV)(H:AH):Option (AV×AH):=
 yP (hd vs fun a vs=>hd vs fun b vs=>hd vs fun c vs=>nl vs <|
 bA (bxV 111 a) H fun d H=>
 bA (bxV 111 c) H fun e H=>
 bR (f78 D n [b] H) fun f H=>
 bV (aun .not f) fun g=>
 jn (wnt g false (bV (fAd 0 d) fun h=>
 bV (ld1 h H) fun i=>
 bV (fAd 0 e) fun k=>
 bV (ld1 k H) fun m=>
 bV (aN .neq i m) fun o=>
 some (.norm [o],H)) (some (.norm [qN],H))) fun vs H=>hd vs fun p vs=>
 bV (pk3 (some g) (some (.bool true)) (some p)) fun r=>
 cnd r (bV (some (.bool false)) fun t=>some (.ret t,H))
 (bV (fAd 1 d) fun u=>
 bV (ld1 u H) fun v=>
 bV (lnSl v) fun w=>
 bV (qO .gtr w (.int .i64 (.ofNat 0))) fun x=>
 jn (wnt x true (bV (fAd 1 d) fun y=>
 bV (ld1 y H) fun z=>
 bV (qO .sub w (.int .i64 (.ofNat 1))) fun B=>
 bV (jB 1 z B) fun C=>
 bV (ld1 C H) fun E=>
 bV (jU .geq E b) fun F=>
 some (.norm [F],H)) (some (.norm [qN],H))) fun vs H=>hd vs fun G vs=>
 bV (pk3 (some x) (some G) (some (.bool false))) fun I=>
 cnd I (bV (some (.bool false)) fun J=>some (.ret J,H))
 (bV (fAd 1 e) fun K=>
 bV (ld1 K H) fun M=>
 bV (lnSl M) fun N=>
 bV (qO .eql N (.int .i64 (.ofNat 0))) fun O=>
 cnd O (bV (some (.bool true)) fun P=>some (.ret P,H))
 (bV (fAd 1 e) fun Q=>
 bV (ld1 Q H) fun R=>
 bV (jB 1 R (.int .i64 (.ofNat 0))) fun T=>
 bV (ld1 T H) fun U=>
 bV (jU .lss b U) fun V=>
 jn (wnt V false (bV (fAd 0 d) fun W=>
 bV (ld1 W H) fun Y=>
 some (.norm [Y],H)) (some (.norm [qN],H))) fun vs H=>hd vs fun Z vs=>
 jn (wnt Z true (bV (fAd 1 e) fun a0=>
 bV (ld1 a0 H) fun a1=>
 bV (jB 1 a1 (.int .i64 (.ofNat 0))) fun a2=>
 bV (ld1 a2 H) fun a3=>
 bV (jU .eql b a3) fun a4=>
 some (.norm [a4],H)) (some (.norm [qN],H))) fun vs H=>hd vs fun a5 vs=>
 jn (wnt V false (bV (pk3 (some Z) (some a5) (some (.bool false))) fun a6=>
 some (.norm [a6],H)) (some (.norm [qN],H))) fun vs H=>hd vs fun a7 vs=>
 bV (pk3 (some V) (some (.bool true)) (some a7)) fun a8=>
 bV (some a8) fun a9=>some (.ret a9,H)))))
def h114:Hint:=(.s .o (.s (.s .o (.cl (.s .o .o) .o)) (.s (.s .o (.s .o (.cl (.s .o .o) .o))) (.s (.s .o (.cl (.s .o .o) .o)) (.s .o .o)))))
theorem zFR {D:Dyn}(hD:DG D)(n:Nat):FI 114 (f114 D n):=qS (n:=n) (h:=h114) X_ok hD (sc (zBG hD n) (SOk.nil)) Tryz.func114 (by kernel_rfl) (by kernel_rfl)
def s99 (D:Dyn)(n:Nat):Tb:=⟨X,[]⟩
def zL4 (D:Dyn)(n:Nat)(vs:List AV)(H:AH):Rs:=
 hd vs fun a vs=>
 bV (some a) fun b=>some (.ret b,H)
def zL3 (D:Dyn)(n:Nat)(vs:List AV)(H:AH):Rs:=
 hd vs fun a vs=>hd vs fun b vs=>
 bV (zD7 X 56 a) fun c=>
 bV (lnSl a) fun d=>
 bV (qO .sub c d) fun e=>
 bV (qO .sub b e) fun f=>
 bV (qO .gtr f (.int .i64 (.ofNat 0))) fun g=>
 jn (cnd g (bV (zD7 X 56 a) fun h=>
 bV (j0 1 a none (some h) none H) fun i=>
 bR (apZ 9 1 16 [(.str 0 0)] i f H) fun k H=>
 bV (lnSl a) fun m=>
 bV (j0 1 k none (some m) none H) fun o=>
 some (.norm [o],H))
 (some (.norm [a],H))) (zL4 D n)
def f99 (D:Dyn)(n:Nat)(vs:List AV)(H:AH):Option (AV×AH):=
 yP (hd vs fun a vs=>hd vs fun b vs=>nl vs <|
 bV (qO .lss b (.int .i64 (.ofNat 0))) fun c=>
 jn (cnd c (none)
 (some (.norm [a,b],H))) (zL3 D n))
def h99:Hint:=(.s .o (.s (.s .o (.c [0,1] .o .o)) (.s (.s .o (.s .o (.c [0] .o .o))) (.s .o .o))))
theorem zJk {D:Dyn}(hD:DG D)(n:Nat):FI 99 (f99 D n):=qS (n:=n) (h:=h99) X_ok hD (SOk.nil) Tryz.func99 (by kernel_rfl) (by kernel_rfl)
def s81 (D:Dyn)(n:Nat):Tb:=⟨X,[(99,f99 D n)]⟩
def zNe (D:Dyn)(n:Nat)(vs:List AV)(H:AH):Rs:=
 hd vs fun a vs=>hd vs fun b vs=>hd vs fun c vs=>hd vs fun d vs=>hd vs fun e vs=>
 bV (qO .add e (.int .i64 (.ofNat 1))) fun f=>
 some (.norm [a,b,c,d,f],H)
def zI0 (D:Dyn)(n:Nat)(vs:List AV)(H:AH):Rs:=
 hd vs fun a vs=>hd vs fun b vs=>hd vs fun c vs=>hd vs fun d vs=>hd vs fun e vs=>
 bV (qO .lss e d) fun f=>
 cnd f (bV (jB 1 c e) fun g=>
 bV (ld1 g H) fun h=>
 bV (lnSl h) fun i=>
 bV (qO .add b i) fun k=>
 bV (qO .lss k (.int .i64 (.ofNat 0))) fun m=>
 jn (cnd m (none)
 (some (.norm [a,k,c,d,e],H))) (zNe D n))
 (some (.exit 0 [a,b],H))
def zFf (D:Dyn)(n:Nat)(vs:List AV)(H:AH):Rs:=
 hd vs fun a vs=>hd vs fun b vs=>hd vs fun c vs=>hd vs fun d vs=>
 bV (qO .lss d c) fun e=>
 cnd e (bV (jB 1 b d) fun f=>
 bV (ld1 f H) fun g=>
 bR (apP 9 1 16 a g H) fun h H=>
 bV (qO .add d (.int .i64 (.ofNat 1))) fun i=>
 some (.norm [h,b,c,i],H))
 (some (.exit 2 [a],H))
def zNg (D:Dyn)(n:Nat)(vs:List AV)(H:AH):Rs:=
 hd vs fun a vs=>
 bV (some a) fun b=>some (.ret b,H)
def zNf (D:Dyn)(n:Nat)(vs:List AV)(H:AH):Rs:=
 hd vs fun a vs=>hd vs fun b vs=>
 bR (f99 D n [.nilSlice,b] H) fun c H=>
 bV (lnSl a) fun d=>
 jb 2 (qT n (zFf D n) [c,a,d,(.int .i64 (.ofNat 0))] H) (zNg D n)
def f81 (D:Dyn)(n:Nat)(vs:List AV)(H:AH):Option (AV×AH):=
 yP (hd vs fun a vs=>nl vs <|
 bV (lnSl a) fun b=>
 jb 0 (qT n (zI0 D n) [a,(.int .i64 (.ofNat 0)),a,b,(.int .i64 (.ofNat 0))] H) (zNf D n))
def h81:Hint:=(.s .o (.s .o (.s (.s .o (.b [0,3] (.l [0,3,9,10,11] (.s .o (.s (.cr .o .o) (.s (.b0 (.s .o (.s .o (.s .o (.c [0,3,9,10,11] .o .o))))) .o)))))) (.s .o (.s (.s .o (.b [6] (.l [6,25,26,27] (.s .o (.s (.cr .o .o) (.s (.b0 (.s .o .o)) .o)))))) (.s .o .o))))))
theorem zBE {D:Dyn}(hD:DG D)(n:Nat):FI 81 (f81 D n):=qS (n:=n) (h:=h81) X_ok hD (sc (zJk hD n) (SOk.nil)) Tryz.func81 (by kernel_rfl) (by kernel_rfl)
def s116 (D:Dyn)(n:Nat):Tb:=⟨X,[]⟩
def zFN (D:Dyn)(n:Nat)(vs:List AV)(H:AH):Rs:=
 hd vs fun a vs=>
 bV (some a) fun b=>some (.ret b,H)
def zFM (D:Dyn)(n:Nat)(vs:List AV)(H:AH):Rs:=
 hd vs fun a vs=>hd vs fun b vs=>
 bV (zD7 X 105 a) fun c=>
 bV (lnSl a) fun d=>
 bV (qO .sub c d) fun e=>
 bV (qO .sub b e) fun f=>
 bV (qO .gtr f (.int .i64 (.ofNat 0))) fun g=>
 jn (cnd g (bV (zD7 X 105 a) fun h=>
 bV (j0 3 a none (some h) none H) fun i=>
 bR (apZ 65 3 24 [(.int .i64 (.ofNat 0)),(.int .i64 (.ofNat 0)),(.int .u64 (.ofNat 0))] i f H) fun k H=>
 bV (lnSl a) fun m=>
 bV (j0 3 k none (some m) none H) fun o=>
 some (.norm [o],H))
 (some (.norm [a],H))) (zFN D n)
def f116 (D:Dyn)(n:Nat)(vs:List AV)(H:AH):Option (AV×AH):=
 yP (hd vs fun a vs=>hd vs fun b vs=>nl vs <|
 bV (qO .lss b (.int .i64 (.ofNat 0))) fun c=>
 jn (cnd c (none)
 (some (.norm [a,b],H))) (zFM D n))
def h116:Hint:=(.s .o (.s (.s .o (.c [0,1] .o .o)) (.s (.s .o (.s .o (.c [0] .o .o))) (.s .o .o))))
theorem zFO {D:Dyn}(hD:DG D)(n:Nat):FI 116 (f116 D n):=qS (n:=n) (h:=h116) X_ok hD (SOk.nil) Tryz.func116 (by kernel_rfl) (by kernel_rfl)
def s95 (D:Dyn)(n:Nat):Tb:=⟨X,[(116,f116 D n)]⟩
def zN6 (D:Dyn)(n:Nat)(vs:List AV)(H:AH):Rs:=
 hd vs fun a vs=>hd vs fun b vs=>hd vs fun c vs=>hd vs fun d vs=>hd vs fun e vs=>
 bV (qO .add e (.int .i64 (.ofNat 1))) fun f=>
 some (.norm [a,b,c,d,f],H)
def zHV (D:Dyn)(n:Nat)(vs:List AV)(H:AH):Rs:=
 hd vs fun a vs=>hd vs fun b vs=>hd vs fun c vs=>hd vs fun d vs=>hd vs fun e vs=>
 bV (qO .lss e d) fun f=>
 cnd f (bV (jB 1 c e) fun g=>
 bV (ld1 g H) fun h=>
 bV (lnSl h) fun i=>
 bV (qO .add b i) fun k=>
 bV (qO .lss k (.int .i64 (.ofNat 0))) fun m=>
 jn (cnd m (none)
 (some (.norm [a,k,c,d,e],H))) (zN6 D n))
 (some (.exit 0 [a,b],H))
def zF9 (D:Dyn)(n:Nat)(vs:List AV)(H:AH):Rs:=
 hd vs fun a vs=>hd vs fun b vs=>hd vs fun c vs=>hd vs fun d vs=>
 bV (qO .lss d c) fun e=>
 cnd e (bV (jB 1 b d) fun f=>
 bV (ld1 f H) fun g=>
 bR (apP 65 3 24 a g H) fun h H=>
 bV (qO .add d (.int .i64 (.ofNat 1))) fun i=>
 some (.norm [h,b,c,i],H))
 (some (.exit 2 [a],H))
def zN8 (D:Dyn)(n:Nat)(vs:List AV)(H:AH):Rs:=
 hd vs fun a vs=>
 bV (some a) fun b=>some (.ret b,H)
def zN7 (D:Dyn)(n:Nat)(vs:List AV)(H:AH):Rs:=
 hd vs fun a vs=>hd vs fun b vs=>
 bR (f116 D n [.nilSlice,b] H) fun c H=>
 bV (lnSl a) fun d=>
 jb 2 (qT n (zF9 D n) [c,a,d,(.int .i64 (.ofNat 0))] H) (zN8 D n)
def f95 (D:Dyn)(n:Nat)(vs:List AV)(H:AH):Option (AV×AH):=
 yP (hd vs fun a vs=>nl vs <|
 bV (lnSl a) fun b=>
 jb 0 (qT n (zHV D n) [a,(.int .i64 (.ofNat 0)),a,b,(.int .i64 (.ofNat 0))] H) (zN7 D n))
def h95:Hint:=(.s .o (.s .o (.s (.s .o (.b [0,3] (.l [0,3,9,10,11] (.s .o (.s (.cr .o .o) (.s (.b0 (.s .o (.s .o (.s .o (.c [0,3,9,10,11] .o .o))))) .o)))))) (.s .o (.s (.s .o (.b [6] (.l [6,25,26,27] (.s .o (.s (.cr .o .o) (.s (.b0 (.s .o .o)) .o)))))) (.s .o .o))))))
theorem zFa {D:Dyn}(hD:DG D)(n:Nat):FI 95 (f95 D n):=qS (n:=n) (h:=h95) X_ok hD (sc (zFO hD n) (SOk.nil)) Tryz.func95 (by kernel_rfl) (by kernel_rfl)
def s93 (D:Dyn)(n:Nat):Tb:=⟨X,[(77,f77 D n),(114,f114 D n),(81,f81 D n),(95,f95 D n)]⟩
def f93 (D:Dyn)(n:Nat)(vs:List AV)(H:AH):Option (AV×AH):=
 yP (hd vs fun a vs=>hd vs fun b vs=>hd vs fun c vs=>nl vs <|
 bA (bxV 111 a) H fun d H=>
 bA (bxV 111 c) H fun e H=>
 bA (bxV 111 (.agg [(.bool false), .nilSlice, .nilSlice, .nilSlice])) H fun f H=>
 bV (ldN 4 d H) fun g=>
 bR (f77 D n [g] H) fun h H=>
 bV (aun .not h) fun i=>
 jn (wnt i false (bV (ldN 4 e H) fun k=>
 bR (f77 D n [k] H) fun m H=>
 bV (aun .not m) fun o=>
 some (.norm [o],H)) (some (.norm [qN],H))) fun vs H=>hd vs fun p vs=>
 bV (pk3 (some i) (some (.bool true)) (some p)) fun r=>
 jn (wnt r false (bV (ldN 4 d H) fun t=>
 bV (ldN 4 e H) fun u=>
 bR (f114 D n [t,b,u] H) fun v H=>
 bV (aun .not v) fun w=>
 some (.norm [w],H)) (some (.norm [qN],H))) fun vs H=>hd vs fun x vs=>
 bV (pk3 (some r) (some (.bool true)) (some x)) fun y=>
 cnd y (bV (jT [(0,1),(1,1),(2,1),(3,1)] [(.bool false), .nilSlice, .nilSlice, .nilSlice] []) fun z=>
 bR (stN 4 f z H) fun B H=>
 bV (ldN 4 f H) fun C=>bV (some (.int .i64 (.ofNat 1))) fun E=>some (.ret (.tuple [C,E]),H))
 (bV (fAd 0 d) fun F=>
 bV (ld1 F H) fun G=>
 cnd G (bV (fAd 1 d) fun I=>
 bV (ld1 I H) fun J=>
 bV (fAd 1 e) fun K=>
 bV (ld1 K H) fun M=>
 bA (wK 56 1 2 [.nilSlice] [(0,J),(1,M)]) H fun N H=>
 bV (fAd 2 d) fun O=>
 bV (ld1 O H) fun P=>
 bV (fAd 2 e) fun Q=>
 bV (ld1 Q H) fun R=>
 bA (wK 56 1 2 [.nilSlice] [(0,P),(1,R)]) H fun T H=>
 bR (f81 D n [N] H) fun U H=>chk (ld1 O H) P <| chk (ld1 Q H) R <|
 bR (f81 D n [T] H) fun V H=>
 bV (jT [(0,1),(1,1),(2,1),(3,1)] [(.bool false), .nilSlice, .nilSlice, .nilSlice] [(0,(.bool true)),(1,U),(2,V)]) fun W=>
 bR (stN 4 f W H) fun Y H=>
 bV (ldN 4 f H) fun Z=>bV (some (.int .i64 (.ofNat 0))) fun a0=>some (.ret (.tuple [Z,a0]),H))
 (bV (fAd 1 d) fun a1=>
 bV (ld1 a1 H) fun a2=>
 bA (wK 9 1 1 [(.str 0 0)] [(0,b)]) H fun a3 H=>
 bV (fAd 1 e) fun a4=>
 bV (ld1 a4 H) fun a5=>
 bA (wK 56 1 3 [.nilSlice] [(0,a2),(1,a3),(2,a5)]) H fun a6 H=>
 bV (fAd 3 d) fun a7=>
 bV (ld1 a7 H) fun a8=>
 bV (fAd 3 e) fun a9=>
 bV (ld1 a9 H) fun b0=>
 bA (wK 105 1 2 [.nilSlice] [(0,a8),(1,b0)]) H fun b1 H=>
 bR (f81 D n [a6] H) fun b2 H=>chk (ld1 a7 H) a8 <| chk (ld1 a9 H) b0 <|
 bR (f95 D n [b1] H) fun b3 H=>
 bV (jT [(0,1),(1,1),(2,1),(3,1)] [(.bool false), .nilSlice, .nilSlice, .nilSlice] [(1,b2),(3,b3)]) fun b4=>
 bR (stN 4 f b4 H) fun b5 H=>
 bV (ldN 4 f H) fun b6=>bV (some (.int .i64 (.ofNat 0))) fun b7=>some (.ret (.tuple [b6,b7]),H))))
def h93:Hint:=(.s .o (.s (.s .o (.cl (.s .o .o) .o)) (.s (.s .o (.cl (.s .o .o) .o)) (.s .o .o))))
theorem zJl {D:Dyn}(hD:DG D)(n:Nat):FI 93 (f93 D n):=qS (n:=n) (h:=h93) X_ok hD (sc (UL hD n) (sc (zFR hD n) (sc (zBE hD n) (sc (zFa hD n) (SOk.nil))))) Tryz.func93 (by kernel_rfl) (by kernel_rfl)
def s74 (D:Dyn)(n:Nat):Tb:=⟨X,[(92,f92 D n),(73,f73 D n),(75,f75 D n),(93,f93 D n),(94,f94 D n),(81,f81 D n),(96,f96 D n),(95,f95 D n)]⟩
def zLa (D:Dyn)(n:Nat)(vs:List AV)(H:AH):Rs:=
 hd vs fun a vs=>hd vs fun b vs=>hd vs fun c vs=>hd vs fun d vs=>hd vs fun e vs=>hd vs fun f vs=>hd vs fun g vs=>
 bV (qO .neq g (.int .i64 (.ofNat 0))) fun h=>
 cnd h (bV (jT [(0,1),(1,1),(2,1),(3,1)] [(.bool false), .nilSlice, .nilSlice, .nilSlice] []) fun i=>
 bR (stN 4 d i H) fun k H=>
 bV (ldN 4 d H) fun m=>bV (some (.int .i64 (.ofNat 4))) fun o=>some (.ret (.tuple [m,o]),H))
 (some (.norm [a,b,c,d,e,f],H))
def zL9 (D:Dyn)(n:Nat)(vs:List AV)(H:AH):Rs:=
 hd vs fun a vs=>hd vs fun b vs=>hd vs fun c vs=>hd vs fun d vs=>hd vs fun e vs=>hd vs fun f vs=>
 bV (vC a) fun g=>
 bV (fAd 0 g) fun h=>
 bV (ld1 h H) fun i=>
 bV (fAd 3 c) fun k=>
 bV (ld1 k H) fun m=>
 bV (jB 3 m f) fun o=>
 bV (ldN 3 o H) fun p=>
 bA (bxV 111 (.agg [(.bool false), .nilSlice, .nilSlice, .nilSlice])) H fun r H=>
 bR (f73 D n [i,p] H) fun t H=>
 bV (qL t 0) fun u=>
 bV (qL t 1) fun v=>
 bR (stN 4 r u H) fun w H=>
 bV (qO .neq v (.int .i64 (.ofNat 0))) fun x=>
 cnd x (bV (jT [(0,1),(1,1),(2,1),(3,1)] [(.bool false), .nilSlice, .nilSlice, .nilSlice] []) fun y=>
 bR (stN 4 e y H) fun z H=>
 bV (ldN 4 e H) fun B=>bV (some v) fun C=>some (.ret (.tuple [B,C]),H))
 (bV (fAd 3 c) fun E=>
 bV (ld1 E H) fun F=>
 bV (jB 3 F f) fun G=>
 bV (ldN 3 G H) fun I=>
 bR (f75 D n [a,I] H) fun J H=>
 bV (mn2 b f) fun K=>
 bV (mx2 b f) fun M=>
 bV (qO .add M (.int .i64 (.ofNat 1))) fun N=>
 bV (qO .lss f b) fun O=>
 jn (cnd O (bV (ldN 4 r H) fun P=>
 bV (fAd 1 c) fun Q=>
 bV (ld1 Q H) fun R=>
 bV (jB 1 R K) fun T=>
 bV (ld1 T H) fun U=>
 bV (ldN 4 d H) fun V=>
 bR (f93 D n [P,U,V] H) fun W H=>
 bV (qL W 0) fun Y=>
 bV (qL W 1) fun Z=>
 bR (stN 4 d Y H) fun a0 H=>
 some (.norm [a,c,d,e,K,N,Z],H))
 (bV (ldN 4 d H) fun a1=>
 bV (fAd 1 c) fun a2=>
 bV (ld1 a2 H) fun a3=>
 bV (jB 1 a3 K) fun a4=>
 bV (ld1 a4 H) fun a5=>
 bV (ldN 4 r H) fun a6=>
 bR (f93 D n [a1,a5,a6] H) fun a7 H=>
 bV (qL a7 0) fun a8=>
 bV (qL a7 1) fun a9=>
 bR (stN 4 d a8 H) fun b0 H=>
 some (.norm [a,c,d,e,K,N,a9],H))) (zLa D n))
def zFj (D:Dyn)(n:Nat)(vs:List AV)(H:AH):Rs:=
 hd vs fun a vs=>hd vs fun b vs=>hd vs fun c vs=>hd vs fun d vs=>hd vs fun e vs=>hd vs fun f vs=>
 bV (ldN 4 c H) fun g=>
 bR (f94 D n [g] H) fun h H=>
 bV (qL h 0) fun i=>
 bV (qL h 1) fun k=>
 bV (qL h 2) fun m=>
 bV (qO .neq m (.int .i64 (.ofNat 0))) fun o=>
 cnd o (bV (jT [(0,1),(1,1),(2,1),(3,1)] [(.bool false), .nilSlice, .nilSlice, .nilSlice] []) fun p=>
 bR (stN 4 d p H) fun r H=>
 bV (ldN 4 d H) fun t=>bV (some m) fun u=>some (.ret (.tuple [t,u]),H))
 (bV (fAd 1 b) fun v=>
 bV (ld1 v H) fun w=>
 bV (j0 1 w none (some e) (some e) H) fun x=>
 bV (fAd 1 b) fun y=>
 bV (ld1 y H) fun z=>
 bV (qO .sub f (.int .i64 (.ofNat 1))) fun B=>
 bV (j0 1 z (some B) none none H) fun C=>
 bA (wK 56 1 3 [.nilSlice] [(0,x),(1,k),(2,C)]) H fun E H=>
 bV (fAd 3 b) fun F=>
 bV (ld1 F H) fun G=>
 bV (j0 3 G none (some e) (some e) H) fun I=>
 bV (fAd 3 b) fun J=>
 bV (ld1 J H) fun K=>
 bV (j0 3 K (some f) none none H) fun M=>
 bR (f81 D n [E] H) fun N H=>chk (ld1 F H) G <| chk (j0 3 G none (some e) (some e) H) I <| chk (ld1 J H) K <| chk (j0 3 K (some f) none none H) M <|
 bR (f96 D n [a,i] H) fun O H=>chk (ld1 F H) G <| chk (j0 3 G none (some e) (some e) H) I <| chk (ld1 J H) K <| chk (j0 3 K (some f) none none H) M <|
 bA (wK 105 1 3 [.nilSlice] [(0,I),(1,O),(2,M)]) H fun P H=>
 bR (f95 D n [P] H) fun Q H=>
 bV (jT [(0,1),(1,1),(2,1),(3,1)] [(.bool false), .nilSlice, .nilSlice, .nilSlice] [(1,N),(3,Q)]) fun R=>
 bR (stN 4 d R H) fun T H=>
 bV (ldN 4 d H) fun U=>bV (some (.int .i64 (.ofNat 0))) fun V=>some (.ret (.tuple [U,V]),H))
def f74 (D:Dyn)(n:Nat)(vs:List AV)(H:AH):Option (AV×AH):=
 yP (hd vs fun a vs=>hd vs fun b vs=>hd vs fun c vs=>hd vs fun d vs=>nl vs <|
 bA (bxV 111 b) H fun e H=>
 bA (bxV 111 d) H fun f H=>
 bA (bxV 111 (.agg [(.bool false), .nilSlice, .nilSlice, .nilSlice])) H fun g H=>
 bV (qO .add c (.int .i64 (.ofNat 1))) fun h=>
 bV (ldN 4 f H) fun i=>
 bR (f92 D n [i] H) fun k H=>
 bV (qO .lss k (.int .i64 (.ofNat 160))) fun m=>
 jn (cnd m (bV (qO .sub c (.int .i64 (.ofNat 1))) fun o=>
 bV (qO .eql c (.int .i64 (.ofNat 0))) fun p=>
 jn (cnd p (some (.norm [a,c,e,f,g,(.int .i64 (.ofNat 1))],H))
 (some (.norm [a,c,e,f,g,o],H))) (zL9 D n))
 (some (.norm [a,e,f,g,c,h],H))) (zFj D n))
def h74:Hint:=(.s .o (.s .o (.s (.s .o (.c [0,5,7,8,10,11] (.s .o (.s (.s .o (.c [0,2,5,7,8,12] .o .o)) (.s .o (.s (.s .o (.cl (.s .o .o) .o)) (.s .o (.s .o (.s (.s .o (.c [0,5,7,8,10,11,14] .o .o)) (.s .o (.cl (.s .o .o) .o))))))))) .o)) (.s .o (.s (.s .o (.cl (.s .o .o) .o)) (.s .o .o))))))
theorem zJq {D:Dyn}(hD:DG D)(n:Nat):FI 74 (f74 D n):=qS (n:=n) (h:=h74) X_ok hD (sc (zBD hD n) (sc (zBH hD n) (sc (zFi hD n) (sc (zJl hD n) (sc (zFb hD n) (sc (zBE hD n) (sc (zF8 hD n) (sc (zFa hD n) (SOk.nil))))))))) Tryz.func74 (by kernel_rfl) (by kernel_rfl)
def s71 (D:Dyn)(n:Nat):Tb:=⟨X,[(72,f72 D n),(73,f73 D n),(62,f62 D n),(74,f74 D n),(75,f75 D n)]⟩
def zFk (D:Dyn)(n:Nat)(vs:List AV)(H:AH):Rs:=
 hd vs fun a vs=>hd vs fun b vs=>hd vs fun c vs=>hd vs fun d vs=>hd vs fun e vs=>
 some (.norm [a,b,c,d,e],H)
def UM (D:Dyn)(n:Nat)(vs:List AV)(H:AH):Rs:=
 hd vs fun a vs=>hd vs fun b vs=>hd vs fun c vs=>hd vs fun d vs=>hd vs fun e vs=>
 bV (qO .neq e (.int .i64 (.ofNat 0))) fun f=>
 cnd f (bV (jT [(0,1),(1,1),(2,1),(3,1)] [(.bool false), .nilSlice, .nilSlice, .nilSlice] []) fun g=>
 bR (stN 4 c g H) fun h H=>
 bV (ldN 4 c H) fun i=>bV (some e) fun k=>some (.ret (.tuple [i,k]),H))
 (bV (ld1 a H) fun m=>
 bV (ldN 3 b H) fun o=>
 bR (f75 D n [m,o] H) fun p H=>
 bV (ldN 4 d H) fun r=>
 bR (stN 4 c r H) fun t H=>
 bV (ldN 4 c H) fun u=>bV (some (.int .i64 (.ofNat 0))) fun v=>some (.ret (.tuple [u,v]),H))
def f71 (D:Dyn)(n:Nat)(vs:List AV)(H:AH):Option (AV×AH):=
 yP (hd vs fun a vs=>hd vs fun b vs=>hd vs fun c vs=>hd vs fun d vs=>hd vs fun e vs=>hd vs fun f vs=>hd vs fun g vs=>nl vs <|
 bA (bxV 65 a) H fun h H=>
 bA (bxV 111 (.agg [(.bool false), .nilSlice, .nilSlice, .nilSlice])) H fun i H=>
 bV (ld1 b H) fun k=>
 bV (qO .add k (.int .i64 (.ofNat 1))) fun m=>
 bR (stN 1 b m H) fun o H=>
 bV (ld1 b H) fun p=>
 bV (ld1 c H) fun r=>
 bR (f72 D n [r] H) fun t H=>chk (ld1 b H) p <|
 bV (qO .gtr p t) fun u=>
 cnd u (bV (jT [(0,1),(1,1),(2,1),(3,1)] [(.bool false), .nilSlice, .nilSlice, .nilSlice] []) fun v=>
 bR (stN 4 i v H) fun w H=>
 bV (ldN 4 i H) fun x=>bV (some (.int .i64 (.ofNat 4))) fun y=>some (.ret (.tuple [x,y]),H))
 (bV (ld1 c H) fun z=>
 bV (ldN 3 h H) fun B=>
 bR (f73 D n [z,B] H) fun C H=>
 bV (qL C 0) fun E=>
 bV (qL C 1) fun F=>
 bA (bxV 111 (.agg [(.bool false), .nilSlice, .nilSlice, .nilSlice])) H fun G H=>
 bR (stN 4 G E H) fun I H=>
 bV (qO .neq F (.int .i64 (.ofNat 0))) fun J=>
 cnd J (bV (jT [(0,1),(1,1),(2,1),(3,1)] [(.bool false), .nilSlice, .nilSlice, .nilSlice] []) fun K=>
 bR (stN 4 i K H) fun M H=>
 bV (ldN 4 i H) fun N=>bV (some F) fun O=>some (.ret (.tuple [N,O]),H))
 (bV (fAd 0 G) fun P=>
 bV (ld1 P H) fun Q=>
 jn (cnd Q (bV (ld1 d H) fun R=>
 bV (ldN 4 G H) fun T=>
 bR (callV (s71 D n).S D R [T] H) fun U H=>
 bV (qL U 0) fun V=>
 bV (qL U 1) fun W=>
 bR (stN 4 G V H) fun Y H=>
 some (.norm [g,h,i,G,W],H))
 (bV (ldN 4 G H) fun Z=>
 bV (ld1 e H) fun a0=>
 bR (f62 D n [Z,a0] H) fun a1 H=>
 bA (bxV 111 (.agg [(.bool false), .nilSlice, .nilSlice, .nilSlice])) H fun a2 H=>
 bV (ld1 f H) fun a3=>
 bV (fAd 3 G) fun a4=>
 bV (ld1 a4 H) fun a5=>
 bV (jB 3 a5 a1) fun a6=>
 bV (ldN 3 a6 H) fun a7=>
 bR (callV (s71 D n).S D a3 [a7] H) fun a8 H=>
 bV (qL a8 0) fun a9=>
 bV (qL a8 1) fun b0=>
 bR (stN 4 a2 a9 H) fun b1 H=>
 bV (qO .eql b0 (.int .i64 (.ofNat 0))) fun b2=>
 jn (cnd b2 (bV (ld1 g H) fun b3=>
 bV (ldN 4 G H) fun b4=>
 bV (ldN 4 a2 H) fun b5=>
 bR (f74 D n [b3,b4,a1,b5] H) fun b6 H=>
 bV (qL b6 0) fun b7=>
 bV (qL b6 1) fun b8=>
 bR (stN 4 G b7 H) fun b9 H=>
 some (.norm [g,h,i,G,b8],H))
 (some (.norm [g,h,i,G,b0],H))) (zFk D n))) (UM D n))))
def h71:Hint:=(.s .o (.s (.s .o (.s .o (.cl (.s .o .o) .o))) (.s .o (.s (.s .o (.cl (.s .o .o) .o)) (.s (.s .o (.c [6,7,8,10,11] .o (.s .o (.s .o (.s .o (.s .o (.c [6,7,8,10,11] .o .o))))))) (.s (.s .o (.cl (.s .o .o) .o)) (.s .o (.s .o .o))))))))
theorem zNi {D:Dyn}(hD:DG D)(n:Nat):FI 71 (f71 D n):=qS (n:=n) (h:=h71) X_ok hD (sc (zJr hD n) (sc (zBH hD n) (sc (Y3 hD n) (sc (zJq hD n) (sc (zFi hD n) (SOk.nil)))))) Tryz.func71 (by kernel_rfl) (by kernel_rfl)
def s52 (D:Dyn)(n:Nat):Tb:=⟨X,[(70,f70 D n),(69,f69 D n),(76,f76 D n)]⟩
def f52 (D:Dyn)(n:Nat)(vs:List AV)(H:AH):Option (AV×AH):=
 yP (hd vs fun a vs=>hd vs fun b vs=>hd vs fun c vs=>nl vs <|
 bA (bxV 25 a) H fun d H=>
 bA (bxV 9 b) H fun e H=>
 bA (bxV 114 c) H fun f H=>
 bV (ld1 d H) fun g=>
 bV (ld1 d H) fun h=>
 bV (vC h) fun i=>
 bV (fAd 6 i) fun k=>
 bV (ld1 k H) fun m=>
 bA (mkM [10]) H fun o H=>
 bV (jT [(0,1),(1,1),(2,1),(3,1)] [.nilPtr,(.int .u64 (.ofNat 0)), .nilMap, .nilSlice] [(0,g),(1,m),(2,o)]) fun p=>
 bA (bxV 136 p) H fun r H=>
 bA (bxV 134 .nilPtr) H fun t H=>
 bR (stN 1 t r H) fun u H=>
 bV (ld1 d H) fun v=>
 bV (vC v) fun w=>
 bV (fAd 2 w) fun x=>
 bV (fAd 0 x) fun y=>
 bV (ld1 y H) fun z=>
 bV (qO .eql z (.int .i64 (.ofNat 0))) fun B=>
 cnd B (bV (ld1 f H) fun C=>
 bV (jT [(0,1),(1,1),(2,1),(3,1)] [(.bool false), .nilSlice, .nilSlice, .nilSlice] [(0,(.bool true))]) fun E=>
 bR (callV (s52 D n).S D C [E] H) fun F H=>
 bV (qL F 0) fun G=>
 bV (qL F 1) fun I=>
 bA (bxV 111 (.agg [(.bool false), .nilSlice, .nilSlice, .nilSlice])) H fun J H=>
 bR (stN 4 J G H) fun K H=>
 bV (qO .neq I (.int .i64 (.ofNat 0))) fun M=>
 cnd M (bV (some I) fun N=>some (.ret N,H))
 (bV (ld1 t H) fun O=>
 bV (ld1 t H) fun P=>
 bV (ldN 4 J H) fun Q=>
 bR (f70 D n [P,Q] H) fun R H=>chk (ld1 t H) O <|
 bR (f69 D n [O,R] H) fun T H=>
 bV (some (.int .i64 (.ofNat 0))) fun U=>some (.ret U,H)))
 (bA (bxV 3 (.int .i64 (.ofNat 0))) H fun V H=>
 bR (stN 1 V (.int .i64 (.ofNat 0)) H) fun W H=>
 bA (bxV 139 .nilFunc) H fun Y H=>
 bR (stN 1 Y (.func 71 [] [V,d,f,e,Y,t]) H) fun Z H=>
 bV (ld1 Y H) fun a0=>
 bV (ld1 d H) fun a1=>
 bV (vC a1) fun a2=>
 bV (fAd 2 a2) fun a3=>
 bV (ldN 3 a3 H) fun a4=>
 bA (bxV 111 (.agg [(.bool false), .nilSlice, .nilSlice, .nilSlice])) H fun a5 H=>
 bR (callV (s52 D n).S D a0 [a4] H) fun a6 H=>
 bV (qL a6 0) fun a7=>
 bV (qL a6 1) fun a8=>
 bR (stN 4 a5 a7 H) fun a9 H=>
 bV (qO .neq a8 (.int .i64 (.ofNat 0))) fun b0=>
 cnd b0 (bV (some a8) fun b1=>some (.ret b1,H))
 (bV (ld1 t H) fun b2=>
 bV (ldN 4 a5 H) fun b3=>
 bR (f76 D n [b2,b3] H) fun b4 H=>
 bV (some b4) fun b5=>some (.ret b5,H))))
def h52:Hint:=(.s .o (.s .o (.s (.s .o (.cl (.s .o (.s (.s .o (.cl (.s .o .o) .o)) (.s .o (.s .o .o)))) .o)) (.s .o (.s .o (.s .o (.s .o (.s (.s .o (.cl (.s .o .o) .o)) (.s .o .o)))))))))
theorem zFr {D:Dyn}(hD:DG D)(n:Nat):FI 52 (f52 D n):=qS (n:=n) (h:=h52) X_ok hD (sc (zBI hD n) (sc (zFn hD n) (sc (zJp hD n) (SOk.nil)))) Tryz.func52 (by kernel_rfl) (by kernel_rfl)
end Go.Eng.Sh
end
end
section
noncomputable section
namespace Go.Eng.Sh
open Go.Proofs
set_option maxRecDepth 100000
def s80 (D:Dyn)(n:Nat):Tb:=⟨X,[]⟩
def f80 (D:Dyn)(n:Nat)(vs:List AV)(H:AH):Option (AV×AH):=
 yP (hd vs fun a vs=>hd vs fun b vs=>hd vs fun c vs=>nl vs <|
 bV (j0 1 a (some b) none none H) fun d=>
 bV (lnSl c) fun e=>
 bV (qO .eql e (.int .i64 (.ofNat 0))) fun f=>
 cnd f (bV (some a) fun g=>some (.ret g,H))
 (bV (lnSl a) fun h=>
 bV (qO .eql b h) fun i=>
 cnd i (bR (apP 9 1 16 a c H) fun k H=>
 bV (some k) fun m=>some (.ret m,H))
 (bV (qO .add h e) fun o=>
 bV (zD7 X 56 a) fun p=>
 bV (qO .gtr o p) fun r=>
 cnd r (bV (j0 1 a none (some b) none H) fun t=>
 bV (qO .add h e) fun u=>
 bV (qO .sub u b) fun v=>
 bR (apZ 9 1 16 [(.str 0 0)] t v H) fun w H=>
 bV (j0 1 w (some b) none none H) fun x=>
 bR (cpy 1 x c H) fun y H=>
 bV (qO .add b e) fun z=>
 bV (j0 1 w (some z) none none H) fun B=>
 bV (j0 1 a (some b) none none H) fun C=>
 bR (cpy 1 B C H) fun E H=>
 bV (some w) fun F=>some (.ret F,H))
 (bV (qO .add h e) fun G=>
 bV (j0 1 a none (some G) none H) fun I=>
 bV (qO .add b e) fun J=>
 bV (j0 1 I (some J) none none H) fun K=>
 bR (D.fn 97 [c,K] H) fun M H=>
 bV (aun .not M) fun N=>
 cnd N (bV (qO .add b e) fun O=>
 bV (j0 1 I (some O) none none H) fun P=>
 bV (j0 1 I (some b) none none H) fun Q=>
 bR (cpy 1 P Q H) fun R H=>
 bV (j0 1 I (some b) none none H) fun T=>
 bR (cpy 1 T c H) fun U H=>
 bV (some I) fun V=>some (.ret V,H))
 (bV (j0 1 I (some h) none none H) fun W=>
 bR (cpy 1 W c H) fun Y H=>
 bV (j0 1 I (some b) none none H) fun Z=>
 bR (D.fn 98 [Z,e] H) fun a0 H=>
 bV (some I) fun a1=>some (.ret a1,H))))))
def h80:Hint:=(.s .o (.s .o (.s .o (.s (.s .o (.cl (.s .o .o) .o)) (.s .o (.s (.s .o (.cl (.s .o .o) .o)) (.s (.s .o (.cl (.s .o (.s .o (.s .o (.s .o .o)))) .o)) (.s .o (.s (.s .o (.cl (.s .o (.s .o (.s .o .o))) .o)) (.s .o (.s .o (.s .o .o))))))))))))
theorem zNh {D:Dyn}(hD:DG D)(n:Nat):FI 80 (f80 D n):=qS (n:=n) (h:=h80) X_ok hD (SOk.nil) Tryz.func80 (by kernel_rfl) (by kernel_rfl)
def m80 (D:Dyn)(n:Nat)(vs:List AV)(H:AH):Option (AV×AH):=zKW (f80 D n) vs H
theorem zJg {D:Dyn}(hD:DG D)(n:Nat):FI 80 (m80 D n):=zKV (by kernel_rfl) (zNh hD n)
def s54 (D:Dyn)(n:Nat):Tb:=⟨X,[(77,f77 D n),(78,f78 D n),(79,f79 D n),(62,f62 D n),(80,m80 D n)]⟩
def f54 (D:Dyn)(n:Nat)(vs:List AV)(H:AH):Option (AV×AH):=
 yP (hd vs fun a vs=>hd vs fun b vs=>hd vs fun c vs=>nl vs <|
 bA (bxV 111 a) H fun d H=>
 bA (bxV 111 (.agg [(.bool false), .nilSlice, .nilSlice, .nilSlice])) H fun e H=>
 bV (ldN 4 d H) fun f=>
 bR (f77 D n [f] H) fun g H=>
 bV (aun .not g) fun h=>
 jn (wnt h false (bV (fAd 0 d) fun i=>
 bV (ld1 i H) fun k=>
 bV (aun .not k) fun m=>
 some (.norm [m],H)) (some (.norm [qN],H))) fun vs H=>hd vs fun o vs=>
 bV (pk3 (some h) (some (.bool true)) (some o)) fun p=>
 jn (wnt p false (bR (f78 D n [b] H) fun r H=>
 bV (aun .not r) fun t=>
 some (.norm [t],H)) (some (.norm [qN],H))) fun vs H=>hd vs fun u vs=>
 bV (pk3 (some p) (some (.bool true)) (some u)) fun v=>
 jn (wnt v false (bV (kN c) fun w=>
 bV (qO .gtr w (.int .i64 (.ofNat 200))) fun x=>
 some (.norm [x],H)) (some (.norm [qN],H))) fun vs H=>hd vs fun y vs=>
 bV (pk3 (some v) (some (.bool true)) (some y)) fun z=>
 cnd z (bV (jT [(0,1),(1,1),(2,1),(3,1)] [(.bool false), .nilSlice, .nilSlice, .nilSlice] []) fun B=>
 bR (stN 4 e B H) fun C H=>
 bV (ldN 4 e H) fun E=>bV (some (.int .i64 (.ofNat 1))) fun F=>some (.ret (.tuple [E,F]),H))
 (bV (fAd 1 d) fun G=>
 bV (ld1 G H) fun I=>
 bV (fAd 2 d) fun J=>
 bV (ld1 J H) fun K=>
 bA (bxV 111 (.agg [(.bool false), .nilSlice, .nilSlice, .nilSlice])) H fun M H=>
 bR (f79 D n [I] H) fun N H=>chk (ld1 J H) K <|
 bR (f79 D n [K] H) fun O H=>
 bV (jT [(0,1),(1,1),(2,1),(3,1)] [(.bool false), .nilSlice, .nilSlice, .nilSlice] [(0,(.bool true)),(1,N),(2,O)]) fun P=>
 bR (stN 4 M P H) fun Q H=>
 bV (ldN 4 d H) fun R=>
 bR (f62 D n [R,b] H) fun T H=>
 bV (fAd 1 d) fun U=>
 bV (ld1 U H) fun V=>
 bV (lnSl V) fun W=>
 bV (qO .lss T W) fun Y=>
 jn (wnt Y true (bV (fAd 1 d) fun Z=>
 bV (ld1 Z H) fun a0=>
 bV (jB 1 a0 T) fun a1=>
 bV (ld1 a1 H) fun a2=>
 bV (jU .eql a2 b) fun a3=>
 some (.norm [a3],H)) (some (.norm [qN],H))) fun vs H=>hd vs fun a4 vs=>
 bV (pk3 (some Y) (some a4) (some (.bool false))) fun a5=>
 cnd a5 (bV (fAd 2 M) fun a6=>
 bV (ld1 a6 H) fun a7=>
 bV (jB 1 a7 T) fun a8=>
 bR (stN 1 a8 c H) fun a9 H=>
 bV (ldN 4 M H) fun b0=>
 bR (stN 4 e b0 H) fun b1 H=>
 bV (ldN 4 e H) fun b2=>bV (some (.int .i64 (.ofNat 0))) fun b3=>some (.ret (.tuple [b2,b3]),H))
 (bV (fAd 1 M) fun b4=>
 bV (ld1 b4 H) fun b5=>
 bA (wK 9 1 1 [(.str 0 0)] [(0,b)]) H fun b6 H=>
 bR (m80 D n [b5,T,b6] H) fun b7 H=>
 bV (fAd 1 M) fun b8=>
 bR (stN 1 b8 b7 H) fun b9 H=>
 bV (fAd 2 M) fun c0=>
 bV (ld1 c0 H) fun c1=>
 bA (wK 9 1 1 [(.str 0 0)] [(0,c)]) H fun c2 H=>
 bR (m80 D n [c1,T,c2] H) fun c3 H=>
 bV (fAd 2 M) fun c4=>
 bR (stN 1 c4 c3 H) fun c5 H=>
 bV (ldN 4 M H) fun c6=>
 bR (stN 4 e c6 H) fun c7 H=>
 bV (ldN 4 e H) fun c8=>bV (some (.int .i64 (.ofNat 0))) fun c9=>some (.ret (.tuple [c8,c9]),H))))
def h54:Hint:=(.s .o (.s (.s .o (.cl (.s .o .o) .o)) (.s .o (.s .o (.s (.s .o (.cl (.s .o (.s .o .o)) .o)) (.s .o (.s .o (.s .o .o))))))))
theorem zJA {D:Dyn}(hD:DG D)(n:Nat):FI 54 (f54 D n):=qS (n:=n) (h:=h54) X_ok hD (sc (UL hD n) (sc (zBG hD n) (sc (zBF hD n) (sc (Y3 hD n) (sc (zJg hD n) (SOk.nil)))))) Tryz.func54 (by kernel_rfl) (by kernel_rfl)
def s53 (D:Dyn)(n:Nat):Tb:=⟨X,[(54,f54 D n)]⟩
def f53 (D:Dyn)(n:Nat)(vs:List AV)(H:AH):Option (AV×AH):=
 yP (hd vs fun a vs=>hd vs fun b vs=>hd vs fun c vs=>nl vs <|
 bA (bxV 111 a) H fun d H=>
 bA (bxV 111 (.agg [(.bool false), .nilSlice, .nilSlice, .nilSlice])) H fun e H=>
 bV (ldN 4 d H) fun f=>
 bV (ld1 b H) fun g=>
 bV (ld1 c H) fun h=>
 bR (f54 D n [f,g,h] H) fun i H=>
 bV (qL i 0) fun k=>
 bV (qL i 1) fun m=>
 bR (stN 4 e k H) fun o H=>
 bV (ldN 4 e H) fun p=>bV (some m) fun r=>some (.ret (.tuple [p,r]),H))
def h53:Hint:=(.s .o (.s .o .o))
theorem zNv {D:Dyn}(hD:DG D)(n:Nat):FI 53 (f53 D n):=qS (n:=n) (h:=h53) X_ok hD (sc (zJA hD n) (SOk.nil)) Tryz.func53 (by kernel_rfl) (by kernel_rfl)
def s30 (D:Dyn)(n:Nat):Tb:=⟨X,[(51,f51 D n),(52,f52 D n)]⟩
def f30 (D:Dyn)(n:Nat)(vs:List AV)(H:AH):Option (AV×AH):=
 yP (hd vs fun a vs=>hd vs fun b vs=>hd vs fun c vs=>nl vs <|
 bA (bxV 9 b) H fun d H=>
 bA (bxV 9 c) H fun e H=>
 bR (f51 D n [a] H) fun f H=>
 cnd f (bV (some (.int .i64 (.ofNat 2))) fun g=>some (.ret g,H))
 (bV (ld1 d H) fun h=>
 bV (kN h) fun i=>
 bV (qO .lss i (.int .i64 (.ofNat 1))) fun k=>
 jn (wnt k false (bV (ld1 d H) fun m=>
 bV (kN m) fun o=>
 bV (qO .gtr o (.int .i64 (.ofNat 40))) fun p=>
 some (.norm [p],H)) (some (.norm [qN],H))) fun vs H=>hd vs fun r vs=>
 bV (pk3 (some k) (some (.bool true)) (some r)) fun t=>
 jn (wnt t false (bV (ld1 e H) fun u=>
 bV (kN u) fun v=>
 bV (qO .gtr v (.int .i64 (.ofNat 200))) fun w=>
 some (.norm [w],H)) (some (.norm [qN],H))) fun vs H=>hd vs fun x vs=>
 bV (pk3 (some t) (some (.bool true)) (some x)) fun y=>
 cnd y (bV (some (.int .i64 (.ofNat 1))) fun z=>some (.ret z,H))
 (bV (ld1 d H) fun B=>
 bR (f52 D n [a,B,(.func 53 [] [d,e])] H) fun C H=>
 bV (some C) fun E=>some (.ret E,H))))
def h30:Hint:=(.s .o (.s (.s .o (.cl (.s .o .o) .o)) (.s (.s .o (.cl (.s .o .o) .o)) (.s .o .o))))
theorem zJK {D:Dyn}(hD:DG D)(n:Nat):FI 30 (f30 D n):=qS (n:=n) (h:=h30) X_ok hD (sc (JX hD n) (sc (zFr hD n) (SOk.nil))) Tryz.func30 (by kernel_rfl) (by kernel_rfl)
def s29 (D:Dyn)(n:Nat):Tb:=⟨X,[]⟩
def f29 (D:Dyn)(n:Nat)(vs:List AV)(H:AH):Option (AV×AH):=
 yP (hd vs fun a vs=>hd vs fun b vs=>hd vs fun c vs=>hd vs fun d vs=>nl vs <|
 bA (bxV 71 a) H fun e H=>
 bV (fAd 0 e) fun f=>
 bV (fAd 2 f) fun g=>
 bV (ld1 g H) fun h=>
 bV (qO .sub h (.int .i64 (.ofNat 1))) fun i=>
 bV (qO .rem i (.int .i64 (.ofNat 256))) fun k=>
 bV (QW 256 1 b k) fun m=>
 bR (stN 1 m (.bool true) H) fun o H=>
 bV (ld1 c H) fun p=>
 jn (wnt p false (bV (fAd 4 e) fun r=>
 bV (ld1 r H) fun t=>
 some (.norm [t],H)) (some (.norm [qN],H))) fun vs H=>hd vs fun u vs=>
 jn (wnt u true (bV (fAd 0 e) fun v=>
 bV (fAd 0 v) fun w=>
 bV (ld1 w H) fun x=>
 bV (ld1 d H) fun y=>
 bV (jU .eql x y) fun z=>
 some (.norm [z],H)) (some (.norm [qN],H))) fun vs H=>hd vs fun B vs=>
 jn (wnt p false (bV (pk3 (some u) (some B) (some (.bool false))) fun C=>
 some (.norm [C],H)) (some (.norm [qN],H))) fun vs H=>hd vs fun E vs=>
 bV (pk3 (some p) (some (.bool true)) (some E)) fun F=>
 bR (stN 1 c F H) fun G H=>
 bV (ld1 c H) fun I=>
 bV (aun .not I) fun J=>
 bV (some J) fun K=>some (.ret K,H))
def h29:Hint:=(.s .o (.s .o (.s .o (.s .o .o))))
theorem zNF {D:Dyn}(hD:DG D)(n:Nat):FI 29 (f29 D n):=qS (n:=n) (h:=h29) X_ok hD (SOk.nil) Tryz.func29 (by kernel_rfl) (by kernel_rfl)
def s8 (D:Dyn)(n:Nat):Tb:=⟨X,[(26,f26 D n),(27,f27 D n),(22,f22 D n),(28,f28 D n),(31,f31 D n),(32,f32 D n),(30,f30 D n)]⟩
def zNc (D:Dyn)(n:Nat)(vs:List AV)(H:AH):Rs:=
 hd vs fun a vs=>hd vs fun b vs=>hd vs fun c vs=>hd vs fun d vs=>hd vs fun e vs=>hd vs fun f vs=>hd vs fun g vs=>
 bV (qO .lss g (.int .i64 (.ofNat 256))) fun h=>
 jn (wnt h true (bV (QW 256 1 e g) fun i=>
 bV (ld1 i H) fun k=>
 some (.norm [k],H)) (some (.norm [qN],H))) fun vs H=>hd vs fun m vs=>
 bV (pk3 (some h) (some m) (some (.bool false))) fun o=>
 cnd o (bV (qO .add g (.int .i64 (.ofNat 1))) fun p=>
 some (.norm [a,b,c,d,e,f,p],H))
 (some (.exit 0 [a,b,c,d,f,g],H))
def f8b1 (D:Dyn)(n:Nat)(vs:List AV)(H:AH):Rs:=
 hd vs fun a vs=>hd vs fun b vs=>hd vs fun c vs=>hd vs fun d vs=>hd vs fun e vs=>hd vs fun f vs=>
 bV (qO .eql f (.int .i64 (.ofNat 256))) fun g=>
 cnd g (bV (some (.int .i64 (.ofNat 0))) fun h=>bV (some (.int .i64 (.ofNat 3))) fun i=>some (.ret (.tuple [h,i]),H))
 (bV (qO .mul e (.int .i64 (.ofNat 256))) fun k=>
 bV (qO .add k f) fun m=>
 bV (qO .add m (.int .i64 (.ofNat 1))) fun o=>
 bV (ld1 d H) fun p=>
 bR (f31 D n [b,o] H) fun r H=>chk (ld1 d H) p <|
 bR (f32 D n [c] H) fun t H=>chk (ld1 d H) p <|
 bV (jU .add t p) fun u=>
 bR (f30 D n [a,r,u] H) fun v H=>
 bV (qO .neq v (.int .i64 (.ofNat 0))) fun w=>
 cnd w (bV (some (.int .i64 (.ofNat 0))) fun x=>bV (some v) fun y=>some (.ret (.tuple [x,y]),H))
 (bV (some o) fun z=>bV (some (.int .i64 (.ofNat 0))) fun B=>some (.ret (.tuple [z,B]),H)))
def f8 (D:Dyn)(n:Nat)(vs:List AV)(H:AH):Option (AV×AH):=
 yP (hd vs fun a vs=>hd vs fun b vs=>hd vs fun c vs=>hd vs fun d vs=>nl vs <|
 bA (bxV 9 c) H fun e H=>
 bV (vI .eql (eqP a .nilPtr)) fun f=>
 cnd f (bV (some (.int .i64 (.ofNat 0))) fun g=>bV (some (.int .i64 (.ofNat 2))) fun h=>some (.ret (.tuple [g,h]),H))
 (bR (f26 D n [b] H) fun i H=>
 bV (aun .not i) fun k=>
 jn (wnt k false (bR (f26 D n [d] H) fun m H=>
 bV (aun .not m) fun o=>
 some (.norm [o],H)) (some (.norm [qN],H))) fun vs H=>hd vs fun p vs=>
 bV (pk3 (some k) (some (.bool true)) (some p)) fun r=>
 cnd r (bV (some (.int .i64 (.ofNat 0))) fun t=>bV (some (.int .i64 (.ofNat 1))) fun u=>some (.ret (.tuple [t,u]),H))
 (bV (ld1 e H) fun v=>
 bR (f27 D n [v] H) fun w H=>
 bV (aun .not w) fun x=>
 cnd x (bV (some (.int .i64 (.ofNat 0))) fun y=>bV (some (.int .i64 (.ofNat 56))) fun z=>some (.ret (.tuple [y,z]),H))
 (bA (bxV 68 (.agg (rep 256 [(.bool false)]))) H fun B H=>
 bA (bxV 4 (.bool false)) H fun C H=>
 bR (stN 1 C (.bool false) H) fun E H=>
 bV (ld1 e H) fun F=>
 bR (f22 D n [F] H) fun G H=>
 bR (f28 D n [a,b,G,(.func 29 [] [B,C,e])] H) fun I H=>
 bV (qO .neq I (.int .i64 (.ofNat 0))) fun J=>
 cnd J (bV (some (.int .i64 (.ofNat 0))) fun K=>bV (some I) fun M=>some (.ret (.tuple [K,M]),H))
 (bV (ld1 C H) fun N=>
 cnd N (bV (some (.int .i64 (.ofNat 0))) fun O=>bV (some (.int .i64 (.ofNat 6))) fun P=>some (.ret (.tuple [O,P]),H))
 (jb 0 (qT n (zNc D n) [a,b,d,e,B,G,(.int .i64 (.ofNat 0))] H) (f8b1 D n)))))))
def h8:Hint:=(.s .o (.s (.s .o (.cl (.s .o .o) .o)) (.s (.s .o (.cl (.s .o .o) .o)) (.s (.s .o (.cl (.s .o .o) .o)) (.s .o (.s .o (.s .o (.s .o (.s (.s .o (.cl (.s .o .o) .o)) (.s (.s .o (.cl (.s .o .o) .o)) (.s .o (.s (.b [0,1,3,6,12,14] (.l [0,1,3,6,10,12,14] (.s (.s .o (.cr .o .o)) (.b0 .o)))) (.s (.s .o (.cl (.s .o .o) .o)) (.s .o (.s (.s .o (.s .o (.cl (.s .o .o) .o))) (.s .o .o))))))))))))))))
theorem zHX {D:Dyn}(hD:DG D)(n:Nat):FI 8 (f8 D n):=qS (n:=n) (h:=h8) X_ok hD (sc (UN hD n) (sc (zBN hD n) (sc (Y4 hD n) (sc (zFB hD n) (sc (zBM hD n) (sc (zBL hD n) (sc (zJK hD n) (SOk.nil)))))))) Tryz.func8 (by kernel_rfl) (by kernel_rfl)
def s55 (D:Dyn)(n:Nat):Tb:=⟨X,[]⟩
def zLg (D:Dyn)(n:Nat)(vs:List AV)(H:AH):Rs:=
 hd vs fun a vs=>
 bV (fAd 4 a) fun b=>
 bV (ld1 b H) fun c=>
 bV (aun .not c) fun d=>
 bV (some d) fun e=>some (.ret e,H)
def f55 (D:Dyn)(n:Nat)(vs:List AV)(H:AH):Option (AV×AH):=
 yP (hd vs fun a vs=>hd vs fun b vs=>hd vs fun c vs=>nl vs <|
 bA (bxV 71 a) H fun d H=>
 bV (fAd 4 d) fun e=>
 bV (ld1 e H) fun f=>
 jn (wnt f true (bV (fAd 0 d) fun g=>
 bV (fAd 0 g) fun h=>
 bV (ld1 h H) fun i=>
 bV (ld1 b H) fun k=>
 bV (jU .eql i k) fun m=>
 some (.norm [m],H)) (some (.norm [qN],H))) fun vs H=>hd vs fun o vs=>
 bV (pk3 (some f) (some o) (some (.bool false))) fun p=>
 jn (cnd p (bV (ldN 5 d H) fun r=>
 bR (stN 5 c r H) fun t H=>
 some (.norm [c],H))
 (some (.norm [c],H))) (zLg D n))
def h55:Hint:=(.s .o (.s (.s .o (.c [2] .o .o)) (.s .o .o)))
theorem zNu {D:Dyn}(hD:DG D)(n:Nat):FI 55 (f55 D n):=qS (n:=n) (h:=h55) X_ok hD (SOk.nil) Tryz.func55 (by kernel_rfl) (by kernel_rfl)
def s37 (D:Dyn)(n:Nat):Tb:=⟨X,[(26,f26 D n),(27,f27 D n),(22,f22 D n),(28,f28 D n)]⟩
def f37 (D:Dyn)(n:Nat)(vs:List AV)(H:AH):Option (AV×AH):=
 yP (hd vs fun a vs=>hd vs fun b vs=>hd vs fun c vs=>nl vs <|
 bA (bxV 9 c) H fun d H=>
 bA (bxV 71 (.agg [(.str 0 0),(.int .i64 (.ofNat 0)),(.int .i64 (.ofNat 0)),(.str 0 0),(.bool false)])) H fun e H=>
 bV (vI .eql (eqP a .nilPtr)) fun f=>
 cnd f (bV (jT [(0,3),(3,1),(4,1)] [(.str 0 0),(.int .i64 (.ofNat 0)),(.int .i64 (.ofNat 0)),(.str 0 0),(.bool false)] []) fun g=>
 bR (stN 5 e g H) fun h H=>
 bV (ldN 5 e H) fun i=>bV (some (.int .i64 (.ofNat 2))) fun k=>some (.ret (.tuple [i,k]),H))
 (bR (f26 D n [b] H) fun m H=>
 bV (aun .not m) fun o=>
 cnd o (bV (jT [(0,3),(3,1),(4,1)] [(.str 0 0),(.int .i64 (.ofNat 0)),(.int .i64 (.ofNat 0)),(.str 0 0),(.bool false)] []) fun p=>
 bR (stN 5 e p H) fun r H=>
 bV (ldN 5 e H) fun t=>bV (some (.int .i64 (.ofNat 1))) fun u=>some (.ret (.tuple [t,u]),H))
 (bV (ld1 d H) fun v=>
 bR (f27 D n [v] H) fun w H=>
 bV (aun .not w) fun x=>
 cnd x (bV (jT [(0,3),(3,1),(4,1)] [(.str 0 0),(.int .i64 (.ofNat 0)),(.int .i64 (.ofNat 0)),(.str 0 0),(.bool false)] []) fun y=>
 bR (stN 5 e y H) fun z H=>
 bV (ldN 5 e H) fun B=>bV (some (.int .i64 (.ofNat 56))) fun C=>some (.ret (.tuple [B,C]),H))
 (bA (bxV 71 (.agg [(.str 0 0),(.int .i64 (.ofNat 0)),(.int .i64 (.ofNat 0)),(.str 0 0),(.bool false)])) H fun E H=>
 bV (ld1 d H) fun F=>
 bR (f22 D n [F] H) fun G H=>
 bR (f28 D n [a,b,G,(.func 55 [] [d,E])] H) fun I H=>
 bV (qO .neq I (.int .i64 (.ofNat 0))) fun J=>
 cnd J (bV (jT [(0,3),(3,1),(4,1)] [(.str 0 0),(.int .i64 (.ofNat 0)),(.int .i64 (.ofNat 0)),(.str 0 0),(.bool false)] []) fun K=>
 bR (stN 5 e K H) fun M H=>
 bV (ldN 5 e H) fun N=>bV (some I) fun O=>some (.ret (.tuple [N,O]),H))
 (bV (fAd 4 E) fun P=>
 bV (ld1 P H) fun Q=>
 bV (aun .not Q) fun R=>
 cnd R (bV (jT [(0,3),(3,1),(4,1)] [(.str 0 0),(.int .i64 (.ofNat 0)),(.int .i64 (.ofNat 0)),(.str 0 0),(.bool false)] []) fun T=>
 bR (stN 5 e T H) fun U H=>
 bV (ldN 5 e H) fun V=>bV (some (.int .i64 (.ofNat 5))) fun W=>some (.ret (.tuple [V,W]),H))
 (bV (ldN 5 E H) fun Y=>
 bR (stN 5 e Y H) fun Z H=>
 bV (ldN 5 e H) fun a0=>bV (some (.int .i64 (.ofNat 0))) fun a1=>some (.ret (.tuple [a0,a1]),H)))))))
def h37:Hint:=(.s .o (.s (.s .o (.cl (.s .o .o) .o)) (.s (.s .o (.cl (.s .o .o) .o)) (.s (.s .o (.cl (.s .o .o) .o)) (.s .o (.s .o (.s (.s .o (.cl (.s .o .o) .o)) (.s (.s .o (.cl (.s .o .o) .o)) (.s .o .o)))))))))
theorem zFx {D:Dyn}(hD:DG D)(n:Nat):FI 37 (f37 D n):=qS (n:=n) (h:=h37) X_ok hD (sc (UN hD n) (sc (zBN hD n) (sc (Y4 hD n) (sc (zFB hD n) (SOk.nil))))) Tryz.func37 (by kernel_rfl) (by kernel_rfl)
def s12 (D:Dyn)(n:Nat):Tb:=⟨X,[(37,f37 D n)]⟩
def f12 (D:Dyn)(n:Nat)(vs:List AV)(H:AH):Option (AV×AH):=
 yP (hd vs fun a vs=>hd vs fun b vs=>hd vs fun c vs=>nl vs <|
 bR (f37 D n [a,b,c] H) fun d H=>
 bV (qL d 0) fun e=>
 bV (qL d 1) fun f=>
 bA (bxV 71 (.agg [(.str 0 0),(.int .i64 (.ofNat 0)),(.int .i64 (.ofNat 0)),(.str 0 0),(.bool false)])) H fun g H=>
 bR (stN 5 g e H) fun h H=>
 bV (fAd 0 g) fun i=>
 bV (fAd 1 i) fun k=>
 bV (ld1 k H) fun m=>
 bV (fAd 0 g) fun o=>
 bV (fAd 2 o) fun p=>
 bV (ld1 p H) fun r=>
 bV (some m) fun t=>bV (some r) fun u=>bV (some f) fun v=>some (.ret (.tuple [t,u,v]),H))
def h12:Hint:=(.s .o (.s .o (.s .o .o)))
theorem zBS {D:Dyn}(hD:DG D)(n:Nat):FI 12 (f12 D n):=qS (n:=n) (h:=h12) X_ok hD (sc (zFx hD n) (SOk.nil)) Tryz.func12 (by kernel_rfl) (by kernel_rfl)
def s39 (D:Dyn)(n:Nat):Tb:=⟨X,[]⟩
def zI8 (D:Dyn)(n:Nat)(vs:List AV)(H:AH):Rs:=
 hd vs fun a vs=>hd vs fun b vs=>
 bV (qO .geq b (.int .i64 (.ofNat 0))) fun c=>
 cnd c (bV (dL a b) fun d=>
 bV (qO .neq d (.int .u8 (.ofNat 255))) fun e=>
 cnd e (bV (Z7 a none (some b)) fun f=>
 bV (dL a b) fun g=>
 bV (qO .add g (.int .u8 (.ofNat 1))) fun h=>
 bA (wK 5 1 1 [(.int .u8 (.ofNat 0))] [(0,h)]) H fun i H=>
 bV (zD6 i H) fun k=>
 bV (jU .add f k) fun m=>
 bV (some m) fun o=>some (.ret o,H))
 (bV (qO .sub b (.int .i64 (.ofNat 1))) fun p=>
 some (.norm [a,p],H)))
 (some (.exit 0 [],H))
def f39b1 (D:Dyn)(n:Nat)(vs:List AV)(H:AH):Rs:=
 bV (some (.str 0 0)) fun a=>some (.ret a,H)
def f39 (D:Dyn)(n:Nat)(vs:List AV)(H:AH):Option (AV×AH):=
 yP (hd vs fun a vs=>nl vs <|
 bV (kN a) fun b=>
 bV (qO .sub b (.int .i64 (.ofNat 1))) fun c=>
 jb 0 (qT n (zI8 D n) [a,c] H) (f39b1 D n))
def h39:Hint:=(.s .o (.s (.s .o (.b [] (.l [0,3] (.s (.s .o (.cr .o .o)) (.s (.b0 (.s .o (.cl (.s .o .o) .o))) .o))))) (.s .o .o)))
theorem zJH {D:Dyn}(hD:DG D)(n:Nat):FI 39 (f39 D n):=qS (n:=n) (h:=h39) X_ok hD (SOk.nil) Tryz.func39 (by kernel_rfl) (by kernel_rfl)
def s14 (D:Dyn)(n:Nat):Tb:=⟨X,[(26,f26 D n),(31,f31 D n),(32,f32 D n),(39,f39 D n),(18,f18 D n),(40,f40 D n)]⟩
def zNM (D:Dyn)(n:Nat)(vs:List AV)(H:AH):Rs:=
 hd vs fun a vs=>hd vs fun b vs=>hd vs fun c vs=>hd vs fun d vs=>hd vs fun e vs=>
 bV (qO .add e (.int .i64 (.ofNat 1))) fun f=>
 some (.norm [a,b,c,d,f],H)
def zFI (D:Dyn)(n:Nat)(vs:List AV)(H:AH):Rs:=
 hd vs fun a vs=>hd vs fun b vs=>hd vs fun c vs=>hd vs fun d vs=>hd vs fun e vs=>
 bV (qO .lss e d) fun f=>
 cnd f (bV (jB 2 c e) fun g=>
 bV (ldN 2 g H) fun h=>
 bA (bxV 85 (.agg [(.str 0 0),(.str 0 0)])) H fun i H=>
 bR (stN 2 i h H) fun k H=>
 bV (ldN 2 i H) fun m=>
 bR (f40 D n [m] H) fun o H=>
 bV (qL o 0) fun p=>
 bV (qL o 1) fun r=>
 bA (bxV 71 (.agg [(.str 0 0),(.int .i64 (.ofNat 0)),(.int .i64 (.ofNat 0)),(.str 0 0),(.bool false)])) H fun t H=>
 bR (stN 5 t p H) fun u H=>
 jn (wnt r true (bV (fAd 4 t) fun v=>
 bV (ld1 v H) fun w=>
 some (.norm [w],H)) (some (.norm [qN],H))) fun vs H=>hd vs fun x vs=>
 bV (pk3 (some r) (some x) (some (.bool false))) fun y=>
 jn (cnd y (bV (fAd 0 t) fun z=>
 bV (ldN 3 z H) fun B=>
 bA (wK 46 3 1 [(.str 0 0),(.int .i64 (.ofNat 0)),(.int .i64 (.ofNat 0))] [(0,B)]) H fun C H=>
 bR (apP 46 3 32 b C H) fun E H=>
 some (.norm [a,E,c,d,e],H))
 (some (.norm [a,b,c,d,e],H))) (zNM D n))
 (some (.exit 0 [a,b],H))
def zNN (D:Dyn)(n:Nat)(vs:List AV)(H:AH):Rs:=
 hd vs fun a vs=>hd vs fun b vs=>
 bV (aun .not a) fun c=>
 bV (some b) fun d=>bV (some c) fun e=>bV (some (.int .i64 (.ofNat 0))) fun f=>some (.ret (.tuple [d,e,f]),H)
def f14 (D:Dyn)(n:Nat)(vs:List AV)(H:AH):Option (AV×AH):=
 yP (hd vs fun a vs=>hd vs fun b vs=>hd vs fun c vs=>hd vs fun d vs=>nl vs <|
 bV (vI .eql (eqP a .nilPtr)) fun e=>
 cnd e (bV (some .nilSlice) fun f=>bV (some (.bool false)) fun g=>bV (some (.int .i64 (.ofNat 2))) fun h=>some (.ret (.tuple [f,g,h]),H))
 (bR (f26 D n [b] H) fun i H=>
 bV (aun .not i) fun k=>
 jn (wnt k false (bV (qO .lss c (.int .i64 (.ofNat 0))) fun m=>
 some (.norm [m],H)) (some (.norm [qN],H))) fun vs H=>hd vs fun o vs=>
 bV (pk3 (some k) (some (.bool true)) (some o)) fun p=>
 jn (wnt p false (bV (qO .lss d (.int .i64 (.ofNat 0))) fun r=>
 some (.norm [r],H)) (some (.norm [qN],H))) fun vs H=>hd vs fun t vs=>
 bV (pk3 (some p) (some (.bool true)) (some t)) fun u=>
 cnd u (bV (some .nilSlice) fun v=>bV (some (.bool false)) fun w=>bV (some (.int .i64 (.ofNat 1))) fun x=>some (.ret (.tuple [v,w,x]),H))
 (bV (mn2 c (.int .i64 (.ofNat 262144))) fun y=>
 bV (qO .add y (.int .i64 (.ofNat 1))) fun z=>
 bR (f31 D n [b,z] H) fun B H=>
 bR (f32 D n [b] H) fun C H=>
 bV (jU .add (.str 1 101) C) fun E=>
 bR (f39 D n [E] H) fun F H=>
 bR (f18 D n [a,B,F,d] H) fun G H=>
 bV (qL G 0) fun I=>
 bV (qL G 1) fun J=>
 bV (qL G 2) fun K=>
 bV (qO .neq K (.int .i64 (.ofNat 0))) fun M=>
 cnd M (bV (some .nilSlice) fun N=>bV (some (.bool false)) fun O=>bV (some K) fun P=>some (.ret (.tuple [N,O,P]),H))
 (bV (lnSl I) fun Q=>
 jb 0 (qT n (zFI D n) [J, .nilSlice,I,Q,(.int .i64 (.ofNat 0))] H) (zNN D n)))))
def h14:Hint:=(.s .o (.s (.s .o (.cl (.s .o .o) .o)) (.s (.s .o (.cl (.s .o .o) .o)) (.s .o (.s .o (.s (.s .o (.cl (.s .o .o) .o)) (.s .o (.s (.s .o (.b [13,15] (.l [13,15,53,54,55] (.s .o (.s (.cr .o .o) (.s (.b0 (.s .o (.s .o (.s .o (.c [13,15,53,54,55] .o .o))))) .o)))))) (.s .o .o)))))))))
theorem UP {D:Dyn}(hD:DG D)(n:Nat):FI 14 (f14 D n):=qS (n:=n) (h:=h14) X_ok hD (sc (UN hD n) (sc (zBM hD n) (sc (zBL hD n) (sc (zJH hD n) (sc (UO hD n) (sc (zFv hD n) (SOk.nil))))))) Tryz.func14 (by kernel_rfl) (by kernel_rfl)
def s17 (D:Dyn)(n:Nat):Tb:=⟨X,[(14,f14 D n)]⟩
def f17 (D:Dyn)(n:Nat)(vs:List AV)(H:AH):Option (AV×AH):=
 yP (hd vs fun a vs=>hd vs fun b vs=>nl vs <|
 bR (f14 D n [a,b,(.int .i64 (.ofNat 0)),(.int .i64 (.ofNat 1))] H) fun c H=>
 bV (qL c 0) fun d=>
 bV (qL c 1) fun e=>
 bV (qL c 2) fun f=>
 bV (qO .eql f (.int .i64 (.ofNat 0))) fun g=>
 jn (wnt g true (some (.norm [e],H)) (some (.norm [qN],H))) fun vs H=>hd vs fun h vs=>
 bV (pk3 (some g) (some h) (some (.bool false))) fun i=>
 jn (wnt i true (bV (lnSl d) fun k=>
 bV (qO .eql k (.int .i64 (.ofNat 0))) fun m=>
 some (.norm [m],H)) (some (.norm [qN],H))) fun vs H=>hd vs fun o vs=>
 bV (pk3 (some i) (some o) (some (.bool false))) fun p=>
 bV (some p) fun r=>bV (some f) fun t=>some (.ret (.tuple [r,t]),H))
def h17:Hint:=(.s .o (.s .o (.s .o .o)))
theorem zBQ {D:Dyn}(hD:DG D)(n:Nat):FI 17 (f17 D n):=qS (n:=n) (h:=h17) X_ok hD (sc (UP hD n) (SOk.nil)) Tryz.func17 (by kernel_rfl) (by kernel_rfl)
def s57 (D:Dyn)(n:Nat):Tb:=⟨X,[(77,f77 D n),(62,f62 D n),(81,f81 D n)]⟩
def f57 (D:Dyn)(n:Nat)(vs:List AV)(H:AH):Option (AV×AH):=
 yP (hd vs fun a vs=>hd vs fun b vs=>nl vs <|
 bA (bxV 111 a) H fun c H=>
 bA (bxV 111 (.agg [(.bool false), .nilSlice, .nilSlice, .nilSlice])) H fun d H=>
 bV (ldN 4 c H) fun e=>
 bR (f77 D n [e] H) fun f H=>
 bV (aun .not f) fun g=>
 jn (wnt g false (bV (fAd 0 c) fun h=>
 bV (ld1 h H) fun i=>
 bV (aun .not i) fun k=>
 some (.norm [k],H)) (some (.norm [qN],H))) fun vs H=>hd vs fun m vs=>
 bV (pk3 (some g) (some (.bool true)) (some m)) fun o=>
 cnd o (bV (jT [(0,1),(1,1),(2,1),(3,1)] [(.bool false), .nilSlice, .nilSlice, .nilSlice] []) fun p=>
 bR (stN 4 d p H) fun r H=>
 bV (ldN 4 d H) fun t=>bV (some (.int .i64 (.ofNat 1))) fun u=>some (.ret (.tuple [t,u]),H))
 (bV (ldN 4 c H) fun v=>
 bR (f62 D n [v,b] H) fun w H=>
 bV (fAd 1 c) fun x=>
 bV (ld1 x H) fun y=>
 bV (lnSl y) fun z=>
 bV (qO .geq w z) fun B=>
 jn (wnt B false (bV (fAd 1 c) fun C=>
 bV (ld1 C H) fun E=>
 bV (jB 1 E w) fun F=>
 bV (ld1 F H) fun G=>
 bV (jU .neq G b) fun I=>
 some (.norm [I],H)) (some (.norm [qN],H))) fun vs H=>hd vs fun J vs=>
 bV (pk3 (some B) (some (.bool true)) (some J)) fun K=>
 cnd K (bV (jT [(0,1),(1,1),(2,1),(3,1)] [(.bool false), .nilSlice, .nilSlice, .nilSlice] []) fun M=>
 bR (stN 4 d M H) fun N H=>
 bV (ldN 4 d H) fun O=>bV (some (.int .i64 (.ofNat 5))) fun P=>some (.ret (.tuple [O,P]),H))
 (bV (fAd 1 c) fun Q=>
 bV (ld1 Q H) fun R=>
 bV (j0 1 R none (some w) (some w) H) fun T=>
 bV (fAd 1 c) fun U=>
 bV (ld1 U H) fun V=>
 bV (qO .add w (.int .i64 (.ofNat 1))) fun W=>
 bV (j0 1 V (some W) none none H) fun Y=>
 bA (wK 56 1 2 [.nilSlice] [(0,T),(1,Y)]) H fun Z H=>
 bV (fAd 2 c) fun a0=>
 bV (ld1 a0 H) fun a1=>
 bV (j0 1 a1 none (some w) (some w) H) fun a2=>
 bV (fAd 2 c) fun a3=>
 bV (ld1 a3 H) fun a4=>
 bV (qO .add w (.int .i64 (.ofNat 1))) fun a5=>
 bV (j0 1 a4 (some a5) none none H) fun a6=>
 bA (wK 56 1 2 [.nilSlice] [(0,a2),(1,a6)]) H fun a7 H=>
 bR (f81 D n [Z] H) fun a8 H=>chk (ld1 a0 H) a1 <| chk (j0 1 a1 none (some w) (some w) H) a2 <| chk (ld1 a3 H) a4 <| chk (j0 1 a4 (some a5) none none H) a6 <|
 bR (f81 D n [a7] H) fun a9 H=>
 bV (jT [(0,1),(1,1),(2,1),(3,1)] [(.bool false), .nilSlice, .nilSlice, .nilSlice] [(0,(.bool true)),(1,a8),(2,a9)]) fun b0=>
 bR (stN 4 d b0 H) fun b1 H=>
 bV (ldN 4 d H) fun b2=>bV (some (.int .i64 (.ofNat 0))) fun b3=>some (.ret (.tuple [b2,b3]),H))))
def h57:Hint:=(.s .o (.s (.s .o (.cl (.s .o .o) .o)) (.s .o (.s (.s .o (.cl (.s .o .o) .o)) (.s .o .o)))))
theorem zJz {D:Dyn}(hD:DG D)(n:Nat):FI 57 (f57 D n):=qS (n:=n) (h:=h57) X_ok hD (sc (UL hD n) (sc (Y3 hD n) (sc (zBE hD n) (SOk.nil)))) Tryz.func57 (by kernel_rfl) (by kernel_rfl)
def s56 (D:Dyn)(n:Nat):Tb:=⟨X,[(57,f57 D n)]⟩
def f56 (D:Dyn)(n:Nat)(vs:List AV)(H:AH):Option (AV×AH):=
 yP (hd vs fun a vs=>hd vs fun b vs=>nl vs <|
 bA (bxV 111 a) H fun c H=>
 bA (bxV 111 (.agg [(.bool false), .nilSlice, .nilSlice, .nilSlice])) H fun d H=>
 bV (ldN 4 c H) fun e=>
 bV (ld1 b H) fun f=>
 bR (f57 D n [e,f] H) fun g H=>
 bV (qL g 0) fun h=>
 bV (qL g 1) fun i=>
 bR (stN 4 d h H) fun k H=>
 bV (ldN 4 d H) fun m=>bV (some i) fun o=>some (.ret (.tuple [m,o]),H))
def h56:Hint:=(.s .o (.s .o .o))
theorem zNt {D:Dyn}(hD:DG D)(n:Nat):FI 56 (f56 D n):=qS (n:=n) (h:=h56) X_ok hD (sc (zJz hD n) (SOk.nil)) Tryz.func56 (by kernel_rfl) (by kernel_rfl)
def s38 (D:Dyn)(n:Nat):Tb:=⟨X,[(51,f51 D n),(52,f52 D n)]⟩
def f38 (D:Dyn)(n:Nat)(vs:List AV)(H:AH):Option (AV×AH):=
 yP (hd vs fun a vs=>hd vs fun b vs=>nl vs <|
 bA (bxV 9 b) H fun c H=>
 bR (f51 D n [a] H) fun d H=>
 cnd d (bV (some (.int .i64 (.ofNat 2))) fun e=>some (.ret e,H))
 (bV (ld1 c H) fun f=>
 bV (kN f) fun g=>
 bV (qO .lss g (.int .i64 (.ofNat 1))) fun h=>
 jn (wnt h false (bV (ld1 c H) fun i=>
 bV (kN i) fun k=>
 bV (qO .gtr k (.int .i64 (.ofNat 40))) fun m=>
 some (.norm [m],H)) (some (.norm [qN],H))) fun vs H=>hd vs fun o vs=>
 bV (pk3 (some h) (some (.bool true)) (some o)) fun p=>
 cnd p (bV (some (.int .i64 (.ofNat 1))) fun r=>some (.ret r,H))
 (bV (ld1 c H) fun t=>
 bR (f52 D n [a,t,(.func 56 [] [c])] H) fun u H=>
 bV (some u) fun v=>some (.ret v,H))))
def h38:Hint:=(.s .o (.s (.s .o (.cl (.s .o .o) .o)) (.s (.s .o (.cl (.s .o .o) .o)) (.s .o .o))))
theorem zJI {D:Dyn}(hD:DG D)(n:Nat):FI 38 (f38 D n):=qS (n:=n) (h:=h38) X_ok hD (sc (JX hD n) (sc (zFr hD n) (SOk.nil))) Tryz.func38 (by kernel_rfl) (by kernel_rfl)
def s10 (D:Dyn)(n:Nat):Tb:=⟨X,[(37,f37 D n),(38,f38 D n)]⟩
def f10 (D:Dyn)(n:Nat)(vs:List AV)(H:AH):Option (AV×AH):=
 yP (hd vs fun a vs=>hd vs fun b vs=>hd vs fun c vs=>nl vs <|
 bR (f37 D n [a,b,c] H) fun d H=>
 bV (qL d 0) fun e=>
 bV (qL d 1) fun f=>
 bA (bxV 71 (.agg [(.str 0 0),(.int .i64 (.ofNat 0)),(.int .i64 (.ofNat 0)),(.str 0 0),(.bool false)])) H fun g H=>
 bR (stN 5 g e H) fun h H=>
 bV (qO .neq f (.int .i64 (.ofNat 0))) fun i=>
 cnd i (bV (some (.int .i64 (.ofNat 0))) fun k=>bV (some f) fun m=>some (.ret (.tuple [k,m]),H))
 (bV (fAd 3 g) fun o=>
 bV (ld1 o H) fun p=>
 bR (f38 D n [a,p] H) fun r H=>
 bV (qO .neq r (.int .i64 (.ofNat 0))) fun t=>
 cnd t (bV (some (.int .i64 (.ofNat 0))) fun u=>bV (some r) fun v=>some (.ret (.tuple [u,v]),H))
 (bV (fAd 0 g) fun w=>
 bV (fAd 1 w) fun x=>
 bV (ld1 x H) fun y=>
 bV (some y) fun z=>bV (some (.int .i64 (.ofNat 0))) fun B=>some (.ret (.tuple [z,B]),H))))
def h10:Hint:=(.s .o (.s .o (.s (.s .o (.cl (.s .o .o) .o)) (.s (.s .o (.s .o (.cl (.s .o .o) .o))) (.s .o .o)))))
theorem zBT {D:Dyn}(hD:DG D)(n:Nat):FI 10 (f10 D n):=qS (n:=n) (h:=h10) X_ok hD (sc (zFx hD n) (sc (zJI hD n) (SOk.nil))) Tryz.func10 (by kernel_rfl) (by kernel_rfl)
def s6 (D:Dyn)(n:Nat):Tb:=⟨X,[(7,f7 D n),(8,f8 D n),(12,f12 D n),(14,f14 D n),(17,f17 D n),(10,f10 D n),(22,f22 D n)]⟩
def f6 (D:Dyn)(n:Nat)(vs:List AV)(H:AH):Option (AV×AH):=
 yP (nl vs <|
 bR (f7 D n [] H) fun a H=>
 bV (vI .eql (eqP a .nilPtr)) fun b=>
 cnd b (bV (some (.bool false)) fun c=>some (.ret c,H))
 (bR (f8 D n [a,(.int .i64 (.ofNat 1)),(.str 1 97),(.int .i64 (.ofNat 7))] H) fun d H=>
 bV (qL d 0) fun e=>
 bV (qL d 1) fun f=>
 bR (f8 D n [a,(.int .i64 (.ofNat 1)),(.str 1 97),(.int .i64 (.ofNat 8))] H) fun g H=>
 bV (qL g 0) fun h=>
 bV (qL g 1) fun i=>
 bR (f12 D n [a,(.int .i64 (.ofNat 1)),(.str 1 98)] H) fun k H=>
 bV (qL k 0) fun m=>
 bV (qL k 1) fun o=>
 bV (qL k 2) fun p=>
 bR (f12 D n [a,(.int .i64 (.ofNat 1)),(.str 2 11822)] H) fun r H=>
 bV (qL r 0) fun t=>
 bV (qL r 1) fun u=>
 bV (qL r 2) fun v=>
 bR (f12 D n [a,(.int .i64 (.ofNat 1)),(.str 1 97)] H) fun w H=>
 bV (qL w 0) fun x=>
 bV (qL w 1) fun y=>
 bV (qL w 2) fun z=>
 bR (f14 D n [a,(.int .i64 (.ofNat 1)),(.int .i64 (.ofNat 0)),(.int .i64 (.ofNat 9))] H) fun B H=>
 bV (qL B 0) fun C=>
 bV (qL B 1) fun E=>
 bV (qL B 2) fun F=>
 bR (f17 D n [a,(.int .i64 (.ofNat 2))] H) fun G H=>
 bV (qL G 0) fun I=>
 bV (qL G 1) fun J=>
 bR (f10 D n [a,(.int .i64 (.ofNat 1)),(.str 1 97)] H) fun K H=>
 bV (qL K 0) fun M=>
 bV (qL K 1) fun N=>
 bR (f22 D n [(.str 1 97)] H) fun O H=>
 bV (qO .mul (.int .i64 (.ofNat 256)) O) fun P=>
 bV (qO .add P (.int .i64 (.ofNat 1))) fun Q=>
 bV (qO .eql e Q) fun R=>
 jn (wnt R true (bV (qO .eql f (.int .i64 (.ofNat 0))) fun T=>
 some (.norm [T],H)) (some (.norm [qN],H))) fun vs H=>hd vs fun U vs=>
 bV (pk3 (some R) (some U) (some (.bool false))) fun V=>
 jn (wnt V true (bV (qO .eql i (.int .i64 (.ofNat 6))) fun W=>
 some (.norm [W],H)) (some (.norm [qN],H))) fun vs H=>hd vs fun Y vs=>
 bV (pk3 (some V) (some Y) (some (.bool false))) fun Z=>
 jn (wnt Z true (bV (qO .eql p (.int .i64 (.ofNat 5))) fun a0=>
 some (.norm [a0],H)) (some (.norm [qN],H))) fun vs H=>hd vs fun a1 vs=>
 bV (pk3 (some Z) (some a1) (some (.bool false))) fun a2=>
 jn (wnt a2 true (bV (qO .eql v (.int .i64 (.ofNat 56))) fun a3=>
 some (.norm [a3],H)) (some (.norm [qN],H))) fun vs H=>hd vs fun a4 vs=>
 bV (pk3 (some a2) (some a4) (some (.bool false))) fun a5=>
 jn (wnt a5 true (bV (qO .eql x (.int .i64 (.ofNat 7))) fun a6=>
 some (.norm [a6],H)) (some (.norm [qN],H))) fun vs H=>hd vs fun a7 vs=>
 bV (pk3 (some a5) (some a7) (some (.bool false))) fun a8=>
 jn (wnt a8 true (bV (qO .eql y e) fun a9=>
 some (.norm [a9],H)) (some (.norm [qN],H))) fun vs H=>hd vs fun b0 vs=>
 bV (pk3 (some a8) (some b0) (some (.bool false))) fun b1=>
 jn (wnt b1 true (bV (qO .eql z (.int .i64 (.ofNat 0))) fun b2=>
 some (.norm [b2],H)) (some (.norm [qN],H))) fun vs H=>hd vs fun b3 vs=>
 bV (pk3 (some b1) (some b3) (some (.bool false))) fun b4=>
 jn (wnt b4 true (bV (lnSl C) fun b5=>
 bV (qO .eql b5 (.int .i64 (.ofNat 1))) fun b6=>
 some (.norm [b6],H)) (some (.norm [qN],H))) fun vs H=>hd vs fun b7 vs=>
 bV (pk3 (some b4) (some b7) (some (.bool false))) fun b8=>
 jn (wnt b8 true (bV (jB 3 C (.int .i64 (.ofNat 0))) fun b9=>
 bV (ldN 3 b9 H) fun c0=>
 bV (jT [(0,1),(1,1),(2,1)] [(.str 0 0),(.int .i64 (.ofNat 0)),(.int .i64 (.ofNat 0))] [(0,(.str 1 97)),(1,(.int .i64 (.ofNat 7))),(2,e)]) fun c1=>
 bV (vI .eql (eqA [2,6,6] c0 c1)) fun c2=>
 some (.norm [c2],H)) (some (.norm [qN],H))) fun vs H=>hd vs fun c3 vs=>
 bV (pk3 (some b8) (some c3) (some (.bool false))) fun c4=>
 jn (wnt c4 true (some (.norm [E],H)) (some (.norm [qN],H))) fun vs H=>hd vs fun c5 vs=>
 bV (pk3 (some c4) (some c5) (some (.bool false))) fun c6=>
 jn (wnt c6 true (bV (qO .eql F (.int .i64 (.ofNat 0))) fun c7=>
 some (.norm [c7],H)) (some (.norm [qN],H))) fun vs H=>hd vs fun c8 vs=>
 bV (pk3 (some c6) (some c8) (some (.bool false))) fun c9=>
 jn (wnt c9 true (some (.norm [I],H)) (some (.norm [qN],H))) fun vs H=>hd vs fun d0 vs=>
 bV (pk3 (some c9) (some d0) (some (.bool false))) fun d1=>
 jn (wnt d1 true (bV (qO .eql J (.int .i64 (.ofNat 0))) fun d2=>
 some (.norm [d2],H)) (some (.norm [qN],H))) fun vs H=>hd vs fun d3 vs=>
 bV (pk3 (some d1) (some d3) (some (.bool false))) fun d4=>
 jn (wnt d4 true (bV (qO .eql M (.int .i64 (.ofNat 7))) fun d5=>
 some (.norm [d5],H)) (some (.norm [qN],H))) fun vs H=>hd vs fun d6 vs=>
 bV (pk3 (some d4) (some d6) (some (.bool false))) fun d7=>
 jn (wnt d7 true (bV (qO .eql N (.int .i64 (.ofNat 0))) fun d8=>
 some (.norm [d8],H)) (some (.norm [qN],H))) fun vs H=>hd vs fun d9 vs=>
 bV (pk3 (some d7) (some d9) (some (.bool false))) fun e0=>
 bV (some e0) fun e1=>some (.ret e1,H)))
def h6:Hint:=(.s .o (.s .o (.s (.s .o (.cl (.s .o .o) .o)) (.s .o (.s .o (.s .o (.s .o (.s .o (.s .o (.s .o (.s .o (.s .o .o))))))))))))
theorem zI2 {D:Dyn}(hD:DG D)(n:Nat):FI 6 (f6 D n):=qS (n:=n) (h:=h6) X_ok hD (sc (zI1 hD n) (sc (zHX hD n) (sc (zBS hD n) (sc (UP hD n) (sc (zBQ hD n) (sc (zBT hD n) (sc (Y4 hD n) (SOk.nil)))))))) Tryz.func6 (by kernel_rfl) (by kernel_rfl)
def s5 (D:Dyn)(n:Nat):Tb:=⟨X,[]⟩
def zLe (D:Dyn)(n:Nat)(vs:List AV)(H:AH):Rs:=
 hd vs fun a vs=>hd vs fun b vs=>
 bV (lnSl a) fun c=>
 bV (qO .lss b c) fun d=>
 cnd d (bV (jB 5 a b) fun e=>
 bV (fAd 4 e) fun f=>
 bV (ld1 f H) fun g=>
 bV (kN g) fun h=>
 bV (qO .gtr h (.int .i64 (.ofNat 1000))) fun i=>
 cnd i (bV (some (.bool true)) fun k=>some (.ret k,H))
 (bV (qO .add b (.int .i64 (.ofNat 1))) fun m=>
 some (.norm [a,m],H)))
 (some (.exit 0 [],H))
def f5b1 (D:Dyn)(n:Nat)(vs:List AV)(H:AH):Rs:=
 bV (some (.bool false)) fun a=>some (.ret a,H)
def f5 (D:Dyn)(n:Nat)(vs:List AV)(H:AH):Option (AV×AH):=
 yP (hd vs fun a vs=>nl vs <|
 bV (lnSl a) fun b=>
 bV (qO .gtr b (.int .i64 (.ofNat 100))) fun c=>
 cnd c (bV (some (.bool true)) fun d=>some (.ret d,H))
 (jb 0 (qT n (zLe D n) [a,(.int .i64 (.ofNat 0))] H) (f5b1 D n)))
def h5:Hint:=(.s .o (.s (.s .o (.cl (.s .o .o) .o)) (.s (.s .o (.b [] (.l [0,3] (.s (.s .o (.cr .o .o)) (.s (.b0 (.s .o (.cl (.s .o .o) .o))) .o))))) (.s .o .o))))
theorem zLf {D:Dyn}(hD:DG D)(n:Nat):FI 5 (f5 D n):=qS (n:=n) (h:=h5) X_ok hD (SOk.nil) Tryz.func5 (by kernel_rfl) (by kernel_rfl)
def s33 (D:Dyn)(n:Nat):Tb:=⟨X,[]⟩
def f33 (D:Dyn)(n:Nat)(vs:List AV)(H:AH):Option (AV×AH):=
 yP (hd vs fun a vs=>nl vs <|
 bV (qO .geq a (.int .i64 (.ofNat 1))) fun b=>
 jn (wnt b true (bV (qO .leq a (.int .i64 (.ofNat 2147483647))) fun c=>
 some (.norm [c],H)) (some (.norm [qN],H))) fun vs H=>hd vs fun d vs=>
 bV (pk3 (some b) (some d) (some (.bool false))) fun e=>
 bV (some e) fun f=>some (.ret f,H))
def h33:Hint:=(.s .o (.s .o .o))
theorem zBK {D:Dyn}(hD:DG D)(n:Nat):FI 33 (f33 D n):=qS (n:=n) (h:=h33) X_ok hD (SOk.nil) Tryz.func33 (by kernel_rfl) (by kernel_rfl)
def s34 (D:Dyn)(n:Nat):Tb:=⟨X,[]⟩
def zCP (D:Dyn)(n:Nat)(vs:List AV)(H:AH):Rs:=
 hd vs fun a vs=>hd vs fun b vs=>
 bV (kN a) fun c=>
 bV (qO .lss b c) fun d=>
 cnd d (bV (dL a b) fun e=>
 bV (qO .eql e (.int .u8 (.ofNat 0))) fun f=>
 jn (wnt f false (bV (dL a b) fun g=>
 bV (qO .eql g (.int .u8 (.ofNat 47))) fun h=>
 some (.norm [h],H)) (some (.norm [qN],H))) fun vs H=>hd vs fun i vs=>
 bV (pk3 (some f) (some (.bool true)) (some i)) fun k=>
 cnd k (bV (some (.bool false)) fun m=>some (.ret m,H))
 (bV (qO .add b (.int .i64 (.ofNat 1))) fun o=>
 some (.norm [a,o],H)))
 (some (.exit 0 [],H))
def zND (D:Dyn)(n:Nat)(vs:List AV)(H:AH):Rs:=
 bV (some (.bool true)) fun a=>some (.ret a,H)
def f34 (D:Dyn)(n:Nat)(vs:List AV)(H:AH):Option (AV×AH):=
 yP (hd vs fun a vs=>nl vs <|
 bV (kN a) fun b=>
 bV (qO .lss b (.int .i64 (.ofNat 1))) fun c=>
 jn (wnt c false (bV (kN a) fun d=>
 bV (qO .gtr d (.int .i64 (.ofNat 32))) fun e=>
 some (.norm [e],H)) (some (.norm [qN],H))) fun vs H=>hd vs fun f vs=>
 bV (pk3 (some c) (some (.bool true)) (some f)) fun g=>
 jn (wnt g false (bV (jU .eql a (.str 1 46)) fun h=>
 some (.norm [h],H)) (some (.norm [qN],H))) fun vs H=>hd vs fun i vs=>
 bV (pk3 (some g) (some (.bool true)) (some i)) fun k=>
 jn (wnt k false (bV (jU .eql a (.str 2 11822)) fun m=>
 some (.norm [m],H)) (some (.norm [qN],H))) fun vs H=>hd vs fun o vs=>
 bV (pk3 (some k) (some (.bool true)) (some o)) fun p=>
 jn (wnt p false (bV (jU .eql a (.str 9 2147850105812604056366)) fun r=>
 some (.norm [r],H)) (some (.norm [qN],H))) fun vs H=>hd vs fun t vs=>
 bV (pk3 (some p) (some (.bool true)) (some t)) fun u=>
 cnd u (bV (some (.bool false)) fun v=>some (.ret v,H))
 (jb 0 (qT n (zCP D n) [a,(.int .i64 (.ofNat 0))] H) (zND D n)))
def h34:Hint:=(.s .o (.s (.s .o (.cl (.s .o .o) .o)) (.s (.s .o (.b [] (.l [0,3] (.s (.s .o (.cr .o .o)) (.s (.b0 (.s .o (.cl (.s .o .o) .o))) .o))))) (.s .o .o))))
theorem zFz {D:Dyn}(hD:DG D)(n:Nat):FI 34 (f34 D n):=qS (n:=n) (h:=h34) X_ok hD (SOk.nil) Tryz.func34 (by kernel_rfl) (by kernel_rfl)
def s35 (D:Dyn)(n:Nat):Tb:=⟨X,[]⟩
def zCO (D:Dyn)(n:Nat)(vs:List AV)(H:AH):Rs:=
 hd vs fun a vs=>hd vs fun b vs=>hd vs fun c vs=>hd vs fun d vs=>
 bV (lnSl a) fun e=>
 bV (qO .lss d e) fun f=>
 cnd f (bV (jB 4 a d) fun g=>
 bV (fAd 0 g) fun h=>
 bV (ld1 h H) fun i=>
 bV (qO .eql i b) fun k=>
 jn (wnt k true (bV (jB 4 a d) fun m=>
 bV (fAd 3 m) fun o=>
 bV (ld1 o H) fun p=>
 bV (jU .eql p c) fun r=>
 some (.norm [r],H)) (some (.norm [qN],H))) fun vs H=>hd vs fun t vs=>
 bV (pk3 (some k) (some t) (some (.bool false))) fun u=>
 cnd u (bV (some d) fun v=>some (.ret v,H))
 (bV (qO .add d (.int .i64 (.ofNat 1))) fun w=>
 some (.norm [a,b,c,w],H)))
 (some (.exit 0 [],H))
def zNC (D:Dyn)(n:Nat)(vs:List AV)(H:AH):Rs:=
 bV (some (.int .i64 (.negSucc 0))) fun a=>some (.ret a,H)
def f35 (D:Dyn)(n:Nat)(vs:List AV)(H:AH):Option (AV×AH):=
 yP (hd vs fun a vs=>hd vs fun b vs=>hd vs fun c vs=>nl vs <|
 jb 0 (qT n (zCO D n) [a,b,c,(.int .i64 (.ofNat 0))] H) (zNC D n))
def h35:Hint:=(.s .o (.s (.s .o (.b [] (.l [0,1,2,7] (.s (.s .o (.cr .o .o)) (.s (.b0 (.s .o (.cl (.s .o .o) .o))) .o))))) (.s .o .o)))
theorem zBJ {D:Dyn}(hD:DG D)(n:Nat):FI 35 (f35 D n):=qS (n:=n) (h:=h35) X_ok hD (SOk.nil) Tryz.func35 (by kernel_rfl) (by kernel_rfl)
def s85 (D:Dyn)(n:Nat):Tb:=⟨X,[]⟩
def f85 (D:Dyn)(n:Nat)(vs:List AV)(H:AH):Option (AV×AH):=
 yP (hd vs fun a vs=>hd vs fun b vs=>nl vs <|
 bV (cvI .u64 b) fun c=>
 bV (qO .xor a c) fun d=>
 bV (qO .mul d (.int .u64 (.ofNat 1099511628211))) fun e=>
 bV (some e) fun f=>some (.ret f,H))
def h85:Hint:=(.s .o (.s .o .o))
theorem zJm {D:Dyn}(hD:DG D)(n:Nat):FI 85 (f85 D n):=qS (n:=n) (h:=h85) X_ok hD (SOk.nil) Tryz.func85 (by kernel_rfl) (by kernel_rfl)
def s65 (D:Dyn)(n:Nat):Tb:=⟨X,[(85,f85 D n)]⟩
def zI4 (D:Dyn)(n:Nat)(vs:List AV)(H:AH):Rs:=
 hd vs fun a vs=>hd vs fun b vs=>hd vs fun c vs=>
 bV (kN b) fun d=>
 bV (qO .lss c d) fun e=>
 cnd e (bV (dL b c) fun f=>
 bR (f85 D n [a,f] H) fun g H=>
 bV (qO .add c (.int .i64 (.ofNat 1))) fun h=>
 some (.norm [g,b,h],H))
 (some (.exit 0 [a],H))
def zNn (D:Dyn)(n:Nat)(vs:List AV)(H:AH):Rs:=
 hd vs fun a vs=>
 bV (some a) fun b=>some (.ret b,H)
def f65 (D:Dyn)(n:Nat)(vs:List AV)(H:AH):Option (AV×AH):=
 yP (hd vs fun a vs=>hd vs fun b vs=>nl vs <|
 jb 0 (qT n (zI4 D n) [a,b,(.int .i64 (.ofNat 0))] H) (zNn D n))
def h65:Hint:=(.s .o (.s (.s .o (.b [0] (.l [0,1,5] (.s (.s .o (.cr .o .o)) (.s (.b0 .o) .o))))) (.s .o .o)))
theorem zJu {D:Dyn}(hD:DG D)(n:Nat):FI 65 (f65 D n):=qS (n:=n) (h:=h65) X_ok hD (sc (zJm hD n) (SOk.nil)) Tryz.func65 (by kernel_rfl) (by kernel_rfl)
def s47 (D:Dyn)(n:Nat):Tb:=⟨X,[(65,f65 D n)]⟩
def f47 (D:Dyn)(n:Nat)(vs:List AV)(H:AH):Option (AV×AH):=
 yP (hd vs fun a vs=>nl vs <|
 bR (f65 D n [(.int .u64 (.ofNat 14695981039346656037)),a] H) fun b H=>
 bV (some b) fun c=>some (.ret c,H))
def h47:Hint:=(.s .o (.s .o .o))
theorem zJD {D:Dyn}(hD:DG D)(n:Nat):FI 47 (f47 D n):=qS (n:=n) (h:=h47) X_ok hD (sc (zJu hD n) (SOk.nil)) Tryz.func47 (by kernel_rfl) (by kernel_rfl)
def s23 (D:Dyn)(n:Nat):Tb:=⟨X,[(47,f47 D n)]⟩
def f23 (D:Dyn)(n:Nat)(vs:List AV)(H:AH):Option (AV×AH):=
 yP (hd vs fun a vs=>nl vs <|
 bR (f47 D n [a] H) fun b H=>
 bV (qO .rem b (.int .u64 (.ofNat 1024))) fun c=>
 bV (cvI .i64 c) fun d=>
 bV (some d) fun e=>some (.ret e,H))
def h23:Hint:=(.s .o (.s .o .o))
theorem zBO {D:Dyn}(hD:DG D)(n:Nat):FI 23 (f23 D n):=qS (n:=n) (h:=h23) X_ok hD (sc (zJD hD n) (SOk.nil)) Tryz.func23 (by kernel_rfl) (by kernel_rfl)
def s36 (D:Dyn)(n:Nat):Tb:=⟨X,[]⟩
def zAp (D:Dyn)(n:Nat)(vs:List AV)(H:AH):Rs:=
 hd vs fun a vs=>hd vs fun b vs=>hd vs fun c vs=>hd vs fun d vs=>hd vs fun e vs=>hd vs fun f vs=>hd vs fun g vs=>
 bV (lnSl a) fun h=>
 bV (qO .lss g h) fun i=>
 cnd i (jn (wnt f false (bV (jB 4 a g) fun k=>
 bV (fAd 0 k) fun m=>
 bV (ld1 m H) fun o=>
 bV (qO .eql o b) fun p=>
 some (.norm [p],H)) (some (.norm [qN],H))) fun vs H=>hd vs fun r vs=>
 jn (wnt r true (bV (jB 4 a g) fun t=>
 bV (fAd 1 t) fun u=>
 bV (ld1 u H) fun v=>
 bV (qO .eql v e) fun w=>
 some (.norm [w],H)) (some (.norm [qN],H))) fun vs H=>hd vs fun x vs=>
 jn (wnt f false (bV (pk3 (some r) (some x) (some (.bool false))) fun y=>
 some (.norm [y],H)) (some (.norm [qN],H))) fun vs H=>hd vs fun z vs=>
 bV (pk3 (some f) (some (.bool true)) (some z)) fun B=>
 bV (qO .add g (.int .i64 (.ofNat 1))) fun C=>
 some (.norm [a,b,c,d,e,B,C],H))
 (some (.exit 2 [a,b,c,d,e,f],H))
def zLi (D:Dyn)(n:Nat)(vs:List AV)(H:AH):Rs:=
 hd vs fun a vs=>hd vs fun b vs=>hd vs fun c vs=>hd vs fun d vs=>hd vs fun e vs=>hd vs fun f vs=>
 bV (aun .not f) fun g=>
 cnd g (bV (some e) fun h=>some (.ret h,H))
 (bV (qO .add d (.int .i64 (.ofNat 1))) fun i=>
 some (.norm [a,b,c,i],H))
def zFy (D:Dyn)(n:Nat)(vs:List AV)(H:AH):Rs:=
 hd vs fun a vs=>hd vs fun b vs=>hd vs fun c vs=>hd vs fun d vs=>
 bV (qO .lss d (.int .i64 (.ofNat 256))) fun e=>
 cnd e (bV (qO .mul (.int .i64 (.ofNat 256)) c) fun f=>
 bV (qO .add f d) fun g=>
 bV (qO .add g (.int .i64 (.ofNat 1))) fun h=>
 jb 2 (qT n (zAp D n) [a,b,c,d,h,(.bool false),(.int .i64 (.ofNat 0))] H) (zLi D n))
 (some (.exit 0 [],H))
def zNB (D:Dyn)(n:Nat)(vs:List AV)(H:AH):Rs:=
 bV (some (.int .i64 (.ofNat 0))) fun a=>some (.ret a,H)
def f36 (D:Dyn)(n:Nat)(vs:List AV)(H:AH):Option (AV×AH):=
 yP (hd vs fun a vs=>hd vs fun b vs=>hd vs fun c vs=>nl vs <|
 jb 0 (qT n (zFy D n) [a,b,c,(.int .i64 (.ofNat 0))] H) (zNB D n))
def h36:Hint:=(.s .o (.s (.s .o (.b [] (.l [0,1,2,7] (.s (.s .o (.cr .o .o)) (.s (.b0 (.s .o (.s .o (.s (.s .o (.b [0,1,2,7,8,9] (.l [0,1,2,7,8,9,10] (.s (.s .o (.cr .o .o)) (.s (.b0 .o) .o))))) (.s .o (.cl (.s .o .o) .o)))))) .o))))) (.s .o .o)))
theorem zJJ {D:Dyn}(hD:DG D)(n:Nat):FI 36 (f36 D n):=qS (n:=n) (h:=h36) X_ok hD (SOk.nil) Tryz.func36 (by kernel_rfl) (by kernel_rfl)
def s9 (D:Dyn)(n:Nat):Tb:=⟨X,[(33,f33 D n),(34,f34 D n),(35,f35 D n),(23,f23 D n),(36,f36 D n)]⟩
def f9 (D:Dyn)(n:Nat)(vs:List AV)(H:AH):Option (AV×AH):=
 yP (hd vs fun a vs=>hd vs fun b vs=>hd vs fun c vs=>hd vs fun d vs=>nl vs <|
 bR (f33 D n [b] H) fun e H=>
 bV (aun .not e) fun f=>
 jn (wnt f false (bR (f33 D n [d] H) fun g H=>
 bV (aun .not g) fun h=>
 some (.norm [h],H)) (some (.norm [qN],H))) fun vs H=>hd vs fun i vs=>
 bV (pk3 (some f) (some (.bool true)) (some i)) fun k=>
 cnd k (bV (some a) fun m=>bV (some (.int .i64 (.ofNat 0))) fun o=>bV (some (.int .i64 (.ofNat 1))) fun p=>some (.ret (.tuple [m,o,p]),H))
 (bR (f34 D n [c] H) fun r H=>
 bV (aun .not r) fun t=>
 cnd t (bV (some a) fun u=>bV (some (.int .i64 (.ofNat 0))) fun v=>bV (some (.int .i64 (.ofNat 56))) fun w=>some (.ret (.tuple [u,v,w]),H))
 (bR (f35 D n [a,b,c] H) fun x H=>
 bV (qO .geq x (.int .i64 (.ofNat 0))) fun y=>
 cnd y (bV (some a) fun z=>bV (some (.int .i64 (.ofNat 0))) fun B=>bV (some (.int .i64 (.ofNat 6))) fun C=>some (.ret (.tuple [z,B,C]),H))
 (bR (f23 D n [c] H) fun E H=>
 bR (f36 D n [a,b,E] H) fun F H=>
 bV (qO .eql F (.int .i64 (.ofNat 0))) fun G=>
 cnd G (bV (some a) fun I=>bV (some (.int .i64 (.ofNat 0))) fun J=>bV (some (.int .i64 (.ofNat 3))) fun K=>some (.ret (.tuple [I,J,K]),H))
 (bA (wK 79 4 0 [(.int .i64 (.ofNat 0)),(.int .i64 (.ofNat 0)),(.int .i64 (.ofNat 0)),(.str 0 0)] []) H fun M H=>
 bR (apP 79 4 40 M a H) fun N H=>
 bV (jT [(0,1),(1,1),(2,1),(3,1)] [(.int .i64 (.ofNat 0)),(.int .i64 (.ofNat 0)),(.int .i64 (.ofNat 0)),(.str 0 0)] [(0,b),(1,F),(2,d),(3,c)]) fun O=>
 bA (wK 79 4 1 [(.int .i64 (.ofNat 0)),(.int .i64 (.ofNat 0)),(.int .i64 (.ofNat 0)),(.str 0 0)] [(0,O)]) H fun P H=>
 bR (apP 79 4 40 N P H) fun Q H=>
 bV (some Q) fun R=>bV (some F) fun T=>bV (some (.int .i64 (.ofNat 0))) fun U=>some (.ret (.tuple [R,T,U]),H))))))
def h9:Hint:=(.s .o (.s (.s .o (.cl (.s .o .o) .o)) (.s (.s .o (.cl (.s .o .o) .o)) (.s (.s .o (.cl (.s .o .o) .o)) (.s .o (.s (.s .o (.cl (.s .o .o) .o)) (.s .o .o)))))))
theorem zL2 {D:Dyn}(hD:DG D)(n:Nat):FI 9 (f9 D n):=qS (n:=n) (h:=h9) X_ok hD (sc (zBK hD n) (sc (zFz hD n) (sc (zBJ hD n) (sc (zBO hD n) (sc (zJJ hD n) (SOk.nil)))))) Tryz.func9 (by kernel_rfl) (by kernel_rfl)
def s13 (D:Dyn)(n:Nat):Tb:=⟨X,[(33,f33 D n),(34,f34 D n),(35,f35 D n)]⟩
def f13 (D:Dyn)(n:Nat)(vs:List AV)(H:AH):Option (AV×AH):=
 yP (hd vs fun a vs=>hd vs fun b vs=>hd vs fun c vs=>nl vs <|
 bR (f33 D n [b] H) fun d H=>
 bV (aun .not d) fun e=>
 cnd e (bV (some (.int .i64 (.ofNat 0))) fun f=>bV (some (.int .i64 (.ofNat 0))) fun g=>bV (some (.int .i64 (.ofNat 1))) fun h=>some (.ret (.tuple [f,g,h]),H))
 (bR (f34 D n [c] H) fun i H=>
 bV (aun .not i) fun k=>
 cnd k (bV (some (.int .i64 (.ofNat 0))) fun m=>bV (some (.int .i64 (.ofNat 0))) fun o=>bV (some (.int .i64 (.ofNat 56))) fun p=>some (.ret (.tuple [m,o,p]),H))
 (bR (f35 D n [a,b,c] H) fun r H=>
 bV (qO .lss r (.int .i64 (.ofNat 0))) fun t=>
 cnd t (bV (some (.int .i64 (.ofNat 0))) fun u=>bV (some (.int .i64 (.ofNat 0))) fun v=>bV (some (.int .i64 (.ofNat 5))) fun w=>some (.ret (.tuple [u,v,w]),H))
 (bV (jB 4 a r) fun x=>
 bV (fAd 2 x) fun y=>
 bV (ld1 y H) fun z=>
 bV (jB 4 a r) fun B=>
 bV (fAd 1 B) fun C=>
 bV (ld1 C H) fun E=>
 bV (some z) fun F=>bV (some E) fun G=>bV (some (.int .i64 (.ofNat 0))) fun I=>some (.ret (.tuple [F,G,I]),H)))))
def h13:Hint:=(.s .o (.s (.s .o (.cl (.s .o .o) .o)) (.s (.s .o (.cl (.s .o .o) .o)) (.s .o (.s (.s .o (.cl (.s .o .o) .o)) (.s .o .o))))))
theorem zBR {D:Dyn}(hD:DG D)(n:Nat):FI 13 (f13 D n):=qS (n:=n) (h:=h13) X_ok hD (sc (zBK hD n) (sc (zFz hD n) (sc (zBJ hD n) (SOk.nil)))) Tryz.func13 (by kernel_rfl) (by kernel_rfl)
end Go.Eng.Sh
end
end
section
noncomputable section
namespace Go.Eng.Sh
open Go.Proofs
set_option maxRecDepth 100000
def s11 (D:Dyn)(n:Nat):Tb:=⟨X,[(13,f13 D n),(35,f35 D n)]⟩
def f11 (D:Dyn)(n:Nat)(vs:List AV)(H:AH):Option (AV×AH):=
 yP (hd vs fun a vs=>hd vs fun b vs=>hd vs fun c vs=>nl vs <|
 bR (f13 D n [a,b,c] H) fun d H=>
 bV (qL d 0) fun e=>
 bV (qL d 1) fun f=>
 bV (qL d 2) fun g=>
 bV (qO .neq g (.int .i64 (.ofNat 0))) fun h=>
 cnd h (bV (some a) fun i=>bV (some (.int .i64 (.ofNat 0))) fun k=>bV (some g) fun m=>some (.ret (.tuple [i,k,m]),H))
 (bR (f35 D n [a,b,c] H) fun o H=>
 bV (qO .lss o (.int .i64 (.ofNat 0))) fun p=>
 cnd p (bV (some a) fun r=>bV (some (.int .i64 (.ofNat 0))) fun t=>bV (some (.int .i64 (.ofNat 5))) fun u=>some (.ret (.tuple [r,t,u]),H))
 (bA (wK 79 4 0 [(.int .i64 (.ofNat 0)),(.int .i64 (.ofNat 0)),(.int .i64 (.ofNat 0)),(.str 0 0)] []) H fun v H=>
 bV (j0 4 a none (some o) none H) fun w=>
 bV (qO .add o (.int .i64 (.ofNat 1))) fun x=>
 bV (j0 4 a (some x) none none H) fun y=>
 bR (apP 79 4 40 v w H) fun z H=>chk (j0 4 a (some x) none none H) y <|
 bR (apP 79 4 40 z y H) fun B H=>
 bV (some B) fun C=>bV (some e) fun E=>bV (some (.int .i64 (.ofNat 0))) fun F=>some (.ret (.tuple [C,E,F]),H))))
def h11:Hint:=(.s .o (.s .o (.s (.s .o (.cl (.s .o .o) .o)) (.s .o (.s (.s .o (.cl (.s .o .o) .o)) (.s .o .o))))))
theorem zFL {D:Dyn}(hD:DG D)(n:Nat):FI 11 (f11 D n):=qS (n:=n) (h:=h11) X_ok hD (sc (zBR hD n) (sc (zBJ hD n) (SOk.nil))) Tryz.func11 (by kernel_rfl) (by kernel_rfl)
def s19 (D:Dyn)(n:Nat):Tb:=⟨X,[]⟩
def zFF (D:Dyn)(n:Nat)(vs:List AV)(H:AH):Rs:=
 hd vs fun a vs=>hd vs fun b vs=>hd vs fun c vs=>hd vs fun d vs=>hd vs fun e vs=>hd vs fun f vs=>
 bV (qO .gtr f (.int .i64 (.ofNat 0))) fun g=>
 jn (wnt g true (bV (qO .sub f (.int .i64 (.ofNat 1))) fun h=>
 bV (jB 3 d h) fun i=>
 bV (fAd 2 i) fun k=>
 bV (ld1 k H) fun m=>
 bV (jB 4 a e) fun o=>
 bV (fAd 1 o) fun p=>
 bV (ld1 p H) fun r=>
 bV (qO .gtr m r) fun t=>
 some (.norm [t],H)) (some (.norm [qN],H))) fun vs H=>hd vs fun u vs=>
 bV (pk3 (some g) (some u) (some (.bool false))) fun v=>
 cnd v (bV (qO .sub f (.int .i64 (.ofNat 1))) fun w=>
 some (.norm [a,b,c,d,e,w],H))
 (some (.exit 2 [a,b,c,d,e,f],H))
def zNJ (D:Dyn)(n:Nat)(vs:List AV)(H:AH):Rs:=
 hd vs fun a vs=>hd vs fun b vs=>hd vs fun c vs=>hd vs fun d vs=>hd vs fun e vs=>hd vs fun f vs=>
 bA (wK 46 3 0 [(.str 0 0),(.int .i64 (.ofNat 0)),(.int .i64 (.ofNat 0))] []) H fun g H=>
 bV (j0 3 d none (some f) none H) fun h=>
 bR (apP 46 3 32 g h H) fun i H=>
 bV (jB 4 a e) fun k=>
 bV (fAd 3 k) fun m=>
 bV (ld1 m H) fun o=>
 bV (jB 4 a e) fun p=>
 bV (fAd 2 p) fun r=>
 bV (ld1 r H) fun t=>
 bV (jB 4 a e) fun u=>
 bV (fAd 1 u) fun v=>
 bV (ld1 v H) fun w=>
 bV (jT [(0,1),(1,1),(2,1)] [(.str 0 0),(.int .i64 (.ofNat 0)),(.int .i64 (.ofNat 0))] [(0,o),(1,t),(2,w)]) fun x=>
 bA (wK 46 3 1 [(.str 0 0),(.int .i64 (.ofNat 0)),(.int .i64 (.ofNat 0))] [(0,x)]) H fun y H=>
 bR (apP 46 3 32 i y H) fun z H=>
 bV (j0 3 d (some f) none none H) fun B=>
 bR (apP 46 3 32 z B H) fun C H=>
 some (.norm [a,b,c,C,e],H)
def zIb (D:Dyn)(n:Nat)(vs:List AV)(H:AH):Rs:=
 hd vs fun a vs=>hd vs fun b vs=>hd vs fun c vs=>hd vs fun d vs=>hd vs fun e vs=>
 bV (qO .add e (.int .i64 (.ofNat 1))) fun f=>
 some (.norm [a,b,c,d,f],H)
def zAu (D:Dyn)(n:Nat)(vs:List AV)(H:AH):Rs:=
 hd vs fun a vs=>hd vs fun b vs=>hd vs fun c vs=>hd vs fun d vs=>hd vs fun e vs=>
 bV (lnSl a) fun f=>
 bV (qO .lss e f) fun g=>
 cnd g (jb 1 (bV (jB 4 a e) fun h=>
 bV (fAd 0 h) fun i=>
 bV (ld1 i H) fun k=>
 bV (qO .neq k b) fun m=>
 jn (wnt m false (bV (jB 4 a e) fun o=>
 bV (fAd 1 o) fun p=>
 bV (ld1 p H) fun r=>
 bV (qO .leq r c) fun t=>
 some (.norm [t],H)) (some (.norm [qN],H))) fun vs H=>hd vs fun u vs=>
 bV (pk3 (some m) (some (.bool true)) (some u)) fun v=>
 cnd v (some (.exit 1 [a,b,c,d,e],H))
 (bV (lnSl d) fun w=>
 jb 2 (qT n (zFF D n) [a,b,c,d,e,w] H) (zNJ D n))) (zIb D n))
 (some (.exit 0 [d],H))
def zNI (D:Dyn)(n:Nat)(vs:List AV)(H:AH):Rs:=
 hd vs fun a vs=>
 bV (some a) fun b=>some (.ret b,H)
def f19 (D:Dyn)(n:Nat)(vs:List AV)(H:AH):Option (AV×AH):=
 yP (hd vs fun a vs=>hd vs fun b vs=>hd vs fun c vs=>nl vs <|
 jb 0 (qT n (zAu D n) [a,b,c, .nilSlice,(.int .i64 (.ofNat 0))] H) (zNI D n))
def h19:Hint:=(.s .o (.s .o (.s (.s .o (.b [7] (.l [0,1,2,7,8] (.s (.s .o (.cr .o .o)) (.s (.b [0,1,2,7,8] (.s (.s .o (.cl .o .o)) (.s .o (.s (.b [0,1,2,7,8,9] (.l [0,1,2,7,8,9] (.s (.s .o (.cr .o .o)) (.b0 .o)))) (.s .o (.s .o .o)))))) .o))))) (.s .o .o))))
theorem zBP {D:Dyn}(hD:DG D)(n:Nat):FI 19 (f19 D n):=qS (n:=n) (h:=h19) X_ok hD (SOk.nil) Tryz.func19 (by kernel_rfl) (by kernel_rfl)
def s15 (D:Dyn)(n:Nat):Tb:=⟨X,[(33,f33 D n),(19,f19 D n)]⟩
def f15 (D:Dyn)(n:Nat)(vs:List AV)(H:AH):Option (AV×AH):=
 yP (hd vs fun a vs=>hd vs fun b vs=>hd vs fun c vs=>hd vs fun d vs=>nl vs <|
 bR (f33 D n [b] H) fun e H=>
 bV (aun .not e) fun f=>
 jn (wnt f false (bV (qO .lss c (.int .i64 (.ofNat 0))) fun g=>
 some (.norm [g],H)) (some (.norm [qN],H))) fun vs H=>hd vs fun h vs=>
 bV (pk3 (some f) (some (.bool true)) (some h)) fun i=>
 jn (wnt i false (bV (qO .lss d (.int .i64 (.ofNat 0))) fun k=>
 some (.norm [k],H)) (some (.norm [qN],H))) fun vs H=>hd vs fun m vs=>
 bV (pk3 (some i) (some (.bool true)) (some m)) fun o=>
 cnd o (bV (some .nilSlice) fun p=>bV (some (.bool false)) fun r=>bV (some (.int .i64 (.ofNat 1))) fun t=>some (.ret (.tuple [p,r,t]),H))
 (bR (f19 D n [a,b,c] H) fun u H=>
 bV (lnSl u) fun v=>
 bV (qO .gtr v d) fun w=>
 cnd w (bV (j0 3 u none (some d) none H) fun x=>
 bV (some x) fun y=>bV (some (.bool false)) fun z=>bV (some (.int .i64 (.ofNat 0))) fun B=>some (.ret (.tuple [y,z,B]),H))
 (bV (some u) fun C=>bV (some (.bool true)) fun E=>bV (some (.int .i64 (.ofNat 0))) fun F=>some (.ret (.tuple [C,E,F]),H))))
def h15:Hint:=(.s .o (.s (.s .o (.cl (.s .o .o) .o)) (.s .o (.s (.s .o (.cl (.s .o .o) .o)) (.s .o .o)))))
theorem zFH {D:Dyn}(hD:DG D)(n:Nat):FI 15 (f15 D n):=qS (n:=n) (h:=h15) X_ok hD (sc (zBK hD n) (sc (zBP hD n) (SOk.nil))) Tryz.func15 (by kernel_rfl) (by kernel_rfl)
def s16 (D:Dyn)(n:Nat):Tb:=⟨X,[]⟩
def zIc (D:Dyn)(n:Nat)(vs:List AV)(H:AH):Rs:=
 hd vs fun a vs=>hd vs fun b vs=>hd vs fun c vs=>
 bV (lnSl a) fun d=>
 bV (qO .lss c d) fun e=>
 cnd e (bV (jB 3 a c) fun f=>
 bV (ldN 3 f H) fun g=>
 bV (jB 3 b c) fun h=>
 bV (ldN 3 h H) fun i=>
 bV (vI .neq (eqA [2,6,6] g i)) fun k=>
 cnd k (bV (some (.bool false)) fun m=>some (.ret m,H))
 (bV (qO .add c (.int .i64 (.ofNat 1))) fun o=>
 some (.norm [a,b,o],H)))
 (some (.exit 0 [],H))
def zNL (D:Dyn)(n:Nat)(vs:List AV)(H:AH):Rs:=
 bV (some (.bool true)) fun a=>some (.ret a,H)
def f16 (D:Dyn)(n:Nat)(vs:List AV)(H:AH):Option (AV×AH):=
 yP (hd vs fun a vs=>hd vs fun b vs=>nl vs <|
 bV (lnSl a) fun c=>
 bV (lnSl b) fun d=>
 bV (qO .neq c d) fun e=>
 cnd e (bV (some (.bool false)) fun f=>some (.ret f,H))
 (jb 0 (qT n (zIc D n) [a,b,(.int .i64 (.ofNat 0))] H) (zNL D n)))
def h16:Hint:=(.s .o (.s (.s .o (.cl (.s .o .o) .o)) (.s (.s .o (.b [] (.l [0,1,5] (.s (.s .o (.cr .o .o)) (.s (.b0 (.s .o (.cl (.s .o .o) .o))) .o))))) (.s .o .o))))
theorem zFG {D:Dyn}(hD:DG D)(n:Nat):FI 16 (f16 D n):=qS (n:=n) (h:=h16) X_ok hD (SOk.nil) Tryz.func16 (by kernel_rfl) (by kernel_rfl)
def s45 (D:Dyn)(n:Nat):Tb:=⟨X,[]⟩
def f45 (D:Dyn)(n:Nat)(vs:List AV)(H:AH):Option (AV×AH):=
 yP (hd vs fun a vs=>nl vs <|
 bV (qO .shr a (.int .u64 (.ofNat 24))) fun b=>
 bV (cvI .u8 b) fun c=>
 bV (qO .shr a (.int .u64 (.ofNat 16))) fun d=>
 bV (cvI .u8 d) fun e=>
 bV (qO .shr a (.int .u64 (.ofNat 8))) fun f=>
 bV (cvI .u8 f) fun g=>
 bV (cvI .u8 a) fun h=>
 bA (wK 5 1 4 [(.int .u8 (.ofNat 0))] [(0,c),(1,e),(2,g),(3,h)]) H fun i H=>
 bV (zD6 i H) fun k=>
 bV (some k) fun m=>some (.ret m,H))
def h45:Hint:=(.s .o (.s .o .o))
theorem zJF {D:Dyn}(hD:DG D)(n:Nat):FI 45 (f45 D n):=qS (n:=n) (h:=h45) X_ok hD (SOk.nil) Tryz.func45 (by kernel_rfl) (by kernel_rfl)
def s63 (D:Dyn)(n:Nat):Tb:=⟨X,[]⟩
def zLb (D:Dyn)(n:Nat)(vs:List AV)(H:AH):Rs:=
 hd vs fun a vs=>hd vs fun b vs=>hd vs fun c vs=>hd vs fun d vs=>
 bV (qO .add d (.int .i64 (.ofNat 1))) fun e=>
 some (.norm [a,b,c,e],H)
def zCM (D:Dyn)(n:Nat)(vs:List AV)(H:AH):Rs:=
 hd vs fun a vs=>hd vs fun b vs=>hd vs fun c vs=>hd vs fun d vs=>
 bV (lnSl a) fun e=>
 bV (qO .lss d e) fun f=>
 cnd f (bV (jB 2 a d) fun g=>
 bV (fAd 0 g) fun h=>
 bV (ld1 h H) fun i=>
 bV (jU .neq i b) fun k=>
 jn (cnd k (bV (jB 2 a d) fun m=>
 bV (ldN 2 m H) fun o=>
 bA (wK 85 2 1 [(.str 0 0),(.str 0 0)] [(0,o)]) H fun p H=>
 bR (apP 85 2 32 c p H) fun r H=>
 some (.norm [a,b,r,d],H))
 (some (.norm [a,b,c,d],H))) (zLb D n))
 (some (.exit 0 [c],H))
def zNp (D:Dyn)(n:Nat)(vs:List AV)(H:AH):Rs:=
 hd vs fun a vs=>
 bV (some a) fun b=>some (.ret b,H)
def f63 (D:Dyn)(n:Nat)(vs:List AV)(H:AH):Option (AV×AH):=
 yP (hd vs fun a vs=>hd vs fun b vs=>nl vs <|
 jb 0 (qT n (zCM D n) [a,b, .nilSlice,(.int .i64 (.ofNat 0))] H) (zNp D n))
def h63:Hint:=(.s .o (.s .o (.s (.s .o (.b [5] (.l [0,1,5,6] (.s (.s .o (.cr .o .o)) (.s (.b0 (.s .o (.c [0,1,5,6] .o .o))) .o))))) (.s .o .o))))
theorem zJw {D:Dyn}(hD:DG D)(n:Nat):FI 63 (f63 D n):=qS (n:=n) (h:=h63) X_ok hD (SOk.nil) Tryz.func63 (by kernel_rfl) (by kernel_rfl)
def s44 (D:Dyn)(n:Nat):Tb:=⟨X,[(63,f63 D n)]⟩
def zFs (D:Dyn)(n:Nat)(vs:List AV)(H:AH):Rs:=
 hd vs fun a vs=>hd vs fun b vs=>hd vs fun c vs=>hd vs fun d vs=>
 bV (lnSl a) fun e=>
 bV (qO .lss d e) fun f=>
 jn (wnt f true (bV (jB 2 a d) fun g=>
 bV (fAd 0 g) fun h=>
 bV (ld1 h H) fun i=>
 bV (jU .lss i b) fun k=>
 some (.norm [k],H)) (some (.norm [qN],H))) fun vs H=>hd vs fun m vs=>
 bV (pk3 (some f) (some m) (some (.bool false))) fun o=>
 cnd o (bV (qO .add d (.int .i64 (.ofNat 1))) fun p=>
 some (.norm [a,b,c,p],H))
 (some (.exit 0 [a,b,c,d],H))
def zNx (D:Dyn)(n:Nat)(vs:List AV)(H:AH):Rs:=
 hd vs fun a vs=>hd vs fun b vs=>hd vs fun c vs=>hd vs fun d vs=>
 bA (wK 85 2 0 [(.str 0 0),(.str 0 0)] []) H fun e H=>
 bV (j0 2 a none (some d) none H) fun f=>
 bR (apP 85 2 32 e f H) fun g H=>
 bV (jT [(0,1),(1,1)] [(.str 0 0),(.str 0 0)] [(0,b),(1,c)]) fun h=>
 bA (wK 85 2 1 [(.str 0 0),(.str 0 0)] [(0,h)]) H fun i H=>
 bR (apP 85 2 32 g i H) fun k H=>
 bV (j0 2 a (some d) none none H) fun m=>
 bR (apP 85 2 32 k m H) fun o H=>
 bV (some o) fun p=>some (.ret p,H)
def f44 (D:Dyn)(n:Nat)(vs:List AV)(H:AH):Option (AV×AH):=
 yP (hd vs fun a vs=>hd vs fun b vs=>hd vs fun c vs=>nl vs <|
 bR (f63 D n [a,b] H) fun d H=>
 jb 0 (qT n (zFs D n) [d,b,c,(.int .i64 (.ofNat 0))] H) (zNx D n))
def h44:Hint:=(.s .o (.s .o (.s .o (.s (.b [0,1,2,7] (.l [0,1,2,7] (.s (.s .o (.cr .o .o)) (.b0 .o)))) (.s .o (.s .o (.s .o .o)))))))
theorem zJG {D:Dyn}(hD:DG D)(n:Nat):FI 44 (f44 D n):=qS (n:=n) (h:=h44) X_ok hD (sc (zJw hD n) (SOk.nil)) Tryz.func44 (by kernel_rfl) (by kernel_rfl)
def s21 (D:Dyn)(n:Nat):Tb:=⟨X,[(45,f45 D n),(44,f44 D n)]⟩
def zFC (D:Dyn)(n:Nat)(vs:List AV)(H:AH):Rs:=
 hd vs fun a vs=>hd vs fun b vs=>hd vs fun c vs=>
 bV (lnSl a) fun d=>
 bV (qO .lss c d) fun e=>
 cnd e (bV (jB 4 a c) fun f=>
 bV (fAd 0 f) fun g=>
 bV (ld1 g H) fun h=>
 bV (jB 4 a c) fun i=>
 bV (fAd 1 i) fun k=>
 bV (ld1 k H) fun m=>
 bV (jB 4 a c) fun o=>
 bV (fAd 2 o) fun p=>
 bV (ld1 p H) fun r=>
 bV (jB 4 a c) fun t=>
 bV (fAd 3 t) fun u=>
 bV (ld1 u H) fun v=>
 bR (f45 D n [h] H) fun w H=>chk (ld1 k H) m <| chk (ld1 p H) r <| chk (ld1 u H) v <|
 bV (jU .add (.str 1 101) w) fun x=>
 bR (f45 D n [m] H) fun y H=>chk (ld1 p H) r <| chk (ld1 u H) v <|
 bV (jU .add x y) fun z=>
 bR (f45 D n [r] H) fun B H=>chk (ld1 u H) v <|
 bV (jU .add B v) fun C=>
 bR (f44 D n [b,z,C] H) fun E H=>
 bV (qO .add c (.int .i64 (.ofNat 1))) fun F=>
 some (.norm [a,E,F],H))
 (some (.exit 0 [b],H))
def zNG (D:Dyn)(n:Nat)(vs:List AV)(H:AH):Rs:=
 hd vs fun a vs=>
 bV (some a) fun b=>some (.ret b,H)
def f21 (D:Dyn)(n:Nat)(vs:List AV)(H:AH):Option (AV×AH):=
 yP (hd vs fun a vs=>nl vs <|
 jb 0 (qT n (zFC D n) [a, .nilSlice,(.int .i64 (.ofNat 0))] H) (zNG D n))
def h21:Hint:=(.s .o (.s .o (.s (.s .o (.b [3] (.l [0,3,4] (.s (.s .o (.cr .o .o)) (.s (.b0 .o) .o))))) (.s .o .o))))
theorem zFD {D:Dyn}(hD:DG D)(n:Nat):FI 21 (f21 D n):=qS (n:=n) (h:=h21) X_ok hD (sc (zJF hD n) (sc (zJG hD n) (SOk.nil))) Tryz.func21 (by kernel_rfl) (by kernel_rfl)
def s20 (D:Dyn)(n:Nat):Tb:=⟨X,[]⟩
def zIa (D:Dyn)(n:Nat)(vs:List AV)(H:AH):Rs:=
 hd vs fun a vs=>hd vs fun b vs=>hd vs fun c vs=>
 bV (lnSl a) fun d=>
 bV (qO .lss c d) fun e=>
 cnd e (bV (jB 2 a c) fun f=>
 bV (ldN 2 f H) fun g=>
 bV (jB 2 b c) fun h=>
 bV (ldN 2 h H) fun i=>
 bV (vI .neq (eqA [2,2] g i)) fun k=>
 cnd k (bV (some (.bool false)) fun m=>some (.ret m,H))
 (bV (qO .add c (.int .i64 (.ofNat 1))) fun o=>
 some (.norm [a,b,o],H)))
 (some (.exit 0 [],H))
def zNH (D:Dyn)(n:Nat)(vs:List AV)(H:AH):Rs:=
 bV (some (.bool true)) fun a=>some (.ret a,H)
def f20 (D:Dyn)(n:Nat)(vs:List AV)(H:AH):Option (AV×AH):=
 yP (hd vs fun a vs=>hd vs fun b vs=>nl vs <|
 bV (lnSl a) fun c=>
 bV (lnSl b) fun d=>
 bV (qO .neq c d) fun e=>
 cnd e (bV (some (.bool false)) fun f=>some (.ret f,H))
 (jb 0 (qT n (zIa D n) [a,b,(.int .i64 (.ofNat 0))] H) (zNH D n)))
def h20:Hint:=(.s .o (.s (.s .o (.cl (.s .o .o) .o)) (.s (.s .o (.b [] (.l [0,1,5] (.s (.s .o (.cr .o .o)) (.s (.b0 (.s .o (.cl (.s .o .o) .o))) .o))))) (.s .o .o))))
theorem zFE {D:Dyn}(hD:DG D)(n:Nat):FI 20 (f20 D n):=qS (n:=n) (h:=h20) X_ok hD (SOk.nil) Tryz.func20 (by kernel_rfl) (by kernel_rfl)
def s3 (D:Dyn)(n:Nat):Tb:=⟨X,[(5,f5 D n),(6,f6 D n),(7,f7 D n),(8,f8 D n),(9,f9 D n),(10,f10 D n),(11,f11 D n),(12,f12 D n),(13,f13 D n),(14,f14 D n),(15,f15 D n),(16,f16 D n),(17,f17 D n),(18,f18 D n),(19,f19 D n),(21,f21 D n),(20,f20 D n),(22,f22 D n),(23,f23 D n)]⟩
def f3l0 (D:Dyn)(n:Nat)(vs:List AV)(H:AH):Rs:=
 hd vs fun a vs=>hd vs fun b vs=>hd vs fun c vs=>hd vs fun d vs=>hd vs fun e vs=>hd vs fun f vs=>hd vs fun g vs=>
 bV (lnSl f) fun h=>
 bV (qO .lss g h) fun i=>
 cnd i (bV (jB 3 f g) fun k=>
 bV (fAd 0 k) fun m=>
 bR (stN 1 m (.str 6 128008974200947) H) fun o H=>
 bV (qO .add g (.int .i64 (.ofNat 1))) fun p=>
 some (.norm [a,b,c,d,e,f,p],H))
 (some (.exit 3 [a,b,c,d,e],H))
def f3b1 (D:Dyn)(n:Nat)(vs:List AV)(H:AH):Rs:=
 hd vs fun a vs=>hd vs fun b vs=>hd vs fun c vs=>hd vs fun d vs=>hd vs fun e vs=>
 some (.norm [a,b,c,d,e],H)
def f3j2 (D:Dyn)(n:Nat)(vs:List AV)(H:AH):Rs:=
 hd vs fun a vs=>hd vs fun b vs=>hd vs fun c vs=>hd vs fun d vs=>hd vs fun e vs=>
 some (.norm [a,b,c,d,e],H)
def f3j3 (D:Dyn)(n:Nat)(vs:List AV)(H:AH):Rs:=
 hd vs fun a vs=>hd vs fun b vs=>hd vs fun c vs=>hd vs fun d vs=>hd vs fun e vs=>
 some (.norm [a,b,c,d,e],H)
def f3j4 (D:Dyn)(n:Nat)(vs:List AV)(H:AH):Rs:=
 hd vs fun a vs=>hd vs fun b vs=>hd vs fun c vs=>hd vs fun d vs=>hd vs fun e vs=>
 bV (fAd 1 e) fun f=>
 bV (ld1 f H) fun g=>
 bR (f17 D n [b,g] H) fun h H=>
 bV (qL h 0) fun i=>
 bV (qL h 1) fun k=>
 bV (fAd 1 e) fun m=>
 bV (ld1 m H) fun o=>
 bR (f15 D n [c,o,(.int .i64 (.ofNat 0)),(.int .i64 (.ofNat 0))] H) fun p H=>
 bV (qL p 0) fun r=>
 bV (qL p 1) fun t=>
 bV (qL p 2) fun u=>
 bR (f18 D n [b,(.str 0 0),(.str 0 0),(.int .i64 (.ofNat 9999))] H) fun v H=>
 bV (qL v 0) fun w=>
 bV (qL v 1) fun x=>
 bV (qL v 2) fun y=>
 bV (qO .neq k u) fun z=>
 jn (wnt z false (bV (qO .eql u (.int .i64 (.ofNat 0))) fun B=>
 some (.norm [i,B],H)) (some (.norm [qN,qN],H))) fun vs H=>hd vs fun C vs=>hd vs fun E vs=>
 jn (wnt E true (bV (fAd 1 e) fun F=>
 bV (ld1 F H) fun G=>
 bR (f19 D n [c,G,(.int .i64 (.ofNat 0))] H) fun I H=>
 bV (lnSl I) fun J=>
 bV (qO .eql J (.int .i64 (.ofNat 0))) fun K=>
 some (.norm [K],H)) (some (.norm [qN],H))) fun vs H=>hd vs fun M vs=>
 jn (wnt z false (bV (pk3 (some E) (some M) (some (.bool false))) fun N=>
 bV (aN .neq C N) fun O=>
 some (.norm [O],H)) (some (.norm [qN],H))) fun vs H=>hd vs fun P vs=>
 bV (pk3 (some z) (some (.bool true)) (some P)) fun Q=>
 jn (wnt Q false (bV (qO .neq y (.int .i64 (.ofNat 0))) fun R=>
 some (.norm [R],H)) (some (.norm [qN],H))) fun vs H=>hd vs fun T vs=>
 bV (pk3 (some Q) (some (.bool true)) (some T)) fun U=>
 jn (wnt U false (bR (f21 D n [c] H) fun V H=>
 bR (f20 D n [w,V] H) fun W H=>
 bV (aun .not W) fun Y=>
 some (.norm [Y],H)) (some (.norm [qN],H))) fun vs H=>hd vs fun Z vs=>
 bV (pk3 (some U) (some (.bool true)) (some Z)) fun a0=>
 jn (wnt a0 false (bV (fAd 4 e) fun a1=>
 bV (ld1 a1 H) fun a2=>
 bV (fAd 4 e) fun a3=>
 bV (ld1 a3 H) fun a4=>
 bR (f22 D n [a2] H) fun a5 H=>chk (ld1 a3 H) a4 <|
 bR (f23 D n [a4] H) fun a6 H=>
 bV (qO .neq a5 a6) fun a7=>
 some (.norm [a7],H)) (some (.norm [qN],H))) fun vs H=>hd vs fun a8 vs=>
 bV (pk3 (some a0) (some (.bool true)) (some a8)) fun a9=>
 cnd a9 (bV (some (.bool false)) fun b0=>some (.ret b0,H))
 (bV (qO .add d (.int .i64 (.ofNat 1))) fun b1=>
 some (.norm [a,b,c,b1],H))
def f3l5 (D:Dyn)(n:Nat)(vs:List AV)(H:AH):Rs:=
 hd vs fun a vs=>hd vs fun b vs=>hd vs fun c vs=>hd vs fun d vs=>
 bV (lnSl a) fun e=>
 bV (qO .lss d e) fun f=>
 cnd f (bV (jB 5 a d) fun g=>
 bV (ldN 5 g H) fun h=>
 bA (bxV 29 (.agg [(.int .u8 (.ofNat 0)),(.int .i64 (.ofNat 0)),(.int .i64 (.ofNat 0)),(.int .i64 (.ofNat 0)),(.str 0 0)])) H fun i H=>
 bR (stN 5 i h H) fun k H=>
 bV (fAd 0 i) fun m=>
 bV (ld1 m H) fun o=>
 bV (qO .eql o (.int .u8 (.ofNat 0))) fun p=>
 jn (cnd p (bV (fAd 1 i) fun r=>
 bV (ld1 r H) fun t=>
 bV (fAd 4 i) fun u=>
 bV (ld1 u H) fun v=>
 bV (fAd 2 i) fun w=>
 bV (ld1 w H) fun x=>
 bR (f8 D n [b,t,v,x] H) fun y H=>
 bV (qL y 0) fun z=>
 bV (qL y 1) fun B=>
 bV (fAd 1 i) fun C=>
 bV (ld1 C H) fun E=>
 bV (fAd 4 i) fun F=>
 bV (ld1 F H) fun G=>
 bV (fAd 2 i) fun I=>
 bV (ld1 I H) fun J=>
 bR (f9 D n [c,E,G,J] H) fun K H=>
 bV (qL K 0) fun M=>
 bV (qL K 1) fun N=>
 bV (qL K 2) fun O=>
 bV (qO .neq z N) fun P=>
 jn (wnt P false (bV (qO .neq B O) fun Q=>
 some (.norm [Q],H)) (some (.norm [qN],H))) fun vs H=>hd vs fun R vs=>
 bV (pk3 (some P) (some (.bool true)) (some R)) fun T=>
 cnd T (bV (some (.bool false)) fun U=>some (.ret U,H))
 (some (.norm [a,b,M,d,i],H)))
 (bV (qO .eql o (.int .u8 (.ofNat 1))) fun V=>
 jn (cnd V (bV (fAd 1 i) fun W=>
 bV (ld1 W H) fun Y=>
 bV (fAd 4 i) fun Z=>
 bV (ld1 Z H) fun a0=>
 bR (f10 D n [b,Y,a0] H) fun a1 H=>
 bV (qL a1 0) fun a2=>
 bV (qL a1 1) fun a3=>
 bV (fAd 1 i) fun a4=>
 bV (ld1 a4 H) fun a5=>
 bV (fAd 4 i) fun a6=>
 bV (ld1 a6 H) fun a7=>
 bR (f11 D n [c,a5,a7] H) fun a8 H=>
 bV (qL a8 0) fun a9=>
 bV (qL a8 1) fun b0=>
 bV (qL a8 2) fun b1=>
 bV (qO .neq a2 b0) fun b2=>
 jn (wnt b2 false (bV (qO .neq a3 b1) fun b3=>
 some (.norm [b3],H)) (some (.norm [qN],H))) fun vs H=>hd vs fun b4 vs=>
 bV (pk3 (some b2) (some (.bool true)) (some b4)) fun b5=>
 cnd b5 (bV (some (.bool false)) fun b6=>some (.ret b6,H))
 (some (.norm [a,b,a9,d,i],H)))
 (bV (qO .eql o (.int .u8 (.ofNat 2))) fun b7=>
 jn (cnd b7 (bV (fAd 1 i) fun b8=>
 bV (ld1 b8 H) fun b9=>
 bV (fAd 4 i) fun c0=>
 bV (ld1 c0 H) fun c1=>
 bR (f12 D n [b,b9,c1] H) fun c2 H=>
 bV (qL c2 0) fun c3=>
 bV (qL c2 1) fun c4=>
 bV (qL c2 2) fun c5=>
 bV (fAd 1 i) fun c6=>
 bV (ld1 c6 H) fun c7=>
 bV (fAd 4 i) fun c8=>
 bV (ld1 c8 H) fun c9=>
 bR (f13 D n [c,c7,c9] H) fun d0 H=>
 bV (qL d0 0) fun d1=>
 bV (qL d0 1) fun d2=>
 bV (qL d0 2) fun d3=>
 bV (qO .neq c3 d1) fun d4=>
 jn (wnt d4 false (bV (qO .neq c4 d2) fun d5=>
 some (.norm [d5],H)) (some (.norm [qN],H))) fun vs H=>hd vs fun d6 vs=>
 bV (pk3 (some d4) (some (.bool true)) (some d6)) fun d7=>
 jn (wnt d7 false (bV (qO .neq c5 d3) fun d8=>
 some (.norm [d8],H)) (some (.norm [qN],H))) fun vs H=>hd vs fun d9 vs=>
 bV (pk3 (some d7) (some (.bool true)) (some d9)) fun e0=>
 cnd e0 (bV (some (.bool false)) fun e1=>some (.ret e1,H))
 (some (.norm [a,b,c,d,i],H)))
 (bV (fAd 1 i) fun e2=>
 bV (ld1 e2 H) fun e3=>
 bV (fAd 2 i) fun e4=>
 bV (ld1 e4 H) fun e5=>
 bV (fAd 3 i) fun e6=>
 bV (ld1 e6 H) fun e7=>
 bR (f14 D n [b,e3,e5,e7] H) fun e8 H=>
 bV (qL e8 0) fun e9=>
 bV (qL e8 1) fun g0=>
 bV (qL e8 2) fun g1=>
 bV (fAd 1 i) fun g2=>
 bV (ld1 g2 H) fun g3=>
 bV (fAd 2 i) fun g4=>
 bV (ld1 g4 H) fun g5=>
 bV (fAd 3 i) fun g6=>
 bV (ld1 g6 H) fun g7=>
 bR (f15 D n [c,g3,g5,g7] H) fun g8 H=>
 bV (qL g8 0) fun g9=>
 bV (qL g8 1) fun h0=>
 bV (qL g8 2) fun h1=>
 bR (f16 D n [e9,g9] H) fun h2 H=>
 bV (aun .not h2) fun h3=>
 jn (wnt h3 false (bV (aN .neq g0 h0) fun h4=>
 some (.norm [h4],H)) (some (.norm [qN],H))) fun vs H=>hd vs fun h5 vs=>
 bV (pk3 (some h3) (some (.bool true)) (some h5)) fun h6=>
 jn (wnt h6 false (bV (qO .neq g1 h1) fun h7=>
 some (.norm [h7],H)) (some (.norm [qN],H))) fun vs H=>hd vs fun h8 vs=>
 bV (pk3 (some h6) (some (.bool true)) (some h8)) fun h9=>
 cnd h9 (bV (some (.bool false)) fun k0=>some (.ret k0,H))
 (jb 3 (qT n (f3l0 D n) [a,b,c,d,i,e9,(.int .i64 (.ofNat 0))] H) (f3b1 D n)))) (f3j2 D n))) (f3j3 D n))) (f3j4 D n))
 (some (.exit 0 [],H))
def f3b6 (D:Dyn)(n:Nat)(vs:List AV)(H:AH):Rs:=
 bR (f6 D n [] H) fun a H=>
 bV (some a) fun b=>some (.ret b,H)
def f3 (D:Dyn)(n:Nat)(vs:List AV)(H:AH):Option (AV×AH):=
 yP (hd vs fun a vs=>nl vs <|
 bR (f5 D n [a] H) fun b H=>
 cnd b (bR (f6 D n [] H) fun c H=>
 bV (some c) fun d=>some (.ret d,H))
 (bR (f7 D n [] H) fun e H=>
 jb 0 (qT n (f3l5 D n) [a,e, .nilSlice,(.int .i64 (.ofNat 0))] H) (f3b6 D n)))
def h3:Hint:=(.s .o (.s (.s .o (.cl (.s .o .o) .o)) (.s .o (.s .o (.s (.s .o (.b [] (.l [0,3,4,5] (.s (.s .o (.cr .o .o)) (.s (.b0 (.s .o (.s (.s .o (.b0 (.s .o (.c [0,3,4,5,6] (.s .o (.s .o (.s (.s .o (.cl (.s .o .o) .o)) .o))) (.s .o (.c [0,3,4,5,6] (.s .o (.s .o (.s (.s .o (.cl (.s .o .o) .o)) .o))) (.s .o (.c [0,3,4,5,6] (.s .o (.s .o (.s .o (.cl (.s .o .o) .o)))) (.s .o (.s .o (.s (.s .o (.cl (.s .o .o) .o)) (.s .o (.b [0,3,4,5,6] (.l [0,3,4,5,6,23,29] (.s (.s .o (.cr .o .o)) (.s (.b0 .o) .o)))))))))))))))) (.s .o (.s .o (.s .o (.s .o (.cl (.s .o .o) .o)))))))) .o))))) (.s .o .o))))))
theorem f3_ok {D:Dyn}(hD:DG D)(n:Nat):FI 3 (f3 D n):=qS (n:=n) (h:=h3) X_ok hD (sc (zLf hD n) (sc (zI2 hD n) (sc (zI1 hD n) (sc (zHX hD n) (sc (zL2 hD n) (sc (zBT hD n) (sc (zFL hD n) (sc (zBS hD n) (sc (zBR hD n) (sc (UP hD n) (sc (zFH hD n) (sc (zFG hD n) (sc (zBQ hD n) (sc (UO hD n) (sc (zBP hD n) (sc (zFD hD n) (sc (zFE hD n) (sc (Y4 hD n) (sc (zBO hD n) (SOk.nil)))))))))))))))))))) Tryz.func3 (by kernel_rfl) (by kernel_rfl)
end Go.Eng.Sh
end
end
section
noncomputable section
namespace Go.Eng.Sh
open Go.Proofs
set_option maxRecDepth 100000
def tab (D:Dyn)(n:Nat):List (Nat×(List AV->AH->Option (AV×AH))):=[(3,f3 D n),(5,f5 D n),(6,f6 D n),(7,f7 D n),(8,f8 D n),(9,f9 D n),(10,f10 D n),(11,f11 D n),(12,f12 D n),(13,f13 D n),(14,f14 D n),(15,f15 D n),(16,f16 D n),(17,f17 D n),(18,f18 D n),(19,f19 D n),(20,f20 D n),(21,f21 D n),(22,f22 D n),(23,f23 D n),(24,f24 D n),(25,f25 D n),(26,f26 D n),(27,f27 D n),(28,f28 D n),(29,f29 D n),(30,f30 D n),(31,f31 D n),(32,f32 D n),(33,f33 D n),(34,f34 D n),(35,f35 D n),(36,f36 D n),(37,f37 D n),(38,f38 D n),(39,f39 D n),(40,f40 D n),(41,f41 D n),(42,f42 D n),(43,f43 D n),(44,f44 D n),(45,f45 D n),(46,f46 D n),(47,f47 D n),(48,f48 D n),(49,f49 D n),(50,m50 D n),(51,f51 D n),(52,f52 D n),(53,f53 D n),(54,f54 D n),(55,f55 D n),(56,f56 D n),(57,f57 D n),(58,f58 D n),(59,f59 D n),(60,f60 D n),(61,f61 D n),(62,f62 D n),(63,f63 D n),(64,f64 D n),(65,f65 D n),(66,f66 D n),(67,f67 D n),(69,f69 D n),(70,f70 D n),(71,f71 D n),(72,f72 D n),(73,f73 D n),(74,f74 D n),(75,f75 D n),(76,f76 D n),(77,f77 D n),(78,f78 D n),(79,f79 D n),(80,m80 D n),(81,f81 D n),(82,f82 D n),(83,f83 D n),(84,f84 D n),(85,f85 D n),(92,f92 D n),(93,f93 D n),(94,f94 D n),(95,f95 D n),(96,f96 D n),(99,f99 D n),(100,f100 D n),(114,f114 D n),(115,f115 D n),(116,f116 D n),(118,f118 D n),(127,f127 D n)]
def tabR (D:Dyn)(n:Nat):List ((Nat×Nat)×(Nat->ALoop->List AV->AH->Option (AV×AH))):=[((18,0),zCv D n),((60,0),zA6 D n)]
theorem zM6 (D:Dyn)(n:Nat)(hD:DG D):SOk (tab D n):=sc (f3_ok hD n) (sc (zLf hD n) (sc (zI2 hD n) (sc (zI1 hD n) (sc (zHX hD n) (sc (zL2 hD n) (sc (zBT hD n) (sc (zFL hD n) (sc (zBS hD n) (sc (zBR hD n) (sc (UP hD n) (sc (zFH hD n) (sc (zFG hD n) (sc (zBQ hD n) (sc (UO hD n) (sc (zBP hD n) (sc (zFE hD n) (sc (zFD hD n) (sc (Y4 hD n) (sc (zBO hD n) (sc (zJM hD n) (sc (zJL hD n) (sc (UN hD n) (sc (zBN hD n) (sc (zFB hD n) (sc (zNF hD n) (sc (zJK hD n) (sc (zBM hD n) (sc (zBL hD n) (sc (zBK hD n) (sc (zFz hD n) (sc (zBJ hD n) (sc (zJJ hD n) (sc (zFx hD n) (sc (zJI hD n) (sc (zJH hD n) (sc (zFv hD n) (sc (zFu hD n) (sc (zFt hD n) (sc (zNy hD n) (sc (zJG hD n) (sc (zJF hD n) (sc (zJE hD n) (sc (zJD hD n) (sc (zJC hD n) (sc (zJB hD n) (sc (zJh hD n) (sc (JX hD n) (sc (zFr hD n) (sc (zNv hD n) (sc (zJA hD n) (sc (zNu hD n) (sc (zNt hD n) (sc (zJz hD n) (sc (zJy hD n) (sc (zJx hD n) (sc (zNr hD n) (sc (zFq hD n) (sc (Y3 hD n) (sc (zJw hD n) (sc (zJv hD n) (sc (zJu hD n) (sc (zJt hD n) (sc (zJs hD n) (sc (zFn hD n) (sc (zBI hD n) (sc (zNi hD n) (sc (zJr hD n) (sc (zBH hD n) (sc (zJq hD n) (sc (zFi hD n) (sc (zJp hD n) (sc (UL hD n) (sc (zBG hD n) (sc (zBF hD n) (sc (zJg hD n) (sc (zBE hD n) (sc (zNd hD n) (sc (zJo hD n) (sc (zJn hD n) (sc (zJm hD n) (sc (zBD hD n) (sc (zJl hD n) (sc (zFb hD n) (sc (zFa hD n) (sc (zF8 hD n) (sc (zJk hD n) (sc (zFS hD n) (sc (zFR hD n) (sc (zFQ hD n) (sc (zFO hD n) (sc (zAv hD n) (sc (zFK hD n) (SOk.nil)))))))))))))))))))))))))))))))))))))))))))))))))))))))))))))))))))))))))))))))))))))))))))))
theorem zK2 (D:Dyn)(n:Nat)(hD:DG D):ROk (tabR D n):=ROk.cons (zHk hD n) (ROk.cons (zHi hD n) (ROk.nil))
def dy (n:Nat):Dyn:=dyOf tab tabR n
theorem dy_ok (n:Nat):DG (dy n):=zG3 zM6 zK2 n
end Go.Eng.Sh
end
end
section
noncomputable section
namespace Go.Eng.Sh
open Go.Proofs
set_option maxRecDepth 1000000
theorem c6_r:zKj (f6 (dy 100000) 100000 [] ⟨.leaf,0⟩)=true:=by kernel_rfl
theorem c6 (w:World):Calls PP 6 #[] w fun e w'=>e= .returned (.bool true)/\RowKit.Below w.heap.size w w':=zIC (zI2 (dy_ok 100000) 100000) c6_r w
end Go.Eng.Sh
end
end
section
noncomputable section
namespace Go.Eng.Sh
open Go.Proofs
set_option maxRecDepth 1000000
def z6 (D:Dyn)(n:Nat)(vs:List AV)(H:AH):Option (AV×AH):=cloK (f6 D n) vs H
theorem z6_ok {D:Dyn}(hD:DG D)(n:Nat):FI 6 (z6 D n):=zLv ⟨_,Tryz.func6,rfl⟩ c6 (zI2 hD n)
def s3z (D:Dyn)(n:Nat):Tb:=⟨X,[(5,f5 D n),(6,z6 D n),(7,f7 D n),(8,f8 D n),(9,f9 D n),(10,f10 D n),(11,f11 D n),(12,f12 D n),(13,f13 D n),(14,f14 D n),(15,f15 D n),(16,f16 D n),(17,f17 D n),(18,f18 D n),(19,f19 D n),(21,f21 D n),(20,f20 D n),(22,f22 D n),(23,f23 D n)]⟩
def zCN (D:Dyn)(n:Nat)(vs:List AV)(H:AH):Rs:=
 hd vs fun a vs=>hd vs fun b vs=>hd vs fun c vs=>hd vs fun d vs=>hd vs fun e vs=>hd vs fun f vs=>hd vs fun g vs=>
 bV (lnSl f) fun h=>
 bV (qO .lss g h) fun i=>
 cnd i (bV (jB 3 f g) fun k=>
 bV (fAd 0 k) fun m=>
 bR (stN 1 m (.str 6 128008974200947) H) fun o H=>
 bV (qO .add g (.int .i64 (.ofNat 1))) fun p=>
 some (.norm [a,b,c,d,e,f,p],H))
 (some (.exit 3 [a,b,c,d,e],H))
def zNA (D:Dyn)(n:Nat)(vs:List AV)(H:AH):Rs:=
 hd vs fun a vs=>hd vs fun b vs=>hd vs fun c vs=>hd vs fun d vs=>hd vs fun e vs=>
 some (.norm [a,b,c,d,e],H)
def zLh (D:Dyn)(n:Nat)(vs:List AV)(H:AH):Rs:=
 hd vs fun a vs=>hd vs fun b vs=>hd vs fun c vs=>hd vs fun d vs=>hd vs fun e vs=>
 some (.norm [a,b,c,d,e],H)
def zI7 (D:Dyn)(n:Nat)(vs:List AV)(H:AH):Rs:=
 hd vs fun a vs=>hd vs fun b vs=>hd vs fun c vs=>hd vs fun d vs=>hd vs fun e vs=>
 some (.norm [a,b,c,d,e],H)
def zFw (D:Dyn)(n:Nat)(vs:List AV)(H:AH):Rs:=
 hd vs fun a vs=>hd vs fun b vs=>hd vs fun c vs=>hd vs fun d vs=>hd vs fun e vs=>
 bV (fAd 1 e) fun f=>
 bV (ld1 f H) fun g=>
 bR (f17 D n [b,g] H) fun h H=>
 bV (qL h 0) fun i=>
 bV (qL h 1) fun k=>
 bV (fAd 1 e) fun m=>
 bV (ld1 m H) fun o=>
 bR (f15 D n [c,o,(.int .i64 (.ofNat 0)),(.int .i64 (.ofNat 0))] H) fun p H=>
 bV (qL p 0) fun r=>
 bV (qL p 1) fun t=>
 bV (qL p 2) fun u=>
 bR (f18 D n [b,(.str 0 0),(.str 0 0),(.int .i64 (.ofNat 9999))] H) fun v H=>
 bV (qL v 0) fun w=>
 bV (qL v 1) fun x=>
 bV (qL v 2) fun y=>
 bV (qO .neq k u) fun z=>
 jn (wnt z false (bV (qO .eql u (.int .i64 (.ofNat 0))) fun B=>
 some (.norm [i,B],H)) (some (.norm [qN,qN],H))) fun vs H=>hd vs fun C vs=>hd vs fun E vs=>
 jn (wnt E true (bV (fAd 1 e) fun F=>
 bV (ld1 F H) fun G=>
 bR (f19 D n [c,G,(.int .i64 (.ofNat 0))] H) fun I H=>
 bV (lnSl I) fun J=>
 bV (qO .eql J (.int .i64 (.ofNat 0))) fun K=>
 some (.norm [K],H)) (some (.norm [qN],H))) fun vs H=>hd vs fun M vs=>
 jn (wnt z false (bV (pk3 (some E) (some M) (some (.bool false))) fun N=>
 bV (aN .neq C N) fun O=>
 some (.norm [O],H)) (some (.norm [qN],H))) fun vs H=>hd vs fun P vs=>
 bV (pk3 (some z) (some (.bool true)) (some P)) fun Q=>
 jn (wnt Q false (bV (qO .neq y (.int .i64 (.ofNat 0))) fun R=>
 some (.norm [R],H)) (some (.norm [qN],H))) fun vs H=>hd vs fun T vs=>
 bV (pk3 (some Q) (some (.bool true)) (some T)) fun U=>
 jn (wnt U false (bR (f21 D n [c] H) fun V H=>
 bR (f20 D n [w,V] H) fun W H=>
 bV (aun .not W) fun Y=>
 some (.norm [Y],H)) (some (.norm [qN],H))) fun vs H=>hd vs fun Z vs=>
 bV (pk3 (some U) (some (.bool true)) (some Z)) fun a0=>
 jn (wnt a0 false (bV (fAd 4 e) fun a1=>
 bV (ld1 a1 H) fun a2=>
 bV (fAd 4 e) fun a3=>
 bV (ld1 a3 H) fun a4=>
 bR (f22 D n [a2] H) fun a5 H=>chk (ld1 a3 H) a4 <|
 bR (f23 D n [a4] H) fun a6 H=>
 bV (qO .neq a5 a6) fun a7=>
 some (.norm [a7],H)) (some (.norm [qN],H))) fun vs H=>hd vs fun a8 vs=>
 bV (pk3 (some a0) (some (.bool true)) (some a8)) fun a9=>
 cnd a9 (bV (some (.bool false)) fun b0=>some (.ret b0,H))
 (bV (qO .add d (.int .i64 (.ofNat 1))) fun b1=>
 some (.norm [a,b,c,b1],H))
def WY (D:Dyn)(n:Nat)(vs:List AV)(H:AH):Rs:=
 hd vs fun a vs=>hd vs fun b vs=>hd vs fun c vs=>hd vs fun d vs=>
 bV (lnSl a) fun e=>
 bV (qO .lss d e) fun f=>
 cnd f (bV (jB 5 a d) fun g=>
 bV (ldN 5 g H) fun h=>
 bA (bxV 29 (.agg [(.int .u8 (.ofNat 0)),(.int .i64 (.ofNat 0)),(.int .i64 (.ofNat 0)),(.int .i64 (.ofNat 0)),(.str 0 0)])) H fun i H=>
 bR (stN 5 i h H) fun k H=>
 bV (fAd 0 i) fun m=>
 bV (ld1 m H) fun o=>
 bV (qO .eql o (.int .u8 (.ofNat 0))) fun p=>
 jn (cnd p (bV (fAd 1 i) fun r=>
 bV (ld1 r H) fun t=>
 bV (fAd 4 i) fun u=>
 bV (ld1 u H) fun v=>
 bV (fAd 2 i) fun w=>
 bV (ld1 w H) fun x=>
 bR (f8 D n [b,t,v,x] H) fun y H=>
 bV (qL y 0) fun z=>
 bV (qL y 1) fun B=>
 bV (fAd 1 i) fun C=>
 bV (ld1 C H) fun E=>
 bV (fAd 4 i) fun F=>
 bV (ld1 F H) fun G=>
 bV (fAd 2 i) fun I=>
 bV (ld1 I H) fun J=>
 bR (f9 D n [c,E,G,J] H) fun K H=>
 bV (qL K 0) fun M=>
 bV (qL K 1) fun N=>
 bV (qL K 2) fun O=>
 bV (qO .neq z N) fun P=>
 jn (wnt P false (bV (qO .neq B O) fun Q=>
 some (.norm [Q],H)) (some (.norm [qN],H))) fun vs H=>hd vs fun R vs=>
 bV (pk3 (some P) (some (.bool true)) (some R)) fun T=>
 cnd T (bV (some (.bool false)) fun U=>some (.ret U,H))
 (some (.norm [a,b,M,d,i],H)))
 (bV (qO .eql o (.int .u8 (.ofNat 1))) fun V=>
 jn (cnd V (bV (fAd 1 i) fun W=>
 bV (ld1 W H) fun Y=>
 bV (fAd 4 i) fun Z=>
 bV (ld1 Z H) fun a0=>
 bR (f10 D n [b,Y,a0] H) fun a1 H=>
 bV (qL a1 0) fun a2=>
 bV (qL a1 1) fun a3=>
 bV (fAd 1 i) fun a4=>
 bV (ld1 a4 H) fun a5=>
 bV (fAd 4 i) fun a6=>
 bV (ld1 a6 H) fun a7=>
 bR (f11 D n [c,a5,a7] H) fun a8 H=>
 bV (qL a8 0) fun a9=>
 bV (qL a8 1) fun b0=>
 bV (qL a8 2) fun b1=>
 bV (qO .neq a2 b0) fun b2=>
 jn (wnt b2 false (bV (qO .neq a3 b1) fun b3=>
 some (.norm [b3],H)) (some (.norm [qN],H))) fun vs H=>hd vs fun b4 vs=>
 bV (pk3 (some b2) (some (.bool true)) (some b4)) fun b5=>
 cnd b5 (bV (some (.bool false)) fun b6=>some (.ret b6,H))
 (some (.norm [a,b,a9,d,i],H)))
 (bV (qO .eql o (.int .u8 (.ofNat 2))) fun b7=>
 jn (cnd b7 (bV (fAd 1 i) fun b8=>
 bV (ld1 b8 H) fun b9=>
 bV (fAd 4 i) fun c0=>
 bV (ld1 c0 H) fun c1=>
 bR (f12 D n [b,b9,c1] H) fun c2 H=>
 bV (qL c2 0) fun c3=>
 bV (qL c2 1) fun c4=>
 bV (qL c2 2) fun c5=>
 bV (fAd 1 i) fun c6=>
 bV (ld1 c6 H) fun c7=>
 bV (fAd 4 i) fun c8=>
 bV (ld1 c8 H) fun c9=>
 bR (f13 D n [c,c7,c9] H) fun d0 H=>
 bV (qL d0 0) fun d1=>
 bV (qL d0 1) fun d2=>
 bV (qL d0 2) fun d3=>
 bV (qO .neq c3 d1) fun d4=>
 jn (wnt d4 false (bV (qO .neq c4 d2) fun d5=>
 some (.norm [d5],H)) (some (.norm [qN],H))) fun vs H=>hd vs fun d6 vs=>
 bV (pk3 (some d4) (some (.bool true)) (some d6)) fun d7=>
 jn (wnt d7 false (bV (qO .neq c5 d3) fun d8=>
 some (.norm [d8],H)) (some (.norm [qN],H))) fun vs H=>hd vs fun d9 vs=>
 bV (pk3 (some d7) (some (.bool true)) (some d9)) fun e0=>
 cnd e0 (bV (some (.bool false)) fun e1=>some (.ret e1,H))
 (some (.norm [a,b,c,d,i],H)))
 (bV (fAd 1 i) fun e2=>
 bV (ld1 e2 H) fun e3=>
 bV (fAd 2 i) fun e4=>
 bV (ld1 e4 H) fun e5=>
 bV (fAd 3 i) fun e6=>
 bV (ld1 e6 H) fun e7=>
 bR (f14 D n [b,e3,e5,e7] H) fun e8 H=>
 bV (qL e8 0) fun e9=>
 bV (qL e8 1) fun g0=>
 bV (qL e8 2) fun g1=>
 bV (fAd 1 i) fun g2=>
 bV (ld1 g2 H) fun g3=>
 bV (fAd 2 i) fun g4=>
 bV (ld1 g4 H) fun g5=>
 bV (fAd 3 i) fun g6=>
 bV (ld1 g6 H) fun g7=>
 bR (f15 D n [c,g3,g5,g7] H) fun g8 H=>
 bV (qL g8 0) fun g9=>
 bV (qL g8 1) fun h0=>
 bV (qL g8 2) fun h1=>
 bR (f16 D n [e9,g9] H) fun h2 H=>
 bV (aun .not h2) fun h3=>
 jn (wnt h3 false (bV (aN .neq g0 h0) fun h4=>
 some (.norm [h4],H)) (some (.norm [qN],H))) fun vs H=>hd vs fun h5 vs=>
 bV (pk3 (some h3) (some (.bool true)) (some h5)) fun h6=>
 jn (wnt h6 false (bV (qO .neq g1 h1) fun h7=>
 some (.norm [h7],H)) (some (.norm [qN],H))) fun vs H=>hd vs fun h8 vs=>
 bV (pk3 (some h6) (some (.bool true)) (some h8)) fun h9=>
 cnd h9 (bV (some (.bool false)) fun k0=>some (.ret k0,H))
 (jb 3 (qT n (zCN D n) [a,b,c,d,i,e9,(.int .i64 (.ofNat 0))] H) (zNA D n)))) (zLh D n))) (zI7 D n))) (zFw D n))
 (some (.exit 0 [],H))
def zNz (D:Dyn)(n:Nat)(vs:List AV)(H:AH):Rs:=
 bR (z6 D n [] H) fun a H=>
 bV (some a) fun b=>some (.ret b,H)
def f3z (D:Dyn)(n:Nat)(vs:List AV)(H:AH):Option (AV×AH):=
 yP (hd vs fun a vs=>nl vs <|
 bR (f5 D n [a] H) fun b H=>
 cnd b (bR (z6 D n [] H) fun c H=>
 bV (some c) fun d=>some (.ret d,H))
 (bR (f7 D n [] H) fun e H=>
 jb 0 (qT n (WY D n) [a,e, .nilSlice,(.int .i64 (.ofNat 0))] H) (zNz D n)))
def h3z:Hint:=(.s .o (.s (.s .o (.cl (.s .o .o) .o)) (.s .o (.s .o (.s (.s .o (.b [] (.l [0,3,4,5] (.s (.s .o (.cr .o .o)) (.s (.b0 (.s .o (.s (.s .o (.b0 (.s .o (.c [0,3,4,5,6] (.s .o (.s .o (.s (.s .o (.cl (.s .o .o) .o)) .o))) (.s .o (.c [0,3,4,5,6] (.s .o (.s .o (.s (.s .o (.cl (.s .o .o) .o)) .o))) (.s .o (.c [0,3,4,5,6] (.s .o (.s .o (.s .o (.cl (.s .o .o) .o)))) (.s .o (.s .o (.s (.s .o (.cl (.s .o .o) .o)) (.s .o (.b [0,3,4,5,6] (.l [0,3,4,5,6,23,29] (.s (.s .o (.cr .o .o)) (.s (.b0 .o) .o)))))))))))))))) (.s .o (.s .o (.s .o (.s .o (.cl (.s .o .o) .o)))))))) .o))))) (.s .o .o))))))
theorem f3z_ok {D:Dyn}(hD:DG D)(n:Nat):FI 3 (f3z D n):=qS (n:=n) (h:=h3z) X_ok hD (sc (zLf hD n) (sc (z6_ok hD n) (sc (zI1 hD n) (sc (zHX hD n) (sc (zL2 hD n) (sc (zBT hD n) (sc (zFL hD n) (sc (zBS hD n) (sc (zBR hD n) (sc (UP hD n) (sc (zFH hD n) (sc (zFG hD n) (sc (zBQ hD n) (sc (UO hD n) (sc (zBP hD n) (sc (zFD hD n) (sc (zFE hD n) (sc (Y4 hD n) (sc (zBO hD n) (SOk.nil)))))))))))))))))))) Tryz.func3 (by kernel_rfl) (by kernel_rfl)
end Go.Eng.Sh
end
end
section
namespace Go.Nd
abbrev Str:=List UInt8
structure Ptr where
 at_:Int
 birth:Int
 sum:Int
 deriving DecidableEq
structure Node where
 leaf:Bool
 keys:List Str
 vals:List Str
 kids:List Ptr
 deriving DecidableEq
def be:Nat->Nat->Str
 | 0,_=>[]
 | k+1,n=>be k (n / 256)++[UInt8.ofNat n]
theorem be_length: ∀k n,(be k n).length=k
 | 0,_=>rfl
 | k+1,n=>by simp[be,be_length k]
def zKI (p:Ptr):Bool:=if p.at_=0 then decide (p.birth=0)&&decide (p.sum=0)else decide (0<p.at_)&&decide (p.at_<8192)&&decide (0<=p.birth)&&decide (p.birth<=2147483647)
def encP (p:Ptr):Str:=be 4 p.at_.toNat++(be 4 p.birth.toNat++be 8 p.sum.toNat)
theorem encP_length (p:Ptr):(encP p).length=16:=by simp[encP,be_length]
def sumOk (p:Ptr):Prop:=0<=p.sum/\p.sum<18446744073709551616
def encT (s:Str):Str:=UInt8.ofNat s.length::s
def mayK (k:Str):Bool:=decide (1<=k.length)&&decide (k.length<=40)
def rising (lt:Str->Str->Bool):List Str->Bool
 | []=>true
 | [_]=>true
 | a::b::l=>lt a b&&rising lt (b::l)
def kidOk (p:Ptr):Bool:=decide (1<=p.at_)&&decide (p.at_<8192)&&decide (0<=p.birth)&&decide (p.birth<=2147483647)
def shaped (lt:Str->Str->Bool)(n:Node):Bool:=
 n.keys.all mayK&&rising lt n.keys&&
 (if n.leaf then decide (n.vals.length=n.keys.length)&&decide (n.kids=[])&&n.vals.all (fun v=>decide (v.length<=200))
  else decide (n.keys≠[])&&decide (n.vals=[])&&decide (n.kids.length=n.keys.length+1)&&n.kids.all kidOk)
def yH (l:List Str):Nat:=l.foldl (fun n s=>n+(1+s.length)) 0
theorem V4 (l:List Str)(a:Nat):l.foldl (fun n s=>n+(1+s.length)) a=a+yH l:=by
 induction l generalizing a with
 | nil=>simp[yH]
 | cons s l ih=>simp only[List.foldl_cons,yH];rw[ih,ih];omega
theorem sumL_cons (s:Str)(l:List Str):yH (s::l)=1+s.length+yH l:=by
 simp only[yH,List.foldl_cons];rw[V4,V4];simp[yH]
theorem sumL_append (l m:List Str):yH (l++m)=yH l+yH m:=by
 induction l with
 | nil=>simp[yH]
 | cons s l ih=>rw[List.cons_append,sumL_cons,sumL_cons,ih];omega
def size (n:Node):Nat:=2+16*n.kids.length+yH n.keys+yH n.vals
def encL:List Str->List Str->Str
 | k::ks,v::vs=>encT k++(encT v++encL ks vs)
 | _,_=>[]
def encI:List Str->List Ptr->Str
 | k::ks,p::ps=>encT k++(encP p++encI ks ps)
 | _,_=>[]
def encB (n:Node):Str:=if n.leaf then encL n.keys n.vals else match n.kids with
 | p::ps=>encP p++encI n.keys ps
 | []=>[]
def encN (n:Node):Str:=be 2 n.keys.length++encB n
theorem sumL_ge (l:List Str):l.length<=yH l:=by
 induction l with
 | nil=>simp
 | cons s l ih=>rw[sumL_cons,zF];omega
end Go.Nd
end
section
namespace Go.Eng
theorem j8 {b:List AV->AH->Rs}{H:AH}{r:Rs}(st:Nat->List AV)(N:Nat)(step: ∀i,i<N->b (st i) H=some (.norm (st (i+1)),H))(last: ∀n,qT (n+1) b (st N) H=r): ∀n,N<n->qT n b (st 0) H=r:=by
 suffices h: ∀(m i n:Nat),i+m=N->m<n->qT n b (st i) H=r from fun n hn=>h N 0 n (by omega) hn
 intro m
 induction m with
 | zero=>
  intro i n hi hn;obtain⟨n,rfl⟩: ∃k,n=k+1:=⟨n - 1,by omega⟩;rw[show i=N by omega];exact last n
 | succ m ih=>
  intro i n hi hn;obtain⟨n,rfl⟩: ∃k,n=k+1:=⟨n - 1,by omega⟩;rw[xU (step i (by omega))];exact ih (i+1) n (by omega) (by omega)
theorem fX {α:Type}(l:List α)(i:Nat)(h:i<l.length):l.take (i+1)=l.take i++[l[i]]:=by
 rw[zJ h]
theorem WL (H:AH)(l:List AV)(e sz o:Nat)(g:Bool):ld1 (.ptr H.next o) (H.push (.cells l e sz g))=l[o]? :=by simp only[ld1,AH.push_get_eq,dD]
theorem zHG (H:AH)(l:List AV)(e sz o n:Nat)(g:Bool):ldN n (.ptr H.next o) (H.push (.cells l e sz g))=(u5 l o n).map .agg:=by
 simp only[ldN,AH.push_get_eq];cases u5 l o n<;>rfl
theorem zEI {H:AH}{A:Nat}(o:Nat)(x:AObj)(h:A<H.next):ld1 (.ptr A o) (H.push x)=ld1 (.ptr A o) H:=by simp only[ld1,AH.push_get_ne _ _ h]
theorem zKN {H:AH}{A:Nat}(o n:Nat)(x:AObj)(h:A<H.next):ldN n (.ptr A o) (H.push x)=ldN n (.ptr A o) H:=by simp only[ldN,AH.push_get_ne _ _ h]
theorem kI {b:List AV->AH->Rs}(N:Nat)(I:Nat->List AV->AH->Prop)(step: ∀i vs H,i<N->I i vs H-> ∃vs' H',b vs H=some (.norm vs',H')/\I (i+1) vs' H'):
  ∀(n:Nat) (vs:List AV) (H:AH),I 0 vs H->N<n-> ∃m vs' H',qT n b vs H=qT (m+1) b vs' H'/\I N vs' H':=by
 suffices h: ∀(m i n:Nat) (vs:List AV) (H:AH),i+m=N->m<n->I i vs H-> ∃m vs' H',qT n b vs H=qT (m+1) b vs' H'/\I N vs' H' from fun n vs H h0 hn=>h N 0 n vs H (by omega) hn h0
 intro m
 induction m with
 | zero=>
  intro i n vs H hi hn hI;obtain⟨n,rfl⟩: ∃k,n=k+1:=⟨n - 1,by omega⟩;exact⟨n,vs,H,rfl,by rw[show N=i by omega];exact hI⟩
 | succ m ih=>
  intro i n vs H hi hn hI;obtain⟨n,rfl⟩: ∃k,n=k+1:=⟨n - 1,by omega⟩;obtain⟨vs',H',h1,h2⟩:=step i vs H (by omega) hI;rw[xU h1];exact ih (i+1) n vs' H' (by omega) (by omega) h2
def notN:Ex->Bool
 | .norm _=>false
 | _=>true
theorem zEL {e:Ex}{H:AH}{K:List AV->AH->Rs}(h:notN e=true):jn (some (e,H)) K=some (e,H):=by cases e<;>first | rfl | (simp[notN]at h)
theorem WI {b:List AV->AH->Rs}(N:Nat)(good:Nat->Bool)(I:Nat->List AV->AH->Prop)(Good Bad:Ex->AH->Prop)
  (step: ∀i vs H,i<N->I i vs H->good i=true-> ∃vs' H',b vs H=some (.norm vs',H')/\I (i+1) vs' H')
  (bad: ∀i vs H,i<N->I i vs H->good i=false-> ∃e H',b vs H=some (e,H')/\notN e=true/\Bad e H')
  (last: ∀vs H,I N vs H-> ∃e H',b vs H=some (e,H')/\notN e=true/\Good e H'):
  ∀(n:Nat) (vs:List AV) (H:AH),I 0 vs H->N<n-> ∃e H',qT n b vs H=some (e,H')/\if(List.range N).all good then Good e H' else Bad e H':=by
 suffices h: ∀(m i n:Nat) (vs:List AV) (H:AH),i+m=N->m<n->I i vs H->(∀j,j<i->good j=true)-> ∃e H',qT n b vs H=some (e,H')/\if(List.range N).all good then Good e H' else Bad e H' from
  fun n vs H h0 hn=>h N 0 n vs H (by omega) hn h0 (fun j hj=>by omega)
 intro m
 induction m with
 | zero=>
  intro i n vs H hi hn hI hg;obtain⟨n,rfl⟩: ∃k,n=k+1:=⟨n - 1,by omega⟩;rw[show i=N by omega]at hI hg;obtain⟨e,H',h1,h2,h3⟩:=last vs H hI;refine⟨e,H', ?_, ?_⟩
  ·show jn (b vs H) _=_;rw[h1,zEL h2]
  ·rw[if_pos (by simpa[List.all_eq_true]using hg)];exact h3
 | succ m ih=>
  intro i n vs H hi hn hI hg;obtain⟨n,rfl⟩: ∃k,n=k+1:=⟨n - 1,by omega⟩
  cases hgi:good i with
  | true=>
   obtain⟨vs',H',h1,h2⟩:=step i vs H (by omega) hI hgi;rw[xU h1];exact ih (i+1) n vs' H' (by omega) (by omega) h2 (fun j hj=>by
    rcases Nat.lt_succ_iff_lt_or_eq.1 hj with h | rfl
    ·exact hg j h
    ·exact hgi)
  | false=>
   obtain⟨e,H',h1,h2,h3⟩:=bad i vs H (by omega) hI hgi;refine⟨e,H', ?_, ?_⟩
   ·show jn (b vs H) _=_;rw[h1,zEL h2]
   ·rw[if_neg (by
     simp only[List.all_eq_true,List.mem_range];intro h;have:=h i (by omega);rw[hgi]at this;cases this)];exact h3
theorem zD8 (want:Bool)(x y:Rs):wnt qN want x y=y:=by cases want<;>rfl
theorem XE (k k':IntKind){a:Int}{s:Nat}(ha:0<=a)(hs:s<=k.bits):qO .shr (.int k a) (.int k' (s:Int))=some (.int k (a / 2 ^ s)):=by
 show fI (a.fdiv ((2 ^ (Nat.min s k.bits):Nat):Int)) (fun r=>some (AV.int k r))=_;rw[zAm,show Nat.min s k.bits=s from Nat.min_eq_left hs,Int.fdiv_eq_ediv_of_nonneg _ (Int.natCast_nonneg _)];simp
theorem zIJ (k k':IntKind)(a:Int){s:Nat}(hs:s<=k.bits):qO .shl (.int k a) (.int k' (s:Int))=some (.int k (k.wrap (a*2 ^ s))):=by
 show mkI k (a*(2 ^ (Nat.min s k.bits):Nat))=_;rw[wH,show Nat.min s k.bits=s from Nat.min_eq_left hs];simp
theorem yM {v:AV}(h:isCell v=true):qW v=[v]:=by cases v<;>first | rfl | (simp[isCell]at h)
theorem Rw.isCell {k n:Nat}{H:AH}{v:AV}{l:List AV}(h:Rw k H v n l):Eng.isCell v=true:=by
 obtain⟨_,⟨rfl,_⟩ | ⟨rfl,_⟩ | ⟨A,off,cc,c,e,sz,g,rfl,_⟩⟩:=h<;>rfl
theorem aK (k:IntKind)(a b:Int):dZ (fF k) (.int k a) (.int k b)=some (decide (a=b)):=by
 have:keq k k=true:=by rw[kF];simp
 simp only[dZ,Nat.beq_refl,this,Bool.and_self,cond_true,kG];congr 1
theorem yJ {k n:Nat}{H:AH}{v:AV}{l:List AV}(h:Rw k H v n l):aveq v v=true:=by
 obtain⟨_,⟨rfl,_⟩ | ⟨rfl,_⟩ | ⟨A,off,cc,c,e,sz,g,rfl,_⟩⟩:=h
 ·rfl
 ·rfl
 ·simp[aveq]
theorem j9 {x:Option AV}{v:AV}{K:Rs}(h:x=some v)(hv:aveq v v=true):chk x v K=K:=by subst h;simp[chk,hv]
theorem qM {H:AH}{A:Nat}{l:List AV}{e:TypeId}{sz:Nat}{g:Bool}(h:H.h.get A=some (.cells l e sz g))(o:Nat):ld1 (.ptr A o) H=l[o]? :=by simp only[ld1,h,dD]
theorem qR {H:AH}{A:Nat}{l:List AV}{e:TypeId}{sz:Nat}{g:Bool}(h:H.h.get A=some (.cells l e sz g))(o n:Nat):ldN n (.ptr A o) H=(u5 l o n).map .agg:=by simp only[ldN,h];cases u5 l o n<;>rfl
theorem zMQ (b c:Bool)(H:AH)(K:AV->AH->Rs):
  jn (if b=false then some (.norm [.bool c],H)else some (.norm [qN],H)) (fun vs H=>hd vs fun y _=>bV (if b=true then some (.bool true)else some y) fun x=>K x H)=K (.bool (b||c)) H:=by
 cases b<;>simp[jn,hd,bV]
theorem zMP (p:Prop)[Decidable p](b:Bool)(H:AH)(K:AV->AH->Rs):
  jn (if ¬p then some (.norm [.bool b],H)else some (.norm [qN],H)) (fun vs H=>hd vs fun y _=>bV (if p then some (.bool true)else some y) fun x=>K x H)=K (.bool (decide p||b)) H:=by
 by_cases h:p<;>simp[h,jn,hd,bV]
theorem lg:(∀(p:Prop) [Decidable p] (b:Bool) (H:AH) (K:AV->AH->Rs),jn (if ¬p then some (.norm [.bool b],H)else some (.norm [qN],H)) (fun vs H=>hd vs fun y _=>bV (if p then some (.bool true)else some y) fun x=>K x H)=K (.bool (decide p||b)) H)/\
  (∀(p:Prop) [Decidable p] (b:Bool) (H:AH) (K:AV->AH->Rs),jn (if p then some (.norm [.bool b],H)else some (.norm [qN],H)) (fun vs H=>hd vs fun y _=>bV (if p then some y else some (.bool false)) fun x=>K x H)=K (.bool (decide p&&b)) H)/\
  (∀(p:Prop) [Decidable p] (b:Bool) (H:AH) (K:AV->AH->Rs),jn (if p then some (.norm [qN],H)else some (.norm [.bool b],H)) (fun vs H=>hd vs fun y _=>bV (if p then some (.bool true)else some y) fun x=>K x H)=K (.bool (decide p||b)) H)/\
  (∀(b c:Bool) (H:AH) (K:AV->AH->Rs),jn (if b=false then some (.norm [.bool c],H)else some (.norm [qN],H)) (fun vs H=>hd vs fun y _=>bV (if b=true then some (.bool true)else some y) fun x=>K x H)=K (.bool (b||c)) H)/\
  (∀(p:Prop) [Decidable p],(decide p=true)=p)/\(∀(p:Prop) [Decidable p],(decide p=false)= ¬p)/\(∀(b:Bool),decide (b=true)=b):=
 ⟨fun p _ b H K=>zMP p b H K,fun p _ b H K=>zMS p b H K,fun p _ b H K=>jn_or p b H K,zMQ,fun p _=>zE,fun p _=>by simp,fun b=>by simp⟩
theorem ev:(∀(v:AV) (vs:List AV) (K:AV->List AV->Rs),hd (v::vs) K=K v vs)/\
 (∀(K:Rs),nl [] K=K)/\
 (∀(v:AV) (K:AV->Rs),bV (some v) K=K v)/\
 (∀(v:AV) (H:AH) (K:AV->AH->Rs),bR (some (v,H)) K=K v H)/\
 (∀(vs:List AV) (H:AH) (K:List AV->AH->Rs),jn (some (.norm vs,H)) K=K vs H)/\
 (∀(v:AV) (H:AH) (K:List AV->AH->Rs),jn (some (.ret v,H)) K=some (.ret v,H))/\
 (∀(i:Nat) (vs:List AV) (H:AH) (K:List AV->AH->Rs),jn (some (.exit i vs,H)) K=some (.exit i vs,H))/\
 (∀(id:Nat) (vs:List AV) (H:AH) (K:List AV->AH->Rs),jb id (some (.norm vs,H)) K=K vs H)/\
 (∀(id:Nat) (v:AV) (H:AH) (K:List AV->AH->Rs),jb id (some (.ret v,H)) K=some (.ret v,H))/\
 (∀(id:Nat) (vs:List AV) (H:AH) (K:List AV->AH->Rs),jb id (some (.exit id vs,H)) K=K vs H)/\
 (∀(v:AV) (H:AH),yP (some (.ret v,H))=some (v,H))/\
 (∀(b:Bool) (x y:Rs),cnd (.bool b) x y=if b then x else y)/\
 (∀(b want:Bool) (x y:Rs),wnt (.bool b) want x y=if b=want then x else y)/\
 (∀(b:Bool) (x y:Option AV),pk3 (some (.bool b)) x y=if b then x else y)/\
 (∀(k:IntKind) (a b:Int),qO .add (.int k a) (.int k b)=some (.int k (k.wrap (a+b))))/\
 (∀(k:IntKind) (a b:Int),qO .sub (.int k a) (.int k b)=some (.int k (k.wrap (a - b))))/\
 (∀(k:IntKind) (a b:Int),qO .mul (.int k a) (.int k b)=some (.int k (k.wrap (a*b))))/\
 (∀(k:IntKind) (a b:Int),qO .eql (.int k a) (.int k b)=some (.bool (decide (a=b))))/\
 (∀(k:IntKind) (a b:Int),qO .neq (.int k a) (.int k b)=some (.bool (decide (a≠b))))/\
 (∀(k:IntKind) (a b:Int),qO .lss (.int k a) (.int k b)=some (.bool (decide (a<b))))/\
 (∀(k:IntKind) (a b:Int),qO .leq (.int k a) (.int k b)=some (.bool (decide (a<=b))))/\
 (∀(k:IntKind) (a b:Int),qO .gtr (.int k a) (.int k b)=some (.bool (decide (b<a))))/\
 (∀(k:IntKind) (a b:Int),qO .geq (.int k a) (.int k b)=some (.bool (decide (b<=a))))/\
 (∀(k k':IntKind) (z:Int),cvI k (.int k' z)=some (.int k (k.wrap z)))/\
 (∀(a b:Bool),aN .eql (.bool a) (.bool b)=some (.bool (a==b)))/\
 (∀(a b:Bool),aN .neq (.bool a) (.bool b)=some (.bool (!(a==b))))/\
 (∀(b:Bool),aun .not (.bool b)=some (.bool !b))/\
 (∀(l:Str),kN (S l)=some (.int .i64 (l.length:Nat)))/\
 (∀(l m:Str),jU .eql (S l) (S m)=some (.bool (decide (l=m))))/\
 (∀(l m:Str),jU .neq (S l) (S m)=some (.bool (decide (l≠m))))/\
 (∀(l m:Str),jU .lss (S l) (S m)=some (.bool (ltS l m)))/\
 (∀(l m:Str),jU .geq (S l) (S m)=some (.bool (!ltS l m)))/\
 (∀(A o:Nat),vC (.ptr A o)=some (.ptr A o))/\
 (∀(f A o:Nat),fAd f (.ptr A o)=some (.ptr A (o+f)))/\
 (∀(e:TypeId) (x:AV),bxV e x=some (.cells (qW x) e 1 false,fun A=> .ptr A 0))/\
 (∀(l:List AV),qW (.agg l)=l)/\
 (∀(H:AH) (l:List AV) (e sz o:Nat) (g:Bool),ld1 (.ptr H.next o) (H.push (.cells l e sz g))=l[o]?)/\
 (∀(H:AH) (l:List AV) (e sz o n:Nat) (g:Bool),ldN n (.ptr H.next o) (H.push (.cells l e sz g))=(u5 l o n).map .agg)/\
 (∀(a:AV) (l:List AV),(a::l)[0]? =some a)/\
 (∀(a:AV) (l:List AV) (i:Nat),(a::l)[i+1]? =l[i]?)/\
 (∀(n:Nat),0+n=n)/\
 (∀(n:Nat),Int.ofNat n=(n:Int))/\
 (∀(z:Int), -9223372036854775808<=z->z<=9223372036854775807->IntKind.wrap .i64 z=z):=
 ⟨fG,zEA,bVs,bRs,WP,zMO,zKP,zKQ,zMT,zKR,zBc,zCV,zM1,zMv,ZP,zII,XF,zIL,zC9,cG,zCa,zCb,zCc,zAz,zGw,zGv,zLA,yT,yO,xI,cD,cE,zHr,zL1,fun _ _=>rfl,fun _=>rfl,WL,zHG,fun _ _=>List.getElem?_cons_zero,fun _ _ _=>List.getElem?_cons_succ,Nat.zero_add,fun _=>rfl,fun _ h1 h2=>wrap_i64 h1 h2⟩
def eZ:=And.intro zD8 (And.intro ev (And.intro lg ew))
def yN (k e:Nat)(H:AH)(v:AV)(n:Nat)(l:List AV):Prop:=
 Own k e H v n l\/(l.length=n*k/\ ∃A e' g,v= .slice A 0 n (2*n)/\A<H.next/\H.h.get A=some (.cells l e' k g))
theorem yN.row {k e n:Nat}{H:AH}{v:AV}{l:List AV}(h:yN k e H v n l):Rw k H v n l:=by
 rcases h with h | ⟨h0,A,e',g,rfl,hA,hg⟩
 ·exact h.row
 ·exact⟨h0, .inr (.inr ⟨A,0,2*n,l,e',k,g,rfl,hg,hA,by omega,by rw[List.drop_zero,zK (by omega)]⟩)⟩
theorem yN.mono {k e n:Nat}{S:Nat->Prop}{H H':AH}{v:AV}{l:List AV}(h:yN k e H v n l)(s:Stp S H H')(hS: ∀A,Blk v A-> ¬S A):yN k e H' v n l:=by
 rcases h with h | ⟨h0,A,e',g,rfl,hA,hg⟩
 ·exact .inl (h.mono s hS)
 ·exact .inr ⟨h0,A,e',g,rfl,zU hA s.next,by rw[s.keep A hA (hS A (Blk.slice.2 rfl))];exact hg⟩
theorem yN.lt {k e n:Nat}{H:AH}{v:AV}{l:List AV}(h:yN k e H v n l){B:Nat}(hB:Blk v B):B<H.next:=by
 rcases h with⟨_,⟨rfl,_⟩ | ⟨A,rfl,hA,_⟩⟩ | ⟨_,A,e',g,rfl,hA,_⟩
 ·exact(Blk.nil.1 hB).elim
 ·rw[Blk.slice.1 hB];exact hA
 ·rw[Blk.slice.1 hB];exact hA
theorem yN.app1 {k e bytes n m:Nat}{H:AH}{v:AV}{l new:List AV}(hk:H.ok)(hpos:0<k)(h:yN k e H v n l)(hm:new.length=m*k)(hn:n+m<=1000000000)(hb:bytes<=1000):
  ∃v' H',Eng.app1 e k bytes m new v H=some (v',H')/\yN k e H' v' (n+m) (l++new)/\Stp (Blk v) H H'/\(∀B,Blk v' B->Blk v B\/H.next<=B):=by
 by_cases h0:m=0
 ·subst h0;have:new=[]:=zH (by simpa using hm);subst this;rcases h with h | ⟨h0,A,e',g,rfl,hA,hg⟩
  ·obtain⟨H',h1,h2,h3,h4⟩:=BL (bytes:=bytes) hk hpos h;exact⟨v,H',h1, .inl (by simpa using h2),h3.mono (fun _ _ x=>x.elim),fun B hB=> .inl hB⟩
  ·have hroom:yK l g k 0 (2*n) k=n:=by
    simp only[yK,show((2*n) % 2).beq 0=true by rw[Nat.mul_mod_right];rfl,cond_true,Nat.mul_div_cancel_left n (show 0<2 by omega)]
   have hz:Nat.blt 0 k=true:=by rw[zL];exact hpos
   have hset:setAt l (0+n*k) []=some l:=by rw[bN (by simp;omega)];simp
   have hg':(H.put A (.cells l e' k g)).h.get A=some (.cells l e' k g):=by rw[AH.put_get,if_pos rfl]
   refine⟨.slice A 0 n (2*n),H.put A (.cells l e' k g), ?_, .inr ⟨by simpa using h0,A,e',g,rfl,hA,by simpa using hg'⟩,(Stp.refl hk).put hA _ (.inr (Blk.slice.2 rfl)),fun B hB=> .inl hB⟩;simp only[Eng.app1,hg,zJS,hroom,Nat.add_zero,Nat.ble_eq_true_of_le (Nat.le_refl n),cond_true,hz,hset,zCZ,jW,yE]
 ·rcases h with h | ⟨hl,A,e',g,rfl,hA,hg⟩
  ·obtain⟨H',h1,h2,h3,h4⟩:=zCd (bytes:=bytes) hk hpos h hm (by omega) hn hb;exact⟨_,H',h1, .inl h2,h3,fun B hB=> .inr (by rw[Blk.slice.1 hB];exact Nat.le_refl _)⟩
  ·have h1:=BN (k:=k) (e:=e) (bytes:=bytes) (n:=n) (m:=m) (off:=0) (new:=new) hk hg (by omega) (by omega) hn hb;rw[List.drop_zero,zK (by omega)]at h1;refine⟨_,_,h1, .inl ⟨by simp[hl,hm,Nat.add_mul], .inr ⟨H.next,rfl,Nat.lt_succ_self _,AH.push_get_eq _ _⟩⟩,(Stp.refl hk).push _,fun B hB=> .inr (by rw[Blk.slice.1 hB];exact Nat.le_refl _)⟩
theorem yN.app {k e bytes n m:Nat}{H:AH}{v s:AV}{l new:List AV}(hk:H.ok)(hpos:0<k)(h:yN k e H v n l)(hs:srcOf k s H=some (m,new))(hm:new.length=m*k)(hc:qP new=true)(hn:n+m<=1000000000)(hb:bytes<=1000):
  ∃v' H',apP e k bytes v s H=some (v',H')/\yN k e H' v' (n+m) (l++new)/\Stp (Blk v) H H'/\(∀B,Blk v' B->Blk v B\/H.next<=B):=by
 obtain⟨v',H',h1,h2⟩:=h.app1 (bytes:=bytes) (e:=e) hk hpos hm hn hb;exact⟨v',H',by simp only[apP,hs,hc,cond_true,h1],h2⟩
theorem yN.isCell {k e n:Nat}{H:AH}{v:AV}{l:List AV}(h:yN k e H v n l):isCell v=true:=h.row.isCell
def Box (H:AH)(A:Nat)(v:AV):Prop:= ∃e,H.h.get A=some (.cells [v] e 1 false)
theorem Box.ld {H:AH}{A:Nat}{v:AV}(h:Box H A v):ld1 (.ptr A 0) H=some v:=by
 obtain⟨e,h⟩:=h;rw[qM h];rfl
theorem Box.st {H:AH}{A:Nat}{v x:AV}(h:Box H A v)(hk:H.ok)(hx:Eng.isCell x=true): ∃H',stN 1 (.ptr A 0) x H=some (qN,H')/\Box H' A x/\Stp (fun B=>B=A) H H':=by
 obtain⟨e,h⟩:=h;exact⟨_,Q7 h (by decide) hx (by simp),⟨e,by rw[AH.put_get,if_pos rfl];rfl⟩,(Stp.refl hk).put (hk.lt h) _ (.inr rfl)⟩
theorem Box.mono {S:Nat->Prop}{H H':AH}{A:Nat}{v:AV}(h:Box H A v)(hk:H.ok)(s:Stp S H H')(hA: ¬S A):Box H' A v:=by
 obtain⟨e,h⟩:=h;exact⟨e,by rw[s.keep A (hk.lt h) hA];exact h⟩
theorem Box.lt {H:AH}{A:Nat}{v:AV}(h:Box H A v)(hk:H.ok):A<H.next:=by obtain⟨e,h⟩:=h;exact hk.lt h
end Go.Eng
end
section
namespace Go.Nd
theorem rising_ix (lt:Str->Str->Bool): ∀l:List Str,rising lt l=true↔ ∀i (h:i+1<l.length),lt l[i] l[i+1]=true
 | []=>by simp[rising]
 | [a]=>by simp[rising]
 | a::b::l=>by
  have ih:=rising_ix lt (b::l);simp only[rising,z8,ih];constructor
  ·rintro⟨h1,h2⟩ i h
   cases i with
   | zero=>exact h1
   | succ i=>exact h2 i (by simpa using h)
  ·intro h;exact⟨h 0 (by simp),fun i hi=>h (i+1) (by simpa using hi)⟩
theorem rising_take {lt:Str->Str->Bool}{l:List Str}(h:rising lt l=true)(k:Nat):rising lt (l.take k)=true:=by
 rw[rising_ix]at h⊢;intro i hi;simp only[zG]at hi;simp only[List.getElem_take];exact h i (by omega)
theorem rising_drop {lt:Str->Str->Bool}{l:List Str}(h:rising lt l=true)(k:Nat):rising lt (l.drop k)=true:=by
 rw[rising_ix]at h⊢;intro i hi;simp only[zO]at hi;simp only[List.getElem_drop];exact h (k+i) (by omega)
theorem ZQ {α:Type}{f:α->Bool}{l:List α}(h:l.all f=true)(k:Nat):(l.take k).all f=true:=by
 simp only[List.all_eq_true]at h⊢;exact fun x hx=>h x (List.mem_of_mem_take hx)
theorem ZR {α:Type}{f:α->Bool}{l:List α}(h:l.all f=true)(k:Nat):(l.drop k).all f=true:=by
 simp only[List.all_eq_true]at h⊢;exact fun x hx=>h x (List.mem_of_mem_drop hx)
def cutA (n:Node)(k:Nat):Node:=if n.leaf then⟨true,n.keys.take k,n.vals.take k,[]⟩else⟨false,n.keys.take k,[],n.kids.take (k+1)⟩
def fQ (n:Node)(k:Nat):Node:=if n.leaf then⟨true,n.keys.drop k,n.vals.drop k,[]⟩else⟨false,n.keys.drop (k+1),[],n.kids.drop (k+1)⟩
def bE (a:Node)(sep:Str)(b:Node):Node:=if a.leaf then⟨true,a.keys++b.keys,a.vals++b.vals,[]⟩else⟨false,a.keys++([sep]++b.keys),[],a.kids++b.kids⟩
def cutOk (n:Node)(k:Nat):Prop:=1<=k/\k+(if n.leaf then 1 else 2)<=n.keys.length
theorem cut_shaped {lt:Str->Str->Bool}{n:Node}{k:Nat}(h:shaped lt n=true)(hk:cutOk n k):shaped lt (cutA n k)=true/\shaped lt (fQ n k)=true:=by
 obtain⟨leaf,keys,vals,kids⟩:=n;obtain⟨k1,k2⟩:=hk
 cases leaf with
 | true=>
  simp only[shaped,if_true,z8,zE]at h k2;obtain⟨⟨h1,h2⟩,⟨h3,h4⟩,h5⟩:=h;simp only[shaped,cutA,fQ,if_true,z8,zE];exact⟨⟨⟨ZQ h1 k,rising_take h2 k⟩,⟨by simp[h3],trivial⟩,ZQ h5 k⟩,⟨ZR h1 k,rising_drop h2 k⟩,⟨by simp[h3],trivial⟩,ZR h5 k⟩
 | false=>
  simp only[shaped,Bool.false_eq_true,if_false,z8,zE]at h k2;obtain⟨⟨h1,h2⟩,⟨⟨h3,h4⟩,h5⟩,h6⟩:=h;simp only[shaped,cutA,fQ,Bool.false_eq_true,if_false,z8,zE];refine⟨⟨⟨ZQ h1 k,rising_take h2 k⟩,⟨⟨?_,trivial⟩, ?_⟩,ZQ h6 _⟩,⟨ZR h1 _,rising_drop h2 _⟩,⟨⟨?_,trivial⟩, ?_⟩,ZR h6 _⟩
  ·intro e;have:=congrArg List.length e;rw[zG]at this;simp only[zV]at this;omega
  ·rw[zG,zG];omega
  ·intro e;have:=congrArg List.length e;rw[zO]at this;simp only[zV]at this;omega
  ·rw[zO,zO];omega
theorem sumL_drop_le (l:List Str)(k:Nat):yH (l.drop k)<=yH l:=by
 have:yH l=yH (l.take k)+yH (l.drop k):=by rw[<-sumL_append,List.take_append_drop]
 omega
theorem sumL_take_le (l:List Str)(k:Nat):yH (l.take k)<=yH l:=by
 have:yH l=yH (l.take k)+yH (l.drop k):=by rw[<-sumL_append,List.take_append_drop]
 omega
theorem cR (l:List Str)(k:Nat):yH l=yH (l.take k)+yH (l.drop k):=by rw[<-sumL_append,List.take_append_drop]
theorem cut_size {lt:Str->Str->Bool}{n:Node}{k:Nat}(h:shaped lt n=true)(hk:cutOk n k):size (cutA n k)<size n/\size (fQ n k)<size n:=by
 obtain⟨leaf,keys,vals,kids⟩:=n;obtain⟨k1,k2⟩:=hk;have p1:=cR keys k;have g1:=sumL_ge (keys.take k);have g2:=sumL_ge (keys.drop k);simp only[zG,zO]at g1 g2
 cases leaf with
 | true=>
  simp only[if_true]at k2;simp only[shaped,if_true,z8,zE]at h;have p2:=cR vals k;simp only[cutA,fQ,if_true,size,zV,h.2.1.2];omega
 | false=>
  simp only[Bool.false_eq_true,if_false]at k2;simp only[shaped,Bool.false_eq_true,if_false,z8,zE]at h;have h5:=h.2.1.2;have p3:=cR keys (k+1);have g3:=sumL_ge (keys.take (k+1));simp only[zG]at g3;simp only[cutA,fQ,Bool.false_eq_true,if_false,size,h.2.1.1.2,zG,zO];have:yH []=0:=rfl;omega
end Go.Nd
end
section
section
namespace Go.Eng.Sh
open Go.Nd (Ptr yH)
theorem yV (D:Dyn)(n:Nat)(s:Str)(H:AH):f78 D n [S s] H=some (.bool (Nd.mayK s),H):=by
 simp only[f78,fG,zEA,yT,bVs,zCc,zCa,zM1,zMR,WP,zMv,zHs,zBc];have h1:(Int.ofNat 1<=((s.length:Nat):Int))=(1<=s.length):=by simp;omega
 have h2:(((s.length:Nat):Int)<=Int.ofNat 40)=(s.length<=40):=by simp;omega
 simp only[h1,h2,Nd.mayK];by_cases h:1<=s.length<;>simp[h,bVs,yP]
theorem sumL_nil:yH []=0:=rfl
theorem zDF (l:List Str)(i:Nat)(hi:i<l.length):yH (l.take (i+1))=yH (l.take i)+(1+l[i].length)/\yH (l.take i)+(1+l[i].length)<=yH l:=by
 have hs:yH l=yH (l.take i)+(1+l[i].length+yH (l.drop (i+1))):=by
  rw[<-Nd.sumL_cons,<-zN hi,<-Nd.sumL_append,List.take_append_drop]
 refine⟨?_,by omega⟩;rw[fX l i hi,Nd.sumL_append,Nd.sumL_cons];simp[yH]
theorem size0 (D:Dyn)(n0:Nat){H:AH}{ks:AV}{l:List Str}(h:Strs H ks l)(x:AV)(a:Int)(n:Nat)(ha:0<=a)(hn:l.length<n)(hb:a+yH l<=1000000000000):
  qT n (zFd D n0) [x, .int .i64 a,ks, .int .i64 (l.length:Nat), .int .i64 (0:Nat)] H=some (.exit 0 [x, .int .i64 (a+yH l)],H):=by
 have key:=j8 (b:=zFd D n0) (H:=H) (r:=some (.exit 0 [x, .int .i64 (a+yH l)],H)) (fun i=>[x, .int .i64 (a+yH (l.take i)),ks, .int .i64 (l.length:Nat), .int .i64 (i:Nat)]) l.length (fun i hi=>by
  obtain⟨p,h1,h2⟩:=h.at hi;obtain⟨hs1,hs⟩:=zDF l i hi;have hge:=Nd.sumL_ge l;simp(disch:=omega) [zFd,fG,bVs,cG,zCV,hi,h1,h2,yT,ZP,wrap_i64,hs1,Int.add_assoc]) (fun n=>qU (by
  simp[zFd,fG,bVs,cG,zCV])) n hn
 simpa[sumL_nil]using key
theorem size1 (D:Dyn)(n0:Nat){H:AH}{ks:AV}{l:List Str}(h:Strs H ks l)(a:Int)(n:Nat)(ha:0<=a)(hn:l.length<n)(hb:a+yH l<=1000000000000):
  qT n (zFc D n0) [.int .i64 a,ks, .int .i64 (l.length:Nat), .int .i64 (0:Nat)] H=some (.exit 2 [.int .i64 (a+yH l)],H):=by
 have key:=j8 (b:=zFc D n0) (H:=H) (r:=some (.exit 2 [.int .i64 (a+yH l)],H)) (fun i=>[.int .i64 (a+yH (l.take i)),ks, .int .i64 (l.length:Nat), .int .i64 (i:Nat)]) l.length (fun i hi=>by
  obtain⟨p,h1,h2⟩:=h.at hi;obtain⟨hs1,hs⟩:=zDF l i hi;have hge:=Nd.sumL_ge l;simp(disch:=omega) [zFc,fG,bVs,cG,zCV,hi,h1,h2,yT,ZP,wrap_i64,hs1,Int.add_assoc]) (fun n=>qU (by
  simp[zFc,fG,bVs,cG,zCV])) n hn
 simpa[sumL_nil]using key
def y5 (p:Ptr):List AV:=[.int .i64 p.at_, .int .i64 p.birth, .int .u64 p.sum]
def uO (H:AH)(v:AV)(l:List Ptr):Prop:=Rw 3 H v l.length (l.flatMap y5)
def cK (H:AH)(v:AV)(n:Nd.Node):Prop:= ∃ks vs ps,v= .agg [.bool n.leaf,ks,vs,ps]/\Strs H ks n.keys/\Strs H vs n.vals/\uO H ps n.kids
theorem uO.lnSl {H:AH}{v:AV}{l:List Ptr}(h:uO H v l):Eng.lnSl v=some (.int .i64 (l.length:Int)):=Rw.lnSl h
theorem uO.prs {H H':AH}{v:AV}{l:List Ptr}(h:uO H v l)(s:Prs H H'):uO H' v l:=Rw.prs h s
theorem zN4: ∀(l:List Ptr) (i:Nat) (hi:i<l.length),((l.flatMap y5).drop (i*3)).take 3=y5 l[i]
 | [],i,hi=>by simp at hi
 | p::l,0,_=>rfl
 | p::l,i+1,hi=>by
  have:=zN4 l i (by simpa using hi);rw[show(i+1)*3=i*3+3 from by omega];exact this
theorem uO.at {H:AH}{v:AV}{l:List Ptr}(h:uO H v l){i:Nat}(hi:i<l.length): ∃p,(∀κ (z:Int),z=(i:Int)->jB 3 v (.int κ z)=some p)/\Eng.ldN 3 p H=some (.agg (y5 l[i])):=by
 obtain⟨p,h1,h2⟩:=Rw.ldN h hi;rw[zN4 l i hi]at h2;exact⟨p,h1,h2⟩
theorem cK.prs {H H':AH}{v:AV}{n:Nd.Node}(h:cK H v n)(s:Prs H H'):cK H' v n:=by
 obtain⟨ks,vs,ps,rfl,h1,h2,h3⟩:=h;exact⟨ks,vs,ps,rfl,h1.prs s,h2.prs s,h3.prs s⟩
def small (n:Nd.Node):Prop:=n.kids.length<=100000/\yH n.keys<=100000000/\yH n.vals<=100000000
theorem zA1 (D:Dyn)(n:Nat){H:AH}(hk:H.ok){v:AV}{nd:Nd.Node}(h:cK H v nd)(hs:small nd)(hn:200000000<=n):
  Ret (f92 D n [v] H) fun r H'=>r= .int .i64 (Nd.size nd:Nat)/\Prs H H':=by
 obtain⟨ks,vs,ps,rfl,h1,h2,h3⟩:=h;obtain⟨s1,s2,s3⟩:=hs;have hP:Prs H (H.push (.cells [.bool nd.leaf,ks,vs,ps] 111 1 false)):=(Stp.refl hk).push _;have hkl:=Nd.sumL_ge nd.keys;have hvl:=Nd.sumL_ge nd.vals;simp(disch:=omega) only[f92,ev,uG hk,h1.lnSl,h2.lnSl,h3.lnSl,size0 D n (h1.prs hP),zNa,size1 D n (h2.prs hP),zNb];apply Ret.pure;refine⟨?_,hP⟩;simp only[Nd.size,AV.int.injEq,true_and];omega
open Go.Nd (be zKI encP)
theorem JF (lt:Str->Str->Bool): ∀l:List Str,Nd.rising lt l=true↔ ∀i (h:i+1<l.length),lt l[i] l[i+1]=true
 | []=>by simp[Nd.rising]
 | [a]=>by simp[Nd.rising]
 | a::b::l=>by
  have ih:=JF lt (b::l);simp only[Nd.rising,z8,ih];constructor
  ·rintro⟨h1,h2⟩ i h
   cases i with
   | zero=>exact h1
   | succ i=>exact h2 i (by simpa using h)
  ·intro h;exact⟨h 0 (by simp),fun i hi=>h (i+1) (by simpa using hi)⟩
def zCK (l:List Str)(i:Nat):Bool:=Nd.mayK (l.getD i [])&&(decide (i=0)||ltS (l.getD (i - 1) []) (l.getD i []))
theorem zF0 (l:List Str):(List.range l.length).all (zCK l)=(l.all Nd.mayK&&Nd.rising ltS l):=by
 rw[Bool.eq_iff_iff,z8,JF];simp only[List.all_eq_true,List.mem_range,zCK,z8,Bool.or_eq_true,zE];constructor
 ·intro h;refine⟨fun x hx=> ?_,fun i hi=> ?_⟩
  ·obtain⟨i,hi,rfl⟩:=List.mem_iff_getElem.1 hx;have:=(h i hi).1;rwa[zM,zC hi]at this
  ·have:=(h (i+1) hi).2;simp only[Nat.add_eq_zero_iff,Nat.one_ne_zero,and_false,false_or,Nat.add_sub_cancel]at this;rwa[zM,zC (by omega),zM,zC hi]at this
 ·rintro⟨h1,h2⟩ i hi
  refine⟨?_, ?_⟩
  ·rw[zM,zC hi];exact h1 _ (zR hi)
  ·by_cases h0:i=0
   ·exact .inl h0
   ·right;have:=h2 (i - 1) (by omega);rw[zM,zC (show i - 1<l.length by omega),zM,zC hi];simpa[show i - 1+1=i by omega]using this
theorem BO {α:Type}(l:List α)(d:α)(f:α->Bool):(List.range l.length).all (fun i=>f (l.getD i d))=l.all f:=by
 rw[Bool.eq_iff_iff];simp only[List.all_eq_true,List.mem_range];constructor
 ·intro h x hx;obtain⟨i,hi,rfl⟩:=List.mem_iff_getElem.1 hx;have:=h i hi;rwa[zM,zC hi]at this
 ·intro h i hi;rw[zM,zC hi];exact h _ (zR hi)
theorem kW {α:Type}{l:List α}{i:Nat}{d:α}(h:i<l.length):l.getD i d=l[i]:=by rw[zM,zC h];rfl
theorem zKg (D:Dyn)(n:Nat){H:AH}{ks:AV}{l:List Str}(h:Strs H ks l){A e:Nat}{c:List AV}(hA:H.h.get A=some (.cells c e 1 false))(hc:c[1]? =some ks)(hl:l.length<=1000000000)(n':Nat)(hn:l.length<n'):
  ∃e H',qT n' (UJ D n) [.ptr A 0,ks, .int .i64 (l.length:Nat), .int .i64 (0:Nat)] H=some (e,H')/\if(List.range l.length).all (zCK l)then(e= .exit 0 [.ptr A 0]/\H'=H)else(e= .ret (.bool false)/\H'=H):=by
 refine WI l.length (zCK l) (fun i vs H'=>H'=H/\vs=[.ptr A 0,ks, .int .i64 (l.length:Nat), .int .i64 (i:Nat)]) (fun e H'=>e= .exit 0 [.ptr A 0]/\H'=H) (fun e H'=>e= .ret (.bool false)/\H'=H) ?_ ?_ ?_ n' _ H ⟨rfl,rfl⟩ hn
 ·rintro i vs H' hi ⟨rfl,rfl⟩ hg
  obtain⟨p,h1,h2⟩:=h.at hi;simp only[zCK,kW hi,z8,Bool.or_eq_true,zE]at hg;refine⟨_,H', ?_,rfl,rfl⟩;have hiI:((i:Nat):Int)< ((l.length:Nat):Int):=by omega
  by_cases h0:i=0
  ·subst h0;simp(disch:=omega) only[UJ,eZ,hiI,h1,h2,yV,hg.1,zS,show((0:Nat):Int)+((1:Nat):Int)=((0+1:Nat):Int)from rfl]
  ·have hlt:i - 1<l.length:=by omega
   obtain⟨q,q1,q2⟩:=h.at hlt;have hg2:=hg.2.resolve_left h0;rw[kW hlt]at hg2;have hsub:((i:Nat):Int) - ((1:Nat):Int)=((i - 1:Nat):Int):=by omega
   have hpos:((0:Nat):Int)< (i:Int):=by omega
   simp(disch:=omega) only[UJ,eZ,hiI,hpos,h1,h2,yV,hg.1,qM hA,hc,hsub,q1,q2,hg2,Int.natCast_add]
 ·rintro i vs H' hi ⟨rfl,rfl⟩ hg
  obtain⟨p,h1,h2⟩:=h.at hi;have hiI:((i:Nat):Int)< ((l.length:Nat):Int):=by omega
  refine⟨.ret (.bool false),H', ?_,rfl,rfl,rfl⟩;simp only[zCK,kW hi]at hg
  cases hm:Nd.mayK l[i]with
  | false=>simp(disch:=omega) only[UJ,eZ,hiI,h1,h2,yV,hm]
  | true=>
   simp only[hm,Bool.true_and,Bool.or_eq_false_iff,decide_eq_false_iff_not]at hg;have hlt:i - 1<l.length:=by omega
   obtain⟨q,q1,q2⟩:=h.at hlt;have hg2:=hg.2;rw[kW hlt]at hg2;have hsub:((i:Nat):Int) - ((1:Nat):Int)=((i - 1:Nat):Int):=by omega
   have hpos:((0:Nat):Int)< (i:Int):=by omega
   simp(disch:=omega) only[UJ,eZ,hiI,hpos,h1,h2,yV,hm,qM hA,hc,hsub,q1,q2,hg2]
 ·rintro vs H' ⟨rfl,rfl⟩
  refine⟨.exit 0 [.ptr A 0],H', ?_,rfl,rfl,rfl⟩;simp only[UJ,eZ,zS]
theorem zKf (D:Dyn)(n:Nat){H:AH}{vs:AV}{l:List Str}(h:Strs H vs l)(hl:l.length<=1000000000)(n':Nat)(hn:l.length<n'):
  ∃e H',qT n' (zFh D n) [vs, .int .i64 (l.length:Nat), .int .i64 (0:Nat)] H=some (e,H')/\if(List.range l.length).all (fun i=>decide ((l.getD i []).length<=200))then(e= .exit 2 []/\H'=H)else(e= .ret (.bool false)/\H'=H):=by
 refine WI l.length _ (fun i us H'=>H'=H/\us=[vs, .int .i64 (l.length:Nat), .int .i64 (i:Nat)]) (fun e H'=>e= .exit 2 []/\H'=H) (fun e H'=>e= .ret (.bool false)/\H'=H) ?_ ?_ ?_ n' _ H ⟨rfl,rfl⟩ hn
 ·rintro i us H' hi ⟨rfl,rfl⟩ hg
  obtain⟨p,h1,h2⟩:=h.at hi;simp only[kW hi,zE]at hg;refine⟨_,H', ?_,rfl,rfl⟩;have hiI:((i:Nat):Int)< ((l.length:Nat):Int):=by omega
  have hg': ¬((200:Nat):Int)< ((l[i].length:Nat):Int):=by omega
  simp(disch:=omega) only[zFh,eZ,hiI,h1,h2,hg',Int.natCast_add]
 ·rintro i us H' hi ⟨rfl,rfl⟩ hg
  obtain⟨p,h1,h2⟩:=h.at hi;simp only[kW hi,decide_eq_false_iff_not]at hg;refine⟨.ret (.bool false),H', ?_,rfl,rfl,rfl⟩;have hiI:((i:Nat):Int)< ((l.length:Nat):Int):=by omega
  have hg':((200:Nat):Int)< ((l[i].length:Nat):Int):=by omega
  simp(disch:=omega) only[zFh,eZ,hiI,h1,h2,hg',Int.natCast_add]
 ·rintro us H' ⟨rfl,rfl⟩
  refine⟨.exit 2 [],H', ?_,rfl,rfl,rfl⟩;simp only[zFh,eZ,zS]
def pz:Ptr:=⟨0,0,0⟩
theorem zMM (x:Ptr):(((decide (x.at_< ((1:Nat):Int))||decide (((8192:Nat):Int)<=x.at_))||decide (x.birth< ((0:Nat):Int)))||decide (((2147483647:Nat):Int)<x.birth))= !(Nd.kidOk x):=by
 rw[Bool.eq_iff_iff];simp only[Nd.kidOk,Bool.or_eq_true,zE,Bool.not_eq_true',Bool.and_eq_false_iff,decide_eq_false_iff_not];omega
theorem zGq {H':AH}(hk:H'.ok)(x:Ptr): ∃H2,stN 3 (.ptr H'.next 0) (.agg (y5 x)) (H'.push (.cells [.int .i64 (0:Nat), .int .i64 (0:Nat), .int .u64 (0:Nat)] 65 1 false))=some (qN,H2)/\Prs H' H2/\H2.next=H'.next+1/\H2.h.get H'.next=some (.cells (y5 x) 65 1 false):=by
 refine⟨_,zAV (AH.push_get_eq _ _) (by decide) rfl rfl (by decide), ?_,rfl,by rw[AH.put_get,if_pos rfl];rfl⟩;exact((Stp.refl hk).push _).fresh ((Stp.refl (hk.push _)).put (by rw[AH.push_next];omega) _ (.inr rfl)) (fun A hA=>by omega)
theorem zKe (D:Dyn)(n:Nat){H:AH}(hk:H.ok){vs:AV}{l:List Ptr}(h:uO H vs l)(hl:l.length<=1000000000)(n':Nat)(hn:l.length<n'):
  ∃e H',qT n' (zFg D n) [vs, .int .i64 (l.length:Nat), .int .i64 (0:Nat)] H=some (e,H')/\if(List.range l.length).all (fun i=>Nd.kidOk (l.getD i pz))then(e= .exit 4 []/\Prs H H')else(e= .ret (.bool false)/\Prs H H'):=by
 refine WI l.length _ (fun i us H'=>Prs H H'/\us=[vs, .int .i64 (l.length:Nat), .int .i64 (i:Nat)]) (fun e H'=>e= .exit 4 []/\Prs H H') (fun e H'=>e= .ret (.bool false)/\Prs H H') ?_ ?_ ?_ n' _ H ⟨Stp.refl hk,rfl⟩ hn
 ·rintro i us H' hi ⟨hP,rfl⟩ hg
  obtain⟨p,h1,h2⟩:=(h.prs hP).at hi;simp only[kW hi]at hg;generalize l[i]=x at hg h2;obtain⟨H2,hH2,hP2,n2,g2⟩:=zGq hP.ok x;have hiI:((i:Nat):Int)< ((l.length:Nat):Int):=by omega
  have hb:=zMM x;rw[hg]at hb;simp only[y5]at g2 hH2 h2;refine⟨_,H2, ?_,hP.trans hP2,rfl⟩;simp(disch:=omega) only[zFg,eZ,hiI,h1,h2,uG hP.ok,hH2,qM g2,hb,Int.natCast_add]
 ·rintro i us H' hi ⟨hP,rfl⟩ hg
  obtain⟨p,h1,h2⟩:=(h.prs hP).at hi;simp only[kW hi]at hg;generalize l[i]=x at hg h2;obtain⟨H2,hH2,hP2,n2,g2⟩:=zGq hP.ok x;have hiI:((i:Nat):Int)< ((l.length:Nat):Int):=by omega
  have hb:=zMM x;rw[hg]at hb;simp only[y5]at g2 hH2 h2;refine⟨.ret (.bool false),H2, ?_,rfl,rfl,hP.trans hP2⟩;simp(disch:=omega) only[zFg,eZ,hiI,h1,h2,uG hP.ok,hH2,qM g2,hb]
 ·rintro us H' ⟨hP,rfl⟩
  refine⟨.exit 4 [],H', ?_,rfl,rfl,hP⟩;simp only[zFg,eZ,zS]
theorem uV (D:Dyn)(n:Nat){H:AH}(hk:H.ok){v:AV}{nd:Nd.Node}(h:cK H v nd)(hs:small nd)(hn:200000000<=n):
  ∃H',f77 D n [v] H=some (.bool (Nd.shaped ltS nd),H')/\Prs H H':=by
 obtain⟨ks,vs,ps,rfl,h1,h2,h3⟩:=h;obtain⟨s1,s2,s3⟩:=hs;have hP:Prs H (H.push (.cells [.bool nd.leaf,ks,vs,ps] 111 1 false)):=(Stp.refl hk).push _;have hg:(H.push (.cells [.bool nd.leaf,ks,vs,ps] 111 1 false)).h.get H.next=some (.cells [.bool nd.leaf,ks,vs,ps] 111 1 false):=AH.push_get_eq _ _
 have hkl:=Nd.sumL_ge nd.keys;have hvl:=Nd.sumL_ge nd.vals;have hf:f77 D n [.agg [.bool nd.leaf,ks,vs,ps]] H=yP (jb 0 (qT n (UJ D n) [.ptr H.next 0,ks, .int .i64 (nd.keys.length:Nat), .int .i64 (0:Nat)] (H.push (.cells [.bool nd.leaf,ks,vs,ps] 111 1 false))) (UK D n)):=by
  simp only[f77,eZ,uG hk,h1.lnSl]
 rw[hf];generalize H.push (.cells [.bool nd.leaf,ks,vs,ps] 111 1 false)=H1 at hP hg;obtain⟨e0,H2,e1,e2⟩:=zKg D n (h1.prs hP) hg (by rfl) (by omega) n (by omega);rw[e1];rw[zF0]at e2;split at e2
 ·rename_i hgood;obtain⟨rfl,rfl⟩:=e2;simp only[Nd.shaped,hgood,Bool.true_and];obtain⟨leaf,keys,vals,kids⟩:=nd;simp only at h1 h2 h3 hg hkl hvl s1 s2 s3 hgood⊢
  cases leaf with
  | true=>
   by_cases hc:vals.length=keys.length/\kids.length=0
   ·obtain⟨hc1,hc2⟩:=hc;obtain⟨e3,H3,e4,e5⟩:=zKf D n (h2.prs hP) (by omega) n (by omega);have hz: ¬(((vals.length:Nat):Int)≠((keys.length:Nat):Int)):=by omega
    have hz2: ¬(((kids.length:Nat):Int)≠((0:Nat):Int)):=by omega
    have hkn:kids=[]:=zH hc2;rw[BO vals ([]:Str) (fun v=>decide (v.length<=200))]at e5;split at e5
    ·rename_i hv;obtain⟨rfl,rfl⟩:=e5;refine⟨H3, ?_,hP⟩;have hr:(decide (vals.length=keys.length)&&decide (kids=[])&&vals.all fun v=>decide (v.length<=200))=true:=by simp only[hc1,hkn,hv,decide_true,Bool.and_self]
     simp only[UK,eZ,qM hg,h1.lnSl,h2.lnSl,h3.lnSl,hz,hz2,e4,zL6,hr]
    ·rename_i hv;obtain⟨rfl,rfl⟩:=e5;refine⟨H3, ?_,hP⟩;have hr:(decide (vals.length=keys.length)&&decide (kids=[])&&vals.all fun v=>decide (v.length<=200))=false:=by simp only[Bool.eq_false_iff.2 hv,Bool.and_false]
     simp only[UK,eZ,qM hg,h1.lnSl,h2.lnSl,h3.lnSl,hz,hz2,e4,zL6,hr]
   ·refine⟨H2, ?_,hP⟩;have hr:(decide (vals.length=keys.length)&&decide (kids=[]))=false:=by
     rw[Bool.and_eq_false_iff,decide_eq_false_iff_not,decide_eq_false_iff_not];by_cases ha:vals.length=keys.length
     ·right;intro hb;exact hc ⟨ha,by rw[hb];rfl⟩
     ·exact .inl ha
    simp only[UK,eZ,qM hg,h1.lnSl,h2.lnSl,h3.lnSl,hr];rw[if_pos (by simp only[Bool.or_eq_true,zE];omega)];simp only[eZ]
  | false=>
   by_cases hc:keys.length≠0/\vals.length=0/\kids.length=keys.length+1
   ·obtain⟨hc1,hc2,hc3⟩:=hc;obtain⟨e3,H3,e4,e5⟩:=zKe D n hP.ok (h3.prs hP) (by omega) n (by omega);have hz: ¬(((keys.length:Nat):Int)=((0:Nat):Int)):=by omega
    have hz2: ¬(((vals.length:Nat):Int)≠((0:Nat):Int)):=by omega
    have hz3: ¬(((kids.length:Nat):Int)≠((keys.length:Nat):Int)+((1:Nat):Int)):=by omega
    have hvn:vals=[]:=zH hc2;have hkn:keys≠[]:=fun e=>hc1 (by rw[e];rfl)
    rw[BO kids pz Nd.kidOk]at e5;split at e5
    ·rename_i hv;obtain⟨rfl,hP3⟩:=e5;refine⟨H3, ?_,hP.trans hP3⟩;have hr:(decide (keys≠[])&&decide (vals=[])&&decide (kids.length=keys.length+1)&&kids.all Nd.kidOk)=true:=by simp only[hc3,hvn,hv,decide_eq_true hkn,decide_true,Bool.and_self]
     simp(disch:=omega) only[UK,eZ,qM hg,h1.lnSl,h2.lnSl,h3.lnSl,hz,hz2,hz3,e4,zL5,hr]
    ·rename_i hv;obtain⟨rfl,hP3⟩:=e5;refine⟨H3, ?_,hP.trans hP3⟩;have hr:(decide (keys≠[])&&decide (vals=[])&&decide (kids.length=keys.length+1)&&kids.all Nd.kidOk)=false:=by simp only[Bool.eq_false_iff.2 hv,Bool.and_false]
     simp(disch:=omega) only[UK,eZ,qM hg,h1.lnSl,h2.lnSl,h3.lnSl,hz,hz2,hz3,e4,zL5,hr]
   ·refine⟨H2, ?_,hP⟩;have hr:(decide (keys≠[])&&decide (vals=[])&&decide (kids.length=keys.length+1))=false:=by
     rw[Bool.eq_false_iff];intro hh;simp only[z8,zE]at hh;exact hc ⟨fun e=>hh.1.1 (zH e),by rw[hh.1.2];rfl,hh.2⟩
    simp(disch:=omega) only[UK,eZ,qM hg,h1.lnSl,h2.lnSl,h3.lnSl,hr];rw[if_pos (by simp only[Bool.or_eq_true,zE];omega)];simp only[eZ]
 ·rename_i hbad;obtain⟨rfl,rfl⟩:=e2;refine⟨H2, ?_,hP⟩;simp only[Nd.shaped,Bool.eq_false_iff.2 hbad,eZ]
open Go.Nd (encT)
theorem cT (a b c d:AV):u5 [a,b,c,d] 0 4=some [a,b,c,d]:=rfl
theorem qX {H:AH}(hk:H.ok){A:Nat}{l l':List AV}{e:TypeId}(h:H.h.get A=some (.cells l e 1 false))(hl:l'.length=l.length)(hc:qP l'=true):
  ∃H',stN l.length (.ptr A 0) (.agg l') H=some (qN,H')/\H'.h.get A=some (.cells l' e 1 false)/\Stp (fun B=>B=A) H H'/\H'.next=H.next:=by
 refine⟨_,zAV h (by decide) hl hc (by omega), ?_,(Stp.refl hk).put (hk.lt h) _ (.inr rfl),rfl⟩;rw[AH.put_get,if_pos rfl];simp[qW]
def XQ (H0 H:AH)(v:AV)(nd:Nd.Node):Prop:= ∃ks vs ps,v= .agg [.bool nd.leaf,ks,vs,ps]/\Own 1 9 H ks nd.keys.length (nd.keys.map S)/\Own 1 9 H vs nd.vals.length (nd.vals.map S)/\Own 3 65 H ps nd.kids.length (nd.kids.flatMap y5)/\(∀B,Blk ks B\/Blk vs B\/Blk ps B->H0.next<=B)/\(∀B,Blk ks B-> ¬Blk vs B/\ ¬Blk ps B)/\ ∀B,Blk vs B-> ¬Blk ps B
theorem cI (x:Bool)(a b c:AV)(ha:isCell a=true)(hb:isCell b=true)(hc:isCell c=true):qP [.bool x,a,b,c]=true:=by
 simp only[qP,ha,hb,hc];rfl
theorem yN.zero (k e:Nat){H:AH}{A:Nat}{e':TypeId}{g:Bool}(h:H.h.get A=some (.cells [] e' k g))(hk:H.ok):yN k e H (.slice A 0 0 0) 0 []:= .inr ⟨by simp,A,e',g,rfl,hk.lt h,h⟩
theorem BH (b:Bool):aveq (.bool b) (.bool b)=true:=by cases b<;>rfl
theorem kT (l:List Str):qP (l.map S)=true:=by
 rw[jZ];intro x hx;obtain⟨s,_,rfl⟩:=List.mem_map.1 hx;rfl
theorem xM (l:List Ptr):qP (l.flatMap y5)=true:=by
 rw[jZ];intro x hx;obtain⟨p,_,hp⟩:=List.mem_flatMap.1 hx;simp only[y5,List.mem_cons,List.not_mem_nil,or_false]at hp;rcases hp with rfl | rfl | rfl<;>rfl
theorem Rw.blk {k n:Nat}{H:AH}{v:AV}{l:List AV}(h:Rw k H v n l){B:Nat}(hB:Blk v B):B<H.next:=by
 obtain⟨_,⟨rfl,_⟩ | ⟨rfl,_⟩ | ⟨A,off,cc,c,e,sz,g,rfl,_,hlt,_⟩⟩:=h
 ·exact(Blk.nil.1 hB).elim
 ·obtain⟨_,_,_,h⟩:=hB;cases h
 ·rw[Blk.slice.1 hB];exact hlt
def yC (H:AH)(v:AV)(nd:Nd.Node):Prop:= ∃ks vs ps,v= .agg [.bool nd.leaf,ks,vs,ps]/\yN 1 9 H ks nd.keys.length (nd.keys.map S)/\yN 1 9 H vs nd.vals.length (nd.vals.map S)/\yN 3 65 H ps nd.kids.length (nd.kids.flatMap y5)
theorem yC.node {H:AH}{v:AV}{nd:Nd.Node}(h:yC H v nd):cK H v nd:=by
 obtain⟨ks,vs,ps,e,h1,h2,h3⟩:=h;exact⟨ks,vs,ps,e,h1.row,h2.row,h3.row⟩
theorem yC.prs {H H':AH}{v:AV}{nd:Nd.Node}(h:yC H v nd)(s:Prs H H'):yC H' v nd:=by
 obtain⟨ks,vs,ps,e,h1,h2,h3⟩:=h;exact⟨ks,vs,ps,e,h1.mono s (fun _ _ x=>x),h2.mono s (fun _ _ x=>x),h3.mono s (fun _ _ x=>x)⟩
theorem zNZ (x:Nat):Nat.ble 0 x=true:=by rw[zT];omega
theorem KU {k e n:Nat}{H:AH}{v:AV}{l:List AV}(h:yN k e H v n l)(hpos:0<k){i:Nat}(hi:i<=n)(κ κ':IntKind):
  ∃r,j0 k v none (some (.int κ (i:Nat))) (some (.int κ' (i:Nat))) H=some r/\Rw k H r i (l.take (i*k))/\(0<i->r≠ .nilSlice/\r≠ .emptySl):=by
 have n1:=yQ κ (z:=((i:Nat):Int)) (by omega);have n2:=yQ κ' (z:=((i:Nat):Int)) (by omega);simp only[zX]at n1 n2;have hb:Nat.blt 0 k=true:=by rw[zL];exact hpos
 have hz:Nat.beq i 0=decide (i=0):=by rw[Bool.eq_iff_iff];simp
 have hmul:i*k<=n*k:=zW _ hi;have b1:Nat.ble i n=true:=by rw[zT];exact hi
 have b2:Nat.ble i i=true:=by rw[zT];exact Nat.le_refl _
 have b3:Nat.ble 0 i=true:=by rw[zT];omega
 rcases h with⟨h0,⟨rfl,rfl⟩ | ⟨A,rfl,hA,hg⟩⟩ | ⟨h0,A,e',g,rfl,hA,hg⟩
 ·obtain rfl:i=0:=by omega
  exact⟨.nilSlice,by simp only[j0,yR,n1,n2];simp,⟨by simp, .inl ⟨rfl,rfl⟩⟩,fun h=>absurd h (by omega)⟩
 ·have hroom:yK l true k 0 1 k=n:=by
   simp only[yK,show((1 % 2).beq 0)=false from rfl,cond_false,Nat.beq_refl,show Nat.beq 0 (1 / 2*k)=true from by simp,Bool.and_self,cond_true,y9,h0,Nat.sub_zero];exact Nat.mul_div_cancel _ hpos
  by_cases hi0:i=0
  ·subst hi0;refine⟨.slice A 0 0 0, ?_,⟨by simp, .inr (.inr ⟨A,0,0,l,e,k,true,rfl,hg,hA,by simp,by simp⟩)⟩,fun h=>absurd h (by omega)⟩;simp only[j0,yR,n1,n2,hg,hb,cond_true];simp[ZS,hroom,yE,zNZ]
  ·have hz0:Nat.beq i 0=false:=by rw[hz];simpa using hi0
   refine⟨.slice A 0 i (2*i), ?_,⟨by rw[zG,h0,Nat.min_eq_left hmul], .inr (.inr ⟨A,0,2*i,l,e,k,true,rfl,hg,hA,by omega,by simp⟩)⟩,fun _=>⟨by simp,by simp⟩⟩;simp only[j0,yR,n1,n2,hg,hb,cond_true];simp[ZS,hroom,b1,b2,hz0,yE,zNZ]
 ·have hroom:yK l g k 0 (2*n) k=n:=by
   simp only[yK,show((2*n) % 2).beq 0=true by rw[Nat.mul_mod_right];rfl,cond_true,Nat.mul_div_cancel_left n (show 0<2 by omega)]
  by_cases hi0:i=0
  ·subst hi0;refine⟨.slice A 0 0 0, ?_,⟨by simp, .inr (.inr ⟨A,0,0,l,e',k,g,rfl,hg,hA,by simp,by simp⟩)⟩,fun h=>absurd h (by omega)⟩;simp only[j0,yR,n1,n2,hg,hb,cond_true];simp[ZS,hroom,yE,zNZ]
  ·have hz0:Nat.beq i 0=false:=by rw[hz];simpa using hi0
   refine⟨.slice A 0 i (2*i), ?_,⟨by rw[zG,h0,Nat.min_eq_left hmul], .inr (.inr ⟨A,0,2*i,l,e',k,g,rfl,hg,hA,by omega,by simp⟩)⟩,fun _=>⟨by simp,by simp⟩⟩;simp only[j0,yR,n1,n2,hg,hb,cond_true];simp[ZS,hroom,b1,b2,hz0,yE,zNZ]
theorem slSl_lo {k e n:Nat}{H:AH}{v:AV}{l:List AV}(h:yN k e H v n l)(hpos:0<k){i:Nat}(hi:i<n)(κ:IntKind):
  ∃r,j0 k v (some (.int κ (i:Nat))) none none H=some r/\Rw k H r (n - i) (l.drop (i*k))/\r≠ .nilSlice/\r≠ .emptySl:=by
 have n1:=yQ κ (z:=((i:Nat):Int)) (by omega);simp only[zX]at n1;have hb:Nat.blt 0 k=true:=by rw[zL];exact hpos
 have hmul:i*k<=n*k:=zW _ (by omega);have hsub:(n - i)*k=n*k - i*k:=Nat.sub_mul _ _ _;have b1:Nat.ble n n=true:=by rw[zT];exact Nat.le_refl _
 have b2:Nat.ble i n=true:=by rw[zT];omega
 have b3:Nat.blt i n=true:=by rw[zL];exact hi
 have b4:Nat.beq n i=false:=by rw[Bool.eq_false_iff];intro h;have:=Nat.eq_of_beq_eq_true h;omega
 rcases h with⟨h0,⟨rfl,rfl⟩ | ⟨A,rfl,hA,hg⟩⟩ | ⟨h0,A,e',g,rfl,hA,hg⟩
 ·omega
 ·have hroom:yK l true k 0 1 k=n:=by
   simp only[yK,show((1 % 2).beq 0)=false from rfl,cond_false,Nat.beq_refl,show Nat.beq 0 (1 / 2*k)=true from by simp,Bool.and_self,cond_true,y9,h0,Nat.sub_zero];exact Nat.mul_div_cancel _ hpos
  by_cases hi0:i=0
  ·subst hi0;refine⟨.slice A 0 n 1, ?_,⟨by simp[h0], .inr (.inr ⟨A,0,1,l,e,k,true,by simp,hg,hA,by simp[h0],by rw[Nat.sub_zero,Nat.zero_mul,List.drop_zero,zK (by omega)]⟩)⟩,by simp,by simp⟩;simp only[j0,yR,n1,hg,hb,cond_true];simp[ZS,hroom,b1,yE,zNZ,show Nat.beq 1 0=false from rfl]
  ·have hz0:Nat.beq i 0=false:=by rw[Bool.eq_false_iff];intro h;exact hi0 (Nat.eq_of_beq_eq_true h)
   refine⟨.slice A (0+i*k) (n - i) (1+2*i), ?_,⟨by simp[h0,hsub], .inr (.inr ⟨A,0+i*k,1+2*i,l,e,k,true,rfl,hg,hA,by omega,by rw[Nat.zero_add,zK (by simp[h0,hsub])]⟩)⟩,by simp,by simp⟩;simp only[j0,yR,n1,hg,hb,cond_true];simp[ZS,hroom,b1,b2,b3,hz0,yE,show Nat.beq 1 0=false from rfl]
 ·have hroom:yK l g k 0 (2*n) k=n:=by
   simp only[yK,show((2*n) % 2).beq 0=true by rw[Nat.mul_mod_right];rfl,cond_true,Nat.mul_div_cancel_left n (show 0<2 by omega)]
  have b4':Nat.beq (2*n / 2) i=false:=by rw[Nat.mul_div_cancel_left n (show 0<2 by omega)];exact b4
  refine⟨.slice A (0+i*k) (n - i) (2*(2*n / 2 - i)), ?_,⟨by simp[h0,hsub], .inr (.inr ⟨A,0+i*k,2*(2*n / 2 - i),l,e',k,g,rfl,hg,hA,by omega,by rw[Nat.zero_add,zK (by simp[h0,hsub])]⟩)⟩,by simp,by simp⟩;simp only[j0,yR,n1,hg,hb,cond_true];simp[ZS,hroom,b1,b2,b4',yE,b4]
theorem dV (D:Dyn)(n:Nat){H:AH}(hk:H.ok){v:AV}{l:List Str}(h:Strs H v l)(hn:v≠ .nilSlice)(he:v≠ .emptySl)(hl:l.length<=1000000000):
  ∃v' H',f79 D n [v] H=some (v',H')/\Prs H H'/\yN 1 9 H' v' l.length (l.map S)/\ ∀B,Blk v' B->H.next<=B:=by
 have p1:Prs H (H.push (.cells [] 9 1 false)):=(Stp.refl hk).push _;have g1:(H.push (.cells [] 9 1 false)).h.get H.next=some (.cells [] 9 1 false):=AH.push_get_eq _ _
 have n1:(H.push (.cells [] 9 1 false)).next=H.next+1:=rfl
 generalize hH1:H.push (.cells [] 9 1 false)=H1 at p1 g1 n1;obtain⟨v',H2,e2,w2,s2,f2⟩:=(yN.zero 1 9 g1 p1.ok).app (bytes:=16) p1.ok (by decide) (Rw.srcOf (h.prs p1)) (by simp) (kT _) (by omega) (by decide);have hz1:wK 9 1 0 [.str 0 0] []=some (.cells [] 9 1 false,fun A=> .slice A 0 0 0):=rfl;have heq:vI .eql (eqS v .nilSlice)=some (.bool false):=by
  obtain⟨_,⟨rfl,_⟩ | ⟨rfl,_⟩ | ⟨A,off,cc,c,e,sz,g,rfl,_⟩⟩:=h
  ·exact absurd rfl hn
  ·exact absurd rfl he
  ·rfl
 refine⟨v',H2, ?_,p1.fresh s2 (fun B hB=>by rw[Blk.slice.1 hB];exact Nat.le_refl _),by simpa using w2,fun B hB=> ?_⟩
 ·simp only[f79,eZ,heq,hz1,uG hk,hH1,e2]
 ·rcases f2 B hB with h | h
  ·rw[Blk.slice.1 h];exact Nat.le_refl _
  ·omega
theorem YB (D:Dyn)(n:Nat){H:AH}(hk:H.ok){v:AV}{l:List Ptr}(h:uO H v l)(hn:v≠ .nilSlice)(he:v≠ .emptySl)(hl:l.length<=1000000000):
  ∃v' H',f118 D n [v] H=some (v',H')/\Prs H H'/\yN 3 65 H' v' l.length (l.flatMap y5)/\ ∀B,Blk v' B->H.next<=B:=by
 have p1:Prs H (H.push (.cells [] 65 3 false)):=(Stp.refl hk).push _;have g1:(H.push (.cells [] 65 3 false)).h.get H.next=some (.cells [] 65 3 false):=AH.push_get_eq _ _
 have n1:(H.push (.cells [] 65 3 false)).next=H.next+1:=rfl
 generalize hH1:H.push (.cells [] 65 3 false)=H1 at p1 g1 n1;obtain⟨v',H2,e2,w2,s2,f2⟩:=(yN.zero 3 65 g1 p1.ok).app (bytes:=24) p1.ok (by decide) (Rw.srcOf (h.prs p1)) h.1 (xM _) (by omega) (by decide);have hz1: ∀a b c:AV,wK 65 3 0 [a,b,c] []=some (.cells [] 65 3 false,fun A=> .slice A 0 0 0):=fun _ _ _=>rfl
 have heq:vI .eql (eqS v .nilSlice)=some (.bool false):=by
  obtain⟨_,⟨rfl,_⟩ | ⟨rfl,_⟩ | ⟨A,off,cc,c,e,sz,g,rfl,_⟩⟩:=h
  ·exact absurd rfl hn
  ·exact absurd rfl he
  ·rfl
 refine⟨v',H2, ?_,p1.fresh s2 (fun B hB=>by rw[Blk.slice.1 hB];exact Nat.le_refl _),by simpa using w2,fun B hB=> ?_⟩
 ·simp only[f118,eZ,heq,hz1,uG hk,hH1,e2]
 ·rcases f2 B hB with h | h
  ·rw[Blk.slice.1 h];exact Nat.le_refl _
  ·omega
end Go.Eng.Sh
end
end
