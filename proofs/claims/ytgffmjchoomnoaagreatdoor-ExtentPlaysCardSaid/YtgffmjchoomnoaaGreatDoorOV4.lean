/- A checked evaluator for the program, and what it tells, part 4: no condition. -/
import Derived.Test.YtgffmjchoomnoaaGreatDoorOV3
import Derived.Test.YtgffmjchoomnoaaGreatDoorProg
import Derived.KernelRfl
set_option linter.all false
set_option maxHeartbeats 8000000
set_option maxRecDepth 20000
section
noncomputable section
namespace Go.Eng.Sh
open Go.Proofs
set_option maxRecDepth 100000
def s113 (D:Dyn)(n:Nat):Tb:=⟨X,[(71,f71 D n),(126,zIF D n),(73,f73 D n),(81,f81 D n)]⟩
def zFZ (D:Dyn)(n:Nat)(vs:List AV)(H:AH):Rs:=
 hd vs fun a vs=>hd vs fun b vs=>hd vs fun c vs=>hd vs fun d vs=>
 bV (ldN 4 b H) fun e=>
 bV (fAd 1 a) fun f=>
 bV (ld1 f H) fun g=>
 bV (jL 1 g d) fun h=>
 bV (ld1 h H) fun i=>
 bV (ldN 4 c H) fun k=>
 bR (stN 4 b e H) fun m H=>chk (ld1 f H) g <| chk (ld1 h H) i <| chk (ldN 4 c H) k <|
 bR (stN 4 c k H) fun o H=>
 bV (ldN 4 b H) fun p=>bV (some i) fun r=>bV (ldN 4 c H) fun t=>bV (some (.int .i64 (.ofNat 0))) fun u=>some (.ret (.tuple [p,r,t,u]),H)
def zCH (D:Dyn)(n:Nat)(vs:List AV)(H:AH):Option (AV×AH):=
 yR (hd vs fun a vs=>nl vs <|
 bA (bxV 93 a) H fun b H=>
 bA (bxV 93 (.agg [(.bool false), .nilSlice, .nilSlice, .nilSlice])) H fun c H=>
 bA (bxV 93 (.agg [(.bool false), .nilSlice, .nilSlice, .nilSlice])) H fun d H=>
 bV (ldN 4 b H) fun e=>
 bR (f71 D n [e] H) fun f H=>
 bV (aun .not f) fun g=>
 jn (wnt g false (bV (fAd 1 b) fun h=>
 bV (ld1 h H) fun i=>
 bV (lnSl i) fun k=>
 bV (qO .lss k (.int .i64 (.ofNat 2))) fun m=>
 some (.norm [m],H)) (some (.norm [qM],H))) fun vs H=>hd vs fun o vs=>
 bV (pk3 (some g) (some (.bool true)) (some o)) fun p=>
 jn (wnt p false (bV (fAd 0 b) fun r=>
 bV (ld1 r H) fun t=>
 bV (aun .not t) fun u=>
 some (.norm [u],H)) (some (.norm [qM],H))) fun vs H=>hd vs fun v vs=>
 jn (wnt v true (bV (fAd 1 b) fun w=>
 bV (ld1 w H) fun x=>
 bV (lnSl x) fun y=>
 bV (qO .lss y (.int .i64 (.ofNat 3))) fun z=>
 some (.norm [z],H)) (some (.norm [qM],H))) fun vs H=>hd vs fun B vs=>
 jn (wnt p false (bV (pk3 (some v) (some B) (some (.bool false))) fun C=>
 some (.norm [C],H)) (some (.norm [qM],H))) fun vs H=>hd vs fun E vs=>
 bV (pk3 (some p) (some (.bool true)) (some E)) fun F=>
 cnd F (bV (wB [(0,1),(1,1),(2,1),(3,1)] [(.bool false), .nilSlice, .nilSlice, .nilSlice] []) fun G=>
 bV (wB [(0,1),(1,1),(2,1),(3,1)] [(.bool false), .nilSlice, .nilSlice, .nilSlice] []) fun I=>
 bR (stN 4 c G H) fun J H=>
 bR (stN 4 d I H) fun K H=>
 bV (ldN 4 c H) fun M=>bV (some (.str 0 0)) fun N=>bV (ldN 4 d H) fun O=>bV (some (.int .i64 (.ofNat 1))) fun P=>some (.ret (.tuple [M,N,O,P]),H))
 (bV (ldN 4 b H) fun Q=>
 bR (zIF D n [Q] H) fun R H=>
 bV (fAd 0 b) fun T=>
 bV (ld1 T H) fun U=>
 bV (fAd 0 b) fun V=>
 bV (ld1 V H) fun W=>
 bV (fAd 0 c) fun Y=>
 bR (stN 1 Y U H) fun Z H=>chk (ld1 V H) W <|
 bV (fAd 0 d) fun a0=>
 bR (stN 1 a0 W H) fun a1 H=>
 bV (fAd 1 b) fun a2=>
 bV (ld1 a2 H) fun a3=>
 bV (j8 1 a3 none (some R) (some R) H) fun a4=>
 bR (f73 D n [a4] H) fun a5 H=>
 bV (fAd 1 c) fun a6=>
 bR (stN 1 a6 a5 H) fun a7 H=>
 bV (fAd 0 b) fun a8=>
 bV (ld1 a8 H) fun a9=>
 jn (cnd a9 (bV (fAd 1 b) fun b0=>
 bV (ld1 b0 H) fun b1=>
 bV (j8 1 b1 (some R) none none H) fun b2=>
 bR (f73 D n [b2] H) fun b3 H=>
 bV (fAd 1 d) fun b4=>
 bR (stN 1 b4 b3 H) fun b5 H=>
 bV (fAd 2 b) fun b6=>
 bV (ld1 b6 H) fun b7=>
 bV (j8 1 b7 none (some R) (some R) H) fun b8=>
 bV (fAd 2 b) fun b9=>
 bV (ld1 b9 H) fun c0=>
 bV (j8 1 c0 (some R) none none H) fun c1=>
 bR (f73 D n [b8] H) fun c2 H=>chk (ld1 b9 H) c0 <| chk (j8 1 c0 (some R) none none H) c1 <|
 bV (fAd 2 c) fun c3=>
 bR (f73 D n [c1] H) fun c4 H=>
 bR (stN 1 c3 c2 H) fun c5 H=>
 bV (fAd 2 d) fun c6=>
 bR (stN 1 c6 c4 H) fun c7 H=>
 some (.norm [b,c,d,R],H))
 (bV (fAd 1 b) fun c8=>
 bV (ld1 c8 H) fun c9=>
 bV (qO .add R (.int .i64 (.ofNat 1))) fun d0=>
 bV (j8 1 c9 (some d0) none none H) fun d1=>
 bR (f73 D n [d1] H) fun d2 H=>
 bV (fAd 1 d) fun d3=>
 bR (stN 1 d3 d2 H) fun d4 H=>
 bV (fAd 3 b) fun d5=>
 bV (ld1 d5 H) fun d6=>
 bV (qO .add R (.int .i64 (.ofNat 1))) fun d7=>
 bV (qO .add R (.int .i64 (.ofNat 1))) fun d8=>
 bV (j8 3 d6 none (some d7) (some d8) H) fun d9=>
 bV (fAd 3 b) fun e0=>
 bV (ld1 e0 H) fun e1=>
 bV (qO .add R (.int .i64 (.ofNat 1))) fun e2=>
 bV (j8 3 e1 (some e2) none none H) fun e3=>
 bR (f81 D n [d9] H) fun e4 H=>chk (ld1 e0 H) e1 <| chk (j8 3 e1 (some e2) none none H) e3 <|
 bV (fAd 3 c) fun e5=>
 bR (f81 D n [e3] H) fun e6 H=>
 bR (stN 1 e5 e4 H) fun e7 H=>
 bV (fAd 3 d) fun e8=>
 bR (stN 1 e8 e6 H) fun e9 H=>
 some (.norm [b,c,d,R],H))) (zFZ D n)))
def h113:Hint:=(.s .o (.s (.s .o (.cl (.s .o .o) .o)) (.s .o (.s .o (.s .o (.s (.s .o (.c [1,2,4,6] (.s .o .o) (.s .o .o))) (.s .o .o)))))))
theorem zG0 {D:Dyn}(hD:DG D)(n:Nat):FI 113 (zCH D n):=qS (n:=n) (h:=h113) X_ok hD (sc (UA hD n) (sc (zFV hD n) (sc (zBz hD n) (sc (zBy hD n) (SOk.nil))))) Tryz.func113 (by kernel_rfl) (by kernel_rfl)
def s92 (D:Dyn)(n:Nat):Tb:=⟨X,[(90,f90 D n),(113,zCH D n)]⟩
def zIu (D:Dyn)(n:Nat)(vs:List AV)(H:AH):Rs:=
 hd vs fun a vs=>hd vs fun b vs=>hd vs fun c vs=>
 bV (ldN 4 a H) fun d=>
 bR (f90 D n [d] H) fun e H=>
 bV (qO .gtr e (.int .i64 (.ofNat 500))) fun f=>
 cnd f (bV (ldN 4 a H) fun g=>
 bR (zCH D n [g] H) fun h H=>
 bV (qK h 0) fun i=>
 bV (qK h 1) fun k=>
 bV (qK h 2) fun m=>
 bV (qK h 3) fun o=>
 bA (bxV 93 (.agg [(.bool false), .nilSlice, .nilSlice, .nilSlice])) H fun p H=>
 bA (bxV 93 (.agg [(.bool false), .nilSlice, .nilSlice, .nilSlice])) H fun r H=>
 bR (stN 4 p i H) fun t H=>
 bR (stN 4 r m H) fun u H=>
 bV (qO .neq o (.int .i64 (.ofNat 0))) fun v=>
 cnd v (bV (some .nilSlice) fun w=>bV (some .nilSlice) fun x=>bV (some (.int .i64 (.ofNat 4))) fun y=>some (.ret (.tuple [w,x,y]),H))
 (bV (ldN 4 p H) fun z=>
 bA (wQ 93 4 1 [(.bool false), .nilSlice, .nilSlice, .nilSlice] [(0,z)]) H fun B H=>
 bR (apP 93 4 80 b B H) fun C H=>
 bA (wQ 9 1 1 [(.str 0 0)] [(0,k)]) H fun E H=>
 bR (apP 9 1 16 c E H) fun F H=>
 bV (ldN 4 r H) fun G=>
 bR (stN 4 a G H) fun I H=>
 some (.norm [a,C,F],H)))
 (some (.exit 0 [a,b,c],H))
def zNz (D:Dyn)(n:Nat)(vs:List AV)(H:AH):Rs:=
 hd vs fun a vs=>hd vs fun b vs=>hd vs fun c vs=>
 bV (ldN 4 a H) fun d=>
 bA (wQ 93 4 1 [(.bool false), .nilSlice, .nilSlice, .nilSlice] [(0,d)]) H fun e H=>
 bR (apP 93 4 80 b e H) fun f H=>
 bV (some f) fun g=>bV (some c) fun h=>bV (some (.int .i64 (.ofNat 0))) fun i=>some (.ret (.tuple [g,h,i]),H)
def f92 (D:Dyn)(n:Nat)(vs:List AV)(H:AH):Option (AV×AH):=
 yR (hd vs fun a vs=>nl vs <|
 bA (bxV 93 a) H fun b H=>
 jb 0 (qW n (zIu D n) [b, .nilSlice, .nilSlice] H) (zNz D n))
def h92:Hint:=(.s .o (.s .o (.s .o (.s (.b [1,5,6] (.l [1,5,6] (.s (.s .o (.cr .o .o)) (.b0 (.s .o (.s (.s .o (.cl (.s .o .o) .o)) (.s .o (.s .o .o)))))))) (.s .o .o)))))
theorem zFi {D:Dyn}(hD:DG D)(n:Nat):FI 92 (f92 D n):=qS (n:=n) (h:=h92) X_ok hD (sc (zBw hD n) (sc (zG0 hD n) (SOk.nil))) Tryz.func92 (by kernel_rfl) (by kernel_rfl)
def s94 (D:Dyn)(n:Nat):Tb:=⟨X,[(66,f66 D n)]⟩
def zFe (D:Dyn)(n:Nat)(vs:List AV)(H:AH):Rs:=
 hd vs fun a vs=>hd vs fun b vs=>hd vs fun c vs=>hd vs fun d vs=>hd vs fun e vs=>
 bV (qO .lss e d) fun f=>
 cnd f (bV (jL 4 c e) fun g=>
 bV (ldN 4 g H) fun h=>
 bA (bxV 93 (.agg [(.bool false), .nilSlice, .nilSlice, .nilSlice])) H fun i H=>
 bR (stN 4 i h H) fun k H=>
 bV (ldN 4 i H) fun m=>
 bR (f66 D n [a,m] H) fun o H=>
 bA (wQ 59 3 1 [(.int .i64 (.ofNat 0)),(.int .i64 (.ofNat 0)),(.int .u64 (.ofNat 0))] [(0,o)]) H fun p H=>
 bR (apP 59 3 24 b p H) fun r H=>
 bV (qO .add e (.int .i64 (.ofNat 1))) fun t=>
 some (.norm [a,r,c,d,t],H))
 (some (.exit 0 [b],H))
def zNv (D:Dyn)(n:Nat)(vs:List AV)(H:AH):Rs:=
 hd vs fun a vs=>
 bV (some a) fun b=>some (.ret b,H)
def f94 (D:Dyn)(n:Nat)(vs:List AV)(H:AH):Option (AV×AH):=
 yR (hd vs fun a vs=>hd vs fun b vs=>nl vs <|
 bV (lnSl b) fun c=>
 jb 0 (qW n (zFe D n) [a, .nilSlice,b,c,(.int .i64 (.ofNat 0))] H) (zNv D n))
def h94:Hint:=(.s .o (.s .o (.s (.s .o (.b [5] (.l [0,5,8,9,10] (.s .o (.s (.cr .o .o) (.s (.b0 (.s .o .o)) .o)))))) (.s .o .o))))
theorem zFf {D:Dyn}(hD:DG D)(n:Nat):FI 94 (f94 D n):=qS (n:=n) (h:=h94) X_ok hD (sc (zBB hD n) (SOk.nil)) Tryz.func94 (by kernel_rfl) (by kernel_rfl)
def s70 (D:Dyn)(n:Nat):Tb:=⟨X,[(65,f65 D n),(92,f92 D n),(94,f94 D n),(66,f66 D n)]⟩
def zLt (D:Dyn)(n:Nat)(vs:List AV)(H:AH):Rs:=
 bV (some (.int .i64 (.ofNat 0))) fun a=>some (.ret a,H)
def zLs (D:Dyn)(n:Nat)(vs:List AV)(H:AH):Rs:=
 bV (some (.int .i64 (.ofNat 0))) fun a=>some (.ret a,H)
def f70 (D:Dyn)(n:Nat)(vs:List AV)(H:AH):Option (AV×AH):=
 yR (hd vs fun a vs=>hd vs fun b vs=>nl vs <|
 bA (bxV 93 b) H fun c H=>
 bV (fAd 1 c) fun d=>
 bV (ld1 d H) fun e=>
 bV (lnSl e) fun f=>
 bV (qO .eql f (.int .i64 (.ofNat 0))) fun g=>
 cnd g (bV (fAd 0 c) fun h=>
 bV (ld1 h H) fun i=>
 jn (cnd i (bV (wB [(0,1),(1,1),(2,1)] [(.int .i64 (.ofNat 0)),(.int .i64 (.ofNat 0)),(.int .u64 (.ofNat 0))] []) fun k=>
 bR (f65 D n [a,k] H) fun m H=>
 some (.norm [],H))
 (bV (fAd 3 c) fun o=>
 bV (ld1 o H) fun p=>
 bV (jL 3 p (.int .i64 (.ofNat 0))) fun r=>
 bV (ldN 3 r H) fun t=>
 bR (f65 D n [a,t] H) fun u H=>
 some (.norm [],H))) (zLt D n))
 (bV (ldN 4 c H) fun v=>
 bR (f92 D n [v] H) fun w H=>
 bV (qK w 0) fun x=>
 bV (qK w 1) fun y=>
 bV (qK w 2) fun z=>
 bV (qO .neq z (.int .i64 (.ofNat 0))) fun B=>
 cnd B (bV (some z) fun C=>some (.ret C,H))
 (bR (f94 D n [a,x] H) fun E H=>
 bV (lnSl E) fun F=>
 bV (qO .eql F (.int .i64 (.ofNat 1))) fun G=>
 jn (cnd G (bV (jL 3 E (.int .i64 (.ofNat 0))) fun I=>
 bV (ldN 3 I H) fun J=>
 bR (f65 D n [a,J] H) fun K H=>
 some (.norm [],H))
 (bV (wB [(0,1),(1,1),(2,1),(3,1)] [(.bool false), .nilSlice, .nilSlice, .nilSlice] [(1,y),(3,E)]) fun M=>
 bR (f66 D n [a,M] H) fun N H=>
 bR (f65 D n [a,N] H) fun O H=>
 some (.norm [],H))) (zLs D n))))
def h70:Hint:=(.s .o (.s (.s .o (.cl (.s (.s .o (.c [] .o .o)) (.s .o .o)) .o)) (.s .o (.s (.s .o (.cl (.s .o .o) .o)) (.s .o (.s (.s .o (.c [] .o .o)) (.s .o .o)))))))
theorem zJN {D:Dyn}(hD:DG D)(n:Nat):FI 70 (f70 D n):=qS (n:=n) (h:=h70) X_ok hD (sc (zFw hD n) (sc (zFi hD n) (sc (zFf hD n) (sc (zBB hD n) (SOk.nil))))) Tryz.func70 (by kernel_rfl) (by kernel_rfl)
def s69 (D:Dyn)(n:Nat):Tb:=⟨X,[]⟩
def f69 (D:Dyn)(n:Nat)(vs:List AV)(H:AH):Option (AV×AH):=
 yR (hd vs fun a vs=>hd vs fun b vs=>nl vs <|
 bA (bxV 59 b) H fun c H=>
 bV (wR a) fun d=>
 bV (fAd 3 d) fun e=>
 bV (ld1 e H) fun f=>
 bV (ldN 3 c H) fun g=>
 bA (wQ 59 3 1 [(.int .i64 (.ofNat 0)),(.int .i64 (.ofNat 0)),(.int .u64 (.ofNat 0))] [(0,g)]) H fun h H=>
 bR (apP 59 3 24 f h H) fun i H=>
 bV (wR a) fun k=>
 bV (fAd 3 k) fun m=>
 bR (stN 1 m i H) fun o H=>
 some (.ret (.tuple []),H))
def h69:Hint:=(.s .o .o)
theorem zFr {D:Dyn}(hD:DG D)(n:Nat):FI 69 (f69 D n):=qS (n:=n) (h:=h69) X_ok hD (SOk.nil) Tryz.func69 (by kernel_rfl) (by kernel_rfl)
def s112 (D:Dyn)(n:Nat):Tb:=⟨X,[(72,f72 D n)]⟩
def zCU (D:Dyn)(n:Nat)(vs:List AV)(H:AH):Option (AV×AH):=
 yR (hd vs fun a vs=>hd vs fun b vs=>hd vs fun c vs=>nl vs <|
 bA (bxV 93 a) H fun d H=>
 bA (bxV 93 c) H fun e H=>
 bR (f72 D n [b] H) fun f H=>
 bV (aun .not f) fun g=>
 jn (wnt g false (bV (fAd 0 d) fun h=>
 bV (ld1 h H) fun i=>
 bV (fAd 0 e) fun k=>
 bV (ld1 k H) fun m=>
 bV (XE .neq i m) fun o=>
 some (.norm [o],H)) (some (.norm [qM],H))) fun vs H=>hd vs fun p vs=>
 bV (pk3 (some g) (some (.bool true)) (some p)) fun r=>
 cnd r (bV (some (.bool false)) fun t=>some (.ret t,H))
 (bV (fAd 1 d) fun u=>
 bV (ld1 u H) fun v=>
 bV (lnSl v) fun w=>
 bV (qO .gtr w (.int .i64 (.ofNat 0))) fun x=>
 jn (wnt x true (bV (fAd 1 d) fun y=>
 bV (ld1 y H) fun z=>
 bV (qO .sub w (.int .i64 (.ofNat 1))) fun B=>
 bV (jL 1 z B) fun C=>
 bV (ld1 C H) fun E=>
 bV (jW .geq E b) fun F=>
 some (.norm [F],H)) (some (.norm [qM],H))) fun vs H=>hd vs fun G vs=>
 bV (pk3 (some x) (some G) (some (.bool false))) fun I=>
 cnd I (bV (some (.bool false)) fun J=>some (.ret J,H))
 (bV (fAd 1 e) fun K=>
 bV (ld1 K H) fun M=>
 bV (lnSl M) fun N=>
 bV (qO .eql N (.int .i64 (.ofNat 0))) fun O=>
 cnd O (bV (some (.bool true)) fun P=>some (.ret P,H))
 (bV (fAd 1 e) fun Q=>
 bV (ld1 Q H) fun R=>
 bV (jL 1 R (.int .i64 (.ofNat 0))) fun T=>
 bV (ld1 T H) fun U=>
 bV (jW .lss b U) fun V=>
 jn (wnt V false (bV (fAd 0 d) fun W=>
 bV (ld1 W H) fun Y=>
 some (.norm [Y],H)) (some (.norm [qM],H))) fun vs H=>hd vs fun Z vs=>
 jn (wnt Z true (bV (fAd 1 e) fun a0=>
 bV (ld1 a0 H) fun a1=>
 bV (jL 1 a1 (.int .i64 (.ofNat 0))) fun a2=>
 bV (ld1 a2 H) fun a3=>
 bV (jW .eql b a3) fun a4=>
 some (.norm [a4],H)) (some (.norm [qM],H))) fun vs H=>hd vs fun a5 vs=>
 jn (wnt V false (bV (pk3 (some Z) (some a5) (some (.bool false))) fun a6=>
 some (.norm [a6],H)) (some (.norm [qM],H))) fun vs H=>hd vs fun a7 vs=>
 bV (pk3 (some V) (some (.bool true)) (some a7)) fun a8=>
 bV (some a8) fun a9=>some (.ret a9,H)))))
def h112:Hint:=(.s .o (.s (.s .o (.cl (.s .o .o) .o)) (.s (.s .o (.s .o (.cl (.s .o .o) .o))) (.s (.s .o (.cl (.s .o .o) .o)) (.s .o .o)))))
theorem zG1 {D:Dyn}(hD:DG D)(n:Nat):FI 112 (zCU D n):=qS (n:=n) (h:=h112) X_ok hD (sc (zBA hD n) (SOk.nil)) Tryz.func112 (by kernel_rfl) (by kernel_rfl)
def s110 (D:Dyn)(n:Nat):Tb:=⟨X,[]⟩
def zG4 (D:Dyn)(n:Nat)(vs:List AV)(H:AH):Rs:=
 hd vs fun a vs=>
 bV (some a) fun b=>some (.ret b,H)
def zG3 (D:Dyn)(n:Nat)(vs:List AV)(H:AH):Rs:=
 hd vs fun a vs=>hd vs fun b vs=>
 bV (zCV X 90 a) fun c=>
 bV (lnSl a) fun d=>
 bV (qO .sub c d) fun e=>
 bV (qO .sub b e) fun f=>
 bV (qO .gtr f (.int .i64 (.ofNat 0))) fun g=>
 jn (cnd g (bV (zCV X 90 a) fun h=>
 bV (j8 1 a none (some h) none H) fun i=>
 bR (apZ 9 1 16 [(.str 0 0)] i f H) fun k H=>
 bV (lnSl a) fun m=>
 bV (j8 1 k none (some m) none H) fun o=>
 some (.norm [o],H))
 (some (.norm [a],H))) (zG4 D n)
def zLI (D:Dyn)(n:Nat)(vs:List AV)(H:AH):Option (AV×AH):=
 yR (hd vs fun a vs=>hd vs fun b vs=>nl vs <|
 bV (qO .lss b (.int .i64 (.ofNat 0))) fun c=>
 jn (cnd c (none)
 (some (.norm [a,b],H))) (zG3 D n))
def h110:Hint:=(.s .o (.s (.s .o (.c [0,1] .o .o)) (.s (.s .o (.s .o (.c [0] .o .o))) (.s .o .o))))
theorem zG5 {D:Dyn}(hD:DG D)(n:Nat):FI 110 (zLI D n):=qS (n:=n) (h:=h110) X_ok hD (SOk.nil) Tryz.func110 (by kernel_rfl) (by kernel_rfl)
def s86 (D:Dyn)(n:Nat):Tb:=⟨X,[(110,zLI D n)]⟩
def zNE (D:Dyn)(n:Nat)(vs:List AV)(H:AH):Rs:=
 hd vs fun a vs=>hd vs fun b vs=>hd vs fun c vs=>hd vs fun d vs=>hd vs fun e vs=>
 bV (qO .add e (.int .i64 (.ofNat 1))) fun f=>
 some (.norm [a,b,c,d,f],H)
def zIx (D:Dyn)(n:Nat)(vs:List AV)(H:AH):Rs:=
 hd vs fun a vs=>hd vs fun b vs=>hd vs fun c vs=>hd vs fun d vs=>hd vs fun e vs=>
 bV (qO .lss e d) fun f=>
 cnd f (bV (jL 1 c e) fun g=>
 bV (ld1 g H) fun h=>
 bV (lnSl h) fun i=>
 bV (qO .add b i) fun k=>
 bV (qO .lss k (.int .i64 (.ofNat 0))) fun m=>
 jn (cnd m (none)
 (some (.norm [a,k,c,d,e],H))) (zNE D n))
 (some (.exit 0 [a,b],H))
def zFm (D:Dyn)(n:Nat)(vs:List AV)(H:AH):Rs:=
 hd vs fun a vs=>hd vs fun b vs=>hd vs fun c vs=>hd vs fun d vs=>
 bV (qO .lss d c) fun e=>
 cnd e (bV (jL 1 b d) fun f=>
 bV (ld1 f H) fun g=>
 bR (apP 9 1 16 a g H) fun h H=>
 bV (qO .add d (.int .i64 (.ofNat 1))) fun i=>
 some (.norm [h,b,c,i],H))
 (some (.exit 2 [a],H))
def zNG (D:Dyn)(n:Nat)(vs:List AV)(H:AH):Rs:=
 hd vs fun a vs=>
 bV (some a) fun b=>some (.ret b,H)
def zNF (D:Dyn)(n:Nat)(vs:List AV)(H:AH):Rs:=
 hd vs fun a vs=>hd vs fun b vs=>
 bR (zLI D n [.nilSlice,b] H) fun c H=>
 bV (lnSl a) fun d=>
 jb 2 (qW n (zFm D n) [c,a,d,(.int .i64 (.ofNat 0))] H) (zNG D n)
def f86 (D:Dyn)(n:Nat)(vs:List AV)(H:AH):Option (AV×AH):=
 yR (hd vs fun a vs=>nl vs <|
 bV (lnSl a) fun b=>
 jb 0 (qW n (zIx D n) [a,(.int .i64 (.ofNat 0)),a,b,(.int .i64 (.ofNat 0))] H) (zNF D n))
def h86:Hint:=(.s .o (.s .o (.s (.s .o (.b [0,3] (.l [0,3,9,10,11] (.s .o (.s (.cr .o .o) (.s (.b0 (.s .o (.s .o (.s .o (.c [0,3,9,10,11] .o .o))))) .o)))))) (.s .o (.s (.s .o (.b [6] (.l [6,25,26,27] (.s .o (.s (.cr .o .o) (.s (.b0 (.s .o .o)) .o)))))) (.s .o .o))))))
theorem zBx {D:Dyn}(hD:DG D)(n:Nat):FI 86 (f86 D n):=qS (n:=n) (h:=h86) X_ok hD (sc (zG5 hD n) (SOk.nil)) Tryz.func86 (by kernel_rfl) (by kernel_rfl)
def s114 (D:Dyn)(n:Nat):Tb:=⟨X,[]⟩
def zFX (D:Dyn)(n:Nat)(vs:List AV)(H:AH):Rs:=
 hd vs fun a vs=>
 bV (some a) fun b=>some (.ret b,H)
def zFW (D:Dyn)(n:Nat)(vs:List AV)(H:AH):Rs:=
 hd vs fun a vs=>hd vs fun b vs=>
 bV (zCV X 91 a) fun c=>
 bV (lnSl a) fun d=>
 bV (qO .sub c d) fun e=>
 bV (qO .sub b e) fun f=>
 bV (qO .gtr f (.int .i64 (.ofNat 0))) fun g=>
 jn (cnd g (bV (zCV X 91 a) fun h=>
 bV (j8 3 a none (some h) none H) fun i=>
 bR (apZ 59 3 24 [(.int .i64 (.ofNat 0)),(.int .i64 (.ofNat 0)),(.int .u64 (.ofNat 0))] i f H) fun k H=>
 bV (lnSl a) fun m=>
 bV (j8 3 k none (some m) none H) fun o=>
 some (.norm [o],H))
 (some (.norm [a],H))) (zFX D n)
def zLH (D:Dyn)(n:Nat)(vs:List AV)(H:AH):Option (AV×AH):=
 yR (hd vs fun a vs=>hd vs fun b vs=>nl vs <|
 bV (qO .lss b (.int .i64 (.ofNat 0))) fun c=>
 jn (cnd c (none)
 (some (.norm [a,b],H))) (zFW D n))
def h114:Hint:=(.s .o (.s (.s .o (.c [0,1] .o .o)) (.s (.s .o (.s .o (.c [0] .o .o))) (.s .o .o))))
theorem zFY {D:Dyn}(hD:DG D)(n:Nat):FI 114 (zLH D n):=qS (n:=n) (h:=h114) X_ok hD (SOk.nil) Tryz.func114 (by kernel_rfl) (by kernel_rfl)
def s93 (D:Dyn)(n:Nat):Tb:=⟨X,[(114,zLH D n)]⟩
def zNw (D:Dyn)(n:Nat)(vs:List AV)(H:AH):Rs:=
 hd vs fun a vs=>hd vs fun b vs=>hd vs fun c vs=>hd vs fun d vs=>hd vs fun e vs=>
 bV (qO .add e (.int .i64 (.ofNat 1))) fun f=>
 some (.norm [a,b,c,d,f],H)
def zIt (D:Dyn)(n:Nat)(vs:List AV)(H:AH):Rs:=
 hd vs fun a vs=>hd vs fun b vs=>hd vs fun c vs=>hd vs fun d vs=>hd vs fun e vs=>
 bV (qO .lss e d) fun f=>
 cnd f (bV (jL 1 c e) fun g=>
 bV (ld1 g H) fun h=>
 bV (lnSl h) fun i=>
 bV (qO .add b i) fun k=>
 bV (qO .lss k (.int .i64 (.ofNat 0))) fun m=>
 jn (cnd m (none)
 (some (.norm [a,k,c,d,e],H))) (zNw D n))
 (some (.exit 0 [a,b],H))
def zFg (D:Dyn)(n:Nat)(vs:List AV)(H:AH):Rs:=
 hd vs fun a vs=>hd vs fun b vs=>hd vs fun c vs=>hd vs fun d vs=>
 bV (qO .lss d c) fun e=>
 cnd e (bV (jL 1 b d) fun f=>
 bV (ld1 f H) fun g=>
 bR (apP 59 3 24 a g H) fun h H=>
 bV (qO .add d (.int .i64 (.ofNat 1))) fun i=>
 some (.norm [h,b,c,i],H))
 (some (.exit 2 [a],H))
def zNy (D:Dyn)(n:Nat)(vs:List AV)(H:AH):Rs:=
 hd vs fun a vs=>
 bV (some a) fun b=>some (.ret b,H)
def zNx (D:Dyn)(n:Nat)(vs:List AV)(H:AH):Rs:=
 hd vs fun a vs=>hd vs fun b vs=>
 bR (zLH D n [.nilSlice,b] H) fun c H=>
 bV (lnSl a) fun d=>
 jb 2 (qW n (zFg D n) [c,a,d,(.int .i64 (.ofNat 0))] H) (zNy D n)
def f93 (D:Dyn)(n:Nat)(vs:List AV)(H:AH):Option (AV×AH):=
 yR (hd vs fun a vs=>nl vs <|
 bV (lnSl a) fun b=>
 jb 0 (qW n (zIt D n) [a,(.int .i64 (.ofNat 0)),a,b,(.int .i64 (.ofNat 0))] H) (zNx D n))
def h93:Hint:=(.s .o (.s .o (.s (.s .o (.b [0,3] (.l [0,3,9,10,11] (.s .o (.s (.cr .o .o) (.s (.b0 (.s .o (.s .o (.s .o (.c [0,3,9,10,11] .o .o))))) .o)))))) (.s .o (.s (.s .o (.b [6] (.l [6,25,26,27] (.s .o (.s (.cr .o .o) (.s (.b0 (.s .o .o)) .o)))))) (.s .o .o))))))
theorem zFh {D:Dyn}(hD:DG D)(n:Nat):FI 93 (f93 D n):=qS (n:=n) (h:=h93) X_ok hD (sc (zFY hD n) (SOk.nil)) Tryz.func93 (by kernel_rfl) (by kernel_rfl)
def s91 (D:Dyn)(n:Nat):Tb:=⟨X,[(71,f71 D n),(112,zCU D n),(86,f86 D n),(93,f93 D n)]⟩
def f91 (D:Dyn)(n:Nat)(vs:List AV)(H:AH):Option (AV×AH):=
 yR (hd vs fun a vs=>hd vs fun b vs=>hd vs fun c vs=>nl vs <|
 bA (bxV 93 a) H fun d H=>
 bA (bxV 93 c) H fun e H=>
 bA (bxV 93 (.agg [(.bool false), .nilSlice, .nilSlice, .nilSlice])) H fun f H=>
 bV (ldN 4 d H) fun g=>
 bR (f71 D n [g] H) fun h H=>
 bV (aun .not h) fun i=>
 jn (wnt i false (bV (ldN 4 e H) fun k=>
 bR (f71 D n [k] H) fun m H=>
 bV (aun .not m) fun o=>
 some (.norm [o],H)) (some (.norm [qM],H))) fun vs H=>hd vs fun p vs=>
 bV (pk3 (some i) (some (.bool true)) (some p)) fun r=>
 jn (wnt r false (bV (ldN 4 d H) fun t=>
 bV (ldN 4 e H) fun u=>
 bR (zCU D n [t,b,u] H) fun v H=>
 bV (aun .not v) fun w=>
 some (.norm [w],H)) (some (.norm [qM],H))) fun vs H=>hd vs fun x vs=>
 bV (pk3 (some r) (some (.bool true)) (some x)) fun y=>
 cnd y (bV (wB [(0,1),(1,1),(2,1),(3,1)] [(.bool false), .nilSlice, .nilSlice, .nilSlice] []) fun z=>
 bR (stN 4 f z H) fun B H=>
 bV (ldN 4 f H) fun C=>bV (some (.int .i64 (.ofNat 1))) fun E=>some (.ret (.tuple [C,E]),H))
 (bV (fAd 0 d) fun F=>
 bV (ld1 F H) fun G=>
 cnd G (bV (fAd 1 d) fun I=>
 bV (ld1 I H) fun J=>
 bV (fAd 1 e) fun K=>
 bV (ld1 K H) fun M=>
 bA (wQ 90 1 2 [.nilSlice] [(0,J),(1,M)]) H fun N H=>
 bV (fAd 2 d) fun O=>
 bV (ld1 O H) fun P=>
 bV (fAd 2 e) fun Q=>
 bV (ld1 Q H) fun R=>
 bA (wQ 90 1 2 [.nilSlice] [(0,P),(1,R)]) H fun T H=>
 bR (f86 D n [N] H) fun U H=>chk (ld1 O H) P <| chk (ld1 Q H) R <|
 bR (f86 D n [T] H) fun V H=>
 bV (wB [(0,1),(1,1),(2,1),(3,1)] [(.bool false), .nilSlice, .nilSlice, .nilSlice] [(0,(.bool true)),(1,U),(2,V)]) fun W=>
 bR (stN 4 f W H) fun Y H=>
 bV (ldN 4 f H) fun Z=>bV (some (.int .i64 (.ofNat 0))) fun a0=>some (.ret (.tuple [Z,a0]),H))
 (bV (fAd 1 d) fun a1=>
 bV (ld1 a1 H) fun a2=>
 bA (wQ 9 1 1 [(.str 0 0)] [(0,b)]) H fun a3 H=>
 bV (fAd 1 e) fun a4=>
 bV (ld1 a4 H) fun a5=>
 bA (wQ 90 1 3 [.nilSlice] [(0,a2),(1,a3),(2,a5)]) H fun a6 H=>
 bV (fAd 3 d) fun a7=>
 bV (ld1 a7 H) fun a8=>
 bV (fAd 3 e) fun a9=>
 bV (ld1 a9 H) fun b0=>
 bA (wQ 91 1 2 [.nilSlice] [(0,a8),(1,b0)]) H fun b1 H=>
 bR (f86 D n [a6] H) fun b2 H=>chk (ld1 a7 H) a8 <| chk (ld1 a9 H) b0 <|
 bR (f93 D n [b1] H) fun b3 H=>
 bV (wB [(0,1),(1,1),(2,1),(3,1)] [(.bool false), .nilSlice, .nilSlice, .nilSlice] [(1,b2),(3,b3)]) fun b4=>
 bR (stN 4 f b4 H) fun b5 H=>
 bV (ldN 4 f H) fun b6=>bV (some (.int .i64 (.ofNat 0))) fun b7=>some (.ret (.tuple [b6,b7]),H))))
def h91:Hint:=(.s .o (.s (.s .o (.cl (.s .o .o) .o)) (.s (.s .o (.cl (.s .o .o) .o)) (.s .o .o))))
theorem zJG {D:Dyn}(hD:DG D)(n:Nat):FI 91 (f91 D n):=qS (n:=n) (h:=h91) X_ok hD (sc (UA hD n) (sc (zG1 hD n) (sc (zBx hD n) (sc (zFh hD n) (SOk.nil))))) Tryz.func91 (by kernel_rfl) (by kernel_rfl)
def s68 (D:Dyn)(n:Nat):Tb:=⟨X,[(90,f90 D n),(48,f48 D n),(69,f69 D n),(91,f91 D n),(92,f92 D n),(86,f86 D n),(94,f94 D n),(93,f93 D n)]⟩
def zLv (D:Dyn)(n:Nat)(vs:List AV)(H:AH):Rs:=
 hd vs fun a vs=>hd vs fun b vs=>hd vs fun c vs=>hd vs fun d vs=>hd vs fun e vs=>hd vs fun f vs=>hd vs fun g vs=>
 bV (qO .neq g (.int .i64 (.ofNat 0))) fun h=>
 cnd h (bV (wB [(0,1),(1,1),(2,1),(3,1)] [(.bool false), .nilSlice, .nilSlice, .nilSlice] []) fun i=>
 bR (stN 4 d i H) fun k H=>
 bV (ldN 4 d H) fun m=>bV (some (.int .i64 (.ofNat 4))) fun o=>some (.ret (.tuple [m,o]),H))
 (some (.norm [a,b,c,d,e,f],H))
def zLu (D:Dyn)(n:Nat)(vs:List AV)(H:AH):Rs:=
 hd vs fun a vs=>hd vs fun b vs=>hd vs fun c vs=>hd vs fun d vs=>hd vs fun e vs=>hd vs fun f vs=>
 bV (wR a) fun g=>
 bV (fAd 0 g) fun h=>
 bV (ld1 h H) fun i=>
 bV (fAd 3 c) fun k=>
 bV (ld1 k H) fun m=>
 bV (jL 3 m f) fun o=>
 bV (ldN 3 o H) fun p=>
 bA (bxV 93 (.agg [(.bool false), .nilSlice, .nilSlice, .nilSlice])) H fun r H=>
 bR (f48 D n [i,p] H) fun t H=>
 bV (qK t 0) fun u=>
 bV (qK t 1) fun v=>
 bR (stN 4 r u H) fun w H=>
 bV (qO .neq v (.int .i64 (.ofNat 0))) fun x=>
 cnd x (bV (wB [(0,1),(1,1),(2,1),(3,1)] [(.bool false), .nilSlice, .nilSlice, .nilSlice] []) fun y=>
 bR (stN 4 e y H) fun z H=>
 bV (ldN 4 e H) fun B=>bV (some v) fun C=>some (.ret (.tuple [B,C]),H))
 (bV (fAd 3 c) fun E=>
 bV (ld1 E H) fun F=>
 bV (jL 3 F f) fun G=>
 bV (ldN 3 G H) fun I=>
 bR (f69 D n [a,I] H) fun J H=>
 bV (mn2 b f) fun K=>
 bV (mx2 b f) fun M=>
 bV (qO .add M (.int .i64 (.ofNat 1))) fun N=>
 bV (qO .lss f b) fun O=>
 jn (cnd O (bV (ldN 4 r H) fun P=>
 bV (fAd 1 c) fun Q=>
 bV (ld1 Q H) fun R=>
 bV (jL 1 R K) fun T=>
 bV (ld1 T H) fun U=>
 bV (ldN 4 d H) fun V=>
 bR (f91 D n [P,U,V] H) fun W H=>
 bV (qK W 0) fun Y=>
 bV (qK W 1) fun Z=>
 bR (stN 4 d Y H) fun a0 H=>
 some (.norm [a,c,d,e,K,N,Z],H))
 (bV (ldN 4 d H) fun a1=>
 bV (fAd 1 c) fun a2=>
 bV (ld1 a2 H) fun a3=>
 bV (jL 1 a3 K) fun a4=>
 bV (ld1 a4 H) fun a5=>
 bV (ldN 4 r H) fun a6=>
 bR (f91 D n [a1,a5,a6] H) fun a7 H=>
 bV (qK a7 0) fun a8=>
 bV (qK a7 1) fun a9=>
 bR (stN 4 d a8 H) fun b0 H=>
 some (.norm [a,c,d,e,K,N,a9],H))) (zLv D n))
def zFs (D:Dyn)(n:Nat)(vs:List AV)(H:AH):Rs:=
 hd vs fun a vs=>hd vs fun b vs=>hd vs fun c vs=>hd vs fun d vs=>hd vs fun e vs=>hd vs fun f vs=>
 bV (ldN 4 c H) fun g=>
 bR (f92 D n [g] H) fun h H=>
 bV (qK h 0) fun i=>
 bV (qK h 1) fun k=>
 bV (qK h 2) fun m=>
 bV (qO .neq m (.int .i64 (.ofNat 0))) fun o=>
 cnd o (bV (wB [(0,1),(1,1),(2,1),(3,1)] [(.bool false), .nilSlice, .nilSlice, .nilSlice] []) fun p=>
 bR (stN 4 d p H) fun r H=>
 bV (ldN 4 d H) fun t=>bV (some m) fun u=>some (.ret (.tuple [t,u]),H))
 (bV (fAd 1 b) fun v=>
 bV (ld1 v H) fun w=>
 bV (j8 1 w none (some e) (some e) H) fun x=>
 bV (fAd 1 b) fun y=>
 bV (ld1 y H) fun z=>
 bV (qO .sub f (.int .i64 (.ofNat 1))) fun B=>
 bV (j8 1 z (some B) none none H) fun C=>
 bA (wQ 90 1 3 [.nilSlice] [(0,x),(1,k),(2,C)]) H fun E H=>
 bV (fAd 3 b) fun F=>
 bV (ld1 F H) fun G=>
 bV (j8 3 G none (some e) (some e) H) fun I=>
 bV (fAd 3 b) fun J=>
 bV (ld1 J H) fun K=>
 bV (j8 3 K (some f) none none H) fun M=>
 bR (f86 D n [E] H) fun N H=>chk (ld1 F H) G <| chk (j8 3 G none (some e) (some e) H) I <| chk (ld1 J H) K <| chk (j8 3 K (some f) none none H) M <|
 bR (f94 D n [a,i] H) fun O H=>chk (ld1 F H) G <| chk (j8 3 G none (some e) (some e) H) I <| chk (ld1 J H) K <| chk (j8 3 K (some f) none none H) M <|
 bA (wQ 91 1 3 [.nilSlice] [(0,I),(1,O),(2,M)]) H fun P H=>
 bR (f93 D n [P] H) fun Q H=>
 bV (wB [(0,1),(1,1),(2,1),(3,1)] [(.bool false), .nilSlice, .nilSlice, .nilSlice] [(1,N),(3,Q)]) fun R=>
 bR (stN 4 d R H) fun T H=>
 bV (ldN 4 d H) fun U=>bV (some (.int .i64 (.ofNat 0))) fun V=>some (.ret (.tuple [U,V]),H))
def f68 (D:Dyn)(n:Nat)(vs:List AV)(H:AH):Option (AV×AH):=
 yR (hd vs fun a vs=>hd vs fun b vs=>hd vs fun c vs=>hd vs fun d vs=>nl vs <|
 bA (bxV 93 b) H fun e H=>
 bA (bxV 93 d) H fun f H=>
 bA (bxV 93 (.agg [(.bool false), .nilSlice, .nilSlice, .nilSlice])) H fun g H=>
 bV (qO .add c (.int .i64 (.ofNat 1))) fun h=>
 bV (ldN 4 f H) fun i=>
 bR (f90 D n [i] H) fun k H=>
 bV (qO .lss k (.int .i64 (.ofNat 160))) fun m=>
 jn (cnd m (bV (qO .sub c (.int .i64 (.ofNat 1))) fun o=>
 bV (qO .eql c (.int .i64 (.ofNat 0))) fun p=>
 jn (cnd p (some (.norm [a,c,e,f,g,(.int .i64 (.ofNat 1))],H))
 (some (.norm [a,c,e,f,g,o],H))) (zLu D n))
 (some (.norm [a,e,f,g,c,h],H))) (zFs D n))
def h68:Hint:=(.s .o (.s .o (.s (.s .o (.c [0,5,7,8,10,11] (.s .o (.s (.s .o (.c [0,2,5,7,8,12] .o .o)) (.s .o (.s (.s .o (.cl (.s .o .o) .o)) (.s .o (.s .o (.s (.s .o (.c [0,5,7,8,10,11,14] .o .o)) (.s .o (.cl (.s .o .o) .o))))))))) .o)) (.s .o (.s (.s .o (.cl (.s .o .o) .o)) (.s .o .o))))))
theorem zJO {D:Dyn}(hD:DG D)(n:Nat):FI 68 (f68 D n):=qS (n:=n) (h:=h68) X_ok hD (sc (zBw hD n) (sc (UC hD n) (sc (zFr hD n) (sc (zJG hD n) (sc (zFi hD n) (sc (zBx hD n) (sc (zFf hD n) (sc (zFh hD n) (SOk.nil))))))))) Tryz.func68 (by kernel_rfl) (by kernel_rfl)
def s67 (D:Dyn)(n:Nat):Tb:=⟨X,[(47,f47 D n),(48,f48 D n),(50,f50 D n),(68,f68 D n),(69,f69 D n)]⟩
def zFt (D:Dyn)(n:Nat)(vs:List AV)(H:AH):Rs:=
 hd vs fun a vs=>hd vs fun b vs=>hd vs fun c vs=>hd vs fun d vs=>hd vs fun e vs=>
 some (.norm [a,b,c,d,e],H)
def UB (D:Dyn)(n:Nat)(vs:List AV)(H:AH):Rs:=
 hd vs fun a vs=>hd vs fun b vs=>hd vs fun c vs=>hd vs fun d vs=>hd vs fun e vs=>
 bV (qO .neq e (.int .i64 (.ofNat 0))) fun f=>
 cnd f (bV (wB [(0,1),(1,1),(2,1),(3,1)] [(.bool false), .nilSlice, .nilSlice, .nilSlice] []) fun g=>
 bR (stN 4 c g H) fun h H=>
 bV (ldN 4 c H) fun i=>bV (some e) fun k=>some (.ret (.tuple [i,k]),H))
 (bV (ld1 a H) fun m=>
 bV (ldN 3 b H) fun o=>
 bR (f69 D n [m,o] H) fun p H=>
 bV (ldN 4 d H) fun r=>
 bR (stN 4 c r H) fun t H=>
 bV (ldN 4 c H) fun u=>bV (some (.int .i64 (.ofNat 0))) fun v=>some (.ret (.tuple [u,v]),H))
def f67 (D:Dyn)(n:Nat)(vs:List AV)(H:AH):Option (AV×AH):=
 yR (hd vs fun a vs=>hd vs fun b vs=>hd vs fun c vs=>hd vs fun d vs=>hd vs fun e vs=>hd vs fun f vs=>hd vs fun g vs=>nl vs <|
 bA (bxV 59 a) H fun h H=>
 bA (bxV 93 (.agg [(.bool false), .nilSlice, .nilSlice, .nilSlice])) H fun i H=>
 bV (ld1 b H) fun k=>
 bV (qO .add k (.int .i64 (.ofNat 1))) fun m=>
 bR (stN 1 b m H) fun o H=>
 bV (ld1 b H) fun p=>
 bV (ld1 c H) fun r=>
 bR (f47 D n [r] H) fun t H=>chk (ld1 b H) p <|
 bV (qO .gtr p t) fun u=>
 cnd u (bV (wB [(0,1),(1,1),(2,1),(3,1)] [(.bool false), .nilSlice, .nilSlice, .nilSlice] []) fun v=>
 bR (stN 4 i v H) fun w H=>
 bV (ldN 4 i H) fun x=>bV (some (.int .i64 (.ofNat 4))) fun y=>some (.ret (.tuple [x,y]),H))
 (bV (ld1 c H) fun z=>
 bV (ldN 3 h H) fun B=>
 bR (f48 D n [z,B] H) fun C H=>
 bV (qK C 0) fun E=>
 bV (qK C 1) fun F=>
 bA (bxV 93 (.agg [(.bool false), .nilSlice, .nilSlice, .nilSlice])) H fun G H=>
 bR (stN 4 G E H) fun I H=>
 bV (qO .neq F (.int .i64 (.ofNat 0))) fun J=>
 cnd J (bV (wB [(0,1),(1,1),(2,1),(3,1)] [(.bool false), .nilSlice, .nilSlice, .nilSlice] []) fun K=>
 bR (stN 4 i K H) fun M H=>
 bV (ldN 4 i H) fun N=>bV (some F) fun O=>some (.ret (.tuple [N,O]),H))
 (bV (fAd 0 G) fun P=>
 bV (ld1 P H) fun Q=>
 jn (cnd Q (bV (ld1 d H) fun R=>
 bV (ldN 4 G H) fun T=>
 bR (callV (s67 D n).S D R [T] H) fun U H=>
 bV (qK U 0) fun V=>
 bV (qK U 1) fun W=>
 bR (stN 4 G V H) fun Y H=>
 some (.norm [g,h,i,G,W],H))
 (bV (ldN 4 G H) fun Z=>
 bV (ld1 e H) fun a0=>
 bR (f50 D n [Z,a0] H) fun a1 H=>
 bA (bxV 93 (.agg [(.bool false), .nilSlice, .nilSlice, .nilSlice])) H fun a2 H=>
 bV (ld1 f H) fun a3=>
 bV (fAd 3 G) fun a4=>
 bV (ld1 a4 H) fun a5=>
 bV (jL 3 a5 a1) fun a6=>
 bV (ldN 3 a6 H) fun a7=>
 bR (callV (s67 D n).S D a3 [a7] H) fun a8 H=>
 bV (qK a8 0) fun a9=>
 bV (qK a8 1) fun b0=>
 bR (stN 4 a2 a9 H) fun b1 H=>
 bV (qO .eql b0 (.int .i64 (.ofNat 0))) fun b2=>
 jn (cnd b2 (bV (ld1 g H) fun b3=>
 bV (ldN 4 G H) fun b4=>
 bV (ldN 4 a2 H) fun b5=>
 bR (f68 D n [b3,b4,a1,b5] H) fun b6 H=>
 bV (qK b6 0) fun b7=>
 bV (qK b6 1) fun b8=>
 bR (stN 4 G b7 H) fun b9 H=>
 some (.norm [g,h,i,G,b8],H))
 (some (.norm [g,h,i,G,b0],H))) (zFt D n))) (UB D n))))
def h67:Hint:=(.s .o (.s (.s .o (.s .o (.cl (.s .o .o) .o))) (.s .o (.s (.s .o (.cl (.s .o .o) .o)) (.s (.s .o (.c [6,7,8,10,11] .o (.s .o (.s .o (.s .o (.s .o (.c [6,7,8,10,11] .o .o))))))) (.s (.s .o (.cl (.s .o .o) .o)) (.s .o (.s .o .o))))))))
theorem zNM {D:Dyn}(hD:DG D)(n:Nat):FI 67 (f67 D n):=qS (n:=n) (h:=h67) X_ok hD (sc (zFC hD n) (sc (UC hD n) (sc (aW hD n) (sc (zJO hD n) (sc (zFr hD n) (SOk.nil)))))) Tryz.func67 (by kernel_rfl) (by kernel_rfl)
def s44 (D:Dyn)(n:Nat):Tb:=⟨X,[(66,f66 D n),(65,f65 D n),(70,f70 D n)]⟩
def f44 (D:Dyn)(n:Nat)(vs:List AV)(H:AH):Option (AV×AH):=
 yR (hd vs fun a vs=>hd vs fun b vs=>hd vs fun c vs=>nl vs <|
 bA (bxV 25 a) H fun d H=>
 bA (bxV 9 b) H fun e H=>
 bA (bxV 96 c) H fun f H=>
 bV (ld1 d H) fun g=>
 bV (ld1 d H) fun h=>
 bV (wR h) fun i=>
 bV (fAd 6 i) fun k=>
 bV (ld1 k H) fun m=>
 bA (mkM [10]) H fun o H=>
 bV (wB [(0,1),(1,1),(2,1),(3,1)] [.nilPtr,(.int .u64 (.ofNat 0)), .nilMap, .nilSlice] [(0,g),(1,m),(2,o)]) fun p=>
 bA (bxV 120 p) H fun r H=>
 bA (bxV 118 .nilPtr) H fun t H=>
 bR (stN 1 t r H) fun u H=>
 bV (ld1 d H) fun v=>
 bV (wR v) fun w=>
 bV (fAd 2 w) fun x=>
 bV (fAd 0 x) fun y=>
 bV (ld1 y H) fun z=>
 bV (qO .eql z (.int .i64 (.ofNat 0))) fun B=>
 cnd B (bV (ld1 f H) fun C=>
 bV (wB [(0,1),(1,1),(2,1),(3,1)] [(.bool false), .nilSlice, .nilSlice, .nilSlice] [(0,(.bool true))]) fun E=>
 bR (callV (s44 D n).S D C [E] H) fun F H=>
 bV (qK F 0) fun G=>
 bV (qK F 1) fun I=>
 bA (bxV 93 (.agg [(.bool false), .nilSlice, .nilSlice, .nilSlice])) H fun J H=>
 bR (stN 4 J G H) fun K H=>
 bV (qO .neq I (.int .i64 (.ofNat 0))) fun M=>
 cnd M (bV (some I) fun N=>some (.ret N,H))
 (bV (ld1 t H) fun O=>
 bV (ld1 t H) fun P=>
 bV (ldN 4 J H) fun Q=>
 bR (f66 D n [P,Q] H) fun R H=>chk (ld1 t H) O <|
 bR (f65 D n [O,R] H) fun T H=>
 bV (some (.int .i64 (.ofNat 0))) fun U=>some (.ret U,H)))
 (bA (bxV 3 (.int .i64 (.ofNat 0))) H fun V H=>
 bR (stN 1 V (.int .i64 (.ofNat 0)) H) fun W H=>
 bA (bxV 102 .nilFunc) H fun Y H=>
 bR (stN 1 Y (.func 67 [] [V,d,f,e,Y,t]) H) fun Z H=>
 bV (ld1 Y H) fun a0=>
 bV (ld1 d H) fun a1=>
 bV (wR a1) fun a2=>
 bV (fAd 2 a2) fun a3=>
 bV (ldN 3 a3 H) fun a4=>
 bA (bxV 93 (.agg [(.bool false), .nilSlice, .nilSlice, .nilSlice])) H fun a5 H=>
 bR (callV (s44 D n).S D a0 [a4] H) fun a6 H=>
 bV (qK a6 0) fun a7=>
 bV (qK a6 1) fun a8=>
 bR (stN 4 a5 a7 H) fun a9 H=>
 bV (qO .neq a8 (.int .i64 (.ofNat 0))) fun b0=>
 cnd b0 (bV (some a8) fun b1=>some (.ret b1,H))
 (bV (ld1 t H) fun b2=>
 bV (ldN 4 a5 H) fun b3=>
 bR (f70 D n [b2,b3] H) fun b4 H=>
 bV (some b4) fun b5=>some (.ret b5,H))))
def h44:Hint:=(.s .o (.s .o (.s (.s .o (.cl (.s .o (.s (.s .o (.cl (.s .o .o) .o)) (.s .o (.s .o .o)))) .o)) (.s .o (.s .o (.s .o (.s .o (.s (.s .o (.cl (.s .o .o) .o)) (.s .o .o)))))))))
theorem zFD {D:Dyn}(hD:DG D)(n:Nat):FI 44 (f44 D n):=qS (n:=n) (h:=h44) X_ok hD (sc (zBB hD n) (sc (zFw hD n) (sc (zJN hD n) (SOk.nil)))) Tryz.func44 (by kernel_rfl) (by kernel_rfl)
def s74 (D:Dyn)(n:Nat):Tb:=⟨X,[]⟩
def f74 (D:Dyn)(n:Nat)(vs:List AV)(H:AH):Option (AV×AH):=
 yR (hd vs fun a vs=>hd vs fun b vs=>hd vs fun c vs=>nl vs <|
 bV (j8 1 a (some b) none none H) fun d=>
 bV (lnSl c) fun e=>
 bV (qO .eql e (.int .i64 (.ofNat 0))) fun f=>
 cnd f (bV (some a) fun g=>some (.ret g,H))
 (bV (lnSl a) fun h=>
 bV (qO .eql b h) fun i=>
 cnd i (bR (apP 9 1 16 a c H) fun k H=>
 bV (some k) fun m=>some (.ret m,H))
 (bV (qO .add h e) fun o=>
 bV (zCV X 90 a) fun p=>
 bV (qO .gtr o p) fun r=>
 cnd r (bV (j8 1 a none (some b) none H) fun t=>
 bV (qO .add h e) fun u=>
 bV (qO .sub u b) fun v=>
 bR (apZ 9 1 16 [(.str 0 0)] t v H) fun w H=>
 bV (j8 1 w (some b) none none H) fun x=>
 bR (cpy 1 x c H) fun y H=>
 bV (qO .add b e) fun z=>
 bV (j8 1 w (some z) none none H) fun B=>
 bV (j8 1 a (some b) none none H) fun C=>
 bR (cpy 1 B C H) fun E H=>
 bV (some w) fun F=>some (.ret F,H))
 (bV (qO .add h e) fun G=>
 bV (j8 1 a none (some G) none H) fun I=>
 bV (qO .add b e) fun J=>
 bV (j8 1 I (some J) none none H) fun K=>
 bR (D.fn 95 [c,K] H) fun M H=>
 bV (aun .not M) fun N=>
 cnd N (bV (qO .add b e) fun O=>
 bV (j8 1 I (some O) none none H) fun P=>
 bV (j8 1 I (some b) none none H) fun Q=>
 bR (cpy 1 P Q H) fun R H=>
 bV (j8 1 I (some b) none none H) fun T=>
 bR (cpy 1 T c H) fun U H=>
 bV (some I) fun V=>some (.ret V,H))
 (bV (j8 1 I (some h) none none H) fun W=>
 bR (cpy 1 W c H) fun Y H=>
 bV (j8 1 I (some b) none none H) fun Z=>
 bR (D.fn 96 [Z,e] H) fun a0 H=>
 bV (some I) fun a1=>some (.ret a1,H))))))
def h74:Hint:=(.s .o (.s .o (.s .o (.s (.s .o (.cl (.s .o .o) .o)) (.s .o (.s (.s .o (.cl (.s .o .o) .o)) (.s (.s .o (.cl (.s .o (.s .o (.s .o (.s .o .o)))) .o)) (.s .o (.s (.s .o (.cl (.s .o (.s .o (.s .o .o))) .o)) (.s .o (.s .o (.s .o .o))))))))))))
theorem zNL {D:Dyn}(hD:DG D)(n:Nat):FI 74 (f74 D n):=qS (n:=n) (h:=h74) X_ok hD (SOk.nil) Tryz.func74 (by kernel_rfl) (by kernel_rfl)
def m74 (D:Dyn)(n:Nat)(vs:List AV)(H:AH):Option (AV×AH):=zLj (f74 D n) vs H
theorem zJC {D:Dyn}(hD:DG D)(n:Nat):FI 74 (m74 D n):=zLi (by kernel_rfl) (zNL hD n)
def s46 (D:Dyn)(n:Nat):Tb:=⟨X,[(71,f71 D n),(72,f72 D n),(73,f73 D n),(50,f50 D n),(74,m74 D n)]⟩
def f46 (D:Dyn)(n:Nat)(vs:List AV)(H:AH):Option (AV×AH):=
 yR (hd vs fun a vs=>hd vs fun b vs=>hd vs fun c vs=>nl vs <|
 bA (bxV 93 a) H fun d H=>
 bA (bxV 93 (.agg [(.bool false), .nilSlice, .nilSlice, .nilSlice])) H fun e H=>
 bV (ldN 4 d H) fun f=>
 bR (f71 D n [f] H) fun g H=>
 bV (aun .not g) fun h=>
 jn (wnt h false (bV (fAd 0 d) fun i=>
 bV (ld1 i H) fun k=>
 bV (aun .not k) fun m=>
 some (.norm [m],H)) (some (.norm [qM],H))) fun vs H=>hd vs fun o vs=>
 bV (pk3 (some h) (some (.bool true)) (some o)) fun p=>
 jn (wnt p false (bR (f72 D n [b] H) fun r H=>
 bV (aun .not r) fun t=>
 some (.norm [t],H)) (some (.norm [qM],H))) fun vs H=>hd vs fun u vs=>
 bV (pk3 (some p) (some (.bool true)) (some u)) fun v=>
 jn (wnt v false (bV (jO c) fun w=>
 bV (qO .gtr w (.int .i64 (.ofNat 200))) fun x=>
 some (.norm [x],H)) (some (.norm [qM],H))) fun vs H=>hd vs fun y vs=>
 bV (pk3 (some v) (some (.bool true)) (some y)) fun z=>
 cnd z (bV (wB [(0,1),(1,1),(2,1),(3,1)] [(.bool false), .nilSlice, .nilSlice, .nilSlice] []) fun B=>
 bR (stN 4 e B H) fun C H=>
 bV (ldN 4 e H) fun E=>bV (some (.int .i64 (.ofNat 1))) fun F=>some (.ret (.tuple [E,F]),H))
 (bV (fAd 1 d) fun G=>
 bV (ld1 G H) fun I=>
 bV (fAd 2 d) fun J=>
 bV (ld1 J H) fun K=>
 bA (bxV 93 (.agg [(.bool false), .nilSlice, .nilSlice, .nilSlice])) H fun M H=>
 bR (f73 D n [I] H) fun N H=>chk (ld1 J H) K <|
 bR (f73 D n [K] H) fun O H=>
 bV (wB [(0,1),(1,1),(2,1),(3,1)] [(.bool false), .nilSlice, .nilSlice, .nilSlice] [(0,(.bool true)),(1,N),(2,O)]) fun P=>
 bR (stN 4 M P H) fun Q H=>
 bV (ldN 4 d H) fun R=>
 bR (f50 D n [R,b] H) fun T H=>
 bV (fAd 1 d) fun U=>
 bV (ld1 U H) fun V=>
 bV (lnSl V) fun W=>
 bV (qO .lss T W) fun Y=>
 jn (wnt Y true (bV (fAd 1 d) fun Z=>
 bV (ld1 Z H) fun a0=>
 bV (jL 1 a0 T) fun a1=>
 bV (ld1 a1 H) fun a2=>
 bV (jW .eql a2 b) fun a3=>
 some (.norm [a3],H)) (some (.norm [qM],H))) fun vs H=>hd vs fun a4 vs=>
 bV (pk3 (some Y) (some a4) (some (.bool false))) fun a5=>
 cnd a5 (bV (fAd 2 M) fun a6=>
 bV (ld1 a6 H) fun a7=>
 bV (jL 1 a7 T) fun a8=>
 bR (stN 1 a8 c H) fun a9 H=>
 bV (ldN 4 M H) fun b0=>
 bR (stN 4 e b0 H) fun b1 H=>
 bV (ldN 4 e H) fun b2=>bV (some (.int .i64 (.ofNat 0))) fun b3=>some (.ret (.tuple [b2,b3]),H))
 (bV (fAd 1 M) fun b4=>
 bV (ld1 b4 H) fun b5=>
 bA (wQ 9 1 1 [(.str 0 0)] [(0,b)]) H fun b6 H=>
 bR (m74 D n [b5,T,b6] H) fun b7 H=>
 bV (fAd 1 M) fun b8=>
 bR (stN 1 b8 b7 H) fun b9 H=>
 bV (fAd 2 M) fun c0=>
 bV (ld1 c0 H) fun c1=>
 bA (wQ 9 1 1 [(.str 0 0)] [(0,c)]) H fun c2 H=>
 bR (m74 D n [c1,T,c2] H) fun c3 H=>
 bV (fAd 2 M) fun c4=>
 bR (stN 1 c4 c3 H) fun c5 H=>
 bV (ldN 4 M H) fun c6=>
 bR (stN 4 e c6 H) fun c7 H=>
 bV (ldN 4 e H) fun c8=>bV (some (.int .i64 (.ofNat 0))) fun c9=>some (.ret (.tuple [c8,c9]),H))))
def h46:Hint:=(.s .o (.s (.s .o (.cl (.s .o .o) .o)) (.s .o (.s .o (.s (.s .o (.cl (.s .o (.s .o .o)) .o)) (.s .o (.s .o (.s .o .o))))))))
theorem zJZ {D:Dyn}(hD:DG D)(n:Nat):FI 46 (f46 D n):=qS (n:=n) (h:=h46) X_ok hD (sc (UA hD n) (sc (zBA hD n) (sc (zBz hD n) (sc (aW hD n) (sc (zJC hD n) (SOk.nil)))))) Tryz.func46 (by kernel_rfl) (by kernel_rfl)
def s45 (D:Dyn)(n:Nat):Tb:=⟨X,[(46,f46 D n)]⟩
def f45 (D:Dyn)(n:Nat)(vs:List AV)(H:AH):Option (AV×AH):=
 yR (hd vs fun a vs=>hd vs fun b vs=>hd vs fun c vs=>nl vs <|
 bA (bxV 93 a) H fun d H=>
 bA (bxV 93 (.agg [(.bool false), .nilSlice, .nilSlice, .nilSlice])) H fun e H=>
 bV (ldN 4 d H) fun f=>
 bV (ld1 b H) fun g=>
 bV (ld1 c H) fun h=>
 bR (f46 D n [f,g,h] H) fun i H=>
 bV (qK i 0) fun k=>
 bV (qK i 1) fun m=>
 bR (stN 4 e k H) fun o H=>
 bV (ldN 4 e H) fun p=>bV (some m) fun r=>some (.ret (.tuple [p,r]),H))
def h45:Hint:=(.s .o (.s .o .o))
theorem zNX {D:Dyn}(hD:DG D)(n:Nat):FI 45 (f45 D n):=qS (n:=n) (h:=h45) X_ok hD (sc (zJZ hD n) (SOk.nil)) Tryz.func45 (by kernel_rfl) (by kernel_rfl)
def s20 (D:Dyn)(n:Nat):Tb:=⟨X,[(43,f43 D n),(44,f44 D n)]⟩
def f20 (D:Dyn)(n:Nat)(vs:List AV)(H:AH):Option (AV×AH):=
 yR (hd vs fun a vs=>hd vs fun b vs=>hd vs fun c vs=>nl vs <|
 bA (bxV 9 b) H fun d H=>
 bA (bxV 9 c) H fun e H=>
 bR (f43 D n [a] H) fun f H=>
 cnd f (bV (some (.int .i64 (.ofNat 2))) fun g=>some (.ret g,H))
 (bV (ld1 d H) fun h=>
 bV (jO h) fun i=>
 bV (qO .lss i (.int .i64 (.ofNat 1))) fun k=>
 jn (wnt k false (bV (ld1 d H) fun m=>
 bV (jO m) fun o=>
 bV (qO .gtr o (.int .i64 (.ofNat 40))) fun p=>
 some (.norm [p],H)) (some (.norm [qM],H))) fun vs H=>hd vs fun r vs=>
 bV (pk3 (some k) (some (.bool true)) (some r)) fun t=>
 jn (wnt t false (bV (ld1 e H) fun u=>
 bV (jO u) fun v=>
 bV (qO .gtr v (.int .i64 (.ofNat 200))) fun w=>
 some (.norm [w],H)) (some (.norm [qM],H))) fun vs H=>hd vs fun x vs=>
 bV (pk3 (some t) (some (.bool true)) (some x)) fun y=>
 cnd y (bV (some (.int .i64 (.ofNat 1))) fun z=>some (.ret z,H))
 (bV (ld1 d H) fun B=>
 bR (f44 D n [a,B,(.func 45 [] [d,e])] H) fun C H=>
 bV (some C) fun E=>some (.ret E,H))))
def h20:Hint:=(.s .o (.s (.s .o (.cl (.s .o .o) .o)) (.s (.s .o (.cl (.s .o .o) .o)) (.s .o .o))))
theorem zK4 {D:Dyn}(hD:DG D)(n:Nat):FI 20 (f20 D n):=qS (n:=n) (h:=h20) X_ok hD (sc (Y3 hD n) (sc (zFD hD n) (SOk.nil))) Tryz.func20 (by kernel_rfl) (by kernel_rfl)
def s61 (D:Dyn)(n:Nat):Tb:=⟨X,[(71,f71 D n),(50,f50 D n),(86,f86 D n)]⟩
def f61 (D:Dyn)(n:Nat)(vs:List AV)(H:AH):Option (AV×AH):=
 yR (hd vs fun a vs=>hd vs fun b vs=>nl vs <|
 bA (bxV 93 a) H fun c H=>
 bA (bxV 93 (.agg [(.bool false), .nilSlice, .nilSlice, .nilSlice])) H fun d H=>
 bV (ldN 4 c H) fun e=>
 bR (f71 D n [e] H) fun f H=>
 bV (aun .not f) fun g=>
 jn (wnt g false (bV (fAd 0 c) fun h=>
 bV (ld1 h H) fun i=>
 bV (aun .not i) fun k=>
 some (.norm [k],H)) (some (.norm [qM],H))) fun vs H=>hd vs fun m vs=>
 bV (pk3 (some g) (some (.bool true)) (some m)) fun o=>
 cnd o (bV (wB [(0,1),(1,1),(2,1),(3,1)] [(.bool false), .nilSlice, .nilSlice, .nilSlice] []) fun p=>
 bR (stN 4 d p H) fun r H=>
 bV (ldN 4 d H) fun t=>bV (some (.int .i64 (.ofNat 1))) fun u=>some (.ret (.tuple [t,u]),H))
 (bV (ldN 4 c H) fun v=>
 bR (f50 D n [v,b] H) fun w H=>
 bV (fAd 1 c) fun x=>
 bV (ld1 x H) fun y=>
 bV (lnSl y) fun z=>
 bV (qO .geq w z) fun B=>
 jn (wnt B false (bV (fAd 1 c) fun C=>
 bV (ld1 C H) fun E=>
 bV (jL 1 E w) fun F=>
 bV (ld1 F H) fun G=>
 bV (jW .neq G b) fun I=>
 some (.norm [I],H)) (some (.norm [qM],H))) fun vs H=>hd vs fun J vs=>
 bV (pk3 (some B) (some (.bool true)) (some J)) fun K=>
 cnd K (bV (wB [(0,1),(1,1),(2,1),(3,1)] [(.bool false), .nilSlice, .nilSlice, .nilSlice] []) fun M=>
 bR (stN 4 d M H) fun N H=>
 bV (ldN 4 d H) fun O=>bV (some (.int .i64 (.ofNat 5))) fun P=>some (.ret (.tuple [O,P]),H))
 (bV (fAd 1 c) fun Q=>
 bV (ld1 Q H) fun R=>
 bV (j8 1 R none (some w) (some w) H) fun T=>
 bV (fAd 1 c) fun U=>
 bV (ld1 U H) fun V=>
 bV (qO .add w (.int .i64 (.ofNat 1))) fun W=>
 bV (j8 1 V (some W) none none H) fun Y=>
 bA (wQ 90 1 2 [.nilSlice] [(0,T),(1,Y)]) H fun Z H=>
 bV (fAd 2 c) fun a0=>
 bV (ld1 a0 H) fun a1=>
 bV (j8 1 a1 none (some w) (some w) H) fun a2=>
 bV (fAd 2 c) fun a3=>
 bV (ld1 a3 H) fun a4=>
 bV (qO .add w (.int .i64 (.ofNat 1))) fun a5=>
 bV (j8 1 a4 (some a5) none none H) fun a6=>
 bA (wQ 90 1 2 [.nilSlice] [(0,a2),(1,a6)]) H fun a7 H=>
 bR (f86 D n [Z] H) fun a8 H=>chk (ld1 a0 H) a1 <| chk (j8 1 a1 none (some w) (some w) H) a2 <| chk (ld1 a3 H) a4 <| chk (j8 1 a4 (some a5) none none H) a6 <|
 bR (f86 D n [a7] H) fun a9 H=>
 bV (wB [(0,1),(1,1),(2,1),(3,1)] [(.bool false), .nilSlice, .nilSlice, .nilSlice] [(0,(.bool true)),(1,a8),(2,a9)]) fun b0=>
 bR (stN 4 d b0 H) fun b1 H=>
 bV (ldN 4 d H) fun b2=>bV (some (.int .i64 (.ofNat 0))) fun b3=>some (.ret (.tuple [b2,b3]),H))))
def h61:Hint:=(.s .o (.s (.s .o (.cl (.s .o .o) .o)) (.s .o (.s (.s .o (.cl (.s .o .o) .o)) (.s .o .o)))))
theorem zJQ {D:Dyn}(hD:DG D)(n:Nat):FI 61 (f61 D n):=qS (n:=n) (h:=h61) X_ok hD (sc (UA hD n) (sc (aW hD n) (sc (zBx hD n) (SOk.nil)))) Tryz.func61 (by kernel_rfl) (by kernel_rfl)
def s60 (D:Dyn)(n:Nat):Tb:=⟨X,[(61,f61 D n)]⟩
def f60 (D:Dyn)(n:Nat)(vs:List AV)(H:AH):Option (AV×AH):=
 yR (hd vs fun a vs=>hd vs fun b vs=>nl vs <|
 bA (bxV 93 a) H fun c H=>
 bA (bxV 93 (.agg [(.bool false), .nilSlice, .nilSlice, .nilSlice])) H fun d H=>
 bV (ldN 4 c H) fun e=>
 bV (ld1 b H) fun f=>
 bR (f61 D n [e,f] H) fun g H=>
 bV (qK g 0) fun h=>
 bV (qK g 1) fun i=>
 bR (stN 4 d h H) fun k H=>
 bV (ldN 4 d H) fun m=>bV (some i) fun o=>some (.ret (.tuple [m,o]),H))
def h60:Hint:=(.s .o (.s .o .o))
theorem zNR {D:Dyn}(hD:DG D)(n:Nat):FI 60 (f60 D n):=qS (n:=n) (h:=h60) X_ok hD (sc (zJQ hD n) (SOk.nil)) Tryz.func60 (by kernel_rfl) (by kernel_rfl)
def s35 (D:Dyn)(n:Nat):Tb:=⟨X,[(43,f43 D n),(44,f44 D n)]⟩
def f35 (D:Dyn)(n:Nat)(vs:List AV)(H:AH):Option (AV×AH):=
 yR (hd vs fun a vs=>hd vs fun b vs=>nl vs <|
 bA (bxV 9 b) H fun c H=>
 bR (f43 D n [a] H) fun d H=>
 cnd d (bV (some (.int .i64 (.ofNat 2))) fun e=>some (.ret e,H))
 (bV (ld1 c H) fun f=>
 bV (jO f) fun g=>
 bV (qO .lss g (.int .i64 (.ofNat 1))) fun h=>
 jn (wnt h false (bV (ld1 c H) fun i=>
 bV (jO i) fun k=>
 bV (qO .gtr k (.int .i64 (.ofNat 40))) fun m=>
 some (.norm [m],H)) (some (.norm [qM],H))) fun vs H=>hd vs fun o vs=>
 bV (pk3 (some h) (some (.bool true)) (some o)) fun p=>
 cnd p (bV (some (.int .i64 (.ofNat 1))) fun r=>some (.ret r,H))
 (bV (ld1 c H) fun t=>
 bR (f44 D n [a,t,(.func 60 [] [c])] H) fun u H=>
 bV (some u) fun v=>some (.ret v,H))))
def h35:Hint:=(.s .o (.s (.s .o (.cl (.s .o .o) .o)) (.s (.s .o (.cl (.s .o .o) .o)) (.s .o .o))))
theorem zFJ {D:Dyn}(hD:DG D)(n:Nat):FI 35 (f35 D n):=qS (n:=n) (h:=h35) X_ok hD (sc (Y3 hD n) (sc (zFD hD n) (SOk.nil))) Tryz.func35 (by kernel_rfl) (by kernel_rfl)
def s32 (D:Dyn)(n:Nat):Tb:=⟨X,[(58,f58 D n),(18,f18 D n),(20,f20 D n),(35,f35 D n)]⟩
def f32 (D:Dyn)(n:Nat)(vs:List AV)(H:AH):Option (AV×AH):=
 yR (hd vs fun a vs=>hd vs fun b vs=>hd vs fun c vs=>hd vs fun d vs=>hd vs fun e vs=>nl vs <|
 bV (fL d H) fun f=>
 bR (f58 D n [f,(.str 1 0)] H) fun g H=>
 bV (jW .neq g (.str 0 0)) fun h=>
 cnd h (bR (f18 D n [b,c] H) fun i H=>
 bR (f20 D n [a,i,g] H) fun k H=>
 bV (some k) fun m=>some (.ret m,H))
 (cnd e (bR (f18 D n [b,c] H) fun o H=>
 bR (f35 D n [a,o] H) fun p H=>
 bV (some p) fun r=>some (.ret r,H))
 (bV (some (.int .i64 (.ofNat 0))) fun t=>some (.ret t,H))))
def h32:Hint:=(.s .o (.s .o (.s (.b0 (.s .o (.cl (.s .o .o) (.s .o (.cl (.s .o .o) .o))))) (.s .o .o))))
theorem zBC {D:Dyn}(hD:DG D)(n:Nat):FI 32 (f32 D n):=qS (n:=n) (h:=h32) X_ok hD (sc (zJS hD n) (sc (aX hD n) (sc (zK4 hD n) (sc (zFJ hD n) (SOk.nil))))) Tryz.func32 (by kernel_rfl) (by kernel_rfl)
end Go.Eng.Sh
end
end
section
noncomputable section
namespace Go.Eng.Sh
open Go.Proofs
set_option maxRecDepth 100000
def s29 (D:Dyn)(n:Nat):Tb:=⟨X,[(30,f30 D n),(31,f31 D n),(32,f32 D n)]⟩
def f29 (D:Dyn)(n:Nat)(vs:List AV)(H:AH):Option (AV×AH):=
 yR (hd vs fun a vs=>hd vs fun b vs=>hd vs fun c vs=>hd vs fun d vs=>nl vs <|
 bA (bxV 30 (.int .i64 (.ofNat 0))) H fun e H=>
 bV (ld1 a H) fun f=>
 bA (bxV 9 (.str 0 0)) H fun g H=>
 bR (stN 1 g f H) fun h H=>
 bV (ld1 b H) fun i=>
 bV (ld1 a H) fun k=>
 bV (jO k) fun m=>
 bR (f30 D n [i,m] H) fun o H=>
 XO H (.loop ⟨.ready,none,29,0,[2,3,4,5],[c,d,e,g]⟩) fun A H=>bR (rfC (s29 D n).S D o A H) fun _ H=>fK A H fun j H=>zH9 j (
 bR (stN 1 e (.int .i64 (.ofNat 0)) H) fun p H=>
 bV (ld1 e H) fun r=>some (.ret r,H))
 (fun id=>none) (bV (ld1 e H) fun t=>some (.ret t,H)))
def h29:Hint:=(.s .o (.s .o (.s (.s .o (.b0 (.rf 0 [2,3,4,5]))) (.s .o .o))))
theorem zO5 {D:Dyn}(hD:DG D)(n:Nat):FI 29 (f29 D n):=qS (n:=n) (h:=h29) X_ok hD (sc (UH hD n) (sc (UG hD n) (sc (zBC hD n) (SOk.nil)))) Tryz.func29 (by kernel_rfl) (by kernel_rfl)
def zEd (D:Dyn)(n:Nat)(A:Nat)(l:ALoop)(az:List AV)(H:AH):Option (AV×AH):=
 bif aZ [2,3,4,5] l.live then zLM A (hd l.vals fun a vs=>hd vs fun b vs=>hd vs fun c vs=>hd vs fun d vs=>hd az fun e az=>nl az <|
 bA (bxV 68 (.agg [(.int .i64 (.ofNat 0)),(.int .i64 (.ofNat 0)),(.int .i64 (.ofNat 0))])) H fun f H=>
 bR (stN 3 f e H) fun g H=>
 xV A H fun H=>
 bV (ld1 a H) fun h=>
 bV (ld1 b H) fun i=>
 bV (fAd 0 f) fun k=>
 bV (ld1 k H) fun m=>
 bR (f31 D n [h,i,m] H) fun o H=>
 bV (qK o 0) fun p=>
 bV (qK o 1) fun r=>
 bV (qK o 2) fun t=>
 bA (bxV 69 (.agg (rep 128 [(.int .u8 (.ofNat 0))]))) H fun u H=>
 bR (stN 128 u p H) fun v H=>
 bV (qO .neq t (.int .i64 (.ofNat 0))) fun w=>
 cnd w (bR (stN 1 c t H) fun x H=>
 some (.ret (.tuple []),H))
 (bV (ld1 d H) fun y=>
 bV (fAd 1 f) fun z=>
 bV (ld1 z H) fun B=>
 bV (fAd 2 f) fun C=>
 bV (ld1 C H) fun E=>
 bV (v7 128 1 u (some B) (some E) none) fun F=>
 bV (ld1 d H) fun G=>
 bR (cpy 1 F G H) fun I H=>chk (ld1 d H) y <|
 bV (uV y (some I) none) fun J=>
 bR (stN 1 d J H) fun K H=>
 bV (ld1 a H) fun M=>
 bV (ld1 b H) fun N=>
 bV (fAd 0 f) fun O=>
 bV (ld1 O H) fun P=>
 bV (v7 128 1 u none none none) fun Q=>
 bR (f32 D n [M,N,P,Q,r] H) fun R H=>
 bV (qO .neq R (.int .i64 (.ofNat 0))) fun T=>
 cnd T (bR (stN 1 c R H) fun U H=>
 some (.ret (.tuple []),H))
 (some (.norm [],H))))else none
def zMP:Hint:= .o
def zMO:Hint:=(.b0 (.s .o (.s (.s .o (.cl (.s .o .o) .o)) (.s .o (.s .o (.s .o (.cl (.s .o .o) .o)))))))
theorem zHP (D:Dyn)(n:Nat):zEd D n=zKK (s29 D n) D n 29 0 [2,3,4,5] [] zMP zMO:=by kernel_rfl
theorem zHO {D:Dyn}(hD:DG D)(n:Nat):RS 29 0 (zEd D n):=ZF X_ok hD (sc (UH hD n) (sc (UG hD n) (sc (zBC hD n) (SOk.nil)))) (by kernel_rfl) (zHP D n)
def s9 (D:Dyn)(n:Nat):Tb:=⟨X,[(27,f27 D n),(28,f28 D n)]⟩
def f9 (D:Dyn)(n:Nat)(vs:List AV)(H:AH):Option (AV×AH):=
 yR (hd vs fun a vs=>hd vs fun b vs=>hd vs fun c vs=>hd vs fun d vs=>nl vs <|
 bA (bxV 25 a) H fun e H=>
 bA (bxV 3 b) H fun f H=>
 bA (bxV 3 c) H fun g H=>
 bA (bxV 9 d) H fun h H=>
 bV (ld1 e H) fun i=>
 bV (vJ .eql (eqP i .nilPtr)) fun k=>
 cnd k (bV (some (.int .i64 (.ofNat 2))) fun m=>some (.ret m,H))
 (bV (ld1 f H) fun o=>
 bR (f27 D n [o] H) fun p H=>
 bV (aun .not p) fun r=>
 jn (wnt r false (bV (ld1 g H) fun t=>
 bV (qO .lss t (.int .i64 (.ofNat 0))) fun u=>
 some (.norm [u],H)) (some (.norm [qM],H))) fun vs H=>hd vs fun v vs=>
 bV (pk3 (some r) (some (.bool true)) (some v)) fun w=>
 cnd w (bV (some (.int .i64 (.ofNat 1))) fun x=>some (.ret x,H))
 (bV (ld1 g H) fun y=>
 bV (qO .gtr y (.int .i64 (.ofNat 32768))) fun z=>
 jn (wnt z false (bV (ld1 h H) fun B=>
 bV (jO B) fun C=>
 bV (ld1 g H) fun E=>
 bV (qO .sub (.int .i64 (.ofNat 32768)) E) fun F=>
 bV (qO .gtr C F) fun G=>
 some (.norm [G],H)) (some (.norm [qM],H))) fun vs H=>hd vs fun I vs=>
 bV (pk3 (some z) (some (.bool true)) (some I)) fun J=>
 cnd J (bV (some (.int .i64 (.ofNat 40))) fun K=>some (.ret K,H))
 (bV (ld1 h H) fun M=>
 bV (jW .eql M (.str 0 0)) fun N=>
 cnd N (bV (some (.int .i64 (.ofNat 0))) fun O=>some (.ret O,H))
 (bV (ld1 e H) fun P=>
 bR (f28 D n [P,(.func 29 [] [h,g,e,f])] H) fun Q H=>
 bV (some Q) fun R=>some (.ret R,H))))))
def h9:Hint:=(.s .o (.s (.s .o (.cl (.s .o .o) .o)) (.s (.s .o (.cl (.s .o .o) .o)) (.s (.s .o (.cl (.s .o .o) .o)) (.s (.s .o (.cl (.s .o .o) .o)) (.s .o .o))))))
theorem zIs {D:Dyn}(hD:DG D)(n:Nat):FI 9 (f9 D n):=qS (n:=n) (h:=h9) X_ok hD (sc (JO hD n) (sc (zFM hD n) (SOk.nil))) Tryz.func9 (by kernel_rfl) (by kernel_rfl)
def s12 (D:Dyn)(n:Nat):Tb:=⟨X,[(27,f27 D n),(30,f30 D n),(31,f31 D n)]⟩
def f12 (D:Dyn)(n:Nat)(vs:List AV)(H:AH):Option (AV×AH):=
 yR (hd vs fun a vs=>hd vs fun b vs=>hd vs fun c vs=>hd vs fun d vs=>hd vs fun e vs=>nl vs <|
 bA (bxV 25 a) H fun f H=>
 bA (bxV 3 b) H fun g H=>
 bA (bxV 9 (.str 0 0)) H fun h H=>
 bA (bxV 30 (.int .i64 (.ofNat 0))) H fun i H=>
 bV (ld1 f H) fun k=>
 bV (vJ .eql (eqP k .nilPtr)) fun m=>
 cnd m (bR (stN 1 h (.str 0 0) H) fun o H=>
 bR (stN 1 i (.int .i64 (.ofNat 2)) H) fun p H=>
 bV (ld1 h H) fun r=>bV (ld1 i H) fun t=>some (.ret (.tuple [r,t]),H))
 (bV (ld1 g H) fun u=>
 bR (f27 D n [u] H) fun v H=>
 bV (aun .not v) fun w=>
 jn (wnt w false (bV (qO .lss c (.int .i64 (.ofNat 0))) fun x=>
 some (.norm [x],H)) (some (.norm [qM],H))) fun vs H=>hd vs fun y vs=>
 bV (pk3 (some w) (some (.bool true)) (some y)) fun z=>
 jn (wnt z false (bV (qO .gtr c (.int .i64 (.ofNat 32768))) fun B=>
 some (.norm [B],H)) (some (.norm [qM],H))) fun vs H=>hd vs fun C vs=>
 bV (pk3 (some z) (some (.bool true)) (some C)) fun E=>
 jn (wnt E false (bV (qO .lss d (.int .i64 (.ofNat 0))) fun F=>
 some (.norm [F],H)) (some (.norm [qM],H))) fun vs H=>hd vs fun G vs=>
 bV (pk3 (some E) (some (.bool true)) (some G)) fun I=>
 jn (wnt I false (bV (qO .lss e (.int .i64 (.ofNat 0))) fun J=>
 some (.norm [J],H)) (some (.norm [qM],H))) fun vs H=>hd vs fun K vs=>
 bV (pk3 (some I) (some (.bool true)) (some K)) fun M=>
 cnd M (bR (stN 1 h (.str 0 0) H) fun N H=>
 bR (stN 1 i (.int .i64 (.ofNat 1)) H) fun O H=>
 bV (ld1 h H) fun P=>bV (ld1 i H) fun Q=>some (.ret (.tuple [P,Q]),H))
 (bV (qO .geq d c) fun R=>
 cnd R (bR (stN 1 h (.str 0 0) H) fun T H=>
 bR (stN 1 i (.int .i64 (.ofNat 0)) H) fun U H=>
 bV (ld1 h H) fun V=>bV (ld1 i H) fun W=>some (.ret (.tuple [V,W]),H))
 (bA (bxV 47 .nilSlice) H fun Y H=>
 bV (qO .sub c d) fun Z=>
 bV (mn2 e Z) fun a0=>
 bR (f30 D n [d,a0] H) fun a1 H=>
 XO H (.loop ⟨.ready,none,12,0,[5,6,10,11,12],[f,g,h,i,Y]⟩) fun A H=>bR (rfC (s12 D n).S D a1 A H) fun _ H=>fK A H fun j H=>zH9 j (
 bV (ld1 Y H) fun a2=>
 bV (fL a2 H) fun a3=>
 bR (stN 1 h a3 H) fun a4 H=>
 bR (stN 1 i (.int .i64 (.ofNat 0)) H) fun a5 H=>
 bV (ld1 h H) fun a6=>bV (ld1 i H) fun a7=>some (.ret (.tuple [a6,a7]),H))
 (fun id=>none) (bV (ld1 h H) fun a8=>bV (ld1 i H) fun a9=>some (.ret (.tuple [a8,a9]),H))))))
def h12:Hint:=(.s .o (.s (.s .o (.cl (.s .o .o) .o)) (.s (.s .o (.cl (.s .o .o) .o)) (.s (.s .o (.cl (.s .o .o) .o)) (.s .o (.s (.s .o (.b0 (.rf 0 [5,6,10,11,12]))) (.s .o .o)))))))
theorem zBG {D:Dyn}(hD:DG D)(n:Nat):FI 12 (f12 D n):=qS (n:=n) (h:=h12) X_ok hD (sc (JO hD n) (sc (UH hD n) (sc (UG hD n) (SOk.nil)))) Tryz.func12 (by kernel_rfl) (by kernel_rfl)
def zEe (D:Dyn)(n:Nat)(A:Nat)(l:ALoop)(az:List AV)(H:AH):Option (AV×AH):=
 bif aZ [5,6,10,11,12] l.live then zLM A (hd l.vals fun a vs=>hd vs fun b vs=>hd vs fun c vs=>hd vs fun d vs=>hd vs fun e vs=>hd az fun f az=>nl az <|
 bA (bxV 68 (.agg [(.int .i64 (.ofNat 0)),(.int .i64 (.ofNat 0)),(.int .i64 (.ofNat 0))])) H fun g H=>
 bR (stN 3 g f H) fun h H=>
 xV A H fun H=>
 bV (ld1 a H) fun i=>
 bV (ld1 b H) fun k=>
 bV (fAd 0 g) fun m=>
 bV (ld1 m H) fun o=>
 bR (f31 D n [i,k,o] H) fun p H=>
 bV (qK p 0) fun r=>
 bV (qK p 1) fun t=>
 bV (qK p 2) fun u=>
 bA (bxV 69 (.agg (rep 128 [(.int .u8 (.ofNat 0))]))) H fun v H=>
 bR (stN 128 v r H) fun w H=>
 bV (qO .neq u (.int .i64 (.ofNat 0))) fun x=>
 cnd x (bR (stN 1 c (.str 0 0) H) fun y H=>
 bR (stN 1 d u H) fun z H=>
 some (.ret (.tuple []),H))
 (bV (ld1 e H) fun B=>
 bV (fAd 1 g) fun C=>
 bV (ld1 C H) fun E=>
 bV (fAd 2 g) fun F=>
 bV (ld1 F H) fun G=>
 bV (v7 128 1 v (some E) (some G) none) fun I=>
 bR (apP 5 1 1 B I H) fun J H=>
 bR (stN 1 e J H) fun K H=>
 some (.norm [],H)))else none
def zMT:Hint:= .o
def zMS:Hint:=(.b0 (.s .o (.s (.s .o (.cl (.s .o .o) .o)) .o)))
theorem zHT (D:Dyn)(n:Nat):zEe D n=zKK (s12 D n) D n 12 0 [5,6,10,11,12] [] zMT zMS:=by kernel_rfl
theorem zHS {D:Dyn}(hD:DG D)(n:Nat):RS 12 0 (zEe D n):=ZF X_ok hD (sc (JO hD n) (sc (UH hD n) (sc (UG hD n) (SOk.nil)))) (by kernel_rfl) (zHT D n)
def s59 (D:Dyn)(n:Nat):Tb:=⟨X,[]⟩
def zIB (D:Dyn)(n:Nat)(vs:List AV)(H:AH):Rs:=
 hd vs fun a vs=>hd vs fun b vs=>
 bV (qO .geq b (.int .i64 (.ofNat 0))) fun c=>
 cnd c (bV (v8 a b) fun d=>
 bV (qO .neq d (.int .u8 (.ofNat 255))) fun e=>
 cnd e (bV (uV a none (some b)) fun f=>
 bV (v8 a b) fun g=>
 bV (qO .add g (.int .u8 (.ofNat 1))) fun h=>
 bA (wQ 5 1 1 [(.int .u8 (.ofNat 0))] [(0,h)]) H fun i H=>
 bV (fL i H) fun k=>
 bV (jW .add f k) fun m=>
 bV (some m) fun o=>some (.ret o,H))
 (bV (qO .sub b (.int .i64 (.ofNat 1))) fun p=>
 some (.norm [a,p],H)))
 (some (.exit 0 [],H))
def f59b1 (D:Dyn)(n:Nat)(vs:List AV)(H:AH):Rs:=
 bV (some (.str 0 0)) fun a=>some (.ret a,H)
def f59 (D:Dyn)(n:Nat)(vs:List AV)(H:AH):Option (AV×AH):=
 yR (hd vs fun a vs=>nl vs <|
 bV (jO a) fun b=>
 bV (qO .sub b (.int .i64 (.ofNat 1))) fun c=>
 jb 0 (qW n (zIB D n) [a,c] H) (f59b1 D n))
def h59:Hint:=(.s .o (.s (.s .o (.b [] (.l [0,3] (.s (.s .o (.cr .o .o)) (.s (.b0 (.s .o (.cl (.s .o .o) .o))) .o))))) (.s .o .o)))
theorem zJR {D:Dyn}(hD:DG D)(n:Nat):FI 59 (f59 D n):=qS (n:=n) (h:=h59) X_ok hD (SOk.nil) Tryz.func59 (by kernel_rfl) (by kernel_rfl)
def s62 (D:Dyn)(n:Nat):Tb:=⟨X,[(43,f43 D n)]⟩
def f62 (D:Dyn)(n:Nat)(vs:List AV)(H:AH):Option (AV×AH):=
 yR (hd vs fun a vs=>nl vs <|
 bR (f43 D n [a] H) fun b H=>
 cnd b (bV (some (.int .i64 (.ofNat 0))) fun c=>some (.ret c,H))
 (bV (wR a) fun d=>
 bV (fAd 5 d) fun e=>
 bV (ld1 e H) fun f=>
 bV (VW f H) fun g=>
 bV (some g) fun h=>some (.ret h,H)))
def h62:Hint:=(.s .o (.s (.s .o (.cl (.s .o .o) .o)) (.s .o .o)))
theorem zJP {D:Dyn}(hD:DG D)(n:Nat):FI 62 (f62 D n):=qS (n:=n) (h:=h62) X_ok hD (sc (Y3 hD n) (SOk.nil)) Tryz.func62 (by kernel_rfl) (by kernel_rfl)
def s39 (D:Dyn)(n:Nat):Tb:=⟨X,[(62,f62 D n)]⟩
def f39 (D:Dyn)(n:Nat)(vs:List AV)(H:AH):Option (AV×AH):=
 yR (hd vs fun a vs=>nl vs <|
 bR (f62 D n [a] H) fun b H=>
 bV (qO .add (.int .i64 (.ofNat 8192)) b) fun c=>
 bV (wB [(0,1),(1,1),(2,1),(3,1)] [.nilPtr, .nilMap,(.int .i64 (.ofNat 0)),(.int .i64 (.ofNat 0))] [(0,a),(2,c)]) fun d=>
 bA (bxV 87 d) H fun e H=>
 bV (some e) fun f=>some (.ret f,H))
def h39:Hint:=(.s .o (.s .o .o))
theorem zFG {D:Dyn}(hD:DG D)(n:Nat):FI 39 (f39 D n):=qS (n:=n) (h:=h39) X_ok hD (sc (zJP hD n) (SOk.nil)) Tryz.func39 (by kernel_rfl) (by kernel_rfl)
def s88 (D:Dyn)(n:Nat):Tb:=⟨X,[(43,f43 D n)]⟩
def f88 (D:Dyn)(n:Nat)(vs:List AV)(H:AH):Option (AV×AH):=
 yR (hd vs fun a vs=>nl vs <|
 bA (bxV 59 (.agg [(.int .i64 (.ofNat 0)),(.int .i64 (.ofNat 0)),(.int .u64 (.ofNat 0))])) H fun b H=>
 bR (f43 D n [a] H) fun c H=>
 cnd c (bV (wB [(0,1),(1,1),(2,1)] [(.int .i64 (.ofNat 0)),(.int .i64 (.ofNat 0)),(.int .u64 (.ofNat 0))] []) fun d=>
 bR (stN 3 b d H) fun e H=>
 bV (ldN 3 b H) fun f=>some (.ret f,H))
 (bV (wR a) fun g=>
 bV (fAd 2 g) fun h=>
 bV (ldN 3 h H) fun i=>
 bR (stN 3 b i H) fun k H=>
 bV (ldN 3 b H) fun m=>some (.ret m,H)))
def h88:Hint:=(.s .o (.s (.s .o (.cl (.s .o .o) .o)) (.s .o .o)))
theorem zJI {D:Dyn}(hD:DG D)(n:Nat):FI 88 (f88 D n):=qS (n:=n) (h:=h88) X_ok hD (sc (Y3 hD n) (SOk.nil)) Tryz.func88 (by kernel_rfl) (by kernel_rfl)
def s111 (D:Dyn)(n:Nat):Tb:=⟨X,[(43,f43 D n),(48,f48 D n),(73,f73 D n),(81,f81 D n)]⟩
def zK5 (D:Dyn)(n:Nat)(vs:List AV)(H:AH):Option (AV×AH):=
 yR (hd vs fun a vs=>hd vs fun b vs=>nl vs <|
 bA (bxV 59 b) H fun c H=>
 bA (bxV 93 (.agg [(.bool false), .nilSlice, .nilSlice, .nilSlice])) H fun d H=>
 bR (f43 D n [a] H) fun e H=>
 cnd e (bV (wB [(0,1),(1,1),(2,1),(3,1)] [(.bool false), .nilSlice, .nilSlice, .nilSlice] []) fun f=>
 bR (stN 4 d f H) fun g H=>
 bV (ldN 4 d H) fun h=>bV (some (.int .i64 (.ofNat 2))) fun i=>some (.ret (.tuple [h,i]),H))
 (bV (fAd 0 c) fun k=>
 bV (ld1 k H) fun m=>
 bV (qO .eql m (.int .i64 (.ofNat 0))) fun o=>
 cnd o (bV (wB [(0,1),(1,1),(2,1),(3,1)] [(.bool false), .nilSlice, .nilSlice, .nilSlice] []) fun p=>
 bR (stN 4 d p H) fun r H=>
 bV (ldN 4 d H) fun t=>bV (some (.int .i64 (.ofNat 1))) fun u=>some (.ret (.tuple [t,u]),H))
 (bV (ldN 3 c H) fun v=>
 bR (f48 D n [a,v] H) fun w H=>
 bV (qK w 0) fun x=>
 bV (qK w 1) fun y=>
 bA (bxV 93 (.agg [(.bool false), .nilSlice, .nilSlice, .nilSlice])) H fun z H=>
 bR (stN 4 z x H) fun B H=>
 bV (qO .neq y (.int .i64 (.ofNat 0))) fun C=>
 cnd C (bV (wB [(0,1),(1,1),(2,1),(3,1)] [(.bool false), .nilSlice, .nilSlice, .nilSlice] []) fun E=>
 bR (stN 4 d E H) fun F H=>
 bV (ldN 4 d H) fun G=>bV (some y) fun I=>some (.ret (.tuple [G,I]),H))
 (bV (fAd 0 z) fun J=>
 bV (ld1 J H) fun K=>
 bV (fAd 1 z) fun M=>
 bV (ld1 M H) fun N=>
 bV (fAd 2 z) fun O=>
 bV (ld1 O H) fun P=>
 bV (fAd 3 z) fun Q=>
 bV (ld1 Q H) fun R=>
 bR (f73 D n [N] H) fun T H=>chk (ld1 J H) K <| chk (ld1 O H) P <| chk (ld1 Q H) R <|
 bR (f73 D n [P] H) fun U H=>chk (ld1 J H) K <| chk (ld1 Q H) R <|
 bR (f81 D n [R] H) fun V H=>chk (ld1 J H) K <|
 bV (wB [(0,1),(1,1),(2,1),(3,1)] [(.bool false), .nilSlice, .nilSlice, .nilSlice] [(0,K),(1,T),(2,U),(3,V)]) fun W=>
 bR (stN 4 d W H) fun Y H=>
 bV (ldN 4 d H) fun Z=>bV (some (.int .i64 (.ofNat 0))) fun a0=>some (.ret (.tuple [Z,a0]),H)))))
def h111:Hint:=(.s .o (.s (.s .o (.cl (.s .o .o) .o)) (.s (.s .o (.cl (.s .o .o) .o)) (.s .o (.s (.s .o (.cl (.s .o .o) .o)) (.s .o .o))))))
theorem zG2 {D:Dyn}(hD:DG D)(n:Nat):FI 111 (zK5 D n):=qS (n:=n) (h:=h111) X_ok hD (sc (Y3 hD n) (sc (UC hD n) (sc (zBz hD n) (sc (zBy hD n) (SOk.nil))))) Tryz.func111 (by kernel_rfl) (by kernel_rfl)
def s89 (D:Dyn)(n:Nat):Tb:=⟨X,[(111,zK5 D n),(50,f50 D n)]⟩
def YU (D:Dyn)(n:Nat)(vs:List AV)(H:AH):Rs:=
 hd vs fun a vs=>hd vs fun b vs=>hd vs fun c vs=>hd vs fun d vs=>hd vs fun e vs=>hd vs fun f vs=>hd vs fun g vs=>hd vs fun h vs=>
 bV (fAd 3 f) fun i=>
 bV (ld1 i H) fun k=>
 bV (lnSl k) fun m=>
 bV (qO .lss h m) fun o=>
 cnd o (bV (qO .gtr h g) fun p=>
 jn (wnt p true (bV (jW .neq c (.str 0 0)) fun r=>
 some (.norm [r],H)) (some (.norm [qM],H))) fun vs H=>hd vs fun t vs=>
 bV (pk3 (some p) (some t) (some (.bool false))) fun u=>
 jn (wnt u true (bV (fAd 1 f) fun v=>
 bV (ld1 v H) fun w=>
 bV (qO .sub h (.int .i64 (.ofNat 1))) fun x=>
 bV (jL 1 w x) fun y=>
 bV (ld1 y H) fun z=>
 bV (jW .geq z c) fun B=>
 some (.norm [B],H)) (some (.norm [qM],H))) fun vs H=>hd vs fun C vs=>
 bV (pk3 (some u) (some C) (some (.bool false))) fun E=>
 cnd E (some (.exit 0 [],H))
 (bV (fAd 3 f) fun F=>
 bV (ld1 F H) fun G=>
 bV (jL 3 G h) fun I=>
 bV (ldN 3 I H) fun J=>
 bR (D.fn 89 [a,J,b,c,d,e] H) fun K H=>
 bV (aun .not K) fun M=>
 cnd M (bV (some (.bool false)) fun N=>some (.ret N,H))
 (bV (qO .add h (.int .i64 (.ofNat 1))) fun O=>
 some (.norm [a,b,c,d,e,f,g,O],H))))
 (some (.exit 0 [],H))
def zIw (D:Dyn)(n:Nat)(vs:List AV)(H:AH):Rs:=
 bV (some (.bool true)) fun a=>some (.ret a,H)
def zIv (D:Dyn)(n:Nat)(vs:List AV)(H:AH):Rs:=
 hd vs fun a vs=>hd vs fun b vs=>hd vs fun c vs=>hd vs fun d vs=>hd vs fun e vs=>hd vs fun f vs=>hd vs fun g vs=>
 bV (wR a) fun h=>
 bV (fAd 3 h) fun i=>
 bV (ld1 i H) fun k=>
 bV (qO .neq k (.int .i64 (.ofNat 0))) fun m=>
 jn (wnt m false (bV (ldN 3 f H) fun o=>
 bV (ldN 4 g H) fun p=>
 bR (callV (s89 D n).S D e [o,p] H) fun r H=>
 bV (aun .not r) fun t=>
 some (.norm [t],H)) (some (.norm [qM],H))) fun vs H=>hd vs fun u vs=>
 bV (pk3 (some m) (some (.bool true)) (some u)) fun v=>
 cnd v (bV (some (.bool false)) fun w=>some (.ret w,H))
 (bV (fAd 0 g) fun x=>
 bV (ld1 x H) fun y=>
 cnd y (bV (some (.bool true)) fun z=>some (.ret z,H))
 (bV (ldN 4 g H) fun B=>
 bR (f50 D n [B,b] H) fun C H=>
 jb 0 (qW n (YU D n) [a,b,c,d,e,g,C,C] H) (zIw D n)))
def f89 (D:Dyn)(n:Nat)(vs:List AV)(H:AH):Option (AV×AH):=
 yR (hd vs fun a vs=>hd vs fun b vs=>hd vs fun c vs=>hd vs fun d vs=>hd vs fun e vs=>hd vs fun f vs=>nl vs <|
 bA (bxV 59 b) H fun g H=>
 bV (ldN 3 g H) fun h=>
 bR (callV (s89 D n).S D e [h] H) fun i H=>
 cnd i (bV (some (.bool true)) fun k=>some (.ret k,H))
 (bV (wR a) fun m=>
 bV (fAd 2 m) fun o=>
 bV (ld1 o H) fun p=>
 bV (qO .sub p (.int .i64 (.ofNat 1))) fun r=>
 bV (wR a) fun t=>
 bV (fAd 2 t) fun u=>
 bR (stN 1 u r H) fun v H=>
 bV (wR a) fun w=>
 bV (fAd 2 w) fun x=>
 bV (ld1 x H) fun y=>
 bV (qO .lss y (.int .i64 (.ofNat 0))) fun z=>
 cnd z (bV (wR a) fun B=>
 bV (fAd 3 B) fun C=>
 bR (stN 1 C (.int .i64 (.ofNat 4)) H) fun E H=>
 bV (some (.bool false)) fun F=>some (.ret F,H))
 (bV (wR a) fun G=>
 bV (fAd 1 G) fun I=>
 bV (ld1 I H) fun J=>
 bV (ldN 3 g H) fun K=>
 bV (lkM (1::[6,6,10]) (.agg [(.bool false), .nilSlice, .nilSlice, .nilSlice]) true J K H) fun M=>
 bV (qK M 0) fun N=>
 bV (qK M 1) fun O=>
 bA (bxV 93 (.agg [(.bool false), .nilSlice, .nilSlice, .nilSlice])) H fun P H=>
 bR (stN 4 P N H) fun Q H=>
 bV (aun .not O) fun R=>
 jn (cnd R (bV (wR a) fun T=>
 bV (fAd 0 T) fun U=>
 bV (ld1 U H) fun V=>
 bV (ldN 3 g H) fun W=>
 bR (zK5 D n [V,W] H) fun Y H=>
 bV (qK Y 0) fun Z=>
 bV (qK Y 1) fun a0=>
 bR (stN 4 P Z H) fun a1 H=>
 bV (wR a) fun a2=>
 bV (fAd 3 a2) fun a3=>
 bR (stN 1 a3 a0 H) fun a4 H=>
 some (.norm [a,c,d,e,f,g,P],H))
 (some (.norm [a,c,d,e,f,g,P],H))) (zIv D n))))
def h89:Hint:=(.s .o (.s (.s .o (.cl (.s .o .o) .o)) (.s (.s .o (.s .o (.cl (.s .o (.s .o .o)) .o))) (.s .o (.s (.s .o (.c [0,2,3,4,5,7,13] .o .o)) (.s (.s .o (.cl (.s .o .o) .o)) (.s (.s .o (.cl (.s .o .o) .o)) (.s .o (.s (.s .o (.b [] (.l [0,2,3,4,5,13,15,16] (.s (.s .o (.cr .o .o)) (.s (.b0 (.s (.s .o (.cl .o .o)) (.s .o (.cl (.s .o .o) .o)))) .o))))) (.s .o .o))))))))))
theorem zJH {D:Dyn}(hD:DG D)(n:Nat):FI 89 (f89 D n):=qS (n:=n) (h:=h89) X_ok hD (sc (zG2 hD n) (sc (aW hD n) (SOk.nil))) Tryz.func89 (by kernel_rfl) (by kernel_rfl)
def s87 (D:Dyn)(n:Nat):Tb:=⟨X,[(88,f88 D n),(89,f89 D n)]⟩
def zFl (D:Dyn)(n:Nat)(vs:List AV)(H:AH):Rs:=
 some (.ret (.tuple []),H)
def f87 (D:Dyn)(n:Nat)(vs:List AV)(H:AH):Option (AV×AH):=
 yR (hd vs fun a vs=>hd vs fun b vs=>hd vs fun c vs=>hd vs fun d vs=>hd vs fun e vs=>nl vs <|
 bV (ld1 b H) fun f=>
 bV (wR f) fun g=>
 bV (fAd 0 g) fun h=>
 bV (ld1 h H) fun i=>
 bR (f88 D n [i] H) fun k H=>
 bA (bxV 59 (.agg [(.int .i64 (.ofNat 0)),(.int .i64 (.ofNat 0)),(.int .u64 (.ofNat 0))])) H fun m H=>
 bR (stN 3 m k H) fun o H=>
 bV (fAd 0 m) fun p=>
 bV (ld1 p H) fun r=>
 bV (qO .neq r (.int .i64 (.ofNat 0))) fun t=>
 jn (wnt t true (bV (ld1 c H) fun u=>
 bV (jW .eql u (.str 0 0)) fun v=>
 some (.norm [v],H)) (some (.norm [qM],H))) fun vs H=>hd vs fun w vs=>
 jn (wnt w false (bV (ld1 d H) fun x=>
 bV (ld1 c H) fun y=>
 bV (jW .lss x y) fun z=>
 some (.norm [z],H)) (some (.norm [qM],H))) fun vs H=>hd vs fun B vs=>
 jn (wnt t true (bV (pk3 (some w) (some (.bool true)) (some B)) fun C=>
 some (.norm [C],H)) (some (.norm [qM],H))) fun vs H=>hd vs fun E vs=>
 bV (pk3 (some t) (some E) (some (.bool false))) fun F=>
 jn (cnd F (bV (ld1 b H) fun G=>
 bV (ldN 3 m H) fun I=>
 bV (ld1 d H) fun J=>
 bV (ld1 c H) fun K=>
 bV (ld1 e H) fun M=>
 bR (f89 D n [G,I,J,K,M,a] H) fun N H=>
 some (.norm [],H))
 (some (.norm [],H))) (zFl D n))
def h87:Hint:=(.s .o (.s .o (.c [] .o .o)))
theorem zND {D:Dyn}(hD:DG D)(n:Nat):FI 87 (f87 D n):=qS (n:=n) (h:=h87) X_ok hD (sc (zJI hD n) (sc (zJH hD n) (SOk.nil))) Tryz.func87 (by kernel_rfl) (by kernel_rfl)
def s64 (D:Dyn)(n:Nat):Tb:=⟨X,[]⟩
def f64 (D:Dyn)(n:Nat)(vs:List AV)(H:AH):Option (AV×AH):=
 yR (hd vs fun a vs=>hd vs fun b vs=>hd vs fun c vs=>hd vs fun d vs=>nl vs <|
 bA (bxV 79 a) H fun e H=>
 bA (bxV 9 b) H fun f H=>
 bA (bxV 9 c) H fun g H=>
 bA (bxV 84 d) H fun h H=>
 bV (some (.func 87 [] [e,g,f,h])) fun i=>some (.ret i,H))
def h64:Hint:=(.s .o (.s .o .o))
theorem zFx {D:Dyn}(hD:DG D)(n:Nat):FI 64 (f64 D n):=qS (n:=n) (h:=h64) X_ok hD (SOk.nil) Tryz.func64 (by kernel_rfl) (by kernel_rfl)
def s63 (D:Dyn)(n:Nat):Tb:=⟨X,[(64,f64 D n),(50,f50 D n)]⟩
def f63 (D:Dyn)(n:Nat)(vs:List AV)(H:AH):Option (AV×AH):=
 yR (hd vs fun a vs=>hd vs fun b vs=>hd vs fun c vs=>hd vs fun d vs=>hd vs fun e vs=>nl vs <|
 bA (bxV 114 a) H fun f H=>
 bV (ld1 b H) fun g=>
 bV (ld1 c H) fun h=>
 bV (ld1 d H) fun i=>
 bV (ld1 e H) fun k=>
 bR (f64 D n [g,h,i,k] H) fun m H=>
 XO H (.loop ⟨.ready,none,63,0,[2,3,5],[c,d,f]⟩) fun A H=>bR (rfC (s63 D n).S D m A H) fun _ H=>fK A H fun j H=>zH9 j (
 some (.ret (.tuple []),H))
 (fun id=>none) (some (.ret (.tuple []),H)))
def h63:Hint:=(.s .o (.s .o (.b0 (.rf 0 [2,3,5]))))
theorem zNQ {D:Dyn}(hD:DG D)(n:Nat):FI 63 (f63 D n):=qS (n:=n) (h:=h63) X_ok hD (sc (zFx hD n) (sc (aW hD n) (SOk.nil))) Tryz.func63 (by kernel_rfl) (by kernel_rfl)
def zAl (D:Dyn)(n:Nat)(vs:List AV)(H:AH):Rs:=
 hd vs fun a vs=>hd vs fun b vs=>hd vs fun c vs=>hd vs fun d vs=>
 bV (fAd 1 c) fun e=>
 bV (ld1 e H) fun f=>
 bV (lnSl f) fun g=>
 bV (qO .lss d g) fun h=>
 cnd h (bV (ld1 a H) fun i=>
 bV (jW .neq i (.str 0 0)) fun k=>
 jn (wnt k true (bV (fAd 1 c) fun m=>
 bV (ld1 m H) fun o=>
 bV (jL 1 o d) fun p=>
 bV (ld1 p H) fun r=>
 bV (ld1 a H) fun t=>
 bV (jW .geq r t) fun u=>
 some (.norm [u],H)) (some (.norm [qM],H))) fun vs H=>hd vs fun v vs=>
 bV (pk3 (some k) (some v) (some (.bool false))) fun w=>
 jn (wnt w false (bV (ld1 b H) fun x=>
 bV (fAd 1 c) fun y=>
 bV (ld1 y H) fun z=>
 bV (jL 1 z d) fun B=>
 bV (ld1 B H) fun C=>
 bV (fAd 2 c) fun E=>
 bV (ld1 E H) fun F=>
 bV (jL 1 F d) fun G=>
 bV (ld1 G H) fun I=>
 bV (wB [(0,1),(1,1)] [(.str 0 0),(.str 0 0)] [(0,C),(1,I)]) fun J=>
 bR (callV (s63 D n).S D x [J] H) fun K H=>
 bV (aun .not K) fun M=>
 some (.norm [M],H)) (some (.norm [qM],H))) fun vs H=>hd vs fun N vs=>
 bV (pk3 (some w) (some (.bool true)) (some N)) fun O=>
 cnd O (some (.ret (.tuple []),H))
 (bV (qO .add d (.int .i64 (.ofNat 1))) fun P=>
 some (.norm [a,b,c,P],H)))
 (some (.exit 2 [],H))
def zLx (D:Dyn)(n:Nat)(vs:List AV)(H:AH):Rs:=
 some (.norm [],H)
def zLw (D:Dyn)(n:Nat)(vs:List AV)(H:AH):Rs:=
 some (.norm [],H)
def zA1 (D:Dyn)(n:Nat)(A:Nat)(l:ALoop)(az:List AV)(H:AH):Option (AV×AH):=
 bif aZ [2,3,5] l.live then zLM A (hd l.vals fun a vs=>hd vs fun b vs=>hd vs fun c vs=>hd az fun d az=>hd az fun e az=>nl az <|
 bA (bxV 93 (.agg [(.bool false), .nilSlice, .nilSlice, .nilSlice])) H fun f H=>
 bR (stN 4 f e H) fun g H=>
 xV A H fun H=>
 jb 1 (bV (fAd 0 f) fun h=>
 bV (ld1 h H) fun i=>
 bV (aun .not i) fun k=>
 cnd k (some (.exit 1 [],H))
 (bV (ldN 4 f H) fun m=>
 bV (ld1 a H) fun o=>
 bR (f50 D n [m,o] H) fun p H=>
 jb 2 (qW n (zAl D n) [b,c,f,p] H) (zLx D n))) (zLw D n))else none
def zMN:Hint:= .o
def zMM:Hint:=(.b [] (.s (.s .o (.cl .o .o)) (.s .o (.b [] (.l [3,5,7,8] (.s (.s .o (.cr .o .o)) (.s (.b0 (.s .o (.cl .o .o))) .o)))))))
theorem zHN (D:Dyn)(n:Nat):zA1 D n=zKK (s63 D n) D n 63 0 [2,3,5] [] zMN zMM:=by kernel_rfl
theorem zHM {D:Dyn}(hD:DG D)(n:Nat):RS 63 0 (zA1 D n):=ZF X_ok hD (sc (zFx hD n) (sc (aW hD n) (SOk.nil))) (by kernel_rfl) (zHN D n)
def s40 (D:Dyn)(n:Nat):Tb:=⟨X,[]⟩
def f40 (D:Dyn)(n:Nat)(vs:List AV)(H:AH):Option (AV×AH):=
 yR (hd vs fun a vs=>hd vs fun b vs=>hd vs fun c vs=>hd vs fun d vs=>nl vs <|
 bA (bxV 79 a) H fun e H=>
 bA (bxV 9 b) H fun f H=>
 bA (bxV 9 c) H fun g H=>
 bA (bxV 84 d) H fun h H=>
 bV (some (.func 63 [] [e,f,g,h])) fun i=>some (.ret i,H))
def h40:Hint:=(.s .o (.s .o .o))
theorem zFF {D:Dyn}(hD:DG D)(n:Nat):FI 40 (f40 D n):=qS (n:=n) (h:=h40) X_ok hD (SOk.nil) Tryz.func40 (by kernel_rfl) (by kernel_rfl)
def s41 (D:Dyn)(n:Nat):Tb:=⟨X,[]⟩
def f41 (D:Dyn)(n:Nat)(vs:List AV)(H:AH):Option (AV×AH):=
 yR (hd vs fun a vs=>nl vs <|
 bA (bxV 59 a) H fun b H=>
 bV (some (.bool false)) fun c=>some (.ret c,H))
def h41:Hint:=(.s .o (.s .o .o))
theorem zNY {D:Dyn}(hD:DG D)(n:Nat):FI 41 (f41 D n):=qS (n:=n) (h:=h41) X_ok hD (SOk.nil) Tryz.func41 (by kernel_rfl) (by kernel_rfl)
def s16 (D:Dyn)(n:Nat):Tb:=⟨X,[(39,f39 D n),(40,f40 D n)]⟩
def zOa (D:Dyn)(n:Nat)(vs:List AV)(H:AH):Rs:=
 hd vs fun a vs=>hd vs fun b vs=>hd vs fun c vs=>
 bV (wR a) fun d=>
 bV (fAd 3 d) fun e=>
 bV (ld1 e H) fun f=>
 bV (qO .neq f (.int .i64 (.ofNat 0))) fun g=>
 cnd g (bV (wR a) fun h=>
 bV (fAd 3 h) fun i=>
 bV (ld1 i H) fun k=>
 bV (some .nilSlice) fun m=>bV (some (.bool false)) fun o=>bV (some k) fun p=>some (.ret (.tuple [m,o,p]),H))
 (bV (ld1 b H) fun r=>
 bV (ld1 c H) fun t=>
 bV (some r) fun u=>bV (some t) fun v=>bV (some (.int .i64 (.ofNat 0))) fun w=>some (.ret (.tuple [u,v,w]),H))
def f16 (D:Dyn)(n:Nat)(vs:List AV)(H:AH):Option (AV×AH):=
 yR (hd vs fun a vs=>hd vs fun b vs=>hd vs fun c vs=>hd vs fun d vs=>nl vs <|
 bA (bxV 3 d) H fun e H=>
 bV (vJ .eql (eqP a .nilPtr)) fun f=>
 cnd f (bV (some .nilSlice) fun g=>bV (some (.bool false)) fun h=>bV (some (.int .i64 (.ofNat 2))) fun i=>some (.ret (.tuple [g,h,i]),H))
 (bV (ld1 e H) fun k=>
 bV (qO .lss k (.int .i64 (.ofNat 0))) fun m=>
 cnd m (bV (some .nilSlice) fun o=>bV (some (.bool false)) fun p=>bV (some (.int .i64 (.ofNat 1))) fun r=>some (.ret (.tuple [o,p,r]),H))
 (bR (f39 D n [a] H) fun t H=>
 bA (bxV 27 .nilSlice) H fun u H=>
 bA (bxV 4 (.bool false)) H fun v H=>
 bR (stN 1 v (.bool false) H) fun w H=>
 bR (f40 D n [t,b,c,(.func 41 [] [])] H) fun x H=>
 jb 0 (XO H (.loop ⟨.ready,none,16,0,[7,12,13],[e,u,v]⟩) fun A H=>bR (rfC (s16 D n).S D x A H) fun _ H=>fK A H fun j H=>zH9 j (
 some (.norm [t,u,v],H))
 (fun id=>cond (Nat.beq 0 id) (some (.exit id [t,u,v],H)) (none)) (bV (some .nilSlice) fun y=>bV (some (.bool false)) fun z=>bV (some (.int .i64 (.ofNat 0))) fun B=>some (.ret (.tuple [y,z,B]),H))) (zOa D n))))
def h16:Hint:=(.s .o (.s (.s .o (.cl (.s .o .o) .o)) (.s (.s .o (.cl (.s .o .o) .o)) (.s .o (.s .o (.s .o (.s (.s .o (.b [11,12,13] (.rf 0 [7,12,13]))) (.s (.s .o (.cl (.s .o .o) .o)) (.s .o .o)))))))))
theorem zBE {D:Dyn}(hD:DG D)(n:Nat):FI 16 (f16 D n):=qS (n:=n) (h:=h16) X_ok hD (sc (zFG hD n) (sc (zFF hD n) (SOk.nil))) Tryz.func16 (by kernel_rfl) (by kernel_rfl)
def zCp (D:Dyn)(n:Nat)(A:Nat)(l:ALoop)(az:List AV)(H:AH):Option (AV×AH):=
 bif aZ [7,12,13] l.live then zLM A (hd l.vals fun a vs=>hd vs fun b vs=>hd vs fun c vs=>hd az fun d az=>nl az <|
 bA (bxV 50 (.agg [(.str 0 0),(.str 0 0)])) H fun e H=>
 bR (stN 2 e d H) fun f H=>
 xV A H fun H=>
 bV (ld1 b H) fun g=>
 bV (lnSl g) fun h=>
 bV (ld1 a H) fun i=>
 bV (qO .eql h i) fun k=>
 cnd k (bR (stN 1 c (.bool true) H) fun m H=>
 some (.exit 0 [],H))
 (bV (ld1 b H) fun o=>
 bV (ldN 2 e H) fun p=>
 bA (wQ 50 2 1 [(.str 0 0),(.str 0 0)] [(0,p)]) H fun r H=>
 bR (apP 50 2 32 o r H) fun t H=>
 bR (stN 1 b t H) fun u H=>
 some (.norm [],H)))else none
def zMR:Hint:= .o
def zMQ:Hint:=(.b0 (.s (.s .o (.cl (.s .o .o) .o)) .o))
theorem zHR (D:Dyn)(n:Nat):zCp D n=zKK (s16 D n) D n 16 0 [7,12,13] [0] zMR zMQ:=by kernel_rfl
theorem zHQ {D:Dyn}(hD:DG D)(n:Nat):RS 16 0 (zCp D n):=ZF X_ok hD (sc (zFG hD n) (sc (zFF hD n) (SOk.nil))) (by kernel_rfl) (zHR D n)
def s33 (D:Dyn)(n:Nat):Tb:=⟨X,[(18,f18 D n),(42,f42 D n),(59,f59 D n),(16,f16 D n)]⟩
def zLE (D:Dyn)(n:Nat)(vs:List AV)(H:AH):Rs:=
 hd vs fun a vs=>hd vs fun b vs=>hd vs fun c vs=>hd vs fun d vs=>
 bV (qO .add d (.int .i64 (.ofNat 1))) fun e=>
 some (.norm [a,b,c,e],H)
def zAo (D:Dyn)(n:Nat)(vs:List AV)(H:AH):Rs:=
 hd vs fun a vs=>hd vs fun b vs=>hd vs fun c vs=>hd vs fun d vs=>
 bV (qO .lss d c) fun e=>
 cnd e (bV (jL 2 b d) fun f=>
 bV (ldN 2 f H) fun g=>
 bA (bxV 50 (.agg [(.str 0 0),(.str 0 0)])) H fun h H=>
 bR (stN 2 h g H) fun i H=>
 bV (fAd 0 h) fun k=>
 bV (ld1 k H) fun m=>
 bV (jO m) fun o=>
 bV (qO .eql o (.int .i64 (.ofNat 9))) fun p=>
 jn (cnd p (bV (ldN 2 h H) fun r=>
 bA (wQ 50 2 1 [(.str 0 0),(.str 0 0)] [(0,r)]) H fun t H=>
 bR (apP 50 2 32 a t H) fun u H=>
 some (.norm [u,b,c,d],H))
 (some (.norm [a,b,c,d],H))) (zLE D n))
 (some (.exit 0 [a],H))
def zO4 (D:Dyn)(n:Nat)(vs:List AV)(H:AH):Rs:=
 hd vs fun a vs=>
 bV (some a) fun b=>bV (some (.int .i64 (.ofNat 0))) fun c=>some (.ret (.tuple [b,c]),H)
def f33 (D:Dyn)(n:Nat)(vs:List AV)(H:AH):Option (AV×AH):=
 yR (hd vs fun a vs=>hd vs fun b vs=>hd vs fun c vs=>nl vs <|
 bV (qO .gtr c (.int .i64 (.ofNat 4294967295))) fun d=>
 cnd d (bV (some .nilSlice) fun e=>bV (some (.int .i64 (.ofNat 0))) fun f=>some (.ret (.tuple [e,f]),H))
 (bR (f18 D n [b,c] H) fun g H=>
 bR (f42 D n [b] H) fun h H=>
 bR (f59 D n [h] H) fun i H=>
 bR (f16 D n [a,g,i,(.int .i64 (.ofNat 9223372036854775807))] H) fun k H=>
 bV (qK k 0) fun m=>
 bV (qK k 1) fun o=>
 bV (qK k 2) fun p=>
 bV (qO .neq p (.int .i64 (.ofNat 0))) fun r=>
 cnd r (bV (some .nilSlice) fun t=>bV (some p) fun u=>some (.ret (.tuple [t,u]),H))
 (bV (lnSl m) fun v=>
 jb 0 (qW n (zAo D n) [.nilSlice,m,v,(.int .i64 (.ofNat 0))] H) (zO4 D n))))
def h33:Hint:=(.s .o (.s (.s .o (.cl (.s .o .o) .o)) (.s .o (.s (.s .o (.cl (.s .o .o) .o)) (.s .o (.s (.s .o (.b [11] (.l [11,31,32,33] (.s .o (.s (.cr .o .o) (.s (.b0 (.s .o (.s .o (.c [11,31,32,33] .o .o)))) .o)))))) (.s .o .o)))))))
theorem zFL {D:Dyn}(hD:DG D)(n:Nat):FI 33 (f33 D n):=qS (n:=n) (h:=h33) X_ok hD (sc (aX hD n) (sc (zFE hD n) (sc (zJR hD n) (sc (zBE hD n) (SOk.nil))))) Tryz.func33 (by kernel_rfl) (by kernel_rfl)
def s34 (D:Dyn)(n:Nat):Tb:=⟨X,[(18,f18 D n),(32,f32 D n),(35,f35 D n)]⟩
def zFK (D:Dyn)(n:Nat)(vs:List AV)(H:AH):Rs:=
 hd vs fun a vs=>hd vs fun b vs=>hd vs fun c vs=>hd vs fun d vs=>hd vs fun e vs=>hd vs fun f vs=>hd vs fun g vs=>
 bV (qO .add g (.int .i64 (.ofNat 1))) fun h=>
 some (.norm [a,b,c,d,e,f,h],H)
def UF (D:Dyn)(n:Nat)(vs:List AV)(H:AH):Rs:=
 hd vs fun a vs=>hd vs fun b vs=>hd vs fun c vs=>hd vs fun d vs=>hd vs fun e vs=>hd vs fun f vs=>hd vs fun g vs=>
 bV (qO .lss g f) fun h=>
 cnd h (jb 1 (bV (jL 2 e g) fun i=>
 bV (ldN 2 i H) fun k=>
 bA (bxV 50 (.agg [(.str 0 0),(.str 0 0)])) H fun m H=>
 bR (stN 2 m k H) fun o H=>
 bV (fAd 0 m) fun p=>
 bV (ld1 p H) fun r=>
 bV (ld1 a H) fun t=>
 bV (ld1 b H) fun u=>
 bR (f18 D n [t,u] H) fun v H=>chk (ld1 p H) r <|
 bV (jW .eql r v) fun w=>
 jn (wnt w true (bV (ld1 c H) fun x=>
 bV (qO .gtr x (.int .i64 (.ofNat 0))) fun y=>
 some (.norm [y],H)) (some (.norm [qM],H))) fun vs H=>hd vs fun z vs=>
 bV (pk3 (some w) (some z) (some (.bool false))) fun B=>
 cnd B (bV (fAd 1 m) fun C=>
 bV (ld1 C H) fun E=>
 bV (jO E) fun F=>
 bV (ld1 c H) fun G=>
 bV (qO .leq F G) fun I=>
 cnd I (some (.exit 1 [a,b,c,d,e,f,g],H))
 (bV (ld1 d H) fun J=>
 bV (ld1 a H) fun K=>
 bV (ld1 b H) fun M=>
 bV (fAd 1 m) fun N=>
 bV (ld1 N H) fun O=>
 bV (ld1 c H) fun P=>
 bV (uV O none (some P)) fun Q=>
 bA (cvSB 5 Q) H fun R H=>
 bR (f32 D n [J,K,M,R,(.bool true)] H) fun T H=>
 bV (qO .neq T (.int .i64 (.ofNat 0))) fun U=>
 cnd U (bV (some T) fun V=>some (.ret V,H))
 (some (.exit 1 [a,b,c,d,e,f,g],H))))
 (bV (ld1 d H) fun W=>
 bV (fAd 0 m) fun Y=>
 bV (ld1 Y H) fun Z=>
 bR (f35 D n [W,Z] H) fun a0 H=>
 bV (qO .neq a0 (.int .i64 (.ofNat 0))) fun a1=>
 cnd a1 (bV (some a0) fun a2=>some (.ret a2,H))
 (some (.norm [a,b,c,d,e,f,g],H)))) (zFK D n))
 (some (.exit 0 [],H))
def zO2 (D:Dyn)(n:Nat)(vs:List AV)(H:AH):Rs:=
 bV (some (.int .i64 (.ofNat 0))) fun a=>some (.ret a,H)
def f34 (D:Dyn)(n:Nat)(vs:List AV)(H:AH):Option (AV×AH):=
 yR (hd vs fun a vs=>hd vs fun b vs=>hd vs fun c vs=>hd vs fun d vs=>hd vs fun e vs=>nl vs <|
 bV (ld1 a H) fun f=>
 bV (lnSl f) fun g=>
 jb 0 (qW n (UF D n) [b,c,d,e,f,g,(.int .i64 (.ofNat 0))] H) (zO2 D n))
def h34:Hint:=(.s .o (.s (.s .o (.b [] (.l [1,2,3,4,10,11,12] (.s .o (.s (.cr .o .o) (.s (.b [1,2,3,4,10,11,12] (.s .o (.s (.s .o (.cl (.s (.s .o (.cl .o .o)) (.s (.s .o (.s .o (.cl (.s .o .o) .o))) .o)) .o)) (.s .o (.s .o (.cl (.s .o .o) .o)))))) .o)))))) (.s .o .o)))
theorem zO3 {D:Dyn}(hD:DG D)(n:Nat):FI 34 (f34 D n):=qS (n:=n) (h:=h34) X_ok hD (sc (aX hD n) (sc (zBC hD n) (sc (zFJ hD n) (SOk.nil)))) Tryz.func34 (by kernel_rfl) (by kernel_rfl)
def s11 (D:Dyn)(n:Nat):Tb:=⟨X,[(27,f27 D n),(33,f33 D n),(28,f28 D n)]⟩
def f11 (D:Dyn)(n:Nat)(vs:List AV)(H:AH):Option (AV×AH):=
 yR (hd vs fun a vs=>hd vs fun b vs=>hd vs fun c vs=>nl vs <|
 bA (bxV 25 a) H fun d H=>
 bA (bxV 3 b) H fun e H=>
 bV (ld1 d H) fun f=>
 bV (vJ .eql (eqP f .nilPtr)) fun g=>
 cnd g (bV (some (.int .i64 (.ofNat 2))) fun h=>some (.ret h,H))
 (bV (ld1 e H) fun i=>
 bR (f27 D n [i] H) fun k H=>
 bV (aun .not k) fun m=>
 jn (wnt m false (bV (qO .lss c (.int .i64 (.ofNat 0))) fun o=>
 some (.norm [o],H)) (some (.norm [qM],H))) fun vs H=>hd vs fun p vs=>
 bV (pk3 (some m) (some (.bool true)) (some p)) fun r=>
 cnd r (bV (some (.int .i64 (.ofNat 1))) fun t=>some (.ret t,H))
 (bV (qO .quo c (.int .i64 (.ofNat 128))) fun u=>
 bV (qO .rem c (.int .i64 (.ofNat 128))) fun v=>
 bA (bxV 3 (.int .i64 (.ofNat 0))) H fun w H=>
 bA (bxV 3 (.int .i64 (.ofNat 0))) H fun x H=>
 bR (stN 1 w u H) fun y H=>
 bR (stN 1 x v H) fun z H=>
 bV (ld1 d H) fun B=>
 bV (ld1 e H) fun C=>
 bV (ld1 w H) fun E=>
 bR (f33 D n [B,C,E] H) fun F H=>
 bV (qK F 0) fun G=>
 bV (qK F 1) fun I=>
 bA (bxV 27 .nilSlice) H fun J H=>
 bR (stN 1 J G H) fun K H=>
 bV (qO .neq I (.int .i64 (.ofNat 0))) fun M=>
 jn (wnt M false (bV (ld1 J H) fun N=>
 bV (lnSl N) fun O=>
 bV (qO .eql O (.int .i64 (.ofNat 0))) fun P=>
 some (.norm [P],H)) (some (.norm [qM],H))) fun vs H=>hd vs fun Q vs=>
 bV (pk3 (some M) (some (.bool true)) (some Q)) fun R=>
 cnd R (bV (some I) fun T=>some (.ret T,H))
 (bV (ld1 d H) fun U=>
 bR (f28 D n [U,(.func 34 [] [J,e,w,x,d])] H) fun V H=>
 bV (some V) fun W=>some (.ret W,H)))))
def h11:Hint:=(.s .o (.s (.s .o (.cl (.s .o .o) .o)) (.s (.s .o (.cl (.s .o .o) .o)) (.s .o (.s .o (.s (.s .o (.cl (.s .o .o) .o)) (.s .o .o)))))))
theorem zBH {D:Dyn}(hD:DG D)(n:Nat):FI 11 (f11 D n):=qS (n:=n) (h:=h11) X_ok hD (sc (JO hD n) (sc (zFL hD n) (sc (zFM hD n) (SOk.nil)))) Tryz.func11 (by kernel_rfl) (by kernel_rfl)
def s14 (D:Dyn)(n:Nat):Tb:=⟨X,[(27,f27 D n),(33,f33 D n)]⟩
def f14 (D:Dyn)(n:Nat)(vs:List AV)(H:AH):Option (AV×AH):=
 yR (hd vs fun a vs=>hd vs fun b vs=>nl vs <|
 bV (vJ .eql (eqP a .nilPtr)) fun c=>
 cnd c (bV (some (.int .i64 (.ofNat 0))) fun d=>bV (some (.int .i64 (.ofNat 2))) fun e=>some (.ret (.tuple [d,e]),H))
 (bR (f27 D n [b] H) fun f H=>
 bV (aun .not f) fun g=>
 cnd g (bV (some (.int .i64 (.ofNat 0))) fun h=>bV (some (.int .i64 (.ofNat 1))) fun i=>some (.ret (.tuple [h,i]),H))
 (bR (f33 D n [a,b,(.int .i64 (.ofNat 0))] H) fun k H=>
 bV (qK k 0) fun m=>
 bV (qK k 1) fun o=>
 bV (lnSl m) fun p=>
 bV (some p) fun r=>bV (some o) fun t=>some (.ret (.tuple [r,t]),H))))
def h14:Hint:=(.s .o (.s (.s .o (.cl (.s .o .o) .o)) (.s (.s .o (.cl (.s .o .o) .o)) (.s .o (.s .o .o)))))
theorem zBF {D:Dyn}(hD:DG D)(n:Nat):FI 14 (f14 D n):=qS (n:=n) (h:=h14) X_ok hD (sc (JO hD n) (sc (zFL hD n) (SOk.nil))) Tryz.func14 (by kernel_rfl) (by kernel_rfl)
def s6 (D:Dyn)(n:Nat):Tb:=⟨X,[(7,f7 D n),(9,f9 D n),(18,f18 D n),(21,f21 D n),(12,f12 D n),(11,f11 D n),(14,f14 D n)]⟩
def f6 (D:Dyn)(n:Nat)(vs:List AV)(H:AH):Option (AV×AH):=
 yR (nl vs <|
 bR (f7 D n [] H) fun a H=>
 bV (vJ .eql (eqP a .nilPtr)) fun b=>
 jn (wnt b false (bR (f9 D n [a,(.int .i64 (.ofNat 5)),(.int .i64 (.ofNat 126)),(.str 4 1684234849)] H) fun c H=>
 bV (qO .neq c (.int .i64 (.ofNat 0))) fun d=>
 some (.norm [d],H)) (some (.norm [qM],H))) fun vs H=>hd vs fun e vs=>
 bV (pk3 (some b) (some (.bool true)) (some e)) fun f=>
 cnd f (bV (some (.bool false)) fun g=>some (.ret g,H))
 (bR (f18 D n [(.int .i64 (.ofNat 5)),(.int .i64 (.ofNat 0))] H) fun h H=>
 bR (f21 D n [a,h] H) fun i H=>
 bV (qK i 0) fun k=>
 bV (qK i 1) fun m=>
 bR (f18 D n [(.int .i64 (.ofNat 5)),(.int .i64 (.ofNat 1))] H) fun o H=>
 bR (f21 D n [a,o] H) fun p H=>
 bV (qK p 0) fun r=>
 bV (qK p 1) fun t=>
 bR (f12 D n [a,(.int .i64 (.ofNat 5)),(.int .i64 (.ofNat 130)),(.int .i64 (.ofNat 125)),(.int .i64 (.ofNat 3))] H) fun u H=>
 bV (qK u 0) fun v=>
 bV (qK u 1) fun w=>
 bR (f11 D n [a,(.int .i64 (.ofNat 5)),(.int .i64 (.ofNat 127))] H) fun x H=>
 bR (f18 D n [(.int .i64 (.ofNat 5)),(.int .i64 (.ofNat 0))] H) fun y H=>
 bR (f21 D n [a,y] H) fun z H=>
 bV (qK z 0) fun B=>
 bV (qK z 1) fun C=>
 bR (f18 D n [(.int .i64 (.ofNat 5)),(.int .i64 (.ofNat 1))] H) fun E H=>
 bR (f21 D n [a,E] H) fun F H=>
 bV (qK F 0) fun G=>
 bV (qK F 1) fun I=>
 bR (f9 D n [a,(.int .i64 (.ofNat 5)),(.int .i64 (.ofNat 126)),(.str 1 0)] H) fun J H=>
 bR (f14 D n [a,(.int .i64 (.ofNat 5))] H) fun K H=>
 bV (qK K 0) fun M=>
 bV (qK K 1) fun N=>
 bV (jO k) fun O=>
 bV (qO .eql O (.int .i64 (.ofNat 128))) fun P=>
 jn (wnt P true (bV (uV k (some (.int .i64 (.ofNat 126))) none) fun Q=>
 bV (jW .eql Q (.str 2 25185)) fun R=>
 some (.norm [R],H)) (some (.norm [qM],H))) fun vs H=>hd vs fun T vs=>
 bV (pk3 (some P) (some T) (some (.bool false))) fun U=>
 jn (wnt U true (bV (qO .eql m (.int .i64 (.ofNat 0))) fun V=>
 some (.norm [V],H)) (some (.norm [qM],H))) fun vs H=>hd vs fun W vs=>
 bV (pk3 (some U) (some W) (some (.bool false))) fun Y=>
 jn (wnt Y true (bV (jW .eql r (.str 2 25699)) fun Z=>
 some (.norm [Z],H)) (some (.norm [qM],H))) fun vs H=>hd vs fun a0 vs=>
 bV (pk3 (some Y) (some a0) (some (.bool false))) fun a1=>
 jn (wnt a1 true (bV (qO .eql t (.int .i64 (.ofNat 0))) fun a2=>
 some (.norm [a2],H)) (some (.norm [qM],H))) fun vs H=>hd vs fun a3 vs=>
 bV (pk3 (some a1) (some a3) (some (.bool false))) fun a4=>
 jn (wnt a4 true (bV (jW .eql v (.str 3 6447360)) fun a5=>
 some (.norm [a5],H)) (some (.norm [qM],H))) fun vs H=>hd vs fun a6 vs=>
 bV (pk3 (some a4) (some a6) (some (.bool false))) fun a7=>
 jn (wnt a7 true (bV (qO .eql w (.int .i64 (.ofNat 0))) fun a8=>
 some (.norm [a8],H)) (some (.norm [qM],H))) fun vs H=>hd vs fun a9 vs=>
 bV (pk3 (some a7) (some a9) (some (.bool false))) fun b0=>
 jn (wnt b0 true (bV (qO .eql x (.int .i64 (.ofNat 0))) fun b1=>
 some (.norm [b1],H)) (some (.norm [qM],H))) fun vs H=>hd vs fun b2 vs=>
 bV (pk3 (some b0) (some b2) (some (.bool false))) fun b3=>
 jn (wnt b3 true (bV (jO B) fun b4=>
 bV (qO .eql b4 (.int .i64 (.ofNat 127))) fun b5=>
 some (.norm [b5],H)) (some (.norm [qM],H))) fun vs H=>hd vs fun b6 vs=>
 bV (pk3 (some b3) (some b6) (some (.bool false))) fun b7=>
 jn (wnt b7 true (bV (v8 B (.int .i64 (.ofNat 126))) fun b8=>
 bV (qO .eql b8 (.int .u8 (.ofNat 97))) fun b9=>
 some (.norm [b9],H)) (some (.norm [qM],H))) fun vs H=>hd vs fun c0 vs=>
 bV (pk3 (some b7) (some c0) (some (.bool false))) fun c1=>
 jn (wnt c1 true (bV (qO .eql C (.int .i64 (.ofNat 0))) fun c2=>
 some (.norm [c2],H)) (some (.norm [qM],H))) fun vs H=>hd vs fun c3 vs=>
 bV (pk3 (some c1) (some c3) (some (.bool false))) fun c4=>
 jn (wnt c4 true (bV (qO .eql I (.int .i64 (.ofNat 5))) fun c5=>
 some (.norm [c5],H)) (some (.norm [qM],H))) fun vs H=>hd vs fun c6 vs=>
 bV (pk3 (some c4) (some c6) (some (.bool false))) fun c7=>
 jn (wnt c7 true (bV (qO .eql J (.int .i64 (.ofNat 0))) fun c8=>
 some (.norm [c8],H)) (some (.norm [qM],H))) fun vs H=>hd vs fun c9 vs=>
 bV (pk3 (some c7) (some c9) (some (.bool false))) fun d0=>
 jn (wnt d0 true (bV (qO .eql M (.int .i64 (.ofNat 0))) fun d1=>
 some (.norm [d1],H)) (some (.norm [qM],H))) fun vs H=>hd vs fun d2 vs=>
 bV (pk3 (some d0) (some d2) (some (.bool false))) fun d3=>
 jn (wnt d3 true (bV (qO .eql N (.int .i64 (.ofNat 0))) fun d4=>
 some (.norm [d4],H)) (some (.norm [qM],H))) fun vs H=>hd vs fun d5 vs=>
 bV (pk3 (some d3) (some d5) (some (.bool false))) fun d6=>
 jn (wnt d6 true (bR (f18 D n [(.int .i64 (.ofNat 5)),(.int .i64 (.ofNat 1))] H) fun d7 H=>
 bV (jW .eql d7 (.str 9 18446744095184388196)) fun d8=>
 some (.norm [d8],H)) (some (.norm [qM],H))) fun vs H=>hd vs fun d9 vs=>
 bV (pk3 (some d6) (some d9) (some (.bool false))) fun e0=>
 bV (some e0) fun e1=>some (.ret e1,H)))
def h6:Hint:=(.s .o (.s .o (.s (.s .o (.cl (.s .o .o) .o)) (.s .o (.s .o (.s .o (.s .o (.s .o (.s .o (.s .o (.s .o (.s .o .o))))))))))))
theorem zIz {D:Dyn}(hD:DG D)(n:Nat):FI 6 (f6 D n):=qS (n:=n) (h:=h6) X_ok hD (sc (zIy hD n) (sc (zIs hD n) (sc (aX hD n) (sc (zFQ hD n) (sc (zBG hD n) (sc (zBH hD n) (sc (zBF hD n) (SOk.nil)))))))) Tryz.func6 (by kernel_rfl) (by kernel_rfl)
def s5 (D:Dyn)(n:Nat):Tb:=⟨X,[]⟩
def zLy (D:Dyn)(n:Nat)(vs:List AV)(H:AH):Rs:=
 hd vs fun a vs=>hd vs fun b vs=>hd vs fun c vs=>
 bV (lnSl a) fun d=>
 bV (qO .lss c d) fun e=>
 cnd e (bV (jL 6 a c) fun f=>
 bV (fAd 5 f) fun g=>
 bV (ld1 g H) fun h=>
 bV (jO h) fun i=>
 bV (qO .gtr i (.int .i64 (.ofNat 3000))) fun k=>
 cnd k (bV (some (.bool true)) fun m=>some (.ret m,H))
 (bV (jL 6 a c) fun o=>
 bV (fAd 5 o) fun p=>
 bV (ld1 p H) fun r=>
 bV (jO r) fun t=>
 bV (qO .add b t) fun u=>
 bV (qO .add c (.int .i64 (.ofNat 1))) fun v=>
 some (.norm [a,u,v],H)))
 (some (.exit 0 [b],H))
def f5b1 (D:Dyn)(n:Nat)(vs:List AV)(H:AH):Rs:=
 hd vs fun a vs=>
 bV (qO .gtr a (.int .i64 (.ofNat 9000))) fun b=>
 bV (some b) fun c=>some (.ret c,H)
def f5 (D:Dyn)(n:Nat)(vs:List AV)(H:AH):Option (AV×AH):=
 yR (hd vs fun a vs=>nl vs <|
 bV (lnSl a) fun b=>
 bV (qO .gtr b (.int .i64 (.ofNat 25))) fun c=>
 cnd c (bV (some (.bool true)) fun d=>some (.ret d,H))
 (jb 0 (qW n (zLy D n) [a,(.int .i64 (.ofNat 0)),(.int .i64 (.ofNat 0))] H) (f5b1 D n)))
def h5:Hint:=(.s .o (.s (.s .o (.cl (.s .o .o) .o)) (.s .o (.s (.s .o (.b [3] (.l [0,3,4] (.s (.s .o (.cr .o .o)) (.s (.b0 (.s (.s .o (.cl (.s .o .o) .o)) .o)) .o))))) (.s .o .o)))))
theorem zLz {D:Dyn}(hD:DG D)(n:Nat):FI 5 (f5 D n):=qS (n:=n) (h:=h5) X_ok hD (SOk.nil) Tryz.func5 (by kernel_rfl) (by kernel_rfl)
def s24 (D:Dyn)(n:Nat):Tb:=⟨X,[]⟩
def f24 (D:Dyn)(n:Nat)(vs:List AV)(H:AH):Option (AV×AH):=
 yR (hd vs fun a vs=>nl vs <|
 bV (qO .geq a (.int .i64 (.ofNat 1))) fun b=>
 jn (wnt b true (bV (qO .leq a (.int .i64 (.ofNat 2147483647))) fun c=>
 some (.norm [c],H)) (some (.norm [qM],H))) fun vs H=>hd vs fun d vs=>
 bV (pk3 (some b) (some d) (some (.bool false))) fun e=>
 bV (some e) fun f=>some (.ret f,H))
def h24:Hint:=(.s .o (.s .o .o))
theorem UI {D:Dyn}(hD:DG D)(n:Nat):FI 24 (f24 D n):=qS (n:=n) (h:=h24) X_ok hD (SOk.nil) Tryz.func24 (by kernel_rfl) (by kernel_rfl)
def s38 (D:Dyn)(n:Nat):Tb:=⟨X,[]⟩
def f38 (D:Dyn)(n:Nat)(vs:List AV)(H:AH):Option (AV×AH):=
 yR (hd vs fun a vs=>nl vs <|
 bV (qO .shr a (.int .u64 (.ofNat 24))) fun b=>
 bV (cvI .u8 b) fun c=>
 bV (qO .shr a (.int .u64 (.ofNat 16))) fun d=>
 bV (cvI .u8 d) fun e=>
 bV (qO .shr a (.int .u64 (.ofNat 8))) fun f=>
 bV (cvI .u8 f) fun g=>
 bV (cvI .u8 a) fun h=>
 bA (wQ 5 1 4 [(.int .u8 (.ofNat 0))] [(0,c),(1,e),(2,g),(3,h)]) H fun i H=>
 bV (fL i H) fun k=>
 bV (some k) fun m=>some (.ret m,H))
def h38:Hint:=(.s .o (.s .o .o))
theorem zFH {D:Dyn}(hD:DG D)(n:Nat):FI 38 (f38 D n):=qS (n:=n) (h:=h38) X_ok hD (SOk.nil) Tryz.func38 (by kernel_rfl) (by kernel_rfl)
def s19 (D:Dyn)(n:Nat):Tb:=⟨X,[(38,f38 D n)]⟩
def f19 (D:Dyn)(n:Nat)(vs:List AV)(H:AH):Option (AV×AH):=
 yR (hd vs fun a vs=>hd vs fun b vs=>nl vs <|
 bR (f38 D n [a] H) fun c H=>
 bV (jW .add (.str 1 100) c) fun d=>
 bR (f38 D n [b] H) fun e H=>
 bV (jW .add d e) fun f=>
 bV (some f) fun g=>some (.ret g,H))
def h19:Hint:=(.s .o (.s .o .o))
theorem JP {D:Dyn}(hD:DG D)(n:Nat):FI 19 (f19 D n):=qS (n:=n) (h:=h19) X_ok hD (sc (zFH hD n) (SOk.nil)) Tryz.func19 (by kernel_rfl) (by kernel_rfl)
def s53 (D:Dyn)(n:Nat):Tb:=⟨X,[]⟩
def zAm (D:Dyn)(n:Nat)(vs:List AV)(H:AH):Rs:=
 hd vs fun a vs=>hd vs fun b vs=>hd vs fun c vs=>
 bV (lnSl a) fun d=>
 bV (qO .lss c d) fun e=>
 cnd e (bV (jL 2 a c) fun f=>
 bV (fAd 0 f) fun g=>
 bV (ld1 g H) fun h=>
 bV (jW .eql h b) fun i=>
 cnd i (bV (jL 2 a c) fun k=>
 bV (fAd 1 k) fun m=>
 bV (ld1 m H) fun o=>
 bV (some o) fun p=>some (.ret p,H))
 (bV (qO .add c (.int .i64 (.ofNat 1))) fun r=>
 some (.norm [a,b,r],H)))
 (some (.exit 0 [],H))
def zNV (D:Dyn)(n:Nat)(vs:List AV)(H:AH):Rs:=
 bV (some (.str 0 0)) fun a=>some (.ret a,H)
def f53 (D:Dyn)(n:Nat)(vs:List AV)(H:AH):Option (AV×AH):=
 yR (hd vs fun a vs=>hd vs fun b vs=>nl vs <|
 jb 0 (qW n (zAm D n) [a,b,(.int .i64 (.ofNat 0))] H) (zNV D n))
def h53:Hint:=(.s .o (.s (.s .o (.b [] (.l [0,1,5] (.s (.s .o (.cr .o .o)) (.s (.b0 (.s .o (.cl (.s .o .o) .o))) .o))))) (.s .o .o)))
theorem zJV {D:Dyn}(hD:DG D)(n:Nat):FI 53 (f53 D n):=qS (n:=n) (h:=h53) X_ok hD (SOk.nil) Tryz.func53 (by kernel_rfl) (by kernel_rfl)
def s25 (D:Dyn)(n:Nat):Tb:=⟨X,[(19,f19 D n),(53,f53 D n)]⟩
def zCG (D:Dyn)(n:Nat)(vs:List AV)(H:AH):Rs:=
 hd vs fun a vs=>hd vs fun b vs=>hd vs fun c vs=>hd vs fun d vs=>hd vs fun e vs=>hd vs fun f vs=>
 bV (jO e) fun g=>
 bV (qO .lss f g) fun h=>
 jn (wnt h true (bV (qO .lss f (.int .i64 (.ofNat 128))) fun i=>
 some (.norm [i],H)) (some (.norm [qM],H))) fun vs H=>hd vs fun k vs=>
 bV (pk3 (some h) (some k) (some (.bool false))) fun m=>
 cnd m (bV (qO .mul d (.int .i64 (.ofNat 128))) fun o=>
 bV (qO .add o f) fun p=>
 bV (v8 e f) fun r=>
 bV (jL 1 c p) fun t=>
 bR (stN 1 t r H) fun u H=>
 bV (qO .add f (.int .i64 (.ofNat 1))) fun v=>
 some (.norm [a,b,c,d,e,v],H))
 (some (.exit 2 [a,b,c,d],H))
def zO8 (D:Dyn)(n:Nat)(vs:List AV)(H:AH):Rs:=
 hd vs fun a vs=>hd vs fun b vs=>hd vs fun c vs=>hd vs fun d vs=>
 bV (qO .add d (.int .i64 (.ofNat 1))) fun e=>
 some (.norm [a,b,c,e],H)
def zFO (D:Dyn)(n:Nat)(vs:List AV)(H:AH):Rs:=
 hd vs fun a vs=>hd vs fun b vs=>hd vs fun c vs=>hd vs fun d vs=>
 bV (qO .lss d (.int .i64 (.ofNat 256))) fun e=>
 cnd e (bR (f19 D n [b,d] H) fun f H=>
 bR (f53 D n [a,f] H) fun g H=>
 jb 2 (qW n (zCG D n) [a,b,c,d,g,(.int .i64 (.ofNat 0))] H) (zO8 D n))
 (some (.exit 0 [c],H))
def zO7 (D:Dyn)(n:Nat)(vs:List AV)(H:AH):Rs:=
 hd vs fun a vs=>
 bV (some a) fun b=>some (.ret b,H)
def f25 (D:Dyn)(n:Nat)(vs:List AV)(H:AH):Option (AV×AH):=
 yR (hd vs fun a vs=>hd vs fun b vs=>nl vs <|
 bA (zL3 5 1 1 [(.int .u8 (.ofNat 0))] (.int .i64 (.ofNat 32768)) (.int .i64 (.ofNat 32768))) H fun c H=>
 jb 0 (qW n (zFO D n) [a,b,c,(.int .i64 (.ofNat 0))] H) (zO7 D n))
def h25:Hint:=(.s .o (.s .o (.s (.s .o (.b [5] (.l [0,1,5,6] (.s (.s .o (.cr .o .o)) (.s (.b0 (.s .o (.s .o (.b [0,1,5,6] (.l [0,1,5,6,7,8] (.s (.s .o (.cr .o .o)) (.s (.b0 .o) .o))))))) .o))))) (.s .o .o))))
theorem zBD {D:Dyn}(hD:DG D)(n:Nat):FI 25 (f25 D n):=qS (n:=n) (h:=h25) X_ok hD (sc (JP hD n) (sc (zJV hD n) (SOk.nil))) Tryz.func25 (by kernel_rfl) (by kernel_rfl)
end Go.Eng.Sh
end
end
section
noncomputable section
namespace Go.Eng.Sh
open Go.Proofs
set_option maxRecDepth 100000
def s54 (D:Dyn)(n:Nat):Tb:=⟨X,[]⟩
def zLB (D:Dyn)(n:Nat)(vs:List AV)(H:AH):Rs:=
 hd vs fun a vs=>hd vs fun b vs=>hd vs fun c vs=>hd vs fun d vs=>
 bV (qO .add d (.int .i64 (.ofNat 1))) fun e=>
 some (.norm [a,b,c,e],H)
def zCD (D:Dyn)(n:Nat)(vs:List AV)(H:AH):Rs:=
 hd vs fun a vs=>hd vs fun b vs=>hd vs fun c vs=>hd vs fun d vs=>
 bV (lnSl a) fun e=>
 bV (qO .lss d e) fun f=>
 cnd f (bV (jL 2 a d) fun g=>
 bV (fAd 0 g) fun h=>
 bV (ld1 h H) fun i=>
 bV (jW .neq i b) fun k=>
 jn (cnd k (bV (jL 2 a d) fun m=>
 bV (ldN 2 m H) fun o=>
 bA (wQ 50 2 1 [(.str 0 0),(.str 0 0)] [(0,o)]) H fun p H=>
 bR (apP 50 2 32 c p H) fun r H=>
 some (.norm [a,b,r,d],H))
 (some (.norm [a,b,c,d],H))) (zLB D n))
 (some (.exit 0 [c],H))
def zNU (D:Dyn)(n:Nat)(vs:List AV)(H:AH):Rs:=
 hd vs fun a vs=>
 bV (some a) fun b=>some (.ret b,H)
def f54 (D:Dyn)(n:Nat)(vs:List AV)(H:AH):Option (AV×AH):=
 yR (hd vs fun a vs=>hd vs fun b vs=>nl vs <|
 jb 0 (qW n (zCD D n) [a,b, .nilSlice,(.int .i64 (.ofNat 0))] H) (zNU D n))
def h54:Hint:=(.s .o (.s .o (.s (.s .o (.b [5] (.l [0,1,5,6] (.s (.s .o (.cr .o .o)) (.s (.b0 (.s .o (.c [0,1,5,6] .o .o))) .o))))) (.s .o .o))))
theorem zFA {D:Dyn}(hD:DG D)(n:Nat):FI 54 (f54 D n):=qS (n:=n) (h:=h54) X_ok hD (SOk.nil) Tryz.func54 (by kernel_rfl) (by kernel_rfl)
def s55 (D:Dyn)(n:Nat):Tb:=⟨X,[(54,f54 D n)]⟩
def zFz (D:Dyn)(n:Nat)(vs:List AV)(H:AH):Rs:=
 hd vs fun a vs=>hd vs fun b vs=>hd vs fun c vs=>hd vs fun d vs=>
 bV (lnSl a) fun e=>
 bV (qO .lss d e) fun f=>
 jn (wnt f true (bV (jL 2 a d) fun g=>
 bV (fAd 0 g) fun h=>
 bV (ld1 h H) fun i=>
 bV (jW .lss i b) fun k=>
 some (.norm [k],H)) (some (.norm [qM],H))) fun vs H=>hd vs fun m vs=>
 bV (pk3 (some f) (some m) (some (.bool false))) fun o=>
 cnd o (bV (qO .add d (.int .i64 (.ofNat 1))) fun p=>
 some (.norm [a,b,c,p],H))
 (some (.exit 0 [a,b,c,d],H))
def zNT (D:Dyn)(n:Nat)(vs:List AV)(H:AH):Rs:=
 hd vs fun a vs=>hd vs fun b vs=>hd vs fun c vs=>hd vs fun d vs=>
 bA (wQ 50 2 0 [(.str 0 0),(.str 0 0)] []) H fun e H=>
 bV (j8 2 a none (some d) none H) fun f=>
 bR (apP 50 2 32 e f H) fun g H=>
 bV (wB [(0,1),(1,1)] [(.str 0 0),(.str 0 0)] [(0,b),(1,c)]) fun h=>
 bA (wQ 50 2 1 [(.str 0 0),(.str 0 0)] [(0,h)]) H fun i H=>
 bR (apP 50 2 32 g i H) fun k H=>
 bV (j8 2 a (some d) none none H) fun m=>
 bR (apP 50 2 32 k m H) fun o H=>
 bV (some o) fun p=>some (.ret p,H)
def f55 (D:Dyn)(n:Nat)(vs:List AV)(H:AH):Option (AV×AH):=
 yR (hd vs fun a vs=>hd vs fun b vs=>hd vs fun c vs=>nl vs <|
 bR (f54 D n [a,b] H) fun d H=>
 jb 0 (qW n (zFz D n) [d,b,c,(.int .i64 (.ofNat 0))] H) (zNT D n))
def h55:Hint:=(.s .o (.s .o (.s .o (.s (.b [0,1,2,7] (.l [0,1,2,7] (.s (.s .o (.cr .o .o)) (.b0 .o)))) (.s .o (.s .o (.s .o .o)))))))
theorem zJU {D:Dyn}(hD:DG D)(n:Nat):FI 55 (f55 D n):=qS (n:=n) (h:=h55) X_ok hD (sc (zFA hD n) (SOk.nil)) Tryz.func55 (by kernel_rfl) (by kernel_rfl)
def s26 (D:Dyn)(n:Nat):Tb:=⟨X,[(19,f19 D n),(54,f54 D n),(55,f55 D n)]⟩
def zCF (D:Dyn)(n:Nat)(vs:List AV)(H:AH):Rs:=
 hd vs fun a vs=>hd vs fun b vs=>hd vs fun c vs=>hd vs fun d vs=>hd vs fun e vs=>hd vs fun f vs=>
 bV (qO .gtr f (.int .i64 (.ofNat 0))) fun g=>
 jn (wnt g true (bV (qO .mul e (.int .i64 (.ofNat 128))) fun h=>
 bV (qO .add h f) fun i=>
 bV (qO .sub i (.int .i64 (.ofNat 1))) fun k=>
 bV (jL 1 c k) fun m=>
 bV (ld1 m H) fun o=>
 bV (qO .eql o (.int .u8 (.ofNat 0))) fun p=>
 some (.norm [p],H)) (some (.norm [qM],H))) fun vs H=>hd vs fun r vs=>
 bV (pk3 (some g) (some r) (some (.bool false))) fun t=>
 cnd t (bV (qO .sub f (.int .i64 (.ofNat 1))) fun u=>
 some (.norm [a,b,c,d,e,u],H))
 (some (.exit 2 [a,b,c,d,e,f],H))
def zLG (D:Dyn)(n:Nat)(vs:List AV)(H:AH):Rs:=
 hd vs fun a vs=>hd vs fun b vs=>hd vs fun c vs=>hd vs fun d vs=>hd vs fun e vs=>
 bV (qO .add e (.int .i64 (.ofNat 1))) fun f=>
 some (.norm [a,b,c,d,f],H)
def zID (D:Dyn)(n:Nat)(vs:List AV)(H:AH):Rs:=
 hd vs fun a vs=>hd vs fun b vs=>hd vs fun c vs=>hd vs fun d vs=>hd vs fun e vs=>hd vs fun f vs=>
 bR (f19 D n [b,e] H) fun g H=>
 bR (f54 D n [a,g] H) fun h H=>
 bV (qO .gtr f (.int .i64 (.ofNat 0))) fun i=>
 jn (cnd i (bV (qO .mul e (.int .i64 (.ofNat 128))) fun k=>
 bV (qO .mul e (.int .i64 (.ofNat 128))) fun m=>
 bV (qO .add m f) fun o=>
 bV (j8 1 c (some k) (some o) none H) fun p=>
 bV (fL p H) fun r=>
 bR (f19 D n [b,e] H) fun t H=>chk (j8 1 c (some k) (some o) none H) p <| chk (fL p H) r <|
 bR (f55 D n [h,t,r] H) fun u H=>
 some (.norm [u,b,c,d,e],H))
 (some (.norm [h,b,c,d,e],H))) (zLG D n)
def zCE (D:Dyn)(n:Nat)(vs:List AV)(H:AH):Rs:=
 hd vs fun a vs=>hd vs fun b vs=>hd vs fun c vs=>hd vs fun d vs=>hd vs fun e vs=>
 bV (qO .lss e d) fun f=>
 jn (wnt f true (bV (qO .lss e (.int .i64 (.ofNat 256))) fun g=>
 some (.norm [g],H)) (some (.norm [qM],H))) fun vs H=>hd vs fun h vs=>
 bV (pk3 (some f) (some h) (some (.bool false))) fun i=>
 cnd i (jb 2 (qW n (zCF D n) [a,b,c,d,e,(.int .i64 (.ofNat 128))] H) (zID D n))
 (some (.exit 0 [a],H))
def zO6 (D:Dyn)(n:Nat)(vs:List AV)(H:AH):Rs:=
 hd vs fun a vs=>
 bV (some a) fun b=>some (.ret b,H)
def f26 (D:Dyn)(n:Nat)(vs:List AV)(H:AH):Option (AV×AH):=
 yR (hd vs fun a vs=>hd vs fun b vs=>hd vs fun c vs=>hd vs fun d vs=>hd vs fun e vs=>nl vs <|
 jb 0 (qW n (zCE D n) [a,b,c,e,d] H) (zO6 D n))
def h26:Hint:=(.s .o (.s (.s .o (.b [0] (.l [0,1,2,4,11] (.s (.s .o (.cr .o .o)) (.s (.b0 (.s .o (.s (.b [0,1,2,4,11,12] (.l [0,1,2,4,11,12] (.s (.s .o (.cr .o .o)) (.b0 .o)))) (.s .o (.s .o (.c [0,1,2,4,11] .o .o)))))) .o))))) (.s .o .o)))
theorem zFN {D:Dyn}(hD:DG D)(n:Nat):FI 26 (f26 D n):=qS (n:=n) (h:=h26) X_ok hD (sc (JP hD n) (sc (zFA hD n) (sc (zJU hD n) (SOk.nil)))) Tryz.func26 (by kernel_rfl) (by kernel_rfl)
def s8 (D:Dyn)(n:Nat):Tb:=⟨X,[(24,f24 D n),(25,f25 D n),(26,f26 D n)]⟩
def zNC (D:Dyn)(n:Nat)(vs:List AV)(H:AH):Rs:=
 hd vs fun a vs=>hd vs fun b vs=>hd vs fun c vs=>hd vs fun d vs=>hd vs fun e vs=>hd vs fun f vs=>
 bV (jO d) fun g=>
 bV (qO .lss f g) fun h=>
 cnd h (bV (qO .add c f) fun i=>
 bV (v8 d f) fun k=>
 bV (jL 1 e i) fun m=>
 bR (stN 1 m k H) fun o H=>
 bV (qO .add f (.int .i64 (.ofNat 1))) fun p=>
 some (.norm [a,b,c,d,e,p],H))
 (some (.exit 0 [a,b,c,d,e],H))
def f8b1 (D:Dyn)(n:Nat)(vs:List AV)(H:AH):Rs:=
 hd vs fun a vs=>hd vs fun b vs=>hd vs fun c vs=>hd vs fun d vs=>hd vs fun e vs=>
 bV (qO .quo c (.int .i64 (.ofNat 128))) fun f=>
 bV (jO d) fun g=>
 bV (qO .add c g) fun h=>
 bV (qO .add h (.int .i64 (.ofNat 127))) fun i=>
 bV (qO .quo i (.int .i64 (.ofNat 128))) fun k=>
 bR (f26 D n [a,b,e,f,k] H) fun m H=>
 bV (some m) fun o=>bV (some (.int .i64 (.ofNat 0))) fun p=>some (.ret (.tuple [o,p]),H)
def f8 (D:Dyn)(n:Nat)(vs:List AV)(H:AH):Option (AV×AH):=
 yR (hd vs fun a vs=>hd vs fun b vs=>hd vs fun c vs=>hd vs fun d vs=>nl vs <|
 bR (f24 D n [b] H) fun e H=>
 bV (aun .not e) fun f=>
 jn (wnt f false (bV (qO .lss c (.int .i64 (.ofNat 0))) fun g=>
 some (.norm [g],H)) (some (.norm [qM],H))) fun vs H=>hd vs fun h vs=>
 bV (pk3 (some f) (some (.bool true)) (some h)) fun i=>
 cnd i (bV (some a) fun k=>bV (some (.int .i64 (.ofNat 1))) fun m=>some (.ret (.tuple [k,m]),H))
 (bV (qO .gtr c (.int .i64 (.ofNat 32768))) fun o=>
 jn (wnt o false (bV (jO d) fun p=>
 bV (qO .sub (.int .i64 (.ofNat 32768)) c) fun r=>
 bV (qO .gtr p r) fun t=>
 some (.norm [t],H)) (some (.norm [qM],H))) fun vs H=>hd vs fun u vs=>
 bV (pk3 (some o) (some (.bool true)) (some u)) fun v=>
 cnd v (bV (some a) fun w=>bV (some (.int .i64 (.ofNat 40))) fun x=>some (.ret (.tuple [w,x]),H))
 (bR (f25 D n [a,b] H) fun y H=>
 jb 0 (qW n (zNC D n) [a,b,c,d,y,(.int .i64 (.ofNat 0))] H) (f8b1 D n))))
def h8:Hint:=(.s .o (.s (.s .o (.cl (.s .o .o) .o)) (.s (.s .o (.cl (.s .o .o) .o)) (.s .o (.s (.s .o (.b [0,1,2,3,10] (.l [0,1,2,3,10,11] (.s (.s .o (.cr .o .o)) (.s (.b0 .o) .o))))) (.s .o .o))))))
theorem zLp {D:Dyn}(hD:DG D)(n:Nat):FI 8 (f8 D n):=qS (n:=n) (h:=h8) X_ok hD (sc (UI hD n) (sc (zBD hD n) (sc (zFN hD n) (SOk.nil)))) Tryz.func8 (by kernel_rfl) (by kernel_rfl)
def s10 (D:Dyn)(n:Nat):Tb:=⟨X,[(24,f24 D n),(25,f25 D n),(26,f26 D n)]⟩
def zG6 (D:Dyn)(n:Nat)(vs:List AV)(H:AH):Rs:=
 hd vs fun a vs=>hd vs fun b vs=>hd vs fun c vs=>hd vs fun d vs=>hd vs fun e vs=>
 bV (lnSl d) fun f=>
 bV (qO .lss e f) fun g=>
 cnd g (bV (jL 1 d e) fun h=>
 bR (stN 1 h (.int .u8 (.ofNat 0)) H) fun i H=>
 bV (qO .add e (.int .i64 (.ofNat 1))) fun k=>
 some (.norm [a,b,c,d,k],H))
 (some (.exit 0 [a,b,c,d],H))
def zOb (D:Dyn)(n:Nat)(vs:List AV)(H:AH):Rs:=
 hd vs fun a vs=>hd vs fun b vs=>hd vs fun c vs=>hd vs fun d vs=>
 bV (mn2 c (.int .i64 (.ofNat 32768))) fun e=>
 bV (qO .quo e (.int .i64 (.ofNat 128))) fun f=>
 bR (f26 D n [a,b,d,f,(.int .i64 (.ofNat 256))] H) fun g H=>
 bV (some g) fun h=>bV (some (.int .i64 (.ofNat 0))) fun i=>some (.ret (.tuple [h,i]),H)
def f10 (D:Dyn)(n:Nat)(vs:List AV)(H:AH):Option (AV×AH):=
 yR (hd vs fun a vs=>hd vs fun b vs=>hd vs fun c vs=>nl vs <|
 bR (f24 D n [b] H) fun d H=>
 bV (aun .not d) fun e=>
 jn (wnt e false (bV (qO .lss c (.int .i64 (.ofNat 0))) fun f=>
 some (.norm [f],H)) (some (.norm [qM],H))) fun vs H=>hd vs fun g vs=>
 bV (pk3 (some e) (some (.bool true)) (some g)) fun h=>
 cnd h (bV (some a) fun i=>bV (some (.int .i64 (.ofNat 1))) fun k=>some (.ret (.tuple [i,k]),H))
 (bR (f25 D n [a,b] H) fun m H=>
 jb 0 (qW n (zG6 D n) [a,b,c,m,c] H) (zOb D n)))
def h10:Hint:=(.s .o (.s (.s .o (.cl (.s .o .o) .o)) (.s .o (.s (.s .o (.b [0,1,2,8] (.l [0,1,2,8,9] (.s (.s .o (.cr .o .o)) (.s (.b0 .o) .o))))) (.s .o .o)))))
theorem zG7 {D:Dyn}(hD:DG D)(n:Nat):FI 10 (f10 D n):=qS (n:=n) (h:=h10) X_ok hD (sc (UI hD n) (sc (zBD hD n) (sc (zFN hD n) (SOk.nil)))) Tryz.func10 (by kernel_rfl) (by kernel_rfl)
def s13 (D:Dyn)(n:Nat):Tb:=⟨X,[(24,f24 D n),(25,f25 D n)]⟩
def f13 (D:Dyn)(n:Nat)(vs:List AV)(H:AH):Option (AV×AH):=
 yR (hd vs fun a vs=>hd vs fun b vs=>hd vs fun c vs=>hd vs fun d vs=>hd vs fun e vs=>nl vs <|
 bR (f24 D n [b] H) fun f H=>
 bV (aun .not f) fun g=>
 jn (wnt g false (bV (qO .lss c (.int .i64 (.ofNat 0))) fun h=>
 some (.norm [h],H)) (some (.norm [qM],H))) fun vs H=>hd vs fun i vs=>
 bV (pk3 (some g) (some (.bool true)) (some i)) fun k=>
 jn (wnt k false (bV (qO .gtr c (.int .i64 (.ofNat 32768))) fun m=>
 some (.norm [m],H)) (some (.norm [qM],H))) fun vs H=>hd vs fun o vs=>
 bV (pk3 (some k) (some (.bool true)) (some o)) fun p=>
 jn (wnt p false (bV (qO .lss d (.int .i64 (.ofNat 0))) fun r=>
 some (.norm [r],H)) (some (.norm [qM],H))) fun vs H=>hd vs fun t vs=>
 bV (pk3 (some p) (some (.bool true)) (some t)) fun u=>
 jn (wnt u false (bV (qO .lss e (.int .i64 (.ofNat 0))) fun v=>
 some (.norm [v],H)) (some (.norm [qM],H))) fun vs H=>hd vs fun w vs=>
 bV (pk3 (some u) (some (.bool true)) (some w)) fun x=>
 cnd x (bV (some (.str 0 0)) fun y=>bV (some (.int .i64 (.ofNat 1))) fun z=>some (.ret (.tuple [y,z]),H))
 (bV (qO .geq d c) fun B=>
 cnd B (bV (some (.str 0 0)) fun C=>bV (some (.int .i64 (.ofNat 0))) fun E=>some (.ret (.tuple [C,E]),H))
 (bR (f25 D n [a,b] H) fun F H=>
 bV (qO .sub c d) fun G=>
 bV (mn2 e G) fun I=>
 bV (qO .add d I) fun J=>
 bV (j8 1 F (some d) (some J) none H) fun K=>
 bV (fL K H) fun M=>
 bV (some M) fun N=>bV (some (.int .i64 (.ofNat 0))) fun O=>some (.ret (.tuple [N,O]),H))))
def h13:Hint:=(.s .o (.s (.s .o (.cl (.s .o .o) .o)) (.s (.s .o (.cl (.s .o .o) .o)) (.s .o .o))))
theorem zFT {D:Dyn}(hD:DG D)(n:Nat):FI 13 (f13 D n):=qS (n:=n) (h:=h13) X_ok hD (sc (UI hD n) (sc (zBD hD n) (SOk.nil))) Tryz.func13 (by kernel_rfl) (by kernel_rfl)
def s37 (D:Dyn)(n:Nat):Tb:=⟨X,[]⟩
def zIC (D:Dyn)(n:Nat)(vs:List AV)(H:AH):Rs:=
 hd vs fun a vs=>hd vs fun b vs=>
 bV (qO .gtr b (.int .i64 (.ofNat 0))) fun c=>
 jn (wnt c true (bV (qO .sub b (.int .i64 (.ofNat 1))) fun d=>
 bV (v8 a d) fun e=>
 bV (qO .eql e (.int .u8 (.ofNat 255))) fun f=>
 some (.norm [f],H)) (some (.norm [qM],H))) fun vs H=>hd vs fun g vs=>
 bV (pk3 (some c) (some g) (some (.bool false))) fun h=>
 cnd h (bV (qO .sub b (.int .i64 (.ofNat 1))) fun i=>
 some (.norm [a,i],H))
 (some (.exit 0 [a,b],H))
def zO0 (D:Dyn)(n:Nat)(vs:List AV)(H:AH):Rs:=
 hd vs fun a vs=>hd vs fun b vs=>
 bV (qO .eql b (.int .i64 (.ofNat 0))) fun c=>
 cnd c (bV (some (.str 0 0)) fun d=>some (.ret d,H))
 (bV (qO .sub b (.int .i64 (.ofNat 1))) fun e=>
 bV (uV a none (some e)) fun f=>
 bV (qO .sub b (.int .i64 (.ofNat 1))) fun g=>
 bV (v8 a g) fun h=>
 bV (qO .add h (.int .u8 (.ofNat 1))) fun i=>
 bA (wQ 5 1 1 [(.int .u8 (.ofNat 0))] [(0,i)]) H fun k H=>
 bV (fL k H) fun m=>
 bV (jW .add f m) fun o=>
 bV (some o) fun p=>some (.ret p,H))
def f37 (D:Dyn)(n:Nat)(vs:List AV)(H:AH):Option (AV×AH):=
 yR (hd vs fun a vs=>nl vs <|
 bV (jO a) fun b=>
 jb 0 (qW n (zIC D n) [a,b] H) (zO0 D n))
def h37:Hint:=(.s .o (.s .o (.s (.b [0,3] (.l [0,3] (.s (.s .o (.cr .o .o)) (.b0 .o)))) (.s (.s .o (.cl (.s .o .o) .o)) (.s .o .o)))))
theorem zK0 {D:Dyn}(hD:DG D)(n:Nat):FI 37 (f37 D n):=qS (n:=n) (h:=h37) X_ok hD (SOk.nil) Tryz.func37 (by kernel_rfl) (by kernel_rfl)
def s36 (D:Dyn)(n:Nat):Tb:=⟨X,[]⟩
def zFI (D:Dyn)(n:Nat)(vs:List AV)(H:AH):Rs:=
 hd vs fun a vs=>hd vs fun b vs=>hd vs fun c vs=>hd vs fun d vs=>hd vs fun e vs=>
 bV (qO .add e (.int .i64 (.ofNat 1))) fun f=>
 some (.norm [a,b,c,d,f],H)
def UE (D:Dyn)(n:Nat)(vs:List AV)(H:AH):Rs:=
 hd vs fun a vs=>hd vs fun b vs=>hd vs fun c vs=>hd vs fun d vs=>hd vs fun e vs=>
 bV (lnSl a) fun f=>
 bV (qO .lss e f) fun g=>
 cnd g (bV (jL 2 a e) fun h=>
 bV (fAd 0 h) fun i=>
 bV (ld1 i H) fun k=>
 bV (jW .geq k b) fun m=>
 jn (wnt m true (bV (jW .eql c (.str 0 0)) fun o=>
 some (.norm [o],H)) (some (.norm [qM],H))) fun vs H=>hd vs fun p vs=>
 jn (wnt p false (bV (jL 2 a e) fun r=>
 bV (fAd 0 r) fun t=>
 bV (ld1 t H) fun u=>
 bV (jW .lss u c) fun v=>
 some (.norm [v],H)) (some (.norm [qM],H))) fun vs H=>hd vs fun w vs=>
 jn (wnt m true (bV (pk3 (some p) (some (.bool true)) (some w)) fun x=>
 some (.norm [x],H)) (some (.norm [qM],H))) fun vs H=>hd vs fun y vs=>
 bV (pk3 (some m) (some y) (some (.bool false))) fun z=>
 jn (cnd z (bV (jL 2 a e) fun B=>
 bV (ldN 2 B H) fun C=>
 bA (wQ 50 2 1 [(.str 0 0),(.str 0 0)] [(0,C)]) H fun E H=>
 bR (apP 50 2 32 d E H) fun F H=>
 some (.norm [a,b,c,F,e],H))
 (some (.norm [a,b,c,d,e],H))) (zFI D n))
 (some (.exit 0 [d],H))
def zO1 (D:Dyn)(n:Nat)(vs:List AV)(H:AH):Rs:=
 hd vs fun a vs=>
 bV (some a) fun b=>some (.ret b,H)
def f36 (D:Dyn)(n:Nat)(vs:List AV)(H:AH):Option (AV×AH):=
 yR (hd vs fun a vs=>hd vs fun b vs=>hd vs fun c vs=>nl vs <|
 jb 0 (qW n (UE D n) [a,b,c, .nilSlice,(.int .i64 (.ofNat 0))] H) (zO1 D n))
def h36:Hint:=(.s .o (.s .o (.s (.s .o (.b [7] (.l [0,1,2,7,8] (.s (.s .o (.cr .o .o)) (.s (.b0 (.s .o (.c [0,1,2,7,8] .o .o))) .o))))) (.s .o .o))))
theorem zK1 {D:Dyn}(hD:DG D)(n:Nat):FI 36 (f36 D n):=qS (n:=n) (h:=h36) X_ok hD (SOk.nil) Tryz.func36 (by kernel_rfl) (by kernel_rfl)
def s15 (D:Dyn)(n:Nat):Tb:=⟨X,[(24,f24 D n),(19,f19 D n),(38,f38 D n),(37,f37 D n),(36,f36 D n)]⟩
def f15 (D:Dyn)(n:Nat)(vs:List AV)(H:AH):Option (AV×AH):=
 yR (hd vs fun a vs=>hd vs fun b vs=>nl vs <|
 bR (f24 D n [b] H) fun c H=>
 bV (aun .not c) fun d=>
 cnd d (bV (some (.int .i64 (.ofNat 0))) fun e=>bV (some (.int .i64 (.ofNat 1))) fun f=>some (.ret (.tuple [e,f]),H))
 (bR (f19 D n [b,(.int .i64 (.ofNat 0))] H) fun g H=>
 bR (f38 D n [b] H) fun h H=>
 bV (jW .add (.str 1 100) h) fun i=>
 bR (f37 D n [i] H) fun k H=>
 bR (f36 D n [a,g,k] H) fun m H=>
 bV (lnSl m) fun o=>
 bV (some o) fun p=>bV (some (.int .i64 (.ofNat 0))) fun r=>some (.ret (.tuple [p,r]),H)))
def h15:Hint:=(.s .o (.s (.s .o (.cl (.s .o .o) .o)) (.s .o .o)))
theorem zFS {D:Dyn}(hD:DG D)(n:Nat):FI 15 (f15 D n):=qS (n:=n) (h:=h15) X_ok hD (sc (UI hD n) (sc (JP hD n) (sc (zFH hD n) (sc (zK0 hD n) (sc (zK1 hD n) (SOk.nil)))))) Tryz.func15 (by kernel_rfl) (by kernel_rfl)
def s17 (D:Dyn)(n:Nat):Tb:=⟨X,[]⟩
def zIE (D:Dyn)(n:Nat)(vs:List AV)(H:AH):Rs:=
 hd vs fun a vs=>hd vs fun b vs=>hd vs fun c vs=>
 bV (lnSl a) fun d=>
 bV (qO .lss c d) fun e=>
 cnd e (bV (jL 2 a c) fun f=>
 bV (ldN 2 f H) fun g=>
 bV (jL 2 b c) fun h=>
 bV (ldN 2 h H) fun i=>
 bV (vJ .neq (eqA [2,2] g i)) fun k=>
 cnd k (bV (some (.bool false)) fun m=>some (.ret m,H))
 (bV (qO .add c (.int .i64 (.ofNat 1))) fun o=>
 some (.norm [a,b,o],H)))
 (some (.exit 0 [],H))
def zO9 (D:Dyn)(n:Nat)(vs:List AV)(H:AH):Rs:=
 bV (some (.bool true)) fun a=>some (.ret a,H)
def f17 (D:Dyn)(n:Nat)(vs:List AV)(H:AH):Option (AV×AH):=
 yR (hd vs fun a vs=>hd vs fun b vs=>nl vs <|
 bV (lnSl a) fun c=>
 bV (lnSl b) fun d=>
 bV (qO .neq c d) fun e=>
 cnd e (bV (some (.bool false)) fun f=>some (.ret f,H))
 (jb 0 (qW n (zIE D n) [a,b,(.int .i64 (.ofNat 0))] H) (zO9 D n)))
def h17:Hint:=(.s .o (.s (.s .o (.cl (.s .o .o) .o)) (.s (.s .o (.b [] (.l [0,1,5] (.s (.s .o (.cr .o .o)) (.s (.b0 (.s .o (.cl (.s .o .o) .o))) .o))))) (.s .o .o))))
theorem zFR {D:Dyn}(hD:DG D)(n:Nat):FI 17 (f17 D n):=qS (n:=n) (h:=h17) X_ok hD (SOk.nil) Tryz.func17 (by kernel_rfl) (by kernel_rfl)
def s3 (D:Dyn)(n:Nat):Tb:=⟨X,[(5,f5 D n),(6,f6 D n),(7,f7 D n),(8,f8 D n),(9,f9 D n),(10,f10 D n),(11,f11 D n),(12,f12 D n),(13,f13 D n),(14,f14 D n),(15,f15 D n),(16,f16 D n),(17,f17 D n),(18,f18 D n),(19,f19 D n)]⟩
def f3j0 (D:Dyn)(n:Nat)(vs:List AV)(H:AH):Rs:=
 hd vs fun a vs=>hd vs fun b vs=>hd vs fun c vs=>hd vs fun d vs=>hd vs fun e vs=>
 some (.norm [a,b,c,d,e],H)
def f3j1 (D:Dyn)(n:Nat)(vs:List AV)(H:AH):Rs:=
 hd vs fun a vs=>hd vs fun b vs=>hd vs fun c vs=>hd vs fun d vs=>hd vs fun e vs=>
 bV (fAd 1 e) fun f=>
 bV (ld1 f H) fun g=>
 bR (f14 D n [b,g] H) fun h H=>
 bV (qK h 0) fun i=>
 bV (qK h 1) fun k=>
 bV (fAd 1 e) fun m=>
 bV (ld1 m H) fun o=>
 bR (f15 D n [c,o] H) fun p H=>
 bV (qK p 0) fun r=>
 bV (qK p 1) fun t=>
 bR (f16 D n [b,(.str 0 0),(.str 0 0),(.int .i64 (.ofNat 9999))] H) fun u H=>
 bV (qK u 0) fun v=>
 bV (qK u 1) fun w=>
 bV (qK u 2) fun x=>
 bV (qO .neq i r) fun y=>
 jn (wnt y false (bV (qO .neq k t) fun z=>
 some (.norm [z],H)) (some (.norm [qM],H))) fun vs H=>hd vs fun B vs=>
 bV (pk3 (some y) (some (.bool true)) (some B)) fun C=>
 jn (wnt C false (bV (qO .neq x (.int .i64 (.ofNat 0))) fun E=>
 some (.norm [E],H)) (some (.norm [qM],H))) fun vs H=>hd vs fun F vs=>
 bV (pk3 (some C) (some (.bool true)) (some F)) fun G=>
 jn (wnt G false (bR (f17 D n [v,c] H) fun I H=>
 bV (aun .not I) fun J=>
 some (.norm [J],H)) (some (.norm [qM],H))) fun vs H=>hd vs fun K vs=>
 bV (pk3 (some G) (some (.bool true)) (some K)) fun M=>
 jn (wnt M false (bV (fAd 1 e) fun N=>
 bV (ld1 N H) fun O=>
 bV (fAd 2 e) fun P=>
 bV (ld1 P H) fun Q=>
 bV (fAd 1 e) fun R=>
 bV (ld1 R H) fun T=>
 bV (fAd 2 e) fun U=>
 bV (ld1 U H) fun V=>
 bR (f18 D n [O,Q] H) fun W H=>chk (ld1 R H) T <| chk (ld1 U H) V <|
 bR (f19 D n [T,V] H) fun Y H=>
 bV (jW .neq W Y) fun Z=>
 some (.norm [Z],H)) (some (.norm [qM],H))) fun vs H=>hd vs fun a0 vs=>
 bV (pk3 (some M) (some (.bool true)) (some a0)) fun a1=>
 cnd a1 (bV (some (.bool false)) fun a2=>some (.ret a2,H))
 (bV (qO .add d (.int .i64 (.ofNat 1))) fun a3=>
 some (.norm [a,b,c,a3],H))
def f3l2 (D:Dyn)(n:Nat)(vs:List AV)(H:AH):Rs:=
 hd vs fun a vs=>hd vs fun b vs=>hd vs fun c vs=>hd vs fun d vs=>
 bV (lnSl a) fun e=>
 bV (qO .lss d e) fun f=>
 cnd f (bV (jL 6 a d) fun g=>
 bV (ldN 6 g H) fun h=>
 bA (bxV 29 (.agg [(.int .u8 (.ofNat 0)),(.int .i64 (.ofNat 0)),(.int .i64 (.ofNat 0)),(.int .i64 (.ofNat 0)),(.int .i64 (.ofNat 0)),(.str 0 0)])) H fun i H=>
 bR (stN 6 i h H) fun k H=>
 bV (fAd 0 i) fun m=>
 bV (ld1 m H) fun o=>
 bV (qO .eql o (.int .u8 (.ofNat 0))) fun p=>
 jn (cnd p (bV (fAd 1 i) fun r=>
 bV (ld1 r H) fun t=>
 bV (fAd 2 i) fun u=>
 bV (ld1 u H) fun v=>
 bV (fAd 5 i) fun w=>
 bV (ld1 w H) fun x=>
 bR (f8 D n [c,t,v,x] H) fun y H=>
 bV (qK y 0) fun z=>
 bV (qK y 1) fun B=>
 bV (fAd 1 i) fun C=>
 bV (ld1 C H) fun E=>
 bV (fAd 2 i) fun F=>
 bV (ld1 F H) fun G=>
 bV (fAd 5 i) fun I=>
 bV (ld1 I H) fun J=>
 bR (f9 D n [b,E,G,J] H) fun K H=>
 bV (qO .neq K B) fun M=>
 cnd M (bV (some (.bool false)) fun N=>some (.ret N,H))
 (some (.norm [a,b,z,d,i],H)))
 (bV (qO .eql o (.int .u8 (.ofNat 1))) fun O=>
 jn (cnd O (bV (fAd 1 i) fun P=>
 bV (ld1 P H) fun Q=>
 bV (fAd 2 i) fun R=>
 bV (ld1 R H) fun T=>
 bR (f10 D n [c,Q,T] H) fun U H=>
 bV (qK U 0) fun V=>
 bV (qK U 1) fun W=>
 bV (fAd 1 i) fun Y=>
 bV (ld1 Y H) fun Z=>
 bV (fAd 2 i) fun a0=>
 bV (ld1 a0 H) fun a1=>
 bR (f11 D n [b,Z,a1] H) fun a2 H=>
 bV (qO .neq a2 W) fun a3=>
 cnd a3 (bV (some (.bool false)) fun a4=>some (.ret a4,H))
 (some (.norm [a,b,V,d,i],H)))
 (bV (fAd 1 i) fun a5=>
 bV (ld1 a5 H) fun a6=>
 bV (fAd 4 i) fun a7=>
 bV (ld1 a7 H) fun a8=>
 bV (fAd 2 i) fun a9=>
 bV (ld1 a9 H) fun b0=>
 bV (fAd 3 i) fun b1=>
 bV (ld1 b1 H) fun b2=>
 bR (f12 D n [b,a6,a8,b0,b2] H) fun b3 H=>
 bV (qK b3 0) fun b4=>
 bV (qK b3 1) fun b5=>
 bV (fAd 1 i) fun b6=>
 bV (ld1 b6 H) fun b7=>
 bV (fAd 4 i) fun b8=>
 bV (ld1 b8 H) fun b9=>
 bV (fAd 2 i) fun c0=>
 bV (ld1 c0 H) fun c1=>
 bV (fAd 3 i) fun c2=>
 bV (ld1 c2 H) fun c3=>
 bR (f13 D n [c,b7,b9,c1,c3] H) fun c4 H=>
 bV (qK c4 0) fun c5=>
 bV (qK c4 1) fun c6=>
 bV (jW .neq b4 c5) fun c7=>
 jn (wnt c7 false (bV (qO .neq b5 c6) fun c8=>
 some (.norm [c8],H)) (some (.norm [qM],H))) fun vs H=>hd vs fun c9 vs=>
 bV (pk3 (some c7) (some (.bool true)) (some c9)) fun d0=>
 cnd d0 (bV (some (.bool false)) fun d1=>some (.ret d1,H))
 (some (.norm [a,b,c,d,i],H)))) (f3j0 D n))) (f3j1 D n))
 (some (.exit 0 [],H))
def f3b3 (D:Dyn)(n:Nat)(vs:List AV)(H:AH):Rs:=
 bR (f6 D n [] H) fun a H=>
 bV (some a) fun b=>some (.ret b,H)
def f3 (D:Dyn)(n:Nat)(vs:List AV)(H:AH):Option (AV×AH):=
 yR (hd vs fun a vs=>nl vs <|
 bR (f5 D n [a] H) fun b H=>
 cnd b (bR (f6 D n [] H) fun c H=>
 bV (some c) fun d=>some (.ret d,H))
 (bR (f7 D n [] H) fun e H=>
 jb 0 (qW n (f3l2 D n) [a,e, .nilSlice,(.int .i64 (.ofNat 0))] H) (f3b3 D n)))
def h3:Hint:=(.s .o (.s (.s .o (.cl (.s .o .o) .o)) (.s .o (.s .o (.s (.s .o (.b [] (.l [0,3,4,5] (.s (.s .o (.cr .o .o)) (.s (.b0 (.s .o (.s (.s .o (.b0 (.s .o (.c [0,3,4,5,6] (.s .o (.s (.s .o (.cl (.s .o .o) .o)) .o)) (.s .o (.c [0,3,4,5,6] (.s .o (.s (.s .o (.cl (.s .o .o) .o)) .o)) (.s .o (.s .o (.s .o (.cl (.s .o .o) .o)))))))))) (.s .o (.s .o (.s .o (.s .o (.cl (.s .o .o) .o)))))))) .o))))) (.s .o .o))))))
theorem f3_ok {D:Dyn}(hD:DG D)(n:Nat):FI 3 (f3 D n):=qS (n:=n) (h:=h3) X_ok hD (sc (zLz hD n) (sc (zIz hD n) (sc (zIy hD n) (sc (zLp hD n) (sc (zIs hD n) (sc (zG7 hD n) (sc (zBH hD n) (sc (zBG hD n) (sc (zFT hD n) (sc (zBF hD n) (sc (zFS hD n) (sc (zBE hD n) (sc (zFR hD n) (sc (aX hD n) (sc (JP hD n) (SOk.nil)))))))))))))))) Tryz.func3 (by kernel_rfl) (by kernel_rfl)
end Go.Eng.Sh
end
end
section
noncomputable section
namespace Go.Eng.Sh
open Go.Proofs
set_option maxRecDepth 100000
def tab (D:Dyn)(n:Nat):List (Nat×(List AV->AH->Option (AV×AH))):=[(3,f3 D n),(5,f5 D n),(6,f6 D n),(7,f7 D n),(8,f8 D n),(9,f9 D n),(10,f10 D n),(11,f11 D n),(12,f12 D n),(13,f13 D n),(14,f14 D n),(15,f15 D n),(16,f16 D n),(17,f17 D n),(18,f18 D n),(19,f19 D n),(20,f20 D n),(21,f21 D n),(22,f22 D n),(23,f23 D n),(24,f24 D n),(25,f25 D n),(26,f26 D n),(27,f27 D n),(28,f28 D n),(29,f29 D n),(30,f30 D n),(31,f31 D n),(32,f32 D n),(33,f33 D n),(34,f34 D n),(35,f35 D n),(36,f36 D n),(37,f37 D n),(38,f38 D n),(39,f39 D n),(40,f40 D n),(41,f41 D n),(42,f42 D n),(43,f43 D n),(44,f44 D n),(45,f45 D n),(46,f46 D n),(47,f47 D n),(48,f48 D n),(49,f49 D n),(50,f50 D n),(51,f51 D n),(52,f52 D n),(53,f53 D n),(54,f54 D n),(55,f55 D n),(56,f56 D n),(57,f57 D n),(58,f58 D n),(59,f59 D n),(60,f60 D n),(61,f61 D n),(62,f62 D n),(63,f63 D n),(64,f64 D n),(65,f65 D n),(66,f66 D n),(67,f67 D n),(68,f68 D n),(69,f69 D n),(70,f70 D n),(71,f71 D n),(72,f72 D n),(73,f73 D n),(74,m74 D n),(77,f77 D n),(78,f78 D n),(79,f79 D n),(80,m80 D n),(81,f81 D n),(82,f82 D n),(86,f86 D n),(87,f87 D n),(88,f88 D n),(89,f89 D n),(90,f90 D n),(91,f91 D n),(92,f92 D n),(93,f93 D n),(94,f94 D n),(110,zLI D n),(111,zK5 D n),(112,zCU D n),(113,zCH D n),(114,zLH D n),(126,zIF D n)]
def tabR (D:Dyn)(n:Nat):List ((Nat×Nat)×(Nat->ALoop->List AV->AH->Option (AV×AH))):=[((12,0),zEe D n),((16,0),zCp D n),((29,0),zEd D n),((63,0),zA1 D n)]
theorem zMw (D:Dyn)(n:Nat)(hD:DG D):SOk (tab D n):=sc (f3_ok hD n) (sc (zLz hD n) (sc (zIz hD n) (sc (zIy hD n) (sc (zLp hD n) (sc (zIs hD n) (sc (zG7 hD n) (sc (zBH hD n) (sc (zBG hD n) (sc (zFT hD n) (sc (zBF hD n) (sc (zFS hD n) (sc (zBE hD n) (sc (zFR hD n) (sc (aX hD n) (sc (JP hD n) (sc (zK4 hD n) (sc (zFQ hD n) (sc (zK3 hD n) (sc (zK2 hD n) (sc (UI hD n) (sc (zBD hD n) (sc (zFN hD n) (sc (JO hD n) (sc (zFM hD n) (sc (zO5 hD n) (sc (UH hD n) (sc (UG hD n) (sc (zBC hD n) (sc (zFL hD n) (sc (zO3 hD n) (sc (zFJ hD n) (sc (zK1 hD n) (sc (zK0 hD n) (sc (zFH hD n) (sc (zFG hD n) (sc (zFF hD n) (sc (zNY hD n) (sc (zFE hD n) (sc (Y3 hD n) (sc (zFD hD n) (sc (zNX hD n) (sc (zJZ hD n) (sc (zFC hD n) (sc (UC hD n) (sc (zJY hD n) (sc (aW hD n) (sc (zJX hD n) (sc (zJW hD n) (sc (zJV hD n) (sc (zFA hD n) (sc (zJU hD n) (sc (zJT hD n) (sc (zNS hD n) (sc (zJS hD n) (sc (zJR hD n) (sc (zNR hD n) (sc (zJQ hD n) (sc (zJP hD n) (sc (zNQ hD n) (sc (zFx hD n) (sc (zFw hD n) (sc (zBB hD n) (sc (zNM hD n) (sc (zJO hD n) (sc (zFr hD n) (sc (zJN hD n) (sc (UA hD n) (sc (zBA hD n) (sc (zBz hD n) (sc (zJC hD n) (sc (zJM hD n) (sc (zJL hD n) (sc (zJK hD n) (sc (zJB hD n) (sc (zBy hD n) (sc (zJJ hD n) (sc (zBx hD n) (sc (zND hD n) (sc (zJI hD n) (sc (zJH hD n) (sc (zBw hD n) (sc (zJG hD n) (sc (zFi hD n) (sc (zFh hD n) (sc (zFf hD n) (sc (zG5 hD n) (sc (zG2 hD n) (sc (zG1 hD n) (sc (zG0 hD n) (sc (zFY hD n) (sc (zFV hD n) (SOk.nil))))))))))))))))))))))))))))))))))))))))))))))))))))))))))))))))))))))))))))))))))))))))))))
theorem zKk (D:Dyn)(n:Nat)(hD:DG D):ROk (tabR D n):=ROk.cons (zHS hD n) (ROk.cons (zHQ hD n) (ROk.cons (zHO hD n) (ROk.cons (zHM hD n) (ROk.nil))))
def dy (n:Nat):Dyn:=dyOf tab tabR n
theorem dy_ok (n:Nat):DG (dy n):=zGf zMw zKk n
end Go.Eng.Sh
end
end
section
noncomputable section
namespace Go.Eng.Sh
open Go.Proofs
set_option maxRecDepth 1000000
theorem c6_r:zKE (f6 (dy 100000) 100000 [] ⟨.leaf,0⟩)=true:=by kernel_rfl
theorem c6 (w:World):Calls PP 6 #[] w fun e w'=>e= .returned (.bool true)/\RowKit.Below w.heap.size w w':=zIW (zIz (dy_ok 100000) 100000) c6_r w
end Go.Eng.Sh
end
end
section
noncomputable section
namespace Go.Eng.Sh
open Go.Proofs
set_option maxRecDepth 1000000
def z6 (D:Dyn)(n:Nat)(vs:List AV)(H:AH):Option (AV×AH):=cloK (f6 D n) vs H
theorem z6_ok {D:Dyn}(hD:DG D)(n:Nat):FI 6 (z6 D n):=zLU ⟨_,Tryz.func6,rfl⟩ c6 (zIz hD n)
def s3z (D:Dyn)(n:Nat):Tb:=⟨X,[(5,f5 D n),(6,z6 D n),(7,f7 D n),(8,f8 D n),(9,f9 D n),(10,f10 D n),(11,f11 D n),(12,f12 D n),(13,f13 D n),(14,f14 D n),(15,f15 D n),(16,f16 D n),(17,f17 D n),(18,f18 D n),(19,f19 D n)]⟩
def zLD (D:Dyn)(n:Nat)(vs:List AV)(H:AH):Rs:=
 hd vs fun a vs=>hd vs fun b vs=>hd vs fun c vs=>hd vs fun d vs=>hd vs fun e vs=>
 some (.norm [a,b,c,d,e],H)
def zLC (D:Dyn)(n:Nat)(vs:List AV)(H:AH):Rs:=
 hd vs fun a vs=>hd vs fun b vs=>hd vs fun c vs=>hd vs fun d vs=>hd vs fun e vs=>
 bV (fAd 1 e) fun f=>
 bV (ld1 f H) fun g=>
 bR (f14 D n [b,g] H) fun h H=>
 bV (qK h 0) fun i=>
 bV (qK h 1) fun k=>
 bV (fAd 1 e) fun m=>
 bV (ld1 m H) fun o=>
 bR (f15 D n [c,o] H) fun p H=>
 bV (qK p 0) fun r=>
 bV (qK p 1) fun t=>
 bR (f16 D n [b,(.str 0 0),(.str 0 0),(.int .i64 (.ofNat 9999))] H) fun u H=>
 bV (qK u 0) fun v=>
 bV (qK u 1) fun w=>
 bV (qK u 2) fun x=>
 bV (qO .neq i r) fun y=>
 jn (wnt y false (bV (qO .neq k t) fun z=>
 some (.norm [z],H)) (some (.norm [qM],H))) fun vs H=>hd vs fun B vs=>
 bV (pk3 (some y) (some (.bool true)) (some B)) fun C=>
 jn (wnt C false (bV (qO .neq x (.int .i64 (.ofNat 0))) fun E=>
 some (.norm [E],H)) (some (.norm [qM],H))) fun vs H=>hd vs fun F vs=>
 bV (pk3 (some C) (some (.bool true)) (some F)) fun G=>
 jn (wnt G false (bR (f17 D n [v,c] H) fun I H=>
 bV (aun .not I) fun J=>
 some (.norm [J],H)) (some (.norm [qM],H))) fun vs H=>hd vs fun K vs=>
 bV (pk3 (some G) (some (.bool true)) (some K)) fun M=>
 jn (wnt M false (bV (fAd 1 e) fun N=>
 bV (ld1 N H) fun O=>
 bV (fAd 2 e) fun P=>
 bV (ld1 P H) fun Q=>
 bV (fAd 1 e) fun R=>
 bV (ld1 R H) fun T=>
 bV (fAd 2 e) fun U=>
 bV (ld1 U H) fun V=>
 bR (f18 D n [O,Q] H) fun W H=>chk (ld1 R H) T <| chk (ld1 U H) V <|
 bR (f19 D n [T,V] H) fun Y H=>
 bV (jW .neq W Y) fun Z=>
 some (.norm [Z],H)) (some (.norm [qM],H))) fun vs H=>hd vs fun a0 vs=>
 bV (pk3 (some M) (some (.bool true)) (some a0)) fun a1=>
 cnd a1 (bV (some (.bool false)) fun a2=>some (.ret a2,H))
 (bV (qO .add d (.int .i64 (.ofNat 1))) fun a3=>
 some (.norm [a,b,c,a3],H))
def UD (D:Dyn)(n:Nat)(vs:List AV)(H:AH):Rs:=
 hd vs fun a vs=>hd vs fun b vs=>hd vs fun c vs=>hd vs fun d vs=>
 bV (lnSl a) fun e=>
 bV (qO .lss d e) fun f=>
 cnd f (bV (jL 6 a d) fun g=>
 bV (ldN 6 g H) fun h=>
 bA (bxV 29 (.agg [(.int .u8 (.ofNat 0)),(.int .i64 (.ofNat 0)),(.int .i64 (.ofNat 0)),(.int .i64 (.ofNat 0)),(.int .i64 (.ofNat 0)),(.str 0 0)])) H fun i H=>
 bR (stN 6 i h H) fun k H=>
 bV (fAd 0 i) fun m=>
 bV (ld1 m H) fun o=>
 bV (qO .eql o (.int .u8 (.ofNat 0))) fun p=>
 jn (cnd p (bV (fAd 1 i) fun r=>
 bV (ld1 r H) fun t=>
 bV (fAd 2 i) fun u=>
 bV (ld1 u H) fun v=>
 bV (fAd 5 i) fun w=>
 bV (ld1 w H) fun x=>
 bR (f8 D n [c,t,v,x] H) fun y H=>
 bV (qK y 0) fun z=>
 bV (qK y 1) fun B=>
 bV (fAd 1 i) fun C=>
 bV (ld1 C H) fun E=>
 bV (fAd 2 i) fun F=>
 bV (ld1 F H) fun G=>
 bV (fAd 5 i) fun I=>
 bV (ld1 I H) fun J=>
 bR (f9 D n [b,E,G,J] H) fun K H=>
 bV (qO .neq K B) fun M=>
 cnd M (bV (some (.bool false)) fun N=>some (.ret N,H))
 (some (.norm [a,b,z,d,i],H)))
 (bV (qO .eql o (.int .u8 (.ofNat 1))) fun O=>
 jn (cnd O (bV (fAd 1 i) fun P=>
 bV (ld1 P H) fun Q=>
 bV (fAd 2 i) fun R=>
 bV (ld1 R H) fun T=>
 bR (f10 D n [c,Q,T] H) fun U H=>
 bV (qK U 0) fun V=>
 bV (qK U 1) fun W=>
 bV (fAd 1 i) fun Y=>
 bV (ld1 Y H) fun Z=>
 bV (fAd 2 i) fun a0=>
 bV (ld1 a0 H) fun a1=>
 bR (f11 D n [b,Z,a1] H) fun a2 H=>
 bV (qO .neq a2 W) fun a3=>
 cnd a3 (bV (some (.bool false)) fun a4=>some (.ret a4,H))
 (some (.norm [a,b,V,d,i],H)))
 (bV (fAd 1 i) fun a5=>
 bV (ld1 a5 H) fun a6=>
 bV (fAd 4 i) fun a7=>
 bV (ld1 a7 H) fun a8=>
 bV (fAd 2 i) fun a9=>
 bV (ld1 a9 H) fun b0=>
 bV (fAd 3 i) fun b1=>
 bV (ld1 b1 H) fun b2=>
 bR (f12 D n [b,a6,a8,b0,b2] H) fun b3 H=>
 bV (qK b3 0) fun b4=>
 bV (qK b3 1) fun b5=>
 bV (fAd 1 i) fun b6=>
 bV (ld1 b6 H) fun b7=>
 bV (fAd 4 i) fun b8=>
 bV (ld1 b8 H) fun b9=>
 bV (fAd 2 i) fun c0=>
 bV (ld1 c0 H) fun c1=>
 bV (fAd 3 i) fun c2=>
 bV (ld1 c2 H) fun c3=>
 bR (f13 D n [c,b7,b9,c1,c3] H) fun c4 H=>
 bV (qK c4 0) fun c5=>
 bV (qK c4 1) fun c6=>
 bV (jW .neq b4 c5) fun c7=>
 jn (wnt c7 false (bV (qO .neq b5 c6) fun c8=>
 some (.norm [c8],H)) (some (.norm [qM],H))) fun vs H=>hd vs fun c9 vs=>
 bV (pk3 (some c7) (some (.bool true)) (some c9)) fun d0=>
 cnd d0 (bV (some (.bool false)) fun d1=>some (.ret d1,H))
 (some (.norm [a,b,c,d,i],H)))) (zLD D n))) (zLC D n))
 (some (.exit 0 [],H))
def zNZ (D:Dyn)(n:Nat)(vs:List AV)(H:AH):Rs:=
 bR (z6 D n [] H) fun a H=>
 bV (some a) fun b=>some (.ret b,H)
def f3z (D:Dyn)(n:Nat)(vs:List AV)(H:AH):Option (AV×AH):=
 yR (hd vs fun a vs=>nl vs <|
 bR (f5 D n [a] H) fun b H=>
 cnd b (bR (z6 D n [] H) fun c H=>
 bV (some c) fun d=>some (.ret d,H))
 (bR (f7 D n [] H) fun e H=>
 jb 0 (qW n (UD D n) [a,e, .nilSlice,(.int .i64 (.ofNat 0))] H) (zNZ D n)))
def h3z:Hint:=(.s .o (.s (.s .o (.cl (.s .o .o) .o)) (.s .o (.s .o (.s (.s .o (.b [] (.l [0,3,4,5] (.s (.s .o (.cr .o .o)) (.s (.b0 (.s .o (.s (.s .o (.b0 (.s .o (.c [0,3,4,5,6] (.s .o (.s (.s .o (.cl (.s .o .o) .o)) .o)) (.s .o (.c [0,3,4,5,6] (.s .o (.s (.s .o (.cl (.s .o .o) .o)) .o)) (.s .o (.s .o (.s .o (.cl (.s .o .o) .o)))))))))) (.s .o (.s .o (.s .o (.s .o (.cl (.s .o .o) .o)))))))) .o))))) (.s .o .o))))))
theorem f3z_ok {D:Dyn}(hD:DG D)(n:Nat):FI 3 (f3z D n):=qS (n:=n) (h:=h3z) X_ok hD (sc (zLz hD n) (sc (z6_ok hD n) (sc (zIy hD n) (sc (zLp hD n) (sc (zIs hD n) (sc (zG7 hD n) (sc (zBH hD n) (sc (zBG hD n) (sc (zFT hD n) (sc (zBF hD n) (sc (zFS hD n) (sc (zBE hD n) (sc (zFR hD n) (sc (aX hD n) (sc (JP hD n) (SOk.nil)))))))))))))))) Tryz.func3 (by kernel_rfl) (by kernel_rfl)
end Go.Eng.Sh
end
end
section
namespace Go.Nd
abbrev Str:=List UInt8
structure Ptr where
 at_:Int
 birth:Int
 sum:Int
 deriving DecidableEq
structure Node where
 leaf:Bool
 keys:List Str
 vals:List Str
 kids:List Ptr
 deriving DecidableEq
def be:Nat->Nat->Str
 | 0,_=>[]
 | k+1,n=>be k (n / 256)++[UInt8.ofNat n]
theorem be_length: ∀k n,(be k n).length=k
 | 0,_=>rfl
 | k+1,n=>by simp[be,be_length k]
def zL4 (p:Ptr):Bool:=if p.at_=0 then decide (p.birth=0)&&decide (p.sum=0)else decide (0<p.at_)&&decide (p.at_<8192)&&decide (0<=p.birth)&&decide (p.birth<=2147483647)
def encP (p:Ptr):Str:=be 4 p.at_.toNat++(be 4 p.birth.toNat++be 8 p.sum.toNat)
theorem encP_length (p:Ptr):(encP p).length=16:=by simp[encP,be_length]
def sumOk (p:Ptr):Prop:=0<=p.sum/\p.sum<18446744073709551616
def encT (s:Str):Str:=UInt8.ofNat s.length::s
def mayK (k:Str):Bool:=decide (1<=k.length)&&decide (k.length<=40)
def rising (lt:Str->Str->Bool):List Str->Bool
 | []=>true
 | [_]=>true
 | a::b::l=>lt a b&&rising lt (b::l)
def kidOk (p:Ptr):Bool:=decide (1<=p.at_)&&decide (p.at_<8192)&&decide (0<=p.birth)&&decide (p.birth<=2147483647)
def shaped (lt:Str->Str->Bool)(n:Node):Bool:=
 n.keys.all mayK&&rising lt n.keys&&
 (if n.leaf then decide (n.vals.length=n.keys.length)&&decide (n.kids=[])&&n.vals.all (fun v=>decide (v.length<=200))
  else decide (n.keys≠[])&&decide (n.vals=[])&&decide (n.kids.length=n.keys.length+1)&&n.kids.all kidOk)
def yH (l:List Str):Nat:=l.foldl (fun n s=>n+(1+s.length)) 0
theorem XZ (l:List Str)(a:Nat):l.foldl (fun n s=>n+(1+s.length)) a=a+yH l:=by
 induction l generalizing a with
 | nil=>simp[yH]
 | cons s l ih=>simp only[List.foldl_cons,yH];rw[ih,ih];omega
theorem sumL_cons (s:Str)(l:List Str):yH (s::l)=1+s.length+yH l:=by
 simp only[yH,List.foldl_cons];rw[XZ,XZ];simp[yH]
theorem sumL_append (l m:List Str):yH (l++m)=yH l+yH m:=by
 induction l with
 | nil=>simp[yH]
 | cons s l ih=>rw[List.cons_append,sumL_cons,sumL_cons,ih];omega
def size (n:Node):Nat:=2+16*n.kids.length+yH n.keys+yH n.vals
def encL:List Str->List Str->Str
 | k::ks,v::vs=>encT k++(encT v++encL ks vs)
 | _,_=>[]
def encI:List Str->List Ptr->Str
 | k::ks,p::ps=>encT k++(encP p++encI ks ps)
 | _,_=>[]
def encB (n:Node):Str:=if n.leaf then encL n.keys n.vals else match n.kids with
 | p::ps=>encP p++encI n.keys ps
 | []=>[]
def encN (n:Node):Str:=be 2 n.keys.length++encB n
theorem sumL_ge (l:List Str):l.length<=yH l:=by
 induction l with
 | nil=>simp
 | cons s l ih=>rw[sumL_cons,zJ];omega
end Go.Nd
end
section
namespace Go.Eng
theorem kX {b:List AV->AH->Rs}{H:AH}{r:Rs}(st:Nat->List AV)(N:Nat)(step: ∀i,i<N->b (st i) H=some (.norm (st (i+1)),H))(last: ∀n,qW (n+1) b (st N) H=r): ∀n,N<n->qW n b (st 0) H=r:=by
 suffices h: ∀(m i n:Nat),i+m=N->m<n->qW n b (st i) H=r from fun n hn=>h N 0 n (by omega) hn
 intro m
 induction m with
 | zero=>
  intro i n hi hn;obtain⟨n,rfl⟩: ∃k,n=k+1:=⟨n - 1,by omega⟩;rw[show i=N by omega];exact last n
 | succ m ih=>
  intro i n hi hn;obtain⟨n,rfl⟩: ∃k,n=k+1:=⟨n - 1,by omega⟩;rw[yW (step i (by omega))];exact ih (i+1) n (by omega) (by omega)
theorem fZ {α:Type}(l:List α)(i:Nat)(h:i<l.length):l.take (i+1)=l.take i++[l[i]]:=by
 rw[zQ h]
theorem WH (H:AH)(l:List AV)(e sz o:Nat)(g:Bool):ld1 (.ptr H.next o) (H.push (.cells l e sz g))=l[o]? :=by simp only[ld1,AH.push_get_eq,dJ]
theorem zIf (H:AH)(l:List AV)(e sz o n:Nat)(g:Bool):ldN n (.ptr H.next o) (H.push (.cells l e sz g))=(vY l o n).map .agg:=by
 simp only[ldN,AH.push_get_eq];cases vY l o n<;>rfl
theorem zEM {H:AH}{A:Nat}(o:Nat)(x:AObj)(h:A<H.next):ld1 (.ptr A o) (H.push x)=ld1 (.ptr A o) H:=by simp only[ld1,AH.push_get_ne _ _ h]
theorem zLa {H:AH}{A:Nat}(o n:Nat)(x:AObj)(h:A<H.next):ldN n (.ptr A o) (H.push x)=ldN n (.ptr A o) H:=by simp only[ldN,AH.push_get_ne _ _ h]
theorem vB {b:List AV->AH->Rs}(N:Nat)(I:Nat->List AV->AH->Prop)(step: ∀i vs H,i<N->I i vs H-> ∃vs' H',b vs H=some (.norm vs',H')/\I (i+1) vs' H'):
  ∀(n:Nat) (vs:List AV) (H:AH),I 0 vs H->N<n-> ∃m vs' H',qW n b vs H=qW (m+1) b vs' H'/\I N vs' H':=by
 suffices h: ∀(m i n:Nat) (vs:List AV) (H:AH),i+m=N->m<n->I i vs H-> ∃m vs' H',qW n b vs H=qW (m+1) b vs' H'/\I N vs' H' from fun n vs H h0 hn=>h N 0 n vs H (by omega) hn h0
 intro m
 induction m with
 | zero=>
  intro i n vs H hi hn hI;obtain⟨n,rfl⟩: ∃k,n=k+1:=⟨n - 1,by omega⟩;exact⟨n,vs,H,rfl,by rw[show N=i by omega];exact hI⟩
 | succ m ih=>
  intro i n vs H hi hn hI;obtain⟨n,rfl⟩: ∃k,n=k+1:=⟨n - 1,by omega⟩;obtain⟨vs',H',h1,h2⟩:=step i vs H (by omega) hI;rw[yW h1];exact ih (i+1) n vs' H' (by omega) (by omega) h2
def notN:Ex->Bool
 | .norm _=>false
 | _=>true
theorem zES {e:Ex}{H:AH}{K:List AV->AH->Rs}(h:notN e=true):jn (some (e,H)) K=some (e,H):=by cases e<;>first | rfl | (simp[notN]at h)
theorem WE {b:List AV->AH->Rs}(N:Nat)(good:Nat->Bool)(I:Nat->List AV->AH->Prop)(Good Bad:Ex->AH->Prop)
  (step: ∀i vs H,i<N->I i vs H->good i=true-> ∃vs' H',b vs H=some (.norm vs',H')/\I (i+1) vs' H')
  (bad: ∀i vs H,i<N->I i vs H->good i=false-> ∃e H',b vs H=some (e,H')/\notN e=true/\Bad e H')
  (last: ∀vs H,I N vs H-> ∃e H',b vs H=some (e,H')/\notN e=true/\Good e H'):
  ∀(n:Nat) (vs:List AV) (H:AH),I 0 vs H->N<n-> ∃e H',qW n b vs H=some (e,H')/\if(List.range N).all good then Good e H' else Bad e H':=by
 suffices h: ∀(m i n:Nat) (vs:List AV) (H:AH),i+m=N->m<n->I i vs H->(∀j,j<i->good j=true)-> ∃e H',qW n b vs H=some (e,H')/\if(List.range N).all good then Good e H' else Bad e H' from
  fun n vs H h0 hn=>h N 0 n vs H (by omega) hn h0 (fun j hj=>by omega)
 intro m
 induction m with
 | zero=>
  intro i n vs H hi hn hI hg;obtain⟨n,rfl⟩: ∃k,n=k+1:=⟨n - 1,by omega⟩;rw[show i=N by omega]at hI hg;obtain⟨e,H',h1,h2,h3⟩:=last vs H hI;refine⟨e,H', ?_, ?_⟩
  ·show jn (b vs H) _=_;rw[h1,zES h2]
  ·rw[if_pos (by simpa[List.all_eq_true]using hg)];exact h3
 | succ m ih=>
  intro i n vs H hi hn hI hg;obtain⟨n,rfl⟩: ∃k,n=k+1:=⟨n - 1,by omega⟩
  cases hgi:good i with
  | true=>
   obtain⟨vs',H',h1,h2⟩:=step i vs H (by omega) hI hgi;rw[yW h1];exact ih (i+1) n vs' H' (by omega) (by omega) h2 (fun j hj=>by
    rcases Nat.lt_succ_iff_lt_or_eq.1 hj with h | rfl
    ·exact hg j h
    ·exact hgi)
  | false=>
   obtain⟨e,H',h1,h2,h3⟩:=bad i vs H (by omega) hI hgi;refine⟨e,H', ?_, ?_⟩
   ·show jn (b vs H) _=_;rw[h1,zES h2]
   ·rw[if_neg (by
     simp only[List.all_eq_true,List.mem_range];intro h;have:=h i (by omega);rw[hgi]at this;cases this)];exact h3
theorem zD3 (want:Bool)(x y:Rs):wnt qM want x y=y:=by cases want<;>rfl
theorem zJ4 (k k':IntKind){a:Int}{s:Nat}(ha:0<=a)(hs:s<=k.bits):qO .shr (.int k a) (.int k' (s:Int))=some (.int k (a / 2 ^ s)):=by
 show fI (a.fdiv ((2 ^ (Nat.min s k.bits):Nat):Int)) (fun r=>some (AV.int k r))=_;rw[zAj,show Nat.min s k.bits=s from Nat.min_eq_left hs,Int.fdiv_eq_ediv_of_nonneg _ (Int.natCast_nonneg _)];simp
theorem yN {v:AV}(h:isCell v=true):qT v=[v]:=by cases v<;>first | rfl | (simp[isCell]at h)
theorem Rw.isCell {k n:Nat}{H:AH}{v:AV}{l:List AV}(h:Rw k H v n l):Eng.isCell v=true:=by
 obtain⟨_,⟨rfl,_⟩ | ⟨rfl,_⟩ | ⟨A,off,cc,c,e,sz,g,rfl,_⟩⟩:=h<;>rfl
theorem K3 (k:IntKind)(a b:Int):YA (dS k) (.int k a) (.int k b)=some (decide (a=b)):=by
 have:keq k k=true:=by rw[kQ];simp
 simp only[YA,Nat.beq_refl,this,Bool.and_self,cond_true,kR];congr 1
theorem K7 (A o n c:Nat):aveq (.slice A o n c) (.slice A o n c)=true:=by simp[aveq]
theorem yL {k n:Nat}{H:AH}{v:AV}{l:List AV}(h:Rw k H v n l):aveq v v=true:=by
 obtain⟨_,⟨rfl,_⟩ | ⟨rfl,_⟩ | ⟨A,off,cc,c,e,sz,g,rfl,_⟩⟩:=h
 ·rfl
 ·rfl
 ·simp[aveq]
theorem jA {x:Option AV}{v:AV}{K:Rs}(h:x=some v)(hv:aveq v v=true):chk x v K=K:=by subst h;simp[chk,hv]
theorem qL {H:AH}{A:Nat}{l:List AV}{e:TypeId}{sz:Nat}{g:Bool}(h:H.h.get A=some (.cells l e sz g))(o:Nat):ld1 (.ptr A o) H=l[o]? :=by simp only[ld1,h,dJ]
theorem qQ {H:AH}{A:Nat}{l:List AV}{e:TypeId}{sz:Nat}{g:Bool}(h:H.h.get A=some (.cells l e sz g))(o n:Nat):ldN n (.ptr A o) H=(vY l o n).map .agg:=by simp only[ldN,h];cases vY l o n<;>rfl
theorem zNe (b c:Bool)(H:AH)(K:AV->AH->Rs):
  jn (if b=false then some (.norm [.bool c],H)else some (.norm [qM],H)) (fun vs H=>hd vs fun y _=>bV (if b=true then some (.bool true)else some y) fun x=>K x H)=K (.bool (b||c)) H:=by
 cases b<;>simp[jn,hd,bV]
theorem zNd (p:Prop)[Decidable p](b:Bool)(H:AH)(K:AV->AH->Rs):
  jn (if ¬p then some (.norm [.bool b],H)else some (.norm [qM],H)) (fun vs H=>hd vs fun y _=>bV (if p then some (.bool true)else some y) fun x=>K x H)=K (.bool (decide p||b)) H:=by
 by_cases h:p<;>simp[h,jn,hd,bV]
theorem lg:(∀(p:Prop) [Decidable p] (b:Bool) (H:AH) (K:AV->AH->Rs),jn (if ¬p then some (.norm [.bool b],H)else some (.norm [qM],H)) (fun vs H=>hd vs fun y _=>bV (if p then some (.bool true)else some y) fun x=>K x H)=K (.bool (decide p||b)) H)/\
  (∀(p:Prop) [Decidable p] (b:Bool) (H:AH) (K:AV->AH->Rs),jn (if p then some (.norm [.bool b],H)else some (.norm [qM],H)) (fun vs H=>hd vs fun y _=>bV (if p then some y else some (.bool false)) fun x=>K x H)=K (.bool (decide p&&b)) H)/\
  (∀(p:Prop) [Decidable p] (b:Bool) (H:AH) (K:AV->AH->Rs),jn (if p then some (.norm [qM],H)else some (.norm [.bool b],H)) (fun vs H=>hd vs fun y _=>bV (if p then some (.bool true)else some y) fun x=>K x H)=K (.bool (decide p||b)) H)/\
  (∀(b c:Bool) (H:AH) (K:AV->AH->Rs),jn (if b=false then some (.norm [.bool c],H)else some (.norm [qM],H)) (fun vs H=>hd vs fun y _=>bV (if b=true then some (.bool true)else some y) fun x=>K x H)=K (.bool (b||c)) H)/\
  (∀(p:Prop) [Decidable p],(decide p=true)=p)/\(∀(p:Prop) [Decidable p],(decide p=false)= ¬p)/\(∀(b:Bool),decide (b=true)=b):=
 ⟨fun p _ b H K=>zNd p b H K,fun p _ b H K=>zNg p b H K,fun p _ b H K=>jn_or p b H K,zNe,fun p _=>zF,fun p _=>by simp,fun b=>by simp⟩
theorem ev:(∀(v:AV) (vs:List AV) (K:AV->List AV->Rs),hd (v::vs) K=K v vs)/\
 (∀(K:Rs),nl [] K=K)/\
 (∀(v:AV) (K:AV->Rs),bV (some v) K=K v)/\
 (∀(v:AV) (H:AH) (K:AV->AH->Rs),bR (some (v,H)) K=K v H)/\
 (∀(vs:List AV) (H:AH) (K:List AV->AH->Rs),jn (some (.norm vs,H)) K=K vs H)/\
 (∀(v:AV) (H:AH) (K:List AV->AH->Rs),jn (some (.ret v,H)) K=some (.ret v,H))/\
 (∀(i:Nat) (vs:List AV) (H:AH) (K:List AV->AH->Rs),jn (some (.exit i vs,H)) K=some (.exit i vs,H))/\
 (∀(id:Nat) (vs:List AV) (H:AH) (K:List AV->AH->Rs),jb id (some (.norm vs,H)) K=K vs H)/\
 (∀(id:Nat) (v:AV) (H:AH) (K:List AV->AH->Rs),jb id (some (.ret v,H)) K=some (.ret v,H))/\
 (∀(id:Nat) (vs:List AV) (H:AH) (K:List AV->AH->Rs),jb id (some (.exit id vs,H)) K=K vs H)/\
 (∀(v:AV) (H:AH),yR (some (.ret v,H))=some (v,H))/\
 (∀(b:Bool) (x y:Rs),cnd (.bool b) x y=if b then x else y)/\
 (∀(b want:Bool) (x y:Rs),wnt (.bool b) want x y=if b=want then x else y)/\
 (∀(b:Bool) (x y:Option AV),pk3 (some (.bool b)) x y=if b then x else y)/\
 (∀(k:IntKind) (a b:Int),qO .add (.int k a) (.int k b)=some (.int k (k.wrap (a+b))))/\
 (∀(k:IntKind) (a b:Int),qO .sub (.int k a) (.int k b)=some (.int k (k.wrap (a - b))))/\
 (∀(k:IntKind) (a b:Int),qO .mul (.int k a) (.int k b)=some (.int k (k.wrap (a*b))))/\
 (∀(k:IntKind) (a b:Int),qO .eql (.int k a) (.int k b)=some (.bool (decide (a=b))))/\
 (∀(k:IntKind) (a b:Int),qO .neq (.int k a) (.int k b)=some (.bool (decide (a≠b))))/\
 (∀(k:IntKind) (a b:Int),qO .lss (.int k a) (.int k b)=some (.bool (decide (a<b))))/\
 (∀(k:IntKind) (a b:Int),qO .leq (.int k a) (.int k b)=some (.bool (decide (a<=b))))/\
 (∀(k:IntKind) (a b:Int),qO .gtr (.int k a) (.int k b)=some (.bool (decide (b<a))))/\
 (∀(k:IntKind) (a b:Int),qO .geq (.int k a) (.int k b)=some (.bool (decide (b<=a))))/\
 (∀(k k':IntKind) (z:Int),cvI k (.int k' z)=some (.int k (k.wrap z)))/\
 (∀(a b:Bool),XE .eql (.bool a) (.bool b)=some (.bool (a==b)))/\
 (∀(a b:Bool),XE .neq (.bool a) (.bool b)=some (.bool (!(a==b))))/\
 (∀(b:Bool),aun .not (.bool b)=some (.bool !b))/\
 (∀(l:Str),jO (S l)=some (.int .i64 (l.length:Nat)))/\
 (∀(l m:Str),jW .eql (S l) (S m)=some (.bool (decide (l=m))))/\
 (∀(l m:Str),jW .neq (S l) (S m)=some (.bool (decide (l≠m))))/\
 (∀(l m:Str),jW .lss (S l) (S m)=some (.bool (ltS l m)))/\
 (∀(l m:Str),jW .geq (S l) (S m)=some (.bool (!ltS l m)))/\
 (∀(A o:Nat),wR (.ptr A o)=some (.ptr A o))/\
 (∀(f A o:Nat),fAd f (.ptr A o)=some (.ptr A (o+f)))/\
 (∀(e:TypeId) (x:AV),bxV e x=some (.cells (qT x) e 1 false,fun A=> .ptr A 0))/\
 (∀(l:List AV),qT (.agg l)=l)/\
 (∀(H:AH) (l:List AV) (e sz o:Nat) (g:Bool),ld1 (.ptr H.next o) (H.push (.cells l e sz g))=l[o]?)/\
 (∀(H:AH) (l:List AV) (e sz o n:Nat) (g:Bool),ldN n (.ptr H.next o) (H.push (.cells l e sz g))=(vY l o n).map .agg)/\
 (∀(a:AV) (l:List AV),(a::l)[0]? =some a)/\
 (∀(a:AV) (l:List AV) (i:Nat),(a::l)[i+1]? =l[i]?)/\
 (∀(n:Nat),0+n=n)/\
 (∀(n:Nat),Int.ofNat n=(n:Int))/\
 (∀(z:Int), -9223372036854775808<=z->z<=9223372036854775807->IntKind.wrap .i64 z=z):=
 ⟨fH,zEC,bVs,bRs,WM,zNc,zLd,zLe,zNh,zLf,zB8,zCJ,zMr,zMV,ZP,zJ3,zJ6,zJ7,zBS,cH,zBT,zBU,zBV,WY,zGI,zGH,zM4,yQ,jE,jI,uB,xF,zI0,zLo,fun _ _=>rfl,fun _=>rfl,WH,zIf,fun _ _=>List.getElem?_cons_zero,fun _ _ _=>List.getElem?_cons_succ,Nat.zero_add,fun _=>rfl,fun _ h1 h2=>wrap_i64 h1 h2⟩
def eZ:=And.intro zD3 (And.intro ev (And.intro lg ew))
def j7 (k e:Nat)(H:AH)(v:AV)(n:Nat)(l:List AV):Prop:=
 Own k e H v n l\/(l.length=n*k/\ ∃A e' g,v= .slice A 0 n (2*n)/\A<H.next/\H.h.get A=some (.cells l e' k g)/\n=0)
theorem j7.row {k e n:Nat}{H:AH}{v:AV}{l:List AV}(h:j7 k e H v n l):Rw k H v n l:=by
 rcases h with h | ⟨h0,A,e',g,rfl,hA,hg,hn0⟩
 ·exact h.row
 ·exact⟨h0, .inr (.inr ⟨A,0,2*n,l,e',k,g,rfl,hg,hA,by omega,by rw[List.drop_zero,zK (by omega)]⟩)⟩
theorem j7.mono {k e n:Nat}{S:Nat->Prop}{H H':AH}{v:AV}{l:List AV}(h:j7 k e H v n l)(s:Stp S H H')(hS: ∀A,Blk v A-> ¬S A):j7 k e H' v n l:=by
 rcases h with h | ⟨h0,A,e',g,rfl,hA,hg,hn0⟩
 ·exact .inl (h.mono s hS)
 ·exact .inr ⟨h0,A,e',g,rfl,zV hA s.next,by rw[s.keep A hA (hS A (Blk.slice.2 rfl))];exact hg,hn0⟩
theorem j7.lt {k e n:Nat}{H:AH}{v:AV}{l:List AV}(h:j7 k e H v n l){B:Nat}(hB:Blk v B):B<H.next:=by
 rcases h with⟨_,⟨rfl,_⟩ | ⟨A,rfl,hA,_⟩⟩ | ⟨_,A,e',g,rfl,hA,_⟩
 ·exact(Blk.nil.1 hB).elim
 ·rw[Blk.slice.1 hB];exact hA
 ·rw[Blk.slice.1 hB];exact hA
theorem j7.app1 {k e bytes n m:Nat}{H:AH}{v:AV}{l new:List AV}(hk:H.ok)(hpos:0<k)(h:j7 k e H v n l)(hm:new.length=m*k)(hn:n+m<=1000000000)(hb:bytes<=1000):
  ∃v' H',Eng.app1 e k bytes m new v H=some (v',H')/\j7 k e H' v' (n+m) (l++new)/\Stp (Blk v) H H'/\(∀B,Blk v' B->Blk v B\/H.next<=B):=by
 by_cases h0:m=0
 ·subst h0;have:new=[]:=zG (by simpa using hm);subst this;rcases h with h | ⟨h0,A,e',g,rfl,hA,hg,hn0⟩
  ·obtain⟨H',h1,h2,h3,h4⟩:=BG (bytes:=bytes) hk hpos h;exact⟨v,H',h1, .inl (by simpa using h2),h3.mono (fun _ _ x=>x.elim),fun B hB=> .inl hB⟩
  ·have hroom:yI l g k 0 (2*n) k=n:=by
    simp only[yI,show((2*n) % 2).beq 0=true by rw[Nat.mul_mod_right];rfl,cond_true,Nat.mul_div_cancel_left n (show 0<2 by omega)]
   have hz:Nat.blt 0 k=true:=by rw[zM];exact hpos
   have hset:setAt l (0+n*k) []=some l:=by rw[vR (by simp;omega)];simp
   have hg':(H.put A (.cells l e' k g)).h.get A=some (.cells l e' k g):=by rw[AH.put_get,if_pos rfl]
   refine⟨.slice A 0 n (2*n),H.put A (.cells l e' k g), ?_, .inr ⟨by simpa using h0,A,e',g,rfl,hA,by simpa using hg',by omega⟩,(Stp.refl hk).put hA _ (.inr (Blk.slice.2 rfl)),fun B hB=> .inl hB⟩;simp only[Eng.app1,hg,zK9,hroom,Nat.add_zero,Nat.ble_eq_true_of_le (Nat.le_refl n),cond_true,hz,hset,zCN,yY,yE]
 ·rcases h with h | ⟨hl,A,e',g,rfl,hA,hg,hn0⟩
  ·obtain⟨H',h1,h2,h3,h4⟩:=zBW (bytes:=bytes) hk hpos h hm (by omega) hn hb;exact⟨_,H',h1, .inl h2,h3,fun B hB=> .inr (by rw[Blk.slice.1 hB];exact Nat.le_refl _)⟩
  ·have h1:=BI (k:=k) (e:=e) (bytes:=bytes) (n:=n) (m:=m) (off:=0) (new:=new) hk hg (by omega) (by omega) hn hb;rw[List.drop_zero,zK (by omega)]at h1;refine⟨_,_,h1, .inl ⟨by simp[hl,hm,Nat.add_mul], .inr ⟨H.next,rfl,Nat.lt_succ_self _,AH.push_get_eq _ _⟩⟩,(Stp.refl hk).push _,fun B hB=> .inr (by rw[Blk.slice.1 hB];exact Nat.le_refl _)⟩
theorem j7.app {k e bytes n m:Nat}{H:AH}{v s:AV}{l new:List AV}(hk:H.ok)(hpos:0<k)(h:j7 k e H v n l)(hs:srcOf k s H=some (m,new))(hm:new.length=m*k)(hc:qN new=true)(hn:n+m<=1000000000)(hb:bytes<=1000):
  ∃v' H',apP e k bytes v s H=some (v',H')/\j7 k e H' v' (n+m) (l++new)/\Stp (Blk v) H H'/\(∀B,Blk v' B->Blk v B\/H.next<=B):=by
 obtain⟨v',H',h1,h2⟩:=h.app1 (bytes:=bytes) (e:=e) hk hpos hm hn hb;exact⟨v',H',by simp only[apP,hs,hc,cond_true,h1],h2⟩
theorem j7.isCell {k e n:Nat}{H:AH}{v:AV}{l:List AV}(h:j7 k e H v n l):isCell v=true:=h.row.isCell
def Box (H:AH)(A:Nat)(v:AV):Prop:= ∃e,H.h.get A=some (.cells [v] e 1 false)
theorem Box.ld {H:AH}{A:Nat}{v:AV}(h:Box H A v):ld1 (.ptr A 0) H=some v:=by
 obtain⟨e,h⟩:=h;rw[qL h];rfl
theorem Box.st {H:AH}{A:Nat}{v x:AV}(h:Box H A v)(hk:H.ok)(hx:Eng.isCell x=true): ∃H',stN 1 (.ptr A 0) x H=some (qM,H')/\Box H' A x/\Stp (fun B=>B=A) H H':=by
 obtain⟨e,h⟩:=h;exact⟨_,Q7 h (by decide) hx (by simp),⟨e,by rw[AH.put_get,if_pos rfl];rfl⟩,(Stp.refl hk).put (hk.lt h) _ (.inr rfl)⟩
theorem Box.mono {S:Nat->Prop}{H H':AH}{A:Nat}{v:AV}(h:Box H A v)(hk:H.ok)(s:Stp S H H')(hA: ¬S A):Box H' A v:=by
 obtain⟨e,h⟩:=h;exact⟨e,by rw[s.keep A (hk.lt h) hA];exact h⟩
theorem Box.lt {H:AH}{A:Nat}{v:AV}(h:Box H A v)(hk:H.ok):A<H.next:=by obtain⟨e,h⟩:=h;exact hk.lt h
end Go.Eng
end
section
namespace Go.Nd
theorem rising_ix (lt:Str->Str->Bool): ∀l:List Str,rising lt l=true↔ ∀i (h:i+1<l.length),lt l[i] l[i+1]=true
 | []=>by simp[rising]
 | [a]=>by simp[rising]
 | a::b::l=>by
  have ih:=rising_ix lt (b::l);simp only[rising,z8,ih];constructor
  ·rintro⟨h1,h2⟩ i h
   cases i with
   | zero=>exact h1
   | succ i=>exact h2 i (by simpa using h)
  ·intro h;exact⟨h 0 (by simp),fun i hi=>h (i+1) (by simpa using hi)⟩
theorem rising_take {lt:Str->Str->Bool}{l:List Str}(h:rising lt l=true)(k:Nat):rising lt (l.take k)=true:=by
 rw[rising_ix]at h⊢;intro i hi;simp only[zH]at hi;simp only[List.getElem_take];exact h i (by omega)
theorem rising_drop {lt:Str->Str->Bool}{l:List Str}(h:rising lt l=true)(k:Nat):rising lt (l.drop k)=true:=by
 rw[rising_ix]at h⊢;intro i hi;simp only[zN]at hi;simp only[List.getElem_drop];exact h (k+i) (by omega)
theorem ZQ {α:Type}{f:α->Bool}{l:List α}(h:l.all f=true)(k:Nat):(l.take k).all f=true:=by
 simp only[List.all_eq_true]at h⊢;exact fun x hx=>h x (List.mem_of_mem_take hx)
theorem ZR {α:Type}{f:α->Bool}{l:List α}(h:l.all f=true)(k:Nat):(l.drop k).all f=true:=by
 simp only[List.all_eq_true]at h⊢;exact fun x hx=>h x (List.mem_of_mem_drop hx)
def cutA (n:Node)(k:Nat):Node:=if n.leaf then⟨true,n.keys.take k,n.vals.take k,[]⟩else⟨false,n.keys.take k,[],n.kids.take (k+1)⟩
def fT (n:Node)(k:Nat):Node:=if n.leaf then⟨true,n.keys.drop k,n.vals.drop k,[]⟩else⟨false,n.keys.drop (k+1),[],n.kids.drop (k+1)⟩
def gL (a:Node)(sep:Str)(b:Node):Node:=if a.leaf then⟨true,a.keys++b.keys,a.vals++b.vals,[]⟩else⟨false,a.keys++([sep]++b.keys),[],a.kids++b.kids⟩
def cutOk (n:Node)(k:Nat):Prop:=1<=k/\k+(if n.leaf then 1 else 2)<=n.keys.length
theorem cut_shaped {lt:Str->Str->Bool}{n:Node}{k:Nat}(h:shaped lt n=true)(hk:cutOk n k):shaped lt (cutA n k)=true/\shaped lt (fT n k)=true:=by
 obtain⟨leaf,keys,vals,kids⟩:=n;obtain⟨k1,k2⟩:=hk
 cases leaf with
 | true=>
  simp only[shaped,if_true,z8,zF]at h k2;obtain⟨⟨h1,h2⟩,⟨h3,h4⟩,h5⟩:=h;simp only[shaped,cutA,fT,if_true,z8,zF];exact⟨⟨⟨ZQ h1 k,rising_take h2 k⟩,⟨by simp[h3],trivial⟩,ZQ h5 k⟩,⟨ZR h1 k,rising_drop h2 k⟩,⟨by simp[h3],trivial⟩,ZR h5 k⟩
 | false=>
  simp only[shaped,Bool.false_eq_true,if_false,z8,zF]at h k2;obtain⟨⟨h1,h2⟩,⟨⟨h3,h4⟩,h5⟩,h6⟩:=h;simp only[shaped,cutA,fT,Bool.false_eq_true,if_false,z8,zF];refine⟨⟨⟨ZQ h1 k,rising_take h2 k⟩,⟨⟨?_,trivial⟩, ?_⟩,ZQ h6 _⟩,⟨ZR h1 _,rising_drop h2 _⟩,⟨⟨?_,trivial⟩, ?_⟩,ZR h6 _⟩
  ·intro e;have:=congrArg List.length e;rw[zH]at this;simp only[zX]at this;omega
  ·rw[zH,zH];omega
  ·intro e;have:=congrArg List.length e;rw[zN]at this;simp only[zX]at this;omega
  ·rw[zN,zN];omega
theorem sumL_drop_le (l:List Str)(k:Nat):yH (l.drop k)<=yH l:=by
 have:yH l=yH (l.take k)+yH (l.drop k):=by rw[<-sumL_append,List.take_append_drop]
 omega
theorem sumL_take_le (l:List Str)(k:Nat):yH (l.take k)<=yH l:=by
 have:yH l=yH (l.take k)+yH (l.drop k):=by rw[<-sumL_append,List.take_append_drop]
 omega
theorem cP (l:List Str)(k:Nat):yH l=yH (l.take k)+yH (l.drop k):=by rw[<-sumL_append,List.take_append_drop]
theorem cut_size {lt:Str->Str->Bool}{n:Node}{k:Nat}(h:shaped lt n=true)(hk:cutOk n k):size (cutA n k)<size n/\size (fT n k)<size n:=by
 obtain⟨leaf,keys,vals,kids⟩:=n;obtain⟨k1,k2⟩:=hk;have p1:=cP keys k;have g1:=sumL_ge (keys.take k);have g2:=sumL_ge (keys.drop k);simp only[zH,zN]at g1 g2
 cases leaf with
 | true=>
  simp only[if_true]at k2;simp only[shaped,if_true,z8,zF]at h;have p2:=cP vals k;simp only[cutA,fT,if_true,size,zX,h.2.1.2];omega
 | false=>
  simp only[Bool.false_eq_true,if_false]at k2;simp only[shaped,Bool.false_eq_true,if_false,z8,zF]at h;have h5:=h.2.1.2;have p3:=cP keys (k+1);have g3:=sumL_ge (keys.take (k+1));simp only[zH]at g3;simp only[cutA,fT,Bool.false_eq_true,if_false,size,h.2.1.1.2,zH,zN];have:yH []=0:=rfl;omega
end Go.Nd
end
section
section
namespace Go.Eng.Sh
open Go.Nd (Ptr yH)
theorem yV (D:Dyn)(n:Nat)(s:Str)(H:AH):f72 D n [S s] H=some (.bool (Nd.mayK s),H):=by
 simp only[f72,fH,zEC,yQ,bVs,zBV,zBT,zMr,zNf,WM,zMV,zI2,zB8];have h1:(Int.ofNat 1<=((s.length:Nat):Int))=(1<=s.length):=by simp;omega
 have h2:(((s.length:Nat):Int)<=Int.ofNat 40)=(s.length<=40):=by simp;omega
 simp only[h1,h2,Nd.mayK];by_cases h:1<=s.length<;>simp[h,bVs,yR]
theorem sumL_nil:yH []=0:=rfl
theorem zDE (l:List Str)(i:Nat)(hi:i<l.length):yH (l.take (i+1))=yH (l.take i)+(1+l[i].length)/\yH (l.take i)+(1+l[i].length)<=yH l:=by
 have hs:yH l=yH (l.take i)+(1+l[i].length+yH (l.drop (i+1))):=by
  rw[<-Nd.sumL_cons,<-zL hi,<-Nd.sumL_append,List.take_append_drop]
 refine⟨?_,by omega⟩;rw[fZ l i hi,Nd.sumL_append,Nd.sumL_cons];simp[yH]
theorem size0 (D:Dyn)(n0:Nat){H:AH}{ks:AV}{l:List Str}(h:Strs H ks l)(x:AV)(a:Int)(n:Nat)(ha:0<=a)(hn:l.length<n)(hb:a+yH l<=1000000000000):
  qW n (zFk D n0) [x, .int .i64 a,ks, .int .i64 (l.length:Nat), .int .i64 (0:Nat)] H=some (.exit 0 [x, .int .i64 (a+yH l)],H):=by
 have key:=kX (b:=zFk D n0) (H:=H) (r:=some (.exit 0 [x, .int .i64 (a+yH l)],H)) (fun i=>[x, .int .i64 (a+yH (l.take i)),ks, .int .i64 (l.length:Nat), .int .i64 (i:Nat)]) l.length (fun i hi=>by
  obtain⟨p,h1,h2⟩:=h.at hi;obtain⟨hs1,hs⟩:=zDE l i hi;have hge:=Nd.sumL_ge l;simp(disch:=omega) [zFk,fH,bVs,cH,zCJ,hi,h1,h2,yQ,ZP,wrap_i64,hs1,Int.add_assoc]) (fun n=>qY (by
  simp[zFk,fH,bVs,cH,zCJ])) n hn
 simpa[sumL_nil]using key
theorem size1 (D:Dyn)(n0:Nat){H:AH}{ks:AV}{l:List Str}(h:Strs H ks l)(a:Int)(n:Nat)(ha:0<=a)(hn:l.length<n)(hb:a+yH l<=1000000000000):
  qW n (zFj D n0) [.int .i64 a,ks, .int .i64 (l.length:Nat), .int .i64 (0:Nat)] H=some (.exit 2 [.int .i64 (a+yH l)],H):=by
 have key:=kX (b:=zFj D n0) (H:=H) (r:=some (.exit 2 [.int .i64 (a+yH l)],H)) (fun i=>[.int .i64 (a+yH (l.take i)),ks, .int .i64 (l.length:Nat), .int .i64 (i:Nat)]) l.length (fun i hi=>by
  obtain⟨p,h1,h2⟩:=h.at hi;obtain⟨hs1,hs⟩:=zDE l i hi;have hge:=Nd.sumL_ge l;simp(disch:=omega) [zFj,fH,bVs,cH,zCJ,hi,h1,h2,yQ,ZP,wrap_i64,hs1,Int.add_assoc]) (fun n=>qY (by
  simp[zFj,fH,bVs,cH,zCJ])) n hn
 simpa[sumL_nil]using key
def y6 (p:Ptr):List AV:=[.int .i64 p.at_, .int .i64 p.birth, .int .u64 p.sum]
def uP (H:AH)(v:AV)(l:List Ptr):Prop:=Rw 3 H v l.length (l.flatMap y6)
def fS (H:AH)(v:AV)(n:Nd.Node):Prop:= ∃ks vs ps,v= .agg [.bool n.leaf,ks,vs,ps]/\Strs H ks n.keys/\Strs H vs n.vals/\uP H ps n.kids
theorem uP.lnSl {H:AH}{v:AV}{l:List Ptr}(h:uP H v l):Eng.lnSl v=some (.int .i64 (l.length:Int)):=Rw.lnSl h
theorem uP.prs {H H':AH}{v:AV}{l:List Ptr}(h:uP H v l)(s:Prs H H'):uP H' v l:=Rw.prs h s
theorem zNt: ∀(l:List Ptr) (i:Nat) (hi:i<l.length),((l.flatMap y6).drop (i*3)).take 3=y6 l[i]
 | [],i,hi=>by simp at hi
 | p::l,0,_=>rfl
 | p::l,i+1,hi=>by
  have:=zNt l i (by simpa using hi);rw[show(i+1)*3=i*3+3 from by omega];exact this
theorem uP.at {H:AH}{v:AV}{l:List Ptr}(h:uP H v l){i:Nat}(hi:i<l.length): ∃p,(∀κ (z:Int),z=(i:Int)->jL 3 v (.int κ z)=some p)/\Eng.ldN 3 p H=some (.agg (y6 l[i])):=by
 obtain⟨p,h1,h2⟩:=Rw.ldN h hi;rw[zNt l i hi]at h2;exact⟨p,h1,h2⟩
theorem fS.prs {H H':AH}{v:AV}{n:Nd.Node}(h:fS H v n)(s:Prs H H'):fS H' v n:=by
 obtain⟨ks,vs,ps,rfl,h1,h2,h3⟩:=h;exact⟨ks,vs,ps,rfl,h1.prs s,h2.prs s,h3.prs s⟩
def small (n:Nd.Node):Prop:=n.kids.length<=100000/\yH n.keys<=100000000/\yH n.vals<=100000000
theorem BW (D:Dyn)(n:Nat){H:AH}(hk:H.ok){v:AV}{nd:Nd.Node}(h:fS H v nd)(hs:small nd)(hn:200000000<=n):
  Ret (f90 D n [v] H) fun r H'=>r= .int .i64 (Nd.size nd:Nat)/\Prs H H':=by
 obtain⟨ks,vs,ps,rfl,h1,h2,h3⟩:=h;obtain⟨s1,s2,s3⟩:=hs;have hP:Prs H (H.push (.cells [.bool nd.leaf,ks,vs,ps] 93 1 false)):=(Stp.refl hk).push _;have hkl:=Nd.sumL_ge nd.keys;have hvl:=Nd.sumL_ge nd.vals;simp(disch:=omega) only[f90,ev,vW hk,h1.lnSl,h2.lnSl,h3.lnSl,size0 D n (h1.prs hP),zNA,size1 D n (h2.prs hP),zNB];apply Ret.pure;refine⟨?_,hP⟩;simp only[Nd.size,AV.int.injEq,true_and];omega
open Go.Nd (be zL4 encP)
theorem J8 (lt:Str->Str->Bool): ∀l:List Str,Nd.rising lt l=true↔ ∀i (h:i+1<l.length),lt l[i] l[i+1]=true
 | []=>by simp[Nd.rising]
 | [a]=>by simp[Nd.rising]
 | a::b::l=>by
  have ih:=J8 lt (b::l);simp only[Nd.rising,z8,ih];constructor
  ·rintro⟨h1,h2⟩ i h
   cases i with
   | zero=>exact h1
   | succ i=>exact h2 i (by simpa using h)
  ·intro h;exact⟨h 0 (by simp),fun i hi=>h (i+1) (by simpa using hi)⟩
def zCB (l:List Str)(i:Nat):Bool:=Nd.mayK (l.getD i [])&&(decide (i=0)||ltS (l.getD (i - 1) []) (l.getD i []))
theorem zF7 (l:List Str):(List.range l.length).all (zCB l)=(l.all Nd.mayK&&Nd.rising ltS l):=by
 rw[Bool.eq_iff_iff,z8,J8];simp only[List.all_eq_true,List.mem_range,zCB,z8,Bool.or_eq_true,zF];constructor
 ·intro h;refine⟨fun x hx=> ?_,fun i hi=> ?_⟩
  ·obtain⟨i,hi,rfl⟩:=List.mem_iff_getElem.1 hx;have:=(h i hi).1;rwa[zE,zB hi]at this
  ·have:=(h (i+1) hi).2;simp only[Nat.add_eq_zero_iff,Nat.one_ne_zero,and_false,false_or,Nat.add_sub_cancel]at this;rwa[zE,zB (by omega),zE,zB hi]at this
 ·rintro⟨h1,h2⟩ i hi
  refine⟨?_, ?_⟩
  ·rw[zE,zB hi];exact h1 _ (zU hi)
  ·by_cases h0:i=0
   ·exact .inl h0
   ·right;have:=h2 (i - 1) (by omega);rw[zE,zB (show i - 1<l.length by omega),zE,zB hi];simpa[show i - 1+1=i by omega]using this
theorem BJ {α:Type}(l:List α)(d:α)(f:α->Bool):(List.range l.length).all (fun i=>f (l.getD i d))=l.all f:=by
 rw[Bool.eq_iff_iff];simp only[List.all_eq_true,List.mem_range];constructor
 ·intro h x hx;obtain⟨i,hi,rfl⟩:=List.mem_iff_getElem.1 hx;have:=h i hi;rwa[zE,zB hi]at this
 ·intro h i hi;rw[zE,zB hi];exact h _ (zU hi)
theorem kN {α:Type}{l:List α}{i:Nat}{d:α}(h:i<l.length):l.getD i d=l[i]:=by rw[zE,zB h];rfl
theorem zKA (D:Dyn)(n:Nat){H:AH}{ks:AV}{l:List Str}(h:Strs H ks l){A e:Nat}{c:List AV}(hA:H.h.get A=some (.cells c e 1 false))(hc:c[1]? =some ks)(hl:l.length<=1000000000)(n':Nat)(hn:l.length<n'):
  ∃e H',qW n' (U8 D n) [.ptr A 0,ks, .int .i64 (l.length:Nat), .int .i64 (0:Nat)] H=some (e,H')/\if(List.range l.length).all (zCB l)then(e= .exit 0 [.ptr A 0]/\H'=H)else(e= .ret (.bool false)/\H'=H):=by
 refine WE l.length (zCB l) (fun i vs H'=>H'=H/\vs=[.ptr A 0,ks, .int .i64 (l.length:Nat), .int .i64 (i:Nat)]) (fun e H'=>e= .exit 0 [.ptr A 0]/\H'=H) (fun e H'=>e= .ret (.bool false)/\H'=H) ?_ ?_ ?_ n' _ H ⟨rfl,rfl⟩ hn
 ·rintro i vs H' hi ⟨rfl,rfl⟩ hg
  obtain⟨p,h1,h2⟩:=h.at hi;simp only[zCB,kN hi,z8,Bool.or_eq_true,zF]at hg;refine⟨_,H', ?_,rfl,rfl⟩;have hiI:((i:Nat):Int)< ((l.length:Nat):Int):=by omega
  by_cases h0:i=0
  ·subst h0;simp(disch:=omega) only[U8,eZ,hiI,h1,h2,yV,hg.1,qA,show((0:Nat):Int)+((1:Nat):Int)=((0+1:Nat):Int)from rfl]
  ·have hlt:i - 1<l.length:=by omega
   obtain⟨q,q1,q2⟩:=h.at hlt;have hg2:=hg.2.resolve_left h0;rw[kN hlt]at hg2;have hsub:((i:Nat):Int) - ((1:Nat):Int)=((i - 1:Nat):Int):=by omega
   have hpos:((0:Nat):Int)< (i:Int):=by omega
   simp(disch:=omega) only[U8,eZ,hiI,hpos,h1,h2,yV,hg.1,qL hA,hc,hsub,q1,q2,hg2,Int.natCast_add]
 ·rintro i vs H' hi ⟨rfl,rfl⟩ hg
  obtain⟨p,h1,h2⟩:=h.at hi;have hiI:((i:Nat):Int)< ((l.length:Nat):Int):=by omega
  refine⟨.ret (.bool false),H', ?_,rfl,rfl,rfl⟩;simp only[zCB,kN hi]at hg
  cases hm:Nd.mayK l[i]with
  | false=>simp(disch:=omega) only[U8,eZ,hiI,h1,h2,yV,hm]
  | true=>
   simp only[hm,Bool.true_and,Bool.or_eq_false_iff,decide_eq_false_iff_not]at hg;have hlt:i - 1<l.length:=by omega
   obtain⟨q,q1,q2⟩:=h.at hlt;have hg2:=hg.2;rw[kN hlt]at hg2;have hsub:((i:Nat):Int) - ((1:Nat):Int)=((i - 1:Nat):Int):=by omega
   have hpos:((0:Nat):Int)< (i:Int):=by omega
   simp(disch:=omega) only[U8,eZ,hiI,hpos,h1,h2,yV,hm,qL hA,hc,hsub,q1,q2,hg2]
 ·rintro vs H' ⟨rfl,rfl⟩
  refine⟨.exit 0 [.ptr A 0],H', ?_,rfl,rfl,rfl⟩;simp only[U8,eZ,qA]
theorem zKz (D:Dyn)(n:Nat){H:AH}{vs:AV}{l:List Str}(h:Strs H vs l)(hl:l.length<=1000000000)(n':Nat)(hn:l.length<n'):
  ∃e H',qW n' (zFq D n) [vs, .int .i64 (l.length:Nat), .int .i64 (0:Nat)] H=some (e,H')/\if(List.range l.length).all (fun i=>decide ((l.getD i []).length<=200))then(e= .exit 2 []/\H'=H)else(e= .ret (.bool false)/\H'=H):=by
 refine WE l.length _ (fun i us H'=>H'=H/\us=[vs, .int .i64 (l.length:Nat), .int .i64 (i:Nat)]) (fun e H'=>e= .exit 2 []/\H'=H) (fun e H'=>e= .ret (.bool false)/\H'=H) ?_ ?_ ?_ n' _ H ⟨rfl,rfl⟩ hn
 ·rintro i us H' hi ⟨rfl,rfl⟩ hg
  obtain⟨p,h1,h2⟩:=h.at hi;simp only[kN hi,zF]at hg;refine⟨_,H', ?_,rfl,rfl⟩;have hiI:((i:Nat):Int)< ((l.length:Nat):Int):=by omega
  have hg': ¬((200:Nat):Int)< ((l[i].length:Nat):Int):=by omega
  simp(disch:=omega) only[zFq,eZ,hiI,h1,h2,hg',Int.natCast_add]
 ·rintro i us H' hi ⟨rfl,rfl⟩ hg
  obtain⟨p,h1,h2⟩:=h.at hi;simp only[kN hi,decide_eq_false_iff_not]at hg;refine⟨.ret (.bool false),H', ?_,rfl,rfl,rfl⟩;have hiI:((i:Nat):Int)< ((l.length:Nat):Int):=by omega
  have hg':((200:Nat):Int)< ((l[i].length:Nat):Int):=by omega
  simp(disch:=omega) only[zFq,eZ,hiI,h1,h2,hg',Int.natCast_add]
 ·rintro us H' ⟨rfl,rfl⟩
  refine⟨.exit 2 [],H', ?_,rfl,rfl,rfl⟩;simp only[zFq,eZ,qA]
def pz:Ptr:=⟨0,0,0⟩
theorem zNa (x:Ptr):(((decide (x.at_< ((1:Nat):Int))||decide (((8192:Nat):Int)<=x.at_))||decide (x.birth< ((0:Nat):Int)))||decide (((2147483647:Nat):Int)<x.birth))= !(Nd.kidOk x):=by
 rw[Bool.eq_iff_iff];simp only[Nd.kidOk,Bool.or_eq_true,zF,Bool.not_eq_true',Bool.and_eq_false_iff,decide_eq_false_iff_not];omega
theorem zGD {H':AH}(hk:H'.ok)(x:Ptr): ∃H2,stN 3 (.ptr H'.next 0) (.agg (y6 x)) (H'.push (.cells [.int .i64 (0:Nat), .int .i64 (0:Nat), .int .u64 (0:Nat)] 59 1 false))=some (qM,H2)/\Prs H' H2/\H2.next=H'.next+1/\H2.h.get H'.next=some (.cells (y6 x) 59 1 false):=by
 refine⟨_,V5 (AH.push_get_eq _ _) (by decide) rfl rfl (by decide), ?_,rfl,by rw[AH.put_get,if_pos rfl];rfl⟩;exact((Stp.refl hk).push _).fresh ((Stp.refl (hk.push _)).put (by rw[AH.push_next];omega) _ (.inr rfl)) (fun A hA=>by omega)
theorem zKy (D:Dyn)(n:Nat){H:AH}(hk:H.ok){vs:AV}{l:List Ptr}(h:uP H vs l)(hl:l.length<=1000000000)(n':Nat)(hn:l.length<n'):
  ∃e H',qW n' (zFp D n) [vs, .int .i64 (l.length:Nat), .int .i64 (0:Nat)] H=some (e,H')/\if(List.range l.length).all (fun i=>Nd.kidOk (l.getD i pz))then(e= .exit 4 []/\Prs H H')else(e= .ret (.bool false)/\Prs H H'):=by
 refine WE l.length _ (fun i us H'=>Prs H H'/\us=[vs, .int .i64 (l.length:Nat), .int .i64 (i:Nat)]) (fun e H'=>e= .exit 4 []/\Prs H H') (fun e H'=>e= .ret (.bool false)/\Prs H H') ?_ ?_ ?_ n' _ H ⟨Stp.refl hk,rfl⟩ hn
 ·rintro i us H' hi ⟨hP,rfl⟩ hg
  obtain⟨p,h1,h2⟩:=(h.prs hP).at hi;simp only[kN hi]at hg;generalize l[i]=x at hg h2;obtain⟨H2,hH2,hP2,n2,g2⟩:=zGD hP.ok x;have hiI:((i:Nat):Int)< ((l.length:Nat):Int):=by omega
  have hb:=zNa x;rw[hg]at hb;simp only[y6]at g2 hH2 h2;refine⟨_,H2, ?_,hP.trans hP2,rfl⟩;simp(disch:=omega) only[zFp,eZ,hiI,h1,h2,vW hP.ok,hH2,qL g2,hb,Int.natCast_add]
 ·rintro i us H' hi ⟨hP,rfl⟩ hg
  obtain⟨p,h1,h2⟩:=(h.prs hP).at hi;simp only[kN hi]at hg;generalize l[i]=x at hg h2;obtain⟨H2,hH2,hP2,n2,g2⟩:=zGD hP.ok x;have hiI:((i:Nat):Int)< ((l.length:Nat):Int):=by omega
  have hb:=zNa x;rw[hg]at hb;simp only[y6]at g2 hH2 h2;refine⟨.ret (.bool false),H2, ?_,rfl,rfl,hP.trans hP2⟩;simp(disch:=omega) only[zFp,eZ,hiI,h1,h2,vW hP.ok,hH2,qL g2,hb]
 ·rintro us H' ⟨hP,rfl⟩
  refine⟨.exit 4 [],H', ?_,rfl,rfl,hP⟩;simp only[zFp,eZ,qA]
theorem uW (D:Dyn)(n:Nat){H:AH}(hk:H.ok){v:AV}{nd:Nd.Node}(h:fS H v nd)(hs:small nd)(hn:200000000<=n):
  ∃H',f71 D n [v] H=some (.bool (Nd.shaped ltS nd),H')/\Prs H H':=by
 obtain⟨ks,vs,ps,rfl,h1,h2,h3⟩:=h;obtain⟨s1,s2,s3⟩:=hs;have hP:Prs H (H.push (.cells [.bool nd.leaf,ks,vs,ps] 93 1 false)):=(Stp.refl hk).push _;have hg:(H.push (.cells [.bool nd.leaf,ks,vs,ps] 93 1 false)).h.get H.next=some (.cells [.bool nd.leaf,ks,vs,ps] 93 1 false):=AH.push_get_eq _ _
 have hkl:=Nd.sumL_ge nd.keys;have hvl:=Nd.sumL_ge nd.vals;have hf:f71 D n [.agg [.bool nd.leaf,ks,vs,ps]] H=yR (jb 0 (qW n (U8 D n) [.ptr H.next 0,ks, .int .i64 (nd.keys.length:Nat), .int .i64 (0:Nat)] (H.push (.cells [.bool nd.leaf,ks,vs,ps] 93 1 false))) (U9 D n)):=by
  simp only[f71,eZ,vW hk,h1.lnSl]
 rw[hf];generalize H.push (.cells [.bool nd.leaf,ks,vs,ps] 93 1 false)=H1 at hP hg;obtain⟨e0,H2,e1,e2⟩:=zKA D n (h1.prs hP) hg (by rfl) (by omega) n (by omega);rw[e1];rw[zF7]at e2;split at e2
 ·rename_i hgood;obtain⟨rfl,rfl⟩:=e2;simp only[Nd.shaped,hgood,Bool.true_and];obtain⟨leaf,keys,vals,kids⟩:=nd;simp only at h1 h2 h3 hg hkl hvl s1 s2 s3 hgood⊢
  cases leaf with
  | true=>
   by_cases hc:vals.length=keys.length/\kids.length=0
   ·obtain⟨hc1,hc2⟩:=hc;obtain⟨e3,H3,e4,e5⟩:=zKz D n (h2.prs hP) (by omega) n (by omega);have hz: ¬(((vals.length:Nat):Int)≠((keys.length:Nat):Int)):=by omega
    have hz2: ¬(((kids.length:Nat):Int)≠((0:Nat):Int)):=by omega
    have hkn:kids=[]:=zG hc2;rw[BJ vals ([]:Str) (fun v=>decide (v.length<=200))]at e5;split at e5
    ·rename_i hv;obtain⟨rfl,rfl⟩:=e5;refine⟨H3, ?_,hP⟩;have hr:(decide (vals.length=keys.length)&&decide (kids=[])&&vals.all fun v=>decide (v.length<=200))=true:=by simp only[hc1,hkn,hv,decide_true,Bool.and_self]
     simp only[U9,eZ,qL hg,h1.lnSl,h2.lnSl,h3.lnSl,hz,hz2,e4,zLr,hr]
    ·rename_i hv;obtain⟨rfl,rfl⟩:=e5;refine⟨H3, ?_,hP⟩;have hr:(decide (vals.length=keys.length)&&decide (kids=[])&&vals.all fun v=>decide (v.length<=200))=false:=by simp only[Bool.eq_false_iff.2 hv,Bool.and_false]
     simp only[U9,eZ,qL hg,h1.lnSl,h2.lnSl,h3.lnSl,hz,hz2,e4,zLr,hr]
   ·refine⟨H2, ?_,hP⟩;have hr:(decide (vals.length=keys.length)&&decide (kids=[]))=false:=by
     rw[Bool.and_eq_false_iff,decide_eq_false_iff_not,decide_eq_false_iff_not];by_cases ha:vals.length=keys.length
     ·right;intro hb;exact hc ⟨ha,by rw[hb];rfl⟩
     ·exact .inl ha
    simp only[U9,eZ,qL hg,h1.lnSl,h2.lnSl,h3.lnSl,hr];rw[if_pos (by simp only[Bool.or_eq_true,zF];omega)];simp only[eZ]
  | false=>
   by_cases hc:keys.length≠0/\vals.length=0/\kids.length=keys.length+1
   ·obtain⟨hc1,hc2,hc3⟩:=hc;obtain⟨e3,H3,e4,e5⟩:=zKy D n hP.ok (h3.prs hP) (by omega) n (by omega);have hz: ¬(((keys.length:Nat):Int)=((0:Nat):Int)):=by omega
    have hz2: ¬(((vals.length:Nat):Int)≠((0:Nat):Int)):=by omega
    have hz3: ¬(((kids.length:Nat):Int)≠((keys.length:Nat):Int)+((1:Nat):Int)):=by omega
    have hvn:vals=[]:=zG hc2;have hkn:keys≠[]:=fun e=>hc1 (by rw[e];rfl)
    rw[BJ kids pz Nd.kidOk]at e5;split at e5
    ·rename_i hv;obtain⟨rfl,hP3⟩:=e5;refine⟨H3, ?_,hP.trans hP3⟩;have hr:(decide (keys≠[])&&decide (vals=[])&&decide (kids.length=keys.length+1)&&kids.all Nd.kidOk)=true:=by simp only[hc3,hvn,hv,decide_eq_true hkn,decide_true,Bool.and_self]
     simp(disch:=omega) only[U9,eZ,qL hg,h1.lnSl,h2.lnSl,h3.lnSl,hz,hz2,hz3,e4,zLq,hr]
    ·rename_i hv;obtain⟨rfl,hP3⟩:=e5;refine⟨H3, ?_,hP.trans hP3⟩;have hr:(decide (keys≠[])&&decide (vals=[])&&decide (kids.length=keys.length+1)&&kids.all Nd.kidOk)=false:=by simp only[Bool.eq_false_iff.2 hv,Bool.and_false]
     simp(disch:=omega) only[U9,eZ,qL hg,h1.lnSl,h2.lnSl,h3.lnSl,hz,hz2,hz3,e4,zLq,hr]
   ·refine⟨H2, ?_,hP⟩;have hr:(decide (keys≠[])&&decide (vals=[])&&decide (kids.length=keys.length+1))=false:=by
     rw[Bool.eq_false_iff];intro hh;simp only[z8,zF]at hh;exact hc ⟨fun e=>hh.1.1 (zG e),by rw[hh.1.2];rfl,hh.2⟩
    simp(disch:=omega) only[U9,eZ,qL hg,h1.lnSl,h2.lnSl,h3.lnSl,hr];rw[if_pos (by simp only[Bool.or_eq_true,zF];omega)];simp only[eZ]
 ·rename_i hbad;obtain⟨rfl,rfl⟩:=e2;refine⟨H2, ?_,hP⟩;simp only[Nd.shaped,Bool.eq_false_iff.2 hbad,eZ]
open Go.Nd (encT)
theorem cR (a b c d:AV):vY [a,b,c,d] 0 4=some [a,b,c,d]:=rfl
theorem yF {H:AH}(hk:H.ok){A:Nat}{l l':List AV}{e:TypeId}(h:H.h.get A=some (.cells l e 1 false))(hl:l'.length=l.length)(hc:qN l'=true):
  ∃H',stN l.length (.ptr A 0) (.agg l') H=some (qM,H')/\H'.h.get A=some (.cells l' e 1 false)/\Stp (fun B=>B=A) H H'/\H'.next=H.next:=by
 refine⟨_,V5 h (by decide) hl hc (by omega), ?_,(Stp.refl hk).put (hk.lt h) _ (.inr rfl),rfl⟩;rw[AH.put_get,if_pos rfl];simp[qT]
def XN (H0 H:AH)(v:AV)(nd:Nd.Node):Prop:= ∃ks vs ps,v= .agg [.bool nd.leaf,ks,vs,ps]/\Own 1 9 H ks nd.keys.length (nd.keys.map S)/\Own 1 9 H vs nd.vals.length (nd.vals.map S)/\Own 3 59 H ps nd.kids.length (nd.kids.flatMap y6)/\(∀B,Blk ks B\/Blk vs B\/Blk ps B->H0.next<=B)/\(∀B,Blk ks B-> ¬Blk vs B/\ ¬Blk ps B)/\ ∀B,Blk vs B-> ¬Blk ps B
theorem cJ (x:Bool)(a b c:AV)(ha:isCell a=true)(hb:isCell b=true)(hc:isCell c=true):qN [.bool x,a,b,c]=true:=by
 simp only[qN,ha,hb,hc];rfl
theorem j7.zero (k e:Nat){H:AH}{A:Nat}{e':TypeId}{g:Bool}(h:H.h.get A=some (.cells [] e' k g))(hk:H.ok):j7 k e H (.slice A 0 0 0) 0 []:= .inr ⟨by simp,A,e',g,rfl,hk.lt h,h,rfl⟩
theorem BC (b:Bool):aveq (.bool b) (.bool b)=true:=by cases b<;>rfl
theorem kW (l:List Str):qN (l.map S)=true:=by
 rw[j5];intro x hx;obtain⟨s,_,rfl⟩:=List.mem_map.1 hx;rfl
theorem xI (l:List Ptr):qN (l.flatMap y6)=true:=by
 rw[j5];intro x hx;obtain⟨p,_,hp⟩:=List.mem_flatMap.1 hx;simp only[y6,List.mem_cons,List.not_mem_nil,or_false]at hp;rcases hp with rfl | rfl | rfl<;>rfl
theorem Rw.blk {k n:Nat}{H:AH}{v:AV}{l:List AV}(h:Rw k H v n l){B:Nat}(hB:Blk v B):B<H.next:=by
 obtain⟨_,⟨rfl,_⟩ | ⟨rfl,_⟩ | ⟨A,off,cc,c,e,sz,g,rfl,_,hlt,_⟩⟩:=h
 ·exact(Blk.nil.1 hB).elim
 ·obtain⟨_,_,_,h⟩:=hB;cases h
 ·rw[Blk.slice.1 hB];exact hlt
def y9 (H:AH)(v:AV)(nd:Nd.Node):Prop:= ∃ks vs ps,v= .agg [.bool nd.leaf,ks,vs,ps]/\j7 1 9 H ks nd.keys.length (nd.keys.map S)/\j7 1 9 H vs nd.vals.length (nd.vals.map S)/\j7 3 59 H ps nd.kids.length (nd.kids.flatMap y6)
theorem y9.node {H:AH}{v:AV}{nd:Nd.Node}(h:y9 H v nd):fS H v nd:=by
 obtain⟨ks,vs,ps,e,h1,h2,h3⟩:=h;exact⟨ks,vs,ps,e,h1.row,h2.row,h3.row⟩
theorem y9.prs {H H':AH}{v:AV}{nd:Nd.Node}(h:y9 H v nd)(s:Prs H H'):y9 H' v nd:=by
 obtain⟨ks,vs,ps,e,h1,h2,h3⟩:=h;exact⟨ks,vs,ps,e,h1.mono s (fun _ _ x=>x),h2.mono s (fun _ _ x=>x),h3.mono s (fun _ _ x=>x)⟩
theorem zOo (x:Nat):Nat.ble 0 x=true:=by rw[zR];omega
theorem KN {k e n:Nat}{H:AH}{v:AV}{l:List AV}(h:j7 k e H v n l)(hpos:0<k){i:Nat}(hi:i<=n)(κ κ':IntKind):
  ∃r,j8 k v none (some (.int κ (i:Nat))) (some (.int κ' (i:Nat))) H=some r/\Rw k H r i (l.take (i*k))/\(0<i->r≠ .nilSlice/\r≠ .emptySl):=by
 have n1:=yK κ (z:=((i:Nat):Int)) (by omega);have n2:=yK κ' (z:=((i:Nat):Int)) (by omega);simp only[zS]at n1 n2;have hb:Nat.blt 0 k=true:=by rw[zM];exact hpos
 have hz:Nat.beq i 0=decide (i=0):=by rw[Bool.eq_iff_iff];simp
 have hmul:i*k<=n*k:=q6 _ hi;have b1:Nat.ble i n=true:=by rw[zR];exact hi
 have b2:Nat.ble i i=true:=by rw[zR];exact Nat.le_refl _
 have b3:Nat.ble 0 i=true:=by rw[zR];omega
 rcases h with⟨h0,⟨rfl,rfl⟩ | ⟨A,rfl,hA,hg⟩⟩ | ⟨h0,A,e',g,rfl,hA,hg,hn0⟩
 ·obtain rfl:i=0:=by omega
  exact⟨.nilSlice,by simp only[j8,yO,n1,n2];simp,⟨by simp, .inl ⟨rfl,rfl⟩⟩,fun h=>absurd h (by omega)⟩
 ·have hroom:yI l true k 0 1 k=n:=by
   simp only[yI,show((1 % 2).beq 0)=false from rfl,cond_false,Nat.beq_refl,show Nat.beq 0 (1 / 2*k)=true from by simp,Bool.and_self,cond_true,yA,h0,Nat.sub_zero];exact Nat.mul_div_cancel _ hpos
  by_cases hi0:i=0
  ·subst hi0;refine⟨.slice A 0 0 0, ?_,⟨by simp, .inr (.inr ⟨A,0,0,l,e,k,true,rfl,hg,hA,by simp,by simp⟩)⟩,fun h=>absurd h (by omega)⟩;simp only[j8,yO,n1,n2,hg,hb,cond_true];simp[aO,hroom,yE,zOo]
  ·have hz0:Nat.beq i 0=false:=by rw[hz];simpa using hi0
   refine⟨.slice A 0 i (2*i), ?_,⟨by rw[zH,h0,Nat.min_eq_left hmul], .inr (.inr ⟨A,0,2*i,l,e,k,true,rfl,hg,hA,by omega,by simp⟩)⟩,fun _=>⟨by simp,by simp⟩⟩;simp only[j8,yO,n1,n2,hg,hb,cond_true];simp[aO,hroom,b1,b2,hz0,yE,zOo]
 ·have hroom:yI l g k 0 (2*n) k=n:=by
   simp only[yI,show((2*n) % 2).beq 0=true by rw[Nat.mul_mod_right];rfl,cond_true,Nat.mul_div_cancel_left n (show 0<2 by omega)]
  by_cases hi0:i=0
  ·subst hi0;refine⟨.slice A 0 0 0, ?_,⟨by simp, .inr (.inr ⟨A,0,0,l,e',k,g,rfl,hg,hA,by simp,by simp⟩)⟩,fun h=>absurd h (by omega)⟩;simp only[j8,yO,n1,n2,hg,hb,cond_true];simp[aO,hroom,yE,zOo]
  ·have hz0:Nat.beq i 0=false:=by rw[hz];simpa using hi0
   refine⟨.slice A 0 i (2*i), ?_,⟨by rw[zH,h0,Nat.min_eq_left hmul], .inr (.inr ⟨A,0,2*i,l,e',k,g,rfl,hg,hA,by omega,by simp⟩)⟩,fun _=>⟨by simp,by simp⟩⟩;simp only[j8,yO,n1,n2,hg,hb,cond_true];simp[aO,hroom,b1,b2,hz0,yE,zOo]
theorem slSl_lo {k e n:Nat}{H:AH}{v:AV}{l:List AV}(h:j7 k e H v n l)(hpos:0<k){i:Nat}(hi:i<n)(κ:IntKind):
  ∃r,j8 k v (some (.int κ (i:Nat))) none none H=some r/\Rw k H r (n - i) (l.drop (i*k))/\r≠ .nilSlice/\r≠ .emptySl:=by
 have n1:=yK κ (z:=((i:Nat):Int)) (by omega);simp only[zS]at n1;have hb:Nat.blt 0 k=true:=by rw[zM];exact hpos
 have hmul:i*k<=n*k:=q6 _ (by omega);have hsub:(n - i)*k=n*k - i*k:=Nat.sub_mul _ _ _;have b1:Nat.ble n n=true:=by rw[zR];exact Nat.le_refl _
 have b2:Nat.ble i n=true:=by rw[zR];omega
 have b3:Nat.blt i n=true:=by rw[zM];exact hi
 have b4:Nat.beq n i=false:=by rw[Bool.eq_false_iff];intro h;have:=Nat.eq_of_beq_eq_true h;omega
 rcases h with⟨h0,⟨rfl,rfl⟩ | ⟨A,rfl,hA,hg⟩⟩ | ⟨h0,A,e',g,rfl,hA,hg,hn0⟩
 ·omega
 ·have hroom:yI l true k 0 1 k=n:=by
   simp only[yI,show((1 % 2).beq 0)=false from rfl,cond_false,Nat.beq_refl,show Nat.beq 0 (1 / 2*k)=true from by simp,Bool.and_self,cond_true,yA,h0,Nat.sub_zero];exact Nat.mul_div_cancel _ hpos
  by_cases hi0:i=0
  ·subst hi0;refine⟨.slice A 0 n 1, ?_,⟨by simp[h0], .inr (.inr ⟨A,0,1,l,e,k,true,by simp,hg,hA,by simp[h0],by rw[Nat.sub_zero,Nat.zero_mul,List.drop_zero,zK (by omega)]⟩)⟩,by simp,by simp⟩;simp only[j8,yO,n1,hg,hb,cond_true];simp[aO,hroom,b1,yE,zOo,show Nat.beq 1 0=false from rfl]
  ·have hz0:Nat.beq i 0=false:=by rw[Bool.eq_false_iff];intro h;exact hi0 (Nat.eq_of_beq_eq_true h)
   refine⟨.slice A (0+i*k) (n - i) (1+2*i), ?_,⟨by simp[h0,hsub], .inr (.inr ⟨A,0+i*k,1+2*i,l,e,k,true,rfl,hg,hA,by omega,by rw[Nat.zero_add,zK (by simp[h0,hsub])]⟩)⟩,by simp,by simp⟩;simp only[j8,yO,n1,hg,hb,cond_true];simp[aO,hroom,b1,b2,b3,hz0,yE,show Nat.beq 1 0=false from rfl]
 ·have hroom:yI l g k 0 (2*n) k=n:=by
   simp only[yI,show((2*n) % 2).beq 0=true by rw[Nat.mul_mod_right];rfl,cond_true,Nat.mul_div_cancel_left n (show 0<2 by omega)]
  have b4':Nat.beq (2*n / 2) i=false:=by rw[Nat.mul_div_cancel_left n (show 0<2 by omega)];exact b4
  refine⟨.slice A (0+i*k) (n - i) (2*(2*n / 2 - i)), ?_,⟨by simp[h0,hsub], .inr (.inr ⟨A,0+i*k,2*(2*n / 2 - i),l,e',k,g,rfl,hg,hA,by omega,by rw[Nat.zero_add,zK (by simp[h0,hsub])]⟩)⟩,by simp,by simp⟩;simp only[j8,yO,n1,hg,hb,cond_true];simp[aO,hroom,b1,b2,b4',yE,b4]
theorem cD (D:Dyn)(n:Nat){H:AH}(hk:H.ok){v:AV}{l:List Str}(h:Strs H v l)(hn:v≠ .nilSlice)(he:v≠ .emptySl)(hl:l.length<=1000000000):
  ∃v' H',f73 D n [v] H=some (v',H')/\Prs H H'/\j7 1 9 H' v' l.length (l.map S)/\ ∀B,Blk v' B->H.next<=B:=by
 have p1:Prs H (H.push (.cells [] 9 1 false)):=(Stp.refl hk).push _;have g1:(H.push (.cells [] 9 1 false)).h.get H.next=some (.cells [] 9 1 false):=AH.push_get_eq _ _
 have n1:(H.push (.cells [] 9 1 false)).next=H.next+1:=rfl
 generalize hH1:H.push (.cells [] 9 1 false)=H1 at p1 g1 n1;obtain⟨v',H2,e2,w2,s2,f2⟩:=(j7.zero 1 9 g1 p1.ok).app (bytes:=16) p1.ok (by decide) (Rw.srcOf (h.prs p1)) (by simp) (kW _) (by omega) (by decide);have hz1:wQ 9 1 0 [.str 0 0] []=some (.cells [] 9 1 false,fun A=> .slice A 0 0 0):=rfl;have heq:vJ .eql (eqS v .nilSlice)=some (.bool false):=by
  obtain⟨_,⟨rfl,_⟩ | ⟨rfl,_⟩ | ⟨A,off,cc,c,e,sz,g,rfl,_⟩⟩:=h
  ·exact absurd rfl hn
  ·exact absurd rfl he
  ·rfl
 refine⟨v',H2, ?_,p1.fresh s2 (fun B hB=>by rw[Blk.slice.1 hB];exact Nat.le_refl _),by simpa using w2,fun B hB=> ?_⟩
 ·simp only[f73,eZ,heq,hz1,vW hk,hH1,e2]
 ·rcases f2 B hB with h | h
  ·rw[Blk.slice.1 h];exact Nat.le_refl _
  ·omega
theorem Y8 (D:Dyn)(n:Nat){H:AH}(hk:H.ok){v:AV}{l:List Ptr}(h:uP H v l)(hn:v≠ .nilSlice)(he:v≠ .emptySl)(hl:l.length<=1000000000):
  ∃v' H',f81 D n [v] H=some (v',H')/\Prs H H'/\j7 3 59 H' v' l.length (l.flatMap y6)/\ ∀B,Blk v' B->H.next<=B:=by
 have p1:Prs H (H.push (.cells [] 59 3 false)):=(Stp.refl hk).push _;have g1:(H.push (.cells [] 59 3 false)).h.get H.next=some (.cells [] 59 3 false):=AH.push_get_eq _ _
 have n1:(H.push (.cells [] 59 3 false)).next=H.next+1:=rfl
 generalize hH1:H.push (.cells [] 59 3 false)=H1 at p1 g1 n1;obtain⟨v',H2,e2,w2,s2,f2⟩:=(j7.zero 3 59 g1 p1.ok).app (bytes:=24) p1.ok (by decide) (Rw.srcOf (h.prs p1)) h.1 (xI _) (by omega) (by decide);have hz1: ∀a b c:AV,wQ 59 3 0 [a,b,c] []=some (.cells [] 59 3 false,fun A=> .slice A 0 0 0):=fun _ _ _=>rfl
 have heq:vJ .eql (eqS v .nilSlice)=some (.bool false):=by
  obtain⟨_,⟨rfl,_⟩ | ⟨rfl,_⟩ | ⟨A,off,cc,c,e,sz,g,rfl,_⟩⟩:=h
  ·exact absurd rfl hn
  ·exact absurd rfl he
  ·rfl
 refine⟨v',H2, ?_,p1.fresh s2 (fun B hB=>by rw[Blk.slice.1 hB];exact Nat.le_refl _),by simpa using w2,fun B hB=> ?_⟩
 ·simp only[f81,eZ,heq,hz1,vW hk,hH1,e2]
 ·rcases f2 B hB with h | h
  ·rw[Blk.slice.1 h];exact Nat.le_refl _
  ·omega
end Go.Eng.Sh
end
end
section
namespace Go.Eng.Sh
open Go.Nd (Ptr yH cutOk)
def vD (nd:Nd.Node):Prop:=2<=nd.keys.length/\(nd.leaf=true\/3<=nd.keys.length)
def hbnd (nd:Nd.Node)(k:Nat):Prop:=
 (k=1\/Nd.size (Nd.cutA nd k)<=(Nd.size nd - 2) / 2+2)/\(k+(if nd.leaf then 1 else 2)=nd.keys.length\/(Nd.size nd - 2) / 2+2<Nd.size (Nd.cutA nd (k+1)))
theorem Q0 (l:List Str){i:Nat}(h:i<l.length):yH (l.take (i+1))=yH (l.take i)+(1+(l[i]).length):=by
 rw[zQ h,Nd.sumL_append,Nd.sumL_cons];rfl
theorem size_leaf {nd:Nd.Node}(hl:nd.leaf=true)(hv:nd.vals.length=nd.keys.length){i:Nat}(h:i<nd.keys.length):Nd.size (Nd.cutA nd (i+1))=Nd.size (Nd.cutA nd i)+(1+(nd.keys[i]).length)+(1+(nd.vals[i]'(by omega)).length):=by
 simp only[Nd.cutA,hl,if_true,Nd.size,Q0 nd.keys h,Q0 nd.vals (i:=i) (by omega)];omega
theorem size_inner {nd:Nd.Node}(hl:nd.leaf=false)(hv:nd.kids.length=nd.keys.length+1){i:Nat}(h:i<nd.keys.length):Nd.size (Nd.cutA nd (i+1))=Nd.size (Nd.cutA nd i)+(1+(nd.keys[i]).length)+16:=by
 simp only[Nd.cutA,hl,Bool.false_eq_true,if_false,Nd.size,Q0 nd.keys h,zH];omega
theorem KO (nd:Nd.Node):2<=Nd.size nd:=by simp only[Nd.size];omega
theorem zBr (D:Dyn)(n:Nat){H:AH}{ks vs ps:AV}{nd:Nd.Node}(h1:Strs H ks nd.keys)(h2:Strs H vs nd.vals)(hv:nd.leaf=true->nd.vals.length=nd.keys.length)(hp:nd.leaf=false->nd.kids.length=nd.keys.length+1){A:Nat}{e:TypeId}(hA:H.h.get A=some (.cells [.bool nd.leaf,ks,vs,ps] e 1 false))
  (most:Nat) (L:Nat) (hL:L<=nd.keys.length) (hb:nd.keys.length<=1000000000) (hz:Nd.size nd<=1000000000) (n':Nat) (hn:L<n'):
  Fin (qW n' (Y4 D n) [.ptr A 0, .int .i64 (most:Nat), .int .i64 (L:Nat), .int .i64 ((Nd.size (Nd.cutA nd 0) - 2:Nat):Int), .int .i64 (L:Nat), .int .i64 (0:Nat)] H) fun x H'=>H'=H/\((∃j:Nat,0<j/\j<L/\x= .ret (.int .i64 (j:Nat))/\(j=1\/Nd.size (Nd.cutA nd j)<=most+2)/\most+2<Nd.size (Nd.cutA nd (j+1)))\/(x= .exit 0 [.int .i64 (L:Nat)]/\(L<=1\/Nd.size (Nd.cutA nd L)<=most+2))):=by
 refine Fin.loop (fun k us H'=>H'=H/\ ∃(i:Nat),us=[.ptr A 0, .int .i64 (most:Nat), .int .i64 (L:Nat), .int .i64 ((Nd.size (Nd.cutA nd i) - 2:Nat):Int), .int .i64 (L:Nat), .int .i64 (i:Nat)]/\i<=L/\k=L - i/\(i<=1\/Nd.size (Nd.cutA nd i)<=most+2)) ?_ n' L _ H ⟨rfl,0,rfl,by omega,by omega, .inl (by omega)⟩ hn
 rintro k us H' ⟨rfl,i,rfl,hi,rfl,hpre⟩
 by_cases hlt:i<L
 ·have hik:i<nd.keys.length:=by omega
  obtain⟨p,p1,p2⟩:=h1.at hik;have hiI:((i:Nat):Int)< ((L:Nat):Int):=by omega
  have z2:=KO (Nd.cutA nd i);have z2':=KO (Nd.cutA nd (i+1));have tail:Fin (aY D n [.ptr A 0, .int .i64 (most:Nat), .int .i64 (L:Nat), .int .i64 ((Nd.size (Nd.cutA nd (i+1)) - 2:Nat):Int), .int .i64 (i:Nat), .int .i64 (L:Nat), .int .i64 (i:Nat)] H')
    (orN (fun us' H''=> ∃k',k'<L - i/\H''=H'/\ ∃(i:Nat),us'=[.ptr A 0, .int .i64 (most:Nat), .int .i64 (L:Nat), .int .i64 ((Nd.size (Nd.cutA nd i) - 2:Nat):Int), .int .i64 (L:Nat), .int .i64 (i:Nat)]/\i<=L/\k'=L - i/\(i<=1\/Nd.size (Nd.cutA nd i)<=most+2))
     (fun x H''=>H''=H'/\((∃j:Nat,0<j/\j<L/\x= .ret (.int .i64 (j:Nat))/\(j=1\/Nd.size (Nd.cutA nd j)<=most+2)/\most+2<Nd.size (Nd.cutA nd (j+1)))\/(x= .exit 0 [.int .i64 (L:Nat)]/\(L<=1\/Nd.size (Nd.cutA nd L)<=most+2))))):=by
   by_cases hc:0<i/\most<Nd.size (Nd.cutA nd (i+1)) - 2
   ·have c1:((0:Nat):Int)< (i:Int):=by omega
    have c2:((most:Nat):Int)< ((Nd.size (Nd.cutA nd (i+1)) - 2:Nat):Int):=by omega
    have:aY D n [.ptr A 0, .int .i64 (most:Nat), .int .i64 (L:Nat), .int .i64 ((Nd.size (Nd.cutA nd (i+1)) - 2:Nat):Int), .int .i64 (i:Nat), .int .i64 (L:Nat), .int .i64 (i:Nat)] H'=some (.ret (.int .i64 (i:Nat)),H'):=by
     simp(disch:=omega) only[aY,eZ,c1,c2]
    rw[this];exact⟨_,_,rfl,rfl, .inl ⟨i,hc.1,hlt,rfl,by omega,by omega⟩⟩
   ·have hcb:(decide (((0:Nat):Int)< (i:Int))&&decide (((most:Nat):Int)< ((Nd.size (Nd.cutA nd (i+1)) - 2:Nat):Int)))=false:=by
     rw[Bool.eq_false_iff];intro hh;simp only[z8,zF]at hh;exact hc ⟨by omega,by omega⟩
    have:aY D n [.ptr A 0, .int .i64 (most:Nat), .int .i64 (L:Nat), .int .i64 ((Nd.size (Nd.cutA nd (i+1)) - 2:Nat):Int), .int .i64 (i:Nat), .int .i64 (L:Nat), .int .i64 (i:Nat)] H'=some (.norm [.ptr A 0, .int .i64 (most:Nat), .int .i64 (L:Nat), .int .i64 ((Nd.size (Nd.cutA nd (i+1)) - 2:Nat):Int), .int .i64 (L:Nat), .int .i64 ((i+1:Nat):Int)],H'):=by
     simp(disch:=omega) only[aY,eZ,hcb,Int.natCast_add]
    rw[this];exact⟨_,_,rfl,L - (i+1),by omega,rfl,i+1,rfl,by omega,rfl,by omega⟩
  have hsz:Nd.size (Nd.cutA nd i)<=1000000002:=by
   have t1:=Nd.sumL_take_le nd.keys i;have t2:=Nd.sumL_take_le nd.vals i;have:Nd.size nd=2+16*nd.kids.length+yH nd.keys+yH nd.vals:=rfl;have z0:yH []=0:=rfl;simp only[Nd.cutA];split<;>simp only[Nd.size,zX,zH,z0]<;>omega
  have hkl:(nd.keys[i]).length<=1000000000:=by
   have:=Nd.sumL_drop_le nd.keys i;rw[zL hik,Nd.sumL_cons]at this;have:Nd.size nd=2+16*nd.kids.length+yH nd.keys+yH nd.vals:=rfl;omega
  cases hl:nd.leaf with
  | true=>
   rw[hl]at hA;obtain⟨q,q1,q2⟩:=h2.at (i:=i) (by rw[hv hl];exact hik);have hs:=size_leaf hl (hv hl) hik;have hvl:(nd.vals[i]'(by rw[hv hl];exact hik)).length<=1000000000:=by
    have:=Nd.sumL_drop_le nd.vals i;rw[zL (by rw[hv hl];exact hik),Nd.sumL_cons]at this;have:Nd.size nd=2+16*nd.kids.length+yH nd.keys+yH nd.vals:=rfl;omega
   have hz:((Nd.size (Nd.cutA nd (i+1)) - 2:Nat):Int)=((Nd.size (Nd.cutA nd i) - 2:Nat):Int)+(((1:Nat):Int)+(((nd.keys[i]).length:Nat):Int))+(((1:Nat):Int)+(((nd.vals[i]'(by rw[hv hl];exact hik)).length:Nat):Int)):=by omega
   have:Y4 D n [.ptr A 0, .int .i64 (most:Nat), .int .i64 (L:Nat), .int .i64 ((Nd.size (Nd.cutA nd i) - 2:Nat):Int), .int .i64 (L:Nat), .int .i64 (i:Nat)] H'=jn (some (.norm [.ptr A 0, .int .i64 (most:Nat), .int .i64 (L:Nat), .int .i64 ((Nd.size (Nd.cutA nd (i+1)) - 2:Nat):Int), .int .i64 (i:Nat), .int .i64 (L:Nat), .int .i64 (i:Nat)],H')) (aY D n):=by
    rw[hz];simp(disch:=omega) only[Y4,eZ,hiI,qL hA,p1,p2,q1,q2]
   rw[this,WM];exact tail
  | false=>
   rw[hl]at hA;have hs:=size_inner hl (hp hl) hik;have hz:((Nd.size (Nd.cutA nd (i+1)) - 2:Nat):Int)=((Nd.size (Nd.cutA nd i) - 2:Nat):Int)+(((1:Nat):Int)+(((nd.keys[i]).length:Nat):Int))+((16:Nat):Int):=by omega
   have:Y4 D n [.ptr A 0, .int .i64 (most:Nat), .int .i64 (L:Nat), .int .i64 ((Nd.size (Nd.cutA nd i) - 2:Nat):Int), .int .i64 (L:Nat), .int .i64 (i:Nat)] H'=jn (some (.norm [.ptr A 0, .int .i64 (most:Nat), .int .i64 (L:Nat), .int .i64 ((Nd.size (Nd.cutA nd (i+1)) - 2:Nat):Int), .int .i64 (i:Nat), .int .i64 (L:Nat), .int .i64 (i:Nat)],H')) (aY D n):=by
    rw[hz];simp(disch:=omega) only[Y4,eZ,hiI,qL hA,p1,p2]
   rw[this,WM];exact tail
 ·have hiI: ¬((i:Nat):Int)< ((L:Nat):Int):=by omega
  have hiL:i=L:=by omega
  subst hiL;refine⟨.exit 0 [.int .i64 (i:Nat)],H', ?_,rfl, .inr ⟨rfl,hpre⟩⟩;simp only[Y4,eZ,hiI]
theorem zF5 (D:Dyn)(n:Nat)(hn:200000000<=n){H:AH}(hk:H.ok){v:AV}{nd:Nd.Node}(h:fS H v nd)(hs:small nd)(hsh:Nd.shaped ltS nd=true)(hc:vD nd):
  ∃(k:Nat) (H':AH),zIF D n [v] H=some (.int .i64 (k:Nat),H')/\Prs H H'/\cutOk nd k/\hbnd nd k:=by
 have h0:=h;obtain⟨ks,vs,ps,rfl,h1,h2,h3⟩:=h;have hkl:=Nd.sumL_ge nd.keys;obtain⟨s1,s2,s3⟩:=id hs;obtain⟨c1,c2⟩:=hc;have hv:nd.leaf=true->nd.vals.length=nd.keys.length:=by
  intro hl;simp only[Nd.shaped,hl,if_true,z8,zF]at hsh;exact hsh.2.1.1
 have hp:nd.leaf=false->nd.kids.length=nd.keys.length+1:=by
  intro hl;simp only[Nd.shaped,hl,Bool.false_eq_true,if_false,z8,zF]at hsh;exact hsh.2.1.2
 have p1:Prs H (H.push (.cells [.bool nd.leaf,ks,vs,ps] 93 1 false)):=(Stp.refl hk).push _;have g1:(H.push (.cells [.bool nd.leaf,ks,vs,ps] 93 1 false)).h.get H.next=some (.cells [.bool nd.leaf,ks,vs,ps] 93 1 false):=AH.push_get_eq _ _
 generalize hH1:H.push (.cells [.bool nd.leaf,ks,vs,ps] 93 1 false)=H1 at p1 g1;obtain⟨z,H2,e2,rfl,p2⟩:=BW D n p1.ok (h0.prs p1) hs hn;have g2:=p2.get p1.ok g1;have P:Prs H H2:=p1.trans p2;have hq:=XD .i64 (((Nd.size nd:Nat):Int) - ((2:Nat):Int)) ((2:Nat):Int) (by omega);have hsz:Nd.size nd<=1000000000:=by simp only[Nd.size];omega
 have hz2:=KO nd;have hmost:IntKind.wrap .i64 ((((Nd.size nd:Nat):Int) - ((2:Nat):Int)).tdiv ((2:Nat):Int))=(((Nd.size nd - 2) / 2:Nat):Int):=by
  rw[show((Nd.size nd:Nat):Int) - ((2:Nat):Int)=((Nd.size nd - 2:Nat):Int)by omega,Int.tdiv_eq_ediv_of_nonneg (by omega)];rw[wrap_i64 (by omega) (by omega)];omega
 rw[hmost]at hq
 cases hl:nd.leaf with
 | true=>
  obtain⟨x,H3,e3,rfl,hx⟩:=zBr D n (h1.prs P) (h2.prs P) hv hp g2 ((Nd.size nd - 2) / 2) (nd.keys.length - 1) (by omega) (by omega) hsz n (by omega);have hL:((nd.keys.length:Nat):Int) - ((1:Nat):Int)=((nd.keys.length - 1:Nat):Int):=by omega
  rw[hl]at g2 hH1 e2;rw[show Nd.size (Nd.cutA nd 0) - 2=0 by simp[Nd.cutA,hl,Nd.size,yH]]at e3;rcases hx with⟨j,j1,j2,rfl,j3,j4⟩ | ⟨rfl,j3⟩
  ·refine⟨j,H3, ?_,P,⟨j1,by rw[hl];simp only[if_true];omega⟩,j3, .inr j4⟩;simp(disch:=omega) only[zIF,eZ,vW hk,hH1,cR,Option.map_some,hl,e2,hq,qL g2,h1.lnSl,hL,UJ,e3]
  ·refine⟨nd.keys.length - 1,H3, ?_,P,⟨by omega,by rw[hl];simp only[if_true];omega⟩,by omega, .inl (by rw[hl];simp only[if_true];omega)⟩;simp(disch:=omega) only[zIF,eZ,vW hk,hH1,cR,Option.map_some,hl,e2,hq,qL g2,h1.lnSl,hL,UJ,e3,zFU]
 | false=>
  have c3:3<=nd.keys.length:=by rcases c2 with h | h;rw[hl]at h;cases h;exact h
  obtain⟨x,H3,e3,rfl,hx⟩:=zBr D n (h1.prs P) (h2.prs P) hv hp g2 ((Nd.size nd - 2) / 2) (nd.keys.length - 2) (by omega) (by omega) hsz n (by omega);have hL:((nd.keys.length:Nat):Int) - ((1:Nat):Int) - ((1:Nat):Int)=((nd.keys.length - 2:Nat):Int):=by omega
  rw[hl]at g2 hH1 e2;rw[show Nd.size (Nd.cutA nd 0) - 2=16 by have hpl:=hp hl;simp only[Nd.cutA,hl,Bool.false_eq_true,if_false,Nd.size,List.take_zero,zH,Nat.zero_add,show yH []=0 from rfl];omega]at e3;rcases hx with⟨j,j1,j2,rfl,j3,j4⟩ | ⟨rfl,j3⟩
  ·refine⟨j,H3, ?_,P,⟨j1,by rw[hl];simp only[Bool.false_eq_true,if_false];omega⟩,j3, .inr j4⟩;simp(disch:=omega) only[zIF,eZ,vW hk,hH1,cR,Option.map_some,hl,e2,hq,qL g2,h1.lnSl,hL,UJ,e3]
  ·refine⟨nd.keys.length - 2,H3, ?_,P,⟨by omega,by rw[hl];simp only[Bool.false_eq_true,if_false];omega⟩,by omega, .inl (by rw[hl];simp only[Bool.false_eq_true,if_false];omega)⟩;simp(disch:=omega) only[zIF,eZ,vW hk,hH1,cR,Option.map_some,hl,e2,hq,qL g2,h1.lnSl,hL,UJ,e3,zFU]
open Go.Nd (cutA fT)
theorem vO {k e n:Nat}{H H':AH}{v:AV}{l l':List AV}(h:j7 k e H v n l)(h':j7 k e H' v n l')(hpos:0<k)(lo hi mx:Option AV):j8 k v lo hi mx H'=j8 k v lo hi mx H:=by
 have room1: ∀l:List AV,l.length=n*k->yI l true k 0 1 k=n:=fun l h0=>by
  simp only[yI,show((1 % 2).beq 0)=false from rfl,cond_false,Nat.beq_refl,show Nat.beq 0 (1 / 2*k)=true from by simp,Bool.and_self,cond_true,yA,h0,Nat.sub_zero];exact Nat.mul_div_cancel _ hpos
 have room2: ∀(l:List AV) (g:Bool),yI l g k 0 (2*n) k=n:=fun l g=>by
  simp only[yI,show((2*n) % 2).beq 0=true by rw[Nat.mul_mod_right];rfl,cond_true,Nat.mul_div_cancel_left n (show 0<2 by omega)]
 rcases h with⟨h0,⟨rfl,_⟩ | ⟨A,rfl,hA,hg⟩⟩ | ⟨h0,A,e',g,rfl,hA,hg,hn0⟩
 ·rfl
 ·rcases h' with⟨h0',⟨hv,_⟩ | ⟨A',hv,hA',hg'⟩⟩ | ⟨h0',A',e'',g',hv,hA',hg',_⟩
  ·cases hv
  ·simp only[AV.slice.injEq]at hv;obtain⟨rfl,_⟩:=hv;simp only[j8,hg,hg',room1 l h0,room1 l' h0']
  ·simp only[AV.slice.injEq]at hv;omega
 ·rcases h' with⟨h0',⟨hv,_⟩ | ⟨A',hv,hA',hg'⟩⟩ | ⟨h0',A',e'',g',hv,hA',hg',_⟩
  ·cases hv
  ·simp only[AV.slice.injEq]at hv;omega
  ·simp only[AV.slice.injEq]at hv;obtain⟨rfl,_⟩:=hv;simp only[j8,hg,hg',room2]
theorem Q6 {H:AH}(hk:H.ok){A o:Nat}{l:List AV}{e:TypeId}{x:AV}(h:H.h.get A=some (.cells l e 1 false))(hx:isCell x=true)(ho:o<l.length):
  ∃H',stN 1 (.ptr A o) x H=some (qM,H')/\H'.h.get A=some (.cells (l.set o x) e 1 false)/\Stp (fun B=>B=A) H H'/\H'.next=H.next:=
 ⟨_,Q7 h (by decide) hx ho,by rw[AH.put_get,if_pos rfl],(Stp.refl hk).put (hk.lt h) _ (.inr rfl),rfl⟩
theorem map_take (l:List Str)(k:Nat):(l.map S).take (k*1)=(l.take k).map S:=by simp
theorem map_drop (l:List Str)(k:Nat):(l.map S).drop (k*1)=(l.drop k).map S:=by simp
theorem Y0: ∀(l:List Ptr) (k:Nat),(l.flatMap y6).take (k*3)=(l.take k).flatMap y6
 | _,0=>by simp
 | [],k+1=>by simp
 | p::l,k+1=>by
  have ih:=Y0 l k;rw[show(k+1)*3=k*3+3 from by omega];show((y6 p)++l.flatMap y6).take (k*3+3)=y6 p++(l.take k).flatMap y6;rw[<-ih];rfl
theorem Y1: ∀(l:List Ptr) (k:Nat),(l.flatMap y6).drop (k*3)=(l.drop k).flatMap y6
 | _,0=>by simp
 | [],k+1=>by simp
 | p::l,k+1=>by
  have ih:=Y1 l k;rw[show(k+1)*3=k*3+3 from by omega];show((y6 p)++l.flatMap y6).drop (k*3+3)=(l.drop k).flatMap y6;rw[<-ih];rfl
structure CutI (H0:AH)(A1 A2 A4:Nat)(H:AH)(l1 l2 l4:List AV):Prop where
 prs:Prs H0 H
 a1:H.h.get A1=some (.cells l1 93 1 false)
 a2:H.h.get A2=some (.cells l2 93 1 false)
 a4:H.h.get A4=some (.cells l4 93 1 false)
 o1:H0.next<=A1
 o2:A1<A2
 o4:A2<A4
theorem CutI.lt {H0 H:AH}{A1 A2 A4:Nat}{l1 l2 l4:List AV}(h:CutI H0 A1 A2 A4 H l1 l2 l4):A4<H.next:=h.prs.ok.lt h.a4
theorem CutI.step {H0 H H':AH}{A1 A2 A4:Nat}{l1 l2 l4:List AV}(h:CutI H0 A1 A2 A4 H l1 l2 l4)(s:Prs H H'):CutI H0 A1 A2 A4 H' l1 l2 l4:=
 ⟨h.prs.trans s,s.get h.prs.ok h.a1,s.get h.prs.ok h.a2,s.get h.prs.ok h.a4,h.o1,h.o2,h.o4⟩
theorem CutI.st2 {H0 H:AH}{A1 A2 A4:Nat}{l1 l2 l4:List AV}(h:CutI H0 A1 A2 A4 H l1 l2 l4){o:Nat}{x:AV}(hx:isCell x=true)(ho:o<l2.length):
  ∃H',stN 1 (.ptr A2 o) x H=some (qM,H')/\CutI H0 A1 A2 A4 H' l1 (l2.set o x) l4/\Stp (fun B=>B=A2) H H':=by
 obtain⟨H',e,g,s,n⟩:=Q6 h.prs.ok h.a2 hx ho;have:=h.o1;have:=h.o2;have:=h.o4;have l4:=h.lt;exact⟨H',e,⟨h.prs.fresh s (fun B hB=>by omega),by rw[s.keep _ (by omega) (by omega)];exact h.a1,g,by rw[s.keep _ l4 (by omega)];exact h.a4,h.o1,h.o2,h.o4⟩,s⟩
theorem CutI.st4 {H0 H:AH}{A1 A2 A4:Nat}{l1 l2 l4:List AV}(h:CutI H0 A1 A2 A4 H l1 l2 l4){o:Nat}{x:AV}(hx:isCell x=true)(ho:o<l4.length):
  ∃H',stN 1 (.ptr A4 o) x H=some (qM,H')/\CutI H0 A1 A2 A4 H' l1 l2 (l4.set o x)/\Stp (fun B=>B=A4) H H':=by
 obtain⟨H',e,g,s,n⟩:=Q6 h.prs.ok h.a4 hx ho;have:=h.o1;have:=h.o2;have:=h.o4;have l4:=h.lt;exact⟨H',e,⟨h.prs.fresh s (fun B hB=>by omega),by rw[s.keep _ (by omega) (by omega)];exact h.a1,by rw[s.keep _ (by omega) (by omega)];exact h.a2,g,h.o1,h.o2,h.o4⟩,s⟩
theorem CutI.all2 {H0 H:AH}{A1 A2 A4:Nat}{l1 l2 l4 l':List AV}(h:CutI H0 A1 A2 A4 H l1 l2 l4)(hl:l'.length=l2.length)(hc:qN l'=true):
  ∃H',stN l2.length (.ptr A2 0) (.agg l') H=some (qM,H')/\CutI H0 A1 A2 A4 H' l1 l' l4/\Stp (fun B=>B=A2) H H':=by
 obtain⟨H',e,g,s,n⟩:=yF h.prs.ok h.a2 hl hc;have:=h.o1;have:=h.o2;have:=h.o4;have l4:=h.lt;exact⟨H',e,⟨h.prs.fresh s (fun B hB=>by omega),by rw[s.keep _ (by omega) (by omega)];exact h.a1,g,by rw[s.keep _ l4 (by omega)];exact h.a4,h.o1,h.o2,h.o4⟩,s⟩
theorem CutI.all4 {H0 H:AH}{A1 A2 A4:Nat}{l1 l2 l4 l':List AV}(h:CutI H0 A1 A2 A4 H l1 l2 l4)(hl:l'.length=l4.length)(hc:qN l'=true):
  ∃H',stN l4.length (.ptr A4 0) (.agg l') H=some (qM,H')/\CutI H0 A1 A2 A4 H' l1 l2 l'/\Stp (fun B=>B=A4) H H':=by
 obtain⟨H',e,g,s,n⟩:=yF h.prs.ok h.a4 hl hc;have:=h.o1;have:=h.o2;have:=h.o4;have l4:=h.lt;exact⟨H',e,⟨h.prs.fresh s (fun B hB=>by omega),by rw[s.keep _ (by omega) (by omega)];exact h.a1,by rw[s.keep _ (by omega) (by omega)];exact h.a2,g,h.o1,h.o2,h.o4⟩,s⟩
def xJ (u:AV)(B:Nat):Prop:= ∃x ks vs ps,u= .agg [x,ks,vs,ps]/\(Blk ks B\/Blk vs B\/Blk ps B)
theorem kB {x ks vs ps:AV}{B:Nat} :xJ (.agg [x,ks,vs,ps]) B↔(Blk ks B\/Blk vs B\/Blk ps B):=
 ⟨fun⟨_,_,_,_,e,h⟩=>by simp only[AV.agg.injEq,List.cons.injEq,and_true]at e;obtain⟨rfl,rfl,rfl,rfl⟩:=e;exact h,fun h=>⟨_,_,_,_,rfl,h⟩⟩
def wE (N:Nat)(H:AH)(v:AV)(nd:Nd.Node):Prop:=y9 H v nd/\ ∀B,xJ v B->N<=B
structure FrG (A k e:Nat)(H:AH)(v:AV)(n:Nat)(l:List AV):Prop where
 g:j7 k e H v n l
 f: ∀B,Blk v B->A<B
theorem FrG.prs {A k e n:Nat}{H H':AH}{v:AV}{l:List AV}(h:FrG A k e H v n l)(s:Prs H H'):FrG A k e H' v n l:=⟨h.g.mono s (fun _ _ x=>x),h.f⟩
theorem FrG.stp {A A' k e n:Nat}{H H':AH}{v:AV}{l:List AV}(h:FrG A k e H v n l)(s:Stp (fun B=>B=A') H H')(hA:A'<=A):FrG A k e H' v n l:=
 ⟨h.g.mono s (fun B hB e=>by have:=h.f B hB;omega),h.f⟩
theorem zOt (l:Str):aveq (S l) (S l)=true:=by simp[S,aveq]
theorem FrG.nil (A k e:Nat)(H:AH):FrG A k e H .nilSlice 0 []:=⟨.inl ⟨by simp, .inl ⟨rfl,rfl⟩⟩,fun B hB=>(Blk.nil.1 hB).elim⟩
theorem FrG.isCell {A k e n:Nat}{H:AH}{v:AV}{l:List AV}(h:FrG A k e H v n l):isCell v=true:=h.g.isCell
theorem FrG.aveq {A k e n:Nat}{H:AH}{v:AV}{l:List AV}(h:FrG A k e H v n l):aveq v v=true:=yL h.g.row
structure FrN (A:Nat)(H:AH)(a b c:AV)(nd:Nd.Node):Prop where
 k:FrG A 1 9 H a nd.keys.length (nd.keys.map S)
 v:FrG A 1 9 H b nd.vals.length (nd.vals.map S)
 p:FrG A 3 59 H c nd.kids.length (nd.kids.flatMap y6)
theorem FrN.stp {A A':Nat}{H H':AH}{a b c:AV}{nd:Nd.Node}(h:FrN A H a b c nd)(s:Stp (fun B=>B=A') H H')(hA:A'<=A):FrN A H' a b c nd:=⟨h.k.stp s hA,h.v.stp s hA,h.p.stp s hA⟩
theorem FrN.fresh {A N:Nat}{H:AH}{x a b c:AV}{nd:Nd.Node}(h:FrN A H a b c nd)(hN:N<=A): ∀B,xJ (.agg [x,a,b,c]) B->N<=B:=fun B hB=>by
 rcases kB.1 hB with k | k | k
 ·have:=h.k.f B k;omega
 ·have:=h.v.f B k;omega
 ·have:=h.p.f B k;omega
theorem zGn (D:Dyn)(n:Nat){H0 H:AH}{A1 A2 A4 k:Nat}{b:Bool}{ks vs ps k2 v2 p2 k4 v4 p4:AV}{keys:List Str}{na nb:Nd.Node}
  (h:CutI H0 A1 A2 A4 H [.bool b,ks,vs,ps] [.bool b,k2,v2,p2] [.bool b,k4,v4,p4]) (hks:Strs H ks keys) (hR: ∀B,Blk ks B->B<H0.next) (hk:k<keys.length) (ha:FrN A4 H k2 v2 p2 na) (hb:FrN A4 H k4 v4 p4 nb):
  ∃H',zFZ D n [.ptr A1 0, .ptr A2 0, .ptr A4 0, .int .i64 (k:Nat)] H=some (.ret (.tuple [.agg [.bool b,k2,v2,p2],S (keys.getD k []), .agg [.bool b,k4,v4,p4], .int .i64 ((0:Nat):Int)]),H')/\Prs H0 H'/\FrN A4 H' k2 v2 p2 na/\FrN A4 H' k4 v4 p4 nb:=by
 have o1:=h.o1;have o2:=h.o2;have o4:=h.o4;obtain⟨q,q1,q2⟩:=hks.at hk;obtain⟨H1,e1,h1,s1⟩:=h.all2 (l':=[.bool b,k2,v2,p2]) rfl (cJ _ _ _ _ ha.k.isCell ha.v.isCell ha.p.isCell);have hks1:Strs H1 ks keys:=Rw.stp hks s1 (fun B hB e=>by have:=hR B hB;omega);obtain⟨q',q1',q2'⟩:=hks1.at hk;obtain rfl:q=q':=by have:=q1 .i64 k rfl;rw[q1' .i64 k rfl]at this;cases this;rfl
 obtain⟨H2,e2,h2,s2⟩:=h1.all4 (l':=[.bool b,k4,v4,p4]) rfl (cJ _ _ _ _ hb.k.isCell hb.v.isCell hb.p.isCell);have e1':stN 4 (.ptr A2 0) (.agg [.bool b,k2,v2,p2]) H=some (qM,H1):=e1;have e2':stN 4 (.ptr A4 0) (.agg [.bool b,k4,v4,p4]) H1=some (qM,H2):=e2;have hagg:aveq (.agg [.bool b,k4,v4,p4]) (.agg [.bool b,k4,v4,p4])=true:=by simp[Eng.aveq,aN,hb.k.aveq,hb.v.aveq,hb.p.aveq]
 have hg:keys.getD k []=keys[k]:=by rw[zE,zB hk];rfl
 have l4:ldN 4 (.ptr A4 0) H1=some (.agg [.bool b,k4,v4,p4]):=by rw[qQ h1.a4];rfl
 refine⟨H2, ?_,h2.prs,(ha.stp s1 (by omega)).stp s2 (by omega),(hb.stp s1 (by omega)).stp s2 (by omega)⟩;rw[hg];simp(disch:=omega) only[zFZ,eZ,qQ h.a2,qQ h.a4,qL h.a1,q1,q2,e1',e2',jA (qL h1.a1 1) (yL hks),jA q2' (zOt _),jA l4 hagg,qQ h2.a2,qQ h2.a4,cR,Option.map_some]
theorem zF2 (D:Dyn)(n:Nat){H:AH}(hk:H.ok){v:AV}{l:List Str}(h:j7 1 9 H v l.length (l.map S))(hl:l.length<=1000000000){i:Nat}(h0:0<i)(hi:i<=l.length)(A:Nat)(hA:A<H.next):
  ∃r v' H',j8 1 v none (some (.int .i64 (i:Nat))) (some (.int .i64 (i:Nat))) H=some r/\f73 D n [r] H=some (v',H')/\Prs H H'/\FrG A 1 9 H' v' (l.take i).length ((l.take i).map S):=by
 obtain⟨r,e1,w,hz⟩:=KN h (by decide) hi .i64 .i64;rw[map_take]at w;have hlen:(l.take i).length=i:=by rw[zH];omega
 have w':Strs H r (l.take i):=by rw[Strs,hlen];exact w
 obtain⟨v',H',e2,p,g,f⟩:=cD D n hk w' (hz h0).1 (hz h0).2 (by omega);exact⟨r,v',H',e1,e2,p,g,fun B hB=>by have:=f B hB;omega⟩
theorem zEK (D:Dyn)(n:Nat){H:AH}(hk:H.ok){v:AV}{l:List Str}(h:j7 1 9 H v l.length (l.map S))(hl:l.length<=1000000000){i:Nat}(hi:i<l.length)(A:Nat)(hA:A<H.next):
  ∃r v' H',aveq r r=true/\j8 1 v (some (.int .i64 (i:Nat))) none none H=some r/\f73 D n [r] H=some (v',H')/\Prs H H'/\FrG A 1 9 H' v' (l.drop i).length ((l.drop i).map S):=by
 obtain⟨r,e1,w,z1,z2⟩:=slSl_lo h (by decide) hi .i64;rw[map_drop]at w;have hlen:(l.drop i).length=l.length - i:=by rw[zN]
 have w':Strs H r (l.drop i):=by rw[Strs,hlen];exact w
 obtain⟨v',H',e2,p,g,f⟩:=cD D n hk w' z1 z2 (by omega);exact⟨r,v',H',yL w,e1,e2,p,g,fun B hB=>by have:=f B hB;omega⟩
theorem zNn (D:Dyn)(n:Nat){H:AH}(hk:H.ok){v:AV}{l:List Ptr}(h:j7 3 59 H v l.length (l.flatMap y6))(hl:l.length<=1000000000){i:Nat}(h0:0<i)(hi:i<=l.length)(A:Nat)(hA:A<H.next):
  ∃r v' H',j8 3 v none (some (.int .i64 (i:Nat))) (some (.int .i64 (i:Nat))) H=some r/\f81 D n [r] H=some (v',H')/\Prs H H'/\FrG A 3 59 H' v' (l.take i).length ((l.take i).flatMap y6):=by
 obtain⟨r,e1,w,hz⟩:=KN h (by decide) hi .i64 .i64;rw[Y0]at w;have hlen:(l.take i).length=i:=by rw[zH];omega
 have w':uP H r (l.take i):=by rw[uP,hlen];exact w
 obtain⟨v',H',e2,p,g,f⟩:=Y8 D n hk w' (hz h0).1 (hz h0).2 (by omega);exact⟨r,v',H',e1,e2,p,g,fun B hB=>by have:=f B hB;omega⟩
theorem zN5 (D:Dyn)(n:Nat){H:AH}(hk:H.ok){v:AV}{l:List Ptr}(h:j7 3 59 H v l.length (l.flatMap y6))(hl:l.length<=1000000000){i:Nat}(hi:i<l.length)(A:Nat)(hA:A<H.next):
  ∃r v' H',aveq r r=true/\j8 3 v (some (.int .i64 (i:Nat))) none none H=some r/\f81 D n [r] H=some (v',H')/\Prs H H'/\FrG A 3 59 H' v' (l.drop i).length ((l.drop i).flatMap y6):=by
 obtain⟨r,e1,w,z1,z2⟩:=slSl_lo h (by decide) hi .i64;rw[Y1]at w;have hlen:(l.drop i).length=l.length - i:=by rw[zN]
 have w':uP H r (l.drop i):=by rw[uP,hlen];exact w
 obtain⟨v',H',e2,p,g,f⟩:=Y8 D n hk w' z1 z2 (by omega);exact⟨r,v',H',yL w,e1,e2,p,g,fun B hB=>by have:=f B hB;omega⟩
theorem zAr (D:Dyn)(n:Nat)(hn:200000000<=n){H:AH}(hk:H.ok){b:Bool}{ks vs ps:AV}{nd:Nd.Node}(hb:nd.leaf=b)(h:fS H (.agg [.bool b,ks,vs,ps]) nd)(hs:small nd):
  ∃H1 H2 H3 H4 A1 A2 A4,(∀K,bA (some (AObj.cells [.bool b,ks,vs,ps] 93 1 false,fun A=>AV.ptr A 0)) H K=K (.ptr A1 0) H1)/\(∀K,bA (some (AObj.cells [.bool false, .nilSlice, .nilSlice, .nilSlice] 93 1 false,fun A=>AV.ptr A 0)) H1 K=K (.ptr A2 0) H2)/\
   (∀K,bA (some (AObj.cells [.bool false, .nilSlice, .nilSlice, .nilSlice] 93 1 false,fun A=>AV.ptr A 0)) H2 K=K (.ptr A4 0) H3)/\f71 D n [.agg [.bool b,ks,vs,ps]] H3=some (.bool (Nd.shaped ltS nd),H4)/\
   CutI H A1 A2 A4 H3 [.bool b,ks,vs,ps] [.bool false, .nilSlice, .nilSlice, .nilSlice] [.bool false, .nilSlice, .nilSlice, .nilSlice]/\CutI H A1 A2 A4 H4 [.bool b,ks,vs,ps] [.bool false, .nilSlice, .nilSlice, .nilSlice] [.bool false, .nilSlice, .nilSlice, .nilSlice]:=by
 have p1:Prs H (H.push (.cells [.bool b,ks,vs,ps] 93 1 false)):=(Stp.refl hk).push _;have g1:(H.push (.cells [.bool b,ks,vs,ps] 93 1 false)).h.get H.next=some (.cells [.bool b,ks,vs,ps] 93 1 false):=AH.push_get_eq _ _
 have n1:(H.push (.cells [.bool b,ks,vs,ps] 93 1 false)).next=H.next+1:=rfl
 generalize hH1:H.push (.cells [.bool b,ks,vs,ps] 93 1 false)=H1 at p1 g1 n1;have p2:Prs H1 (H1.push (.cells [.bool false, .nilSlice, .nilSlice, .nilSlice] 93 1 false)):=(Stp.refl p1.ok).push _;have g2:(H1.push (.cells [.bool false, .nilSlice, .nilSlice, .nilSlice] 93 1 false)).h.get H1.next=some (.cells [.bool false, .nilSlice, .nilSlice, .nilSlice] 93 1 false):=AH.push_get_eq _ _
 have n2:(H1.push (.cells [.bool false, .nilSlice, .nilSlice, .nilSlice] 93 1 false)).next=H1.next+1:=rfl
 have g12:=p2.get p1.ok g1;generalize hH2:H1.push (.cells [.bool false, .nilSlice, .nilSlice, .nilSlice] 93 1 false)=H2 at p2 g2 n2 g12;have p3:Prs H2 (H2.push (.cells [.bool false, .nilSlice, .nilSlice, .nilSlice] 93 1 false)):=(Stp.refl p2.ok).push _;have g3:(H2.push (.cells [.bool false, .nilSlice, .nilSlice, .nilSlice] 93 1 false)).h.get H2.next=some (.cells [.bool false, .nilSlice, .nilSlice, .nilSlice] 93 1 false):=AH.push_get_eq _ _
 have g13:=p3.get p2.ok g12;have g23:=p3.get p2.ok g2;generalize hH3:H2.push (.cells [.bool false, .nilSlice, .nilSlice, .nilSlice] 93 1 false)=H3 at p3 g3 g13 g23;have P3:Prs H H3:=(p1.trans p2).trans p3;obtain⟨H4,e4,p4⟩:=uW D n p3.ok (h.prs P3) hs hn;have c3:CutI H H.next H1.next H2.next H3 [.bool b,ks,vs,ps] [.bool false, .nilSlice, .nilSlice, .nilSlice] [.bool false, .nilSlice, .nilSlice, .nilSlice]:=⟨P3,g13,g23,g3,by omega,by omega,by omega⟩
 refine⟨H1,H2,H3,H4,H.next,H1.next,H2.next,fun K=> ?_,fun K=> ?_,fun K=> ?_,e4,c3,c3.step p4⟩
 ·simp only[eZ,vW hk,hH1]
 ·simp only[eZ,vW p1.ok,hH2]
 ·simp only[eZ,vW p2.ok,hH3]
theorem zLS (D:Dyn)(n:Nat)(hn:200000000<=n){H:AH}(hk:H.ok){v:AV}{nd:Nd.Node}(h:y9 H v nd)(hs:small nd)(hsh:Nd.shaped ltS nd=true)(hc:vD nd)(hl:nd.leaf=true):
  ∃k va vb H',zCH D n [v] H=some (.tuple [va,S (nd.keys.getD k []),vb, .int .i64 ((0:Nat):Int)],H')/\Prs H H'/\wE H.next H' va (cutA nd k)/\wE H.next H' vb (fT nd k)/\cutOk nd k/\hbnd nd k:=by
 have h0:=h.node;obtain⟨ks,vs,ps,rfl,h1,h2,h3⟩:=h;rw[hl]at h0;have hkl:=Nd.sumL_ge nd.keys;have hvl:nd.vals.length=nd.keys.length:=by
  simp only[Nd.shaped,hl,if_true,z8,zF]at hsh;exact hsh.2.1.1
 obtain⟨s1,s2,s3⟩:=id hs;obtain⟨c1,c2⟩:=id hc;obtain⟨H1,H2,H3,H4,A1,A2,A4,b1,b2,b3,e4,i3,i4⟩:=zAr D n hn hk hl h0 hs;obtain⟨k,H5,e5,p5,⟨k1,k2⟩,kb⟩:=zF5 D n hn i4.prs.ok (h0.prs i4.prs) hs hsh hc;simp only[hl,if_true]at k2;have i5:=i4.step p5;obtain⟨H6,e6,i6,t6⟩:=i5.st2 (o:=0) (x:= .bool true) rfl (by simp);obtain⟨H7,e7,i7,t7⟩:=i6.st4 (o:=0) (x:= .bool true) rfl (by simp);have m {H':AH} (p:Prs H H'):=h1.mono p (fun _ _ x=>x);have m2 {H':AH} (p:Prs H H'):=h2.mono p (fun _ _ x=>x);obtain⟨r8,k8,H8,c8,e8,p8,f8⟩:=zF2 D n i7.prs.ok (m i7.prs) (by omega) k1 (by omega) A4 i7.lt;have i8:=i7.step p8;obtain⟨H9,e9,i9,t9⟩:=i8.st2 (o:=1) (x:=k8) f8.isCell (by simp);have f9:=f8.stp t9 (by have:=i8.o4;omega);obtain⟨r10,k10,H10,_,c10,e10,p10,f10⟩:=zEK D n i9.prs.ok (m i9.prs) (by omega) (show k< _ by omega) A4 i9.lt;have i10:=i9.step p10;obtain⟨H11,e11,i11,t11⟩:=i10.st4 (o:=1) (x:=k10) f10.isCell (by simp);have f11:=f10.stp t11 (by omega);obtain⟨r12,k12,H12,c12,e12,p12,f12⟩:=zF2 D n i11.prs.ok (m2 i11.prs) (by omega) k1 (by omega) A4 i11.lt;have i12:=i11.step p12;obtain⟨r13,k13,H13,q13,c13,e13,p13,f13⟩:=zEK D n i12.prs.ok (m2 i12.prs) (by omega) (show k< _ by omega) A4 i12.lt;have c13':j8 1 vs (some (.int .i64 (k:Nat))) none none H11=some r13:=by rw[vO (m2 i12.prs) (m2 i11.prs) (by decide)];exact c13
 have i13:=i12.step p13;obtain⟨H14,e14,i14,t14⟩:=i13.st2 (o:=2) (x:=k12) f12.isCell (by simp);obtain⟨H15,e15,i15,t15⟩:=i14.st4 (o:=2) (x:=k13) f13.isCell (by simp);have o4:=i15.o4;have h24:=i15.o1;have h12:=i15.o2;have F8:FrG A4 1 9 H15 k8 _ _:=(((((f9.prs p10).stp t11 (by omega)).prs p12).prs p13).stp t14 (by omega)).stp t15 (by omega);have F10:FrG A4 1 9 H15 k10 _ _:=(((f11.prs p12).prs p13).stp t14 (by omega)).stp t15 (by omega);have F12:FrG A4 1 9 H15 k12 _ _:=((f12.prs p13).stp t14 (by omega)).stp t15 (by omega);have F13:FrG A4 1 9 H15 k13 _ _:=(f13.stp t14 (by omega)).stp t15 (by omega);have na:FrN A4 H15 k8 k12 .nilSlice (cutA nd k):=by
  simp only[cutA,hl,if_true];exact⟨F8,F12,FrG.nil ..⟩
 have nb:FrN A4 H15 k10 k13 .nilSlice (fT nd k):=by
  simp only[fT,hl,if_true];exact⟨F10,F13,FrG.nil ..⟩
 obtain⟨H16,e16,P,fa,fb⟩:=zGn D n i15 ((m i15.prs).row) (fun B hB=>h1.lt hB) (show k<nd.keys.length by omega) na nb;refine⟨k, .agg [.bool true,k8,k12, .nilSlice], .agg [.bool true,k10,k13, .nilSlice],H16, ?_,P, ?_, ?_,⟨k1,by rw[hl];simp only[if_true];omega⟩,kb⟩
 ·have t2: ¬((nd.keys.length:Nat):Int)< ((2:Nat):Int):=by omega
  simp(maxSteps:=999999)(disch:=omega) only[zCH,eZ,hl,b1,b2,b3,qQ i3.a1,qQ i4.a1,cR,Option.map_some,e4,hsh,qL i4.a1,h1.row.lnSl,t2,e5,qL i5.a1,e6,jA (qL i6.a1 0) (BC _),e7,qL i7.a1,c8,e8,e9,qL i9.a1,c10,e10,e11,qL i11.a1,c12,c13',e12,jA (qL i12.a1 2) (yL h2.row),jA c13 q13,e13,e14,e15,e16]
 ·exact⟨⟨k8,k12, .nilSlice,by simp only[cutA,hl,if_true],fa.k.g,fa.v.g,fa.p.g⟩,fa.fresh (by omega)⟩
 ·exact⟨⟨k10,k13, .nilSlice,by simp only[fT,hl,if_true],fb.k.g,fb.v.g,fb.p.g⟩,fb.fresh (by omega)⟩
theorem zIO (D:Dyn)(n:Nat)(hn:200000000<=n){H:AH}(hk:H.ok){v:AV}{nd:Nd.Node}(h:y9 H v nd)(hs:small nd)(hsh:Nd.shaped ltS nd=true)(hc:vD nd)(hl:nd.leaf=false):
  ∃k va vb H',zCH D n [v] H=some (.tuple [va,S (nd.keys.getD k []),vb, .int .i64 ((0:Nat):Int)],H')/\Prs H H'/\wE H.next H' va (cutA nd k)/\wE H.next H' vb (fT nd k)/\cutOk nd k/\hbnd nd k:=by
 have h0:=h.node;obtain⟨ks,vs,ps,rfl,h1,h2,h3⟩:=h;rw[hl]at h0;have hkl:=Nd.sumL_ge nd.keys;have hpl:nd.kids.length=nd.keys.length+1:=by
  simp only[Nd.shaped,hl,Bool.false_eq_true,if_false,z8,zF]at hsh;exact hsh.2.1.2
 obtain⟨s1,s2,s3⟩:=id hs;obtain⟨c1,c2⟩:=id hc;obtain⟨H1,H2,H3,H4,A1,A2,A4,b1,b2,b3,e4,i3,i4⟩:=zAr D n hn hk hl h0 hs;obtain⟨k,H5,e5,p5,⟨k1,k2⟩,kb⟩:=zF5 D n hn i4.prs.ok (h0.prs i4.prs) hs hsh hc;simp only[hl,Bool.false_eq_true,if_false]at k2;have i5:=i4.step p5;obtain⟨H6,e6,i6,t6⟩:=i5.st2 (o:=0) (x:= .bool false) rfl (by simp);obtain⟨H7,e7,i7,t7⟩:=i6.st4 (o:=0) (x:= .bool false) rfl (by simp);have m {H':AH} (p:Prs H H'):=h1.mono p (fun _ _ x=>x);have m2 {H':AH} (p:Prs H H'):=h3.mono p (fun _ _ x=>x);obtain⟨r8,k8,H8,c8,e8,p8,f8⟩:=zF2 D n i7.prs.ok (m i7.prs) (by omega) k1 (by omega) A4 i7.lt;have i8:=i7.step p8;obtain⟨H9,e9,i9,t9⟩:=i8.st2 (o:=1) (x:=k8) f8.isCell (by simp);have f9:=f8.stp t9 (by have:=i8.o4;omega);obtain⟨r10,k10,H10,_,c10,e10,p10,f10⟩:=zEK D n i9.prs.ok (m i9.prs) (by omega) (show k+1< _ by omega) A4 i9.lt;have i10:=i9.step p10;obtain⟨H11,e11,i11,t11⟩:=i10.st4 (o:=1) (x:=k10) f10.isCell (by simp);have f11:=f10.stp t11 (by omega);obtain⟨r12,k12,H12,c12,e12,p12,f12⟩:=zNn D n i11.prs.ok (m2 i11.prs) (by omega) (show 0<k+1 by omega) (by omega) A4 i11.lt;have i12:=i11.step p12;obtain⟨r13,k13,H13,q13,c13,e13,p13,f13⟩:=zN5 D n i12.prs.ok (m2 i12.prs) (by omega) (show k+1< _ by omega) A4 i12.lt;have c13':j8 3 ps (some (.int .i64 ((k+1:Nat):Int))) none none H11=some r13:=by rw[vO (m2 i12.prs) (m2 i11.prs) (by decide)];exact c13
 have i13:=i12.step p13;obtain⟨H14,e14,i14,t14⟩:=i13.st2 (o:=3) (x:=k12) f12.isCell (by simp);obtain⟨H15,e15,i15,t15⟩:=i14.st4 (o:=3) (x:=k13) f13.isCell (by simp);simp only[Int.natCast_add]at c10 c12 c13 c13';have o4:=i15.o4;have h24:=i15.o1;have h12:=i15.o2;have F8:FrG A4 1 9 H15 k8 _ _:=(((((f9.prs p10).stp t11 (by omega)).prs p12).prs p13).stp t14 (by omega)).stp t15 (by omega);have F10:FrG A4 1 9 H15 k10 _ _:=(((f11.prs p12).prs p13).stp t14 (by omega)).stp t15 (by omega);have F12:FrG A4 3 59 H15 k12 _ _:=((f12.prs p13).stp t14 (by omega)).stp t15 (by omega);have F13:FrG A4 3 59 H15 k13 _ _:=(f13.stp t14 (by omega)).stp t15 (by omega);have na:FrN A4 H15 k8 .nilSlice k12 (cutA nd k):=by
  simp only[cutA,hl,Bool.false_eq_true,if_false];exact⟨F8,FrG.nil ..,F12⟩
 have nb:FrN A4 H15 k10 .nilSlice k13 (fT nd k):=by
  simp only[fT,hl,Bool.false_eq_true,if_false];exact⟨F10,FrG.nil ..,F13⟩
 obtain⟨H16,e16,P,fa,fb⟩:=zGn D n i15 ((m i15.prs).row) (fun B hB=>h1.lt hB) (show k<nd.keys.length by omega) na nb;refine⟨k, .agg [.bool false,k8, .nilSlice,k12], .agg [.bool false,k10, .nilSlice,k13],H16, ?_,P, ?_, ?_,⟨k1,by rw[hl];simp only[Bool.false_eq_true,if_false];omega⟩,kb⟩
 ·have t2: ¬((nd.keys.length:Nat):Int)< ((2:Nat):Int):=by omega
  have t3: ¬((nd.keys.length:Nat):Int)< ((3:Nat):Int):=by omega
  simp(maxSteps:=999999)(disch:=omega) only[zCH,eZ,hl,b1,b2,b3,qQ i3.a1,qQ i4.a1,cR,Option.map_some,e4,hsh,qL i4.a1,h1.row.lnSl,t2,t3,e5,qL i5.a1,e6,jA (qL i6.a1 0) (BC _),e7,qL i7.a1,c8,e8,e9,qL i9.a1,c10,e10,e11,qL i11.a1,c12,c13',e12,jA (qL i12.a1 3) (yL h3.row),jA c13 q13,e13,e14,e15,e16]
 ·exact⟨⟨k8, .nilSlice,k12,by simp only[cutA,hl,Bool.false_eq_true,if_false],fa.k.g,fa.v.g,fa.p.g⟩,fa.fresh (by omega)⟩
 ·exact⟨⟨k10, .nilSlice,k13,by simp only[fT,hl,Bool.false_eq_true,if_false],fb.k.g,fb.v.g,fb.p.g⟩,fb.fresh (by omega)⟩
end Go.Eng.Sh
end
section
namespace Go.Eng
namespace T
variable {α:Type}
theorem zHC: ∀(f g:Nat) (t:T α) (n:Nat) (a:α) (t' t'':T α),YN f t n a=some t'->YN g t n a=some t''->t'=t'':=by
 intro f
 induction f with
 | zero=>intro g t n a t' t'' h;simp[QA]at h
 | succ f ih=>
  intro g t n a t' t'' h h'
  cases g with
  | zero=>simp[QA]at h'
  | succ g=>
   cases t with
   | leaf=>
    rw[vQ]at h h';split at h
    ·rename_i h0;rw[if_pos h0]at h';rw[h]at h';simpa using h'
    ·rename_i h0;rw[if_neg h0]at h';split at h
     ·rename_i hm;rw[if_pos hm]at h';split at h
      ·rename_i l hl;split at h'
       ·rename_i l' hl';have:=ih g _ _ _ _ _ hl hl';subst this;rw[h]at h';simpa using h'
       ·simp at h'
      ·simp at h
     ·rename_i hm;rw[if_neg hm]at h';split at h
      ·rename_i l hl;split at h'
       ·rename_i l' hl';have:=ih g _ _ _ _ _ hl hl';subst this;rw[h]at h';simpa using h'
       ·simp at h'
      ·simp at h
   | node l v r=>
    rw[vP]at h h';split at h
    ·rename_i h0;rw[if_pos h0]at h';rw[h]at h';simpa using h'
    ·rename_i h0;rw[if_neg h0]at h';split at h
     ·rename_i hm;rw[if_pos hm]at h';split at h
      ·rename_i l hl;split at h'
       ·rename_i l' hl';have:=ih g _ _ _ _ _ hl hl';subst this;rw[h]at h';simpa using h'
       ·simp at h'
      ·simp at h
     ·rename_i hm;rw[if_neg hm]at h';split at h
      ·rename_i l hl;split at h'
       ·rename_i l' hl';have:=ih g _ _ _ _ _ hl hl';subst this;rw[h]at h';simpa using h'
       ·simp at h'
      ·simp at h
noncomputable def st (t:T α)(n:Nat)(a:α):T α:=(T.set 40 t n a).getD .leaf
theorem zCf {f:Nat}{t:T α}{n:Nat}{a:α}{t':T α}(h:YN f t n a=some t'):st t n a=t':=by
 obtain⟨t2,h2⟩:=Option.isSome_iff_exists.1 (T.set_some 40 t n a);have:=zHC _ _ _ _ _ _ _ h2 h;simp only[st,h2,Option.getD_some,this]
theorem zAS (t:T α)(n:Nat)(a:α): ∃f,YN f t n a=some (st t n a):=by
 obtain⟨t2,h2⟩:=Option.isSome_iff_exists.1 (T.set_some 40 t n a);exact⟨_,by simp only[st,h2,Option.getD_some];exact h2⟩
theorem zDI (n:Nat)(a:α):st (.leaf:T α) n a=if n=0 then .node .leaf (some a) .leaf else if n % 2=1 then .node (st .leaf (n / 2) a) none .leaf else .node .leaf none (st .leaf (n / 2 - 1) a):=by
 by_cases h0:n=0
 ·rw[if_pos h0];exact zCf (f:=1) (by rw[vQ,if_pos h0])
 ·rw[if_neg h0];by_cases hm:n % 2=1
  ·rw[if_pos hm];obtain⟨f,hf⟩:=zAS (.leaf:T α) (n / 2) a;exact zCf (f:=f+1) (by rw[vQ,if_neg h0,if_pos hm,hf])
  ·rw[if_neg hm];obtain⟨f,hf⟩:=zAS (.leaf:T α) (n / 2 - 1) a;exact zCf (f:=f+1) (by rw[vQ,if_neg h0,if_neg hm,hf])
theorem uU (l:T α)(v:Option α)(r:T α)(n:Nat)(a:α):st (.node l v r) n a=if n=0 then .node l (some a) r else if n % 2=1 then .node (st l (n / 2) a) v r else .node l v (st r (n / 2 - 1) a):=by
 by_cases h0:n=0
 ·rw[if_pos h0];exact zCf (f:=1) (by rw[vP,if_pos h0])
 ·rw[if_neg h0];by_cases hm:n % 2=1
  ·rw[if_pos hm];obtain⟨f,hf⟩:=zAS l (n / 2) a;exact zCf (f:=f+1) (by rw[vP,if_neg h0,if_pos hm,hf])
  ·rw[if_neg hm];obtain⟨f,hf⟩:=zAS r (n / 2 - 1) a;exact zCf (f:=f+1) (by rw[vP,if_neg h0,if_neg hm,hf])
theorem st_st (n:Nat): ∀(t:T α) (a b:α),st (st t n a) n b=st t n b:=by
 induction n using Nat.strongRecOn with
 | ind n ih=>
  intro t a b
  cases t with
  | leaf=>
   rw[zDI n a,zDI n b];by_cases h0:n=0
   ·rw[if_pos h0,if_pos h0,uU,if_pos h0]
   ·rw[if_neg h0,if_neg h0];by_cases hm:n % 2=1
    ·rw[if_pos hm,if_pos hm,uU,if_neg h0,if_pos hm,ih (n / 2) (by omega)]
    ·rw[if_neg hm,if_neg hm,uU,if_neg h0,if_neg hm,ih (n / 2 - 1) (by omega)]
  | node l v r=>
   rw[uU l v r n a,uU l v r n b];by_cases h0:n=0
   ·rw[if_pos h0,if_pos h0,uU,if_pos h0]
   ·rw[if_neg h0,if_neg h0];by_cases hm:n % 2=1
    ·rw[if_pos hm,if_pos hm,uU,if_neg h0,if_pos hm,ih (n / 2) (by omega)]
    ·rw[if_neg hm,if_neg hm,uU,if_neg h0,if_neg hm,ih (n / 2 - 1) (by omega)]
end T
theorem AH.push_st (H:AH)(o:AObj):H.push o=⟨T.st H.h H.next o,H.next+1⟩:=rfl
theorem AH.put_st (H:AH)(A:Nat)(o:AObj):H.put A o=⟨T.st H.h A o,H.next⟩:=rfl
theorem AH.put_push (H:AH)(o o':AObj):(H.push o).put H.next o'=H.push o':=by
 simp only[AH.push_st,AH.put_st,T.st_st]
theorem zHz {H:AH}{n:Nat}{z l:List AV}{e sz:Nat}{g:Bool}(hz:0<sz)(hl:l.length=n)(hn:z.length=n)(hc:qN l=true):
  stN n (.ptr H.next 0) (.agg l) (H.push (.cells z e sz g))=some (qM,H.push (.cells l e sz g)):=by
 rw[V5 (x:= .agg l) (AH.push_get_eq _ _) hz hl hc (by omega),AH.put_push];simp[qT,zO,hn]
theorem Prs.refl {H:AH}(h:H.ok):Prs H H:=Stp.refl h
def Rws (k:Nat)(H:AH):List AV->List (Nat×List AV)->Prop
 | [],[]=>True
 | v::vs,r::rs=>(Rw k H v r.1 r.2/\qN r.2=true)/\Rws k H vs rs
 | _,_=>False
theorem Rws.len {k:Nat}{H:AH} : ∀ {vs:List AV} {rs:List (Nat×List AV)},Rws k H vs rs->vs.length=rs.length
 | [],[],_=>rfl
 | _::vs,_::rs,h=>by simp only[zJ,Rws.len h.2]
 | [],_::_,h=>h.elim
 | _::_,[],h=>h.elim
theorem Rws.at {k:Nat}{H:AH} : ∀ {vs:List AV} {rs:List (Nat×List AV)} {i:Nat} {x:AV},Rws k H vs rs->vs[i]? =some x-> ∃r,rs[i]? =some r/\Rw k H x r.1 r.2/\qN r.2=true
 | [],[],_,_,_,h=>by simp at h
 | _::vs,r::rs,0,x,h,hx=>by simp only[List.getElem?_cons_zero,z7]at hx;subst hx;exact⟨r,rfl,h.1⟩
 | _::vs,_::rs,i+1,x,h,hx=>by simp only[List.getElem?_cons_succ]at hx⊢;exact Rws.at h.2 hx
 | [],_::_,_,_,h,_=>h.elim
 | _::_,[],_,_,h,_=>h.elim
theorem Rws.prs {k:Nat}{H H':AH}(s:Prs H H'): ∀ {vs:List AV} {rs:List (Nat×List AV)},Rws k H vs rs->Rws k H' vs rs
 | [],[],_=>trivial
 | _::vs,_::rs,h=>⟨⟨h.1.1.prs s,h.1.2⟩,Rws.prs s h.2⟩
 | [],_::_,h=>h.elim
 | _::_,[],h=>h.elim
def vK (rs:List (Nat×List AV)):Nat:=(rs.map Prod.fst).sum
def zCK (rs:List (Nat×List AV)):List AV:=rs.flatMap Prod.snd
theorem hH {rs:List (Nat×List AV)}{i:Nat}{r:Nat×List AV}(h:rs[i]? =some r):vK (rs.take (i+1))=vK (rs.take i)+r.1:=by
 obtain⟨hi,rfl⟩:=List.getElem?_eq_some_iff.1 h;rw[zQ hi];simp only[vK,List.map_append,List.sum_append,List.map_cons,List.map_nil,List.sum_cons,List.sum_nil,Nat.add_zero]
theorem B0 {rs:List (Nat×List AV)}{i:Nat}{r:Nat×List AV}(h:rs[i]? =some r):zCK (rs.take (i+1))=zCK (rs.take i)++r.2:=by
 obtain⟨hi,rfl⟩:=List.getElem?_eq_some_iff.1 h;rw[zQ hi];simp only[zCK,zZ,zP,List.flatMap_nil,List.append_nil]
theorem cO (rs:List (Nat×List AV))(i:Nat):vK (rs.take i)<=vK rs:=by
 have:rs=rs.take i++rs.drop i:=(List.take_append_drop i rs).symm
 conv=>rhs;rw[this]
 simp only[vK,List.map_append,List.sum_append];omega
def Part (k e:Nat)(H:AH)(v:AV)(n:Nat)(l:List AV)(tot:Nat):Prop:=
 (tot=0/\v= .nilSlice/\n=0/\l=[])\/ ∃A rest,v= .slice A 0 n 1/\A<H.next/\H.h.get A=some (.cells (l++rest) e k true)/\l.length=n*k/\rest.length=(tot - n)*k/\n<=tot
theorem Part.own {k e:Nat}{H:AH}{v:AV}{n:Nat}{l:List AV}(h:Part k e H v n l n):Own k e H v n l:=by
 rcases h with⟨rfl,rfl,_,rfl⟩ | ⟨A,rest,rfl,hA,hg,hl,hr,_⟩
 ·exact Own.nil _ _ _
 ·have:rest=[]:=zG (by rw[hr,Nat.sub_self,Nat.zero_mul]);subst this;rw[List.append_nil]at hg;exact⟨hl, .inr ⟨A,rfl,hA,hg⟩⟩
theorem Part.app {k e bytes:Nat}{H:AH}{v s:AV}{n m tot:Nat}{l new:List AV}(hk:H.ok)(hpos:0<k)(h:Part k e H v n l tot)(hs:srcOf k s H=some (m,new))(hm:new.length=m*k)(hc:qN new=true)(hle:n+m<=tot):
  ∃v' H',apP e k bytes v s H=some (v',H')/\Part k e H' v' (n+m) (l++new) tot/\Stp (Blk v) H H'/\H'.next=H.next/\ ∀B,Blk v' B->Blk v B:=by
 rcases h with⟨rfl,rfl,rfl,rfl⟩ | ⟨A,rest,rfl,hA,hg,hl,hr,hn⟩
 ·obtain rfl:m=0:=by omega
  have:new=[]:=zG (by simpa using hm);subst this;exact⟨.nilSlice,H,by simp[apP,hs,hc,app1], .inl ⟨rfl,rfl,rfl,rfl⟩,Stp.refl hk,rfl,fun _ x=>x⟩
 ·have hlen:(l++rest).length=tot*k:=by rw[zI,hl,hr,<-Nat.add_mul];congr 1;omega
  have hroom:yI (l++rest) true k 0 1 k=tot:=by
   simp only[yI,show((1 % 2).beq 0)=false from rfl,cond_false,Nat.beq_refl,show Nat.beq 0 (1 / 2*k)=true from by simp,Bool.and_self,cond_true,yA,hlen,Nat.sub_zero];exact Nat.mul_div_cancel _ hpos
  have b1:Nat.ble (n+m) tot=true:=by rw[zR];exact hle
  have hz:Nat.blt 0 k=true:=by rw[zM];exact hpos
  have hmr:m*k<=rest.length:=by rw[hr];exact q6 _ (by omega)
  have hset:setAt (l++rest) (0+n*k) new=some (l++new++rest.drop (m*k)):=by
   rw[vR (by rw[hlen,hm,Nat.zero_add,<-Nat.add_mul];exact q6 _ hle),Nat.zero_add,hm];congr 1;rw[List.take_append_of_le_length (by omega),zK (by omega),List.drop_append,<-hl,List.drop_of_length_le (by omega),List.nil_append];congr 2;omega
  refine⟨.slice A 0 (n+m) 1,H.put A (.cells (l++new++rest.drop (m*k)) e k true), ?_, .inr ⟨A,rest.drop (m*k),rfl,hA,by rw[AH.put_get,if_pos rfl],by rw[zI,hl,hm,Nat.add_mul],by rw[zN,hr,<-Nat.sub_mul];congr 1;omega,hle⟩,(Stp.refl hk).put hA _ (.inr (Blk.slice.2 rfl)),rfl,fun B hB=>Blk.slice.2 (Blk.slice.1 hB)⟩;simp only[apP,hs,hc,cond_true,app1,hg,zK9,hroom,b1,hz,hset,zCN,yY,yE]
theorem zE2 (z:AV): ∀m:Nat,(rep m [z]).length=m
 | 0=>rfl
 | m+1=>by simp[rep,zE2 z m]
theorem zB2 (a b c:AV): ∀m:Nat,(rep m [a,b,c]).length=m*3
 | 0=>rfl
 | m+1=>by simp only[rep,zI,zB2 a b c m,zJ,zX];omega
theorem zJE {k e bytes m:Nat}{H:AH}{z:List AV}(hk:H.ok)(hpos:0<k)(hz:(rep m z).length=m*k)(hm0:0<m)(hm:m<=1000000000)(hb:bytes<=1000):
  apZ e k bytes z .nilSlice (.int .i64 ((m:Nat):Int)) H=some (.slice H.next 0 m 1,H.push (.cells (rep m z) e k true))/\
  j8 k (.slice H.next 0 m 1) none (some (.int .i64 ((0:Nat):Int))) none (H.push (.cells (rep m z) e k true))=some (.slice H.next 0 0 1)/\
  Part k e (H.push (.cells (rep m z) e k true)) (.slice H.next 0 0 1) 0 [] m:=by
 have b1:Nat.ble (m*bytes) 281474976710656=true:=by
  rw[zR];exact Nat.le_trans (Nat.mul_le_mul hm hb) (by decide)
 have b2:Nat.blt m 4611686018427387904=true:=by rw[zM];omega
 have b3:Nat.beq m 0=false:=by rw[Bool.eq_false_iff];intro h;have:=Nat.eq_of_beq_eq_true h;omega
 have hroom:yI (rep m z) true k 0 1 k=m:=by
  simp only[yI,show((1 % 2).beq 0)=false from rfl,cond_false,Nat.beq_refl,show Nat.beq 0 (1 / 2*k)=true from by simp,Bool.and_self,cond_true,yA,hz,Nat.sub_zero];exact Nat.mul_div_cancel _ hpos
 have hb':Nat.blt 0 k=true:=by rw[zM];exact hpos
 refine⟨?_, ?_, .inr ⟨H.next,rep m z,rfl,Nat.lt_succ_self _,AH.push_get_eq _ _,by simp,by simpa using hz,by omega⟩⟩
 ·show apZ e k bytes z .nilSlice (.int .i64 (Int.ofNat m)) H=_;simp only[apZ,b1,b2,Bool.and_self,cond_true,app1,show m.beq 0=false from b3,cond_false,wT,ZG hm hb,cK,List.nil_append,QM hk,yE]
 ·have n0:=yK .i64 (z:=((0:Nat):Int)) (by omega);simp only[j8,yO,n0,AH.push_get_eq,hb',cond_true];simp[aO,hroom,yE,show Nat.ble 0 m=true from by rw[zR];omega,show Nat.ble 0 0=true from rfl,show Nat.beq 1 0=false from rfl]
end Go.Eng
namespace Go.Eng.Sh
open Go.Nd (Ptr yH cutOk cutA fT)
theorem zIl (D:Dyn)(n m:Nat)(hm:m<=1000000000){H:AH}(hk:H.ok):
  ∃v H',zLI D n [.nilSlice, .int .i64 (m:Nat)] H=some (v,H')/\Prs H H'/\Part 1 9 H' v 0 [] m/\ ∀B,Blk v B->H.next<=B:=by
 have hcap:zCV X 90 .nilSlice=some (.int .i64 ((0:Nat):Int)):=rfl;have hln:lnSl .nilSlice=some (.int .i64 ((0:Nat):Int)):=rfl;have hs:j8 1 .nilSlice none (some (.int .i64 ((0:Nat):Int))) none H=some .nilSlice:=rfl;have h0: ¬((m:Nat):Int)< ((0:Nat):Int):=by omega
 by_cases hp:m=0
 ·subst hp;refine⟨.nilSlice,H, ?_,Stp.refl hk, .inl ⟨rfl,rfl,rfl,rfl⟩,fun B hB=>(Blk.nil.1 hB).elim⟩;simp(disch:=omega) only[zLI,zG3,zG4,eZ,h0,hcap,hln,Int.sub_zero,qA,Int.sub_self]
 ·obtain⟨e1,e2,p⟩:=zJE (k:=1) (e:=9) (bytes:=16) (m:=m) (z:=[.str 0 0]) hk (by decide) (by rw[zE2];omega) (by omega) hm (by decide);have hsub:((m:Nat):Int) - (((0:Nat):Int) - ((0:Nat):Int))=((m:Nat):Int):=by omega
  have hpI:((0:Nat):Int)< ((m:Nat):Int):=by omega
  refine⟨_,_, ?_,(Stp.refl hk).push _,p,fun B hB=>by rw[Blk.slice.1 hB];exact Nat.le_refl _⟩;simp(disch:=omega) only[zLI,zG3,zG4,eZ,h0,hcap,hln,hs,hsub,hpI,e1,e2]
theorem zIm (D:Dyn)(n m:Nat)(hm:m<=1000000000){H:AH}(hk:H.ok):
  ∃v H',zLH D n [.nilSlice, .int .i64 (m:Nat)] H=some (v,H')/\Prs H H'/\Part 3 59 H' v 0 [] m/\ ∀B,Blk v B->H.next<=B:=by
 have hcap:zCV X 91 .nilSlice=some (.int .i64 ((0:Nat):Int)):=rfl;have hln:lnSl .nilSlice=some (.int .i64 ((0:Nat):Int)):=rfl;have hs:j8 3 .nilSlice none (some (.int .i64 ((0:Nat):Int))) none H=some .nilSlice:=rfl;have h0: ¬((m:Nat):Int)< ((0:Nat):Int):=by omega
 by_cases hp:m=0
 ·subst hp;refine⟨.nilSlice,H, ?_,Stp.refl hk, .inl ⟨rfl,rfl,rfl,rfl⟩,fun B hB=>(Blk.nil.1 hB).elim⟩;simp(disch:=omega) only[zLH,zFW,zFX,eZ,h0,hcap,hln,Int.sub_zero,qA,Int.sub_self]
 ·obtain⟨e1,e2,p⟩:=zJE (k:=3) (e:=59) (bytes:=24) (m:=m) (z:=[.int .i64 (.ofNat 0), .int .i64 (.ofNat 0), .int .u64 (.ofNat 0)]) hk (by decide) (by rw[zB2]) (by omega) hm (by decide);have hsub:((m:Nat):Int) - (((0:Nat):Int) - ((0:Nat):Int))=((m:Nat):Int):=by omega
  have hpI:((0:Nat):Int)< ((m:Nat):Int):=by omega
  refine⟨_,_, ?_,(Stp.refl hk).push _,p,fun B hB=>by rw[Blk.slice.1 hB];exact Nat.le_refl _⟩;simp only[Int.ofNat_eq_natCast]at e1 e2;simp(disch:=omega) only[zLH,zFW,zFX,eZ,h0,hcap,hln,hs,hsub,hpI,e1,e2]
theorem catS1 (D:Dyn)(n:Nat){H:AH}{v:AV}{vs:List AV}{rs:List (Nat×List AV)}(hv:Rw 1 H v vs.length vs)(h:Rws 1 H vs rs)(hb:vK rs<=1000000000)(hl:vs.length<=1000000000)(n':Nat)(hn:vs.length<n'):
  qW n' (zIx D n) [v, .int .i64 ((0:Nat):Int),v, .int .i64 (vs.length:Nat), .int .i64 ((0:Nat):Int)] H=some (.exit 0 [v, .int .i64 (vK rs:Nat)],H):=by
 have hlen:=h.len;refine kX (fun i=>[v, .int .i64 (vK (rs.take i):Nat),v, .int .i64 (vs.length:Nat), .int .i64 (i:Nat)]) vs.length ?_ ?_ n' hn
 ·intro i hi;obtain⟨p,x,p1,p2,p3⟩:=hv.ld1 hi;obtain⟨r,r1,r2,r3⟩:=h.at p3;have hiI:((i:Nat):Int)< ((vs.length:Nat):Int):=by omega
  have hs:=hH r1;have hs2:=cO rs i;have hs3:=cO rs (i+1);have hneg: ¬((vK (rs.take i):Nat):Int)+((r.1:Nat):Int)< ((0:Nat):Int):=by omega
  have hc:((vK (rs.take (i+1)):Nat):Int)=((vK (rs.take i):Nat):Int)+((r.1:Nat):Int):=by omega
  rw[hc];simp(disch:=omega) only[zIx,zNE,eZ,hiI,p1,p2,r2.lnSl,hneg,Int.natCast_add]
 ·intro m;refine qY ?_;have:rs.take vs.length=rs:=by rw[hlen];exact q9
  simp only[zIx,eZ,qA,this]
theorem catS2 (D:Dyn)(n:Nat){H:AH}(hk:H.ok){v:AV}{vs:List AV}{rs:List (Nat×List AV)}(hv:Rw 1 H v vs.length vs)(h:Rws 1 H vs rs)(hl:vs.length<=1000000000)
  {w:AV} (hw:Part 1 9 H w 0 [] (vK rs)) (hd1: ∀B,Blk w B-> ¬Blk v B) (hd2: ∀B,Blk w B-> ∀x∈vs,¬Blk x B) (n':Nat) (hn:vs.length<n'):
  ∃w' H',qW n' (zFm D n) [w,v, .int .i64 (vs.length:Nat), .int .i64 ((0:Nat):Int)] H=some (.exit 2 [w'],H')/\Stp (Blk w) H H'/\Part 1 9 H' w' (vK rs) (zCK rs) (vK rs)/\ ∀B,Blk w' B->Blk w B:=by
 have hlen:=h.len;obtain⟨m,us,H',k1,w',rfl,k3,k4,k5⟩:=vB (b:=zFm D n) vs.length (fun i us H'=> ∃w',us=[w',v, .int .i64 (vs.length:Nat), .int .i64 (i:Nat)]/\Stp (Blk w) H H'/\Part 1 9 H' w' (vK (rs.take i)) (zCK (rs.take i)) (vK rs)/\ ∀B,Blk w' B->Blk w B) (fun i us H1 hi ⟨w1,hus,hs,hp,hB⟩=>by
  subst hus;obtain⟨p,x,p1,p2,p3⟩:=(hv.stp hs (fun A hA hh=>hd1 A hh hA)).ld1 hi;obtain⟨r,r1,r2,r3⟩:=h.at p3;have hx:x∈vs:=List.mem_of_getElem? p3;have r2':=r2.stp hs (fun A hA hh=>hd2 A hh x hx hA);have hiI:((i:Nat):Int)< ((vs.length:Nat):Int):=by omega
  have hs3:=cO rs (i+1);have hst:=hH r1;obtain⟨w2,H2,e2,q2,s2,n2,b2⟩:=hp.app (bytes:=16) hs.ok (by decide) r2'.srcOf r2.1 r3 (by omega);rw[<-hst,<-B0 r1]at q2;refine⟨_,H2, ?_,w2,rfl,hs.trans (s2.mono fun A _ hA=>hB A hA),q2,fun B hb=>hB B (b2 B hb)⟩;simp(disch:=omega) only[zFm,eZ,hiI,p1,p2,e2,Int.natCast_add]) n' _ H ⟨w,rfl,Stp.refl hk,hw,fun _ x=>x⟩ hn
 rw[hlen,q9]at k4;exact⟨w',H',k1.trans (qY (by simp only[zFm,eZ,qA])),k3,k4,k5⟩
theorem zGw (D:Dyn)(n:Nat){H:AH}(hk:H.ok){v:AV}{vs:List AV}{rs:List (Nat×List AV)}(hv:Rw 1 H v vs.length vs)(h:Rws 1 H vs rs)(hb:vK rs<=1000000000)(hl:vs.length<=1000000000)(hn:vs.length<n)
  (hv0: ∀B,Blk v B->B<H.next) (hx0: ∀x∈vs,∀B,Blk x B->B<H.next):
  ∃w H',f86 D n [v] H=some (w,H')/\Prs H H'/\Own 1 9 H' w (vK rs) (zCK rs)/\ ∀B,Blk w B->H.next<=B:=by
 obtain⟨w1,H1,e1,p1,q1,f1⟩:=zIl D n (vK rs) hb hk;obtain⟨w2,H2,e2,s2,q2,f2⟩:=catS2 D n p1.ok (hv.prs p1) (h.prs p1) hl q1 (fun B hB hh=>by have:=f1 B hB;have:=hv0 B hh;omega) (fun B hB x hx hh=>by have:=f1 B hB;have:=hx0 x hx B hh;omega) n hn;have l1:=catS1 D n hv h hb hl n hn;refine⟨w2,H2, ?_,p1.fresh s2 f1,q2.own,fun B hB=>f1 B (f2 B hB)⟩;simp only[f86,eZ,hv.lnSl,l1,zNF,e1,e2,zNG]
theorem catP1 (D:Dyn)(n:Nat){H:AH}{v:AV}{vs:List AV}{rs:List (Nat×List AV)}(hv:Rw 1 H v vs.length vs)(h:Rws 3 H vs rs)(hb:vK rs<=1000000000)(hl:vs.length<=1000000000)(n':Nat)(hn:vs.length<n'):
  qW n' (zIt D n) [v, .int .i64 ((0:Nat):Int),v, .int .i64 (vs.length:Nat), .int .i64 ((0:Nat):Int)] H=some (.exit 0 [v, .int .i64 (vK rs:Nat)],H):=by
 have hlen:=h.len;refine kX (fun i=>[v, .int .i64 (vK (rs.take i):Nat),v, .int .i64 (vs.length:Nat), .int .i64 (i:Nat)]) vs.length ?_ ?_ n' hn
 ·intro i hi;obtain⟨p,x,p1,p2,p3⟩:=hv.ld1 hi;obtain⟨r,r1,r2,r3⟩:=h.at p3;have hiI:((i:Nat):Int)< ((vs.length:Nat):Int):=by omega
  have hs:=hH r1;have hs2:=cO rs i;have hs3:=cO rs (i+1);have hneg: ¬((vK (rs.take i):Nat):Int)+((r.1:Nat):Int)< ((0:Nat):Int):=by omega
  have hc:((vK (rs.take (i+1)):Nat):Int)=((vK (rs.take i):Nat):Int)+((r.1:Nat):Int):=by omega
  rw[hc];simp(disch:=omega) only[zIt,zNw,eZ,hiI,p1,p2,r2.lnSl,hneg,Int.natCast_add]
 ·intro m;refine qY ?_;have:rs.take vs.length=rs:=by rw[hlen];exact q9
  simp only[zIt,eZ,qA,this]
theorem catP2 (D:Dyn)(n:Nat){H:AH}(hk:H.ok){v:AV}{vs:List AV}{rs:List (Nat×List AV)}(hv:Rw 1 H v vs.length vs)(h:Rws 3 H vs rs)(hl:vs.length<=1000000000)
  {w:AV} (hw:Part 3 59 H w 0 [] (vK rs)) (hd1: ∀B,Blk w B-> ¬Blk v B) (hd2: ∀B,Blk w B-> ∀x∈vs,¬Blk x B) (n':Nat) (hn:vs.length<n'):
  ∃w' H',qW n' (zFg D n) [w,v, .int .i64 (vs.length:Nat), .int .i64 ((0:Nat):Int)] H=some (.exit 2 [w'],H')/\Stp (Blk w) H H'/\Part 3 59 H' w' (vK rs) (zCK rs) (vK rs)/\ ∀B,Blk w' B->Blk w B:=by
 have hlen:=h.len;obtain⟨m,us,H',k1,w',rfl,k3,k4,k5⟩:=vB (b:=zFg D n) vs.length (fun i us H'=> ∃w',us=[w',v, .int .i64 (vs.length:Nat), .int .i64 (i:Nat)]/\Stp (Blk w) H H'/\Part 3 59 H' w' (vK (rs.take i)) (zCK (rs.take i)) (vK rs)/\ ∀B,Blk w' B->Blk w B) (fun i us H1 hi ⟨w1,hus,hs,hp,hB⟩=>by
  subst hus;obtain⟨p,x,p1,p2,p3⟩:=(hv.stp hs (fun A hA hh=>hd1 A hh hA)).ld1 hi;obtain⟨r,r1,r2,r3⟩:=h.at p3;have hx:x∈vs:=List.mem_of_getElem? p3;have r2':=r2.stp hs (fun A hA hh=>hd2 A hh x hx hA);have hiI:((i:Nat):Int)< ((vs.length:Nat):Int):=by omega
  have hs3:=cO rs (i+1);have hst:=hH r1;obtain⟨w2,H2,e2,q2,s2,n2,b2⟩:=hp.app (bytes:=24) hs.ok (by decide) r2'.srcOf r2.1 r3 (by omega);rw[<-hst,<-B0 r1]at q2;refine⟨_,H2, ?_,w2,rfl,hs.trans (s2.mono fun A _ hA=>hB A hA),q2,fun B hb=>hB B (b2 B hb)⟩;simp(disch:=omega) only[zFg,eZ,hiI,p1,p2,e2,Int.natCast_add]) n' _ H ⟨w,rfl,Stp.refl hk,hw,fun _ x=>x⟩ hn
 rw[hlen,q9]at k4;exact⟨w',H',k1.trans (qY (by simp only[zFg,eZ,qA])),k3,k4,k5⟩
theorem zGx (D:Dyn)(n:Nat){H:AH}(hk:H.ok){v:AV}{vs:List AV}{rs:List (Nat×List AV)}(hv:Rw 1 H v vs.length vs)(h:Rws 3 H vs rs)(hb:vK rs<=1000000000)(hl:vs.length<=1000000000)(hn:vs.length<n)
  (hv0: ∀B,Blk v B->B<H.next) (hx0: ∀x∈vs,∀B,Blk x B->B<H.next):
  ∃w H',f93 D n [v] H=some (w,H')/\Prs H H'/\Own 3 59 H' w (vK rs) (zCK rs)/\ ∀B,Blk w B->H.next<=B:=by
 obtain⟨w1,H1,e1,p1,q1,f1⟩:=zIm D n (vK rs) hb hk;obtain⟨w2,H2,e2,s2,q2,f2⟩:=catP2 D n p1.ok (hv.prs p1) (h.prs p1) hl q1 (fun B hB hh=>by have:=f1 B hB;have:=hv0 B hh;omega) (fun B hB x hx hh=>by have:=f1 B hB;have:=hx0 x hx B hh;omega) n hn;have l1:=catP1 D n hv h hb hl n hn;refine⟨w2,H2, ?_,p1.fresh s2 f1,q2.own,fun B hB=>f1 B (f2 B hB)⟩;simp only[f93,eZ,hv.lnSl,l1,zNx,e1,e2,zNy]
end Go.Eng.Sh
end
section
namespace Go.Eng
theorem hp:(∀(o:AObj) (mk:Nat->AV) (H:AH) (K:AV->AH->Rs),H.ok->bA (some (o,mk)) H K=K (mk H.next) (H.push o))/\
  (∀(H:AH) (A o:Nat) (x:AObj),A<H.next->ld1 (.ptr A o) (H.push x)=ld1 (.ptr A o) H)/\
  (∀(H:AH) (A o n:Nat) (x:AObj),A<H.next->ldN n (.ptr A o) (H.push x)=ldN n (.ptr A o) H)/\
  (∀(l:List AV) (o n:Nat) (a:AV),o=0->n=l.length->(vY l o n).map AV.agg=some (.agg l))/\
  (∀(a b c d:AV),vY [a,b,c,d] 0 4=some [a,b,c,d])/\
  (∀(l:List AV),(some l).map AV.agg=some (.agg l))/\
  (∀(vs:List AV) (i:Nat),qK (.tuple vs) i=vs[i]?):=
 ⟨fun o mk H K h=>vW h o mk K,fun H A o x h=>zEM o x h,fun H A o n x h=>zLa o n x h,fun l o n _ h1 h2=>by subst h1;subst h2;rw[jJ _ _ _ (.inr (by omega)),List.drop_zero,q9];rfl,fun _ _ _ _=>rfl,fun _=>rfl,fun vs i=>by simp only[qK,dJ]⟩
end Go.Eng
end
