/- A checked evaluator for the program, and what it tells, part 4: no condition. -/
import Derived.Test.YtngkjhifpekkcaaGreatDoorOX3
import Derived.Test.YtngkjhifpekkcaaGreatDoorProg
import Derived.KernelRfl
set_option linter.all false
set_option linter.unusedVariables false
set_option linter.unusedSimpArgs false
set_option maxHeartbeats 8000000
set_option maxRecDepth 20000
section
noncomputable section
namespace Go.Eng.Sh
open Go.Proofs
set_option maxRecDepth 100000
def s108 (D:Dyn)(n:Nat):Tb:=⟨X,[(65,f65 D n)]⟩
def cB (D:Dyn)(n:Nat)(vs:List AV)(H:AH):Rs:=
 hd vs fun a vs=>hd vs fun b vs=>hd vs fun c vs=>hd vs fun d vs=>hd vs fun e vs=>hd vs fun f vs=>hd vs fun g vs=>
 bV (qL .gtr e (.int .i64 (.ofNat 0))) fun h=>
 jn (wnt h true (bV (qL .gtr d b) fun i=>
 some (.norm [i],H)) (some (.norm [qI],H))) fun vs H=>hd vs fun k vs=>
 bV (pk3 (some h) (some k) (some (.bool false))) fun m=>
 cnd m (bV (some e) fun o=>some (.ret o,H))
 (bV (qL .add g (.int .i64 (.ofNat 1))) fun p=>
 some (.norm [a,b,c,d,f,p],H))
def ZN (D:Dyn)(n:Nat)(vs:List AV)(H:AH):Rs:=
 hd vs fun a vs=>hd vs fun b vs=>hd vs fun c vs=>hd vs fun d vs=>hd vs fun e vs=>hd vs fun f vs=>
 bV (qL .lss f e) fun g=>
 cnd g (bV (fAd 1 a) fun h=>
 bV (ld1 h H) fun i=>
 bV (jP 1 i f) fun k=>
 bV (ld1 k H) fun m=>
 bV (yY m) fun o=>
 bV (qL .add (.int .i64 (.ofNat 1)) o) fun p=>
 bV (qL .add d p) fun r=>
 bV (fAd 0 a) fun t=>
 bV (ld1 t H) fun u=>
 jn (cnd u (bV (fAd 2 a) fun v=>
 bV (ld1 v H) fun w=>
 bV (jP 1 w f) fun x=>
 bV (ld1 x H) fun y=>
 bV (yY y) fun z=>
 bV (qL .add (.int .i64 (.ofNat 1)) z) fun B=>
 bV (qL .add r B) fun C=>
 some (.norm [a,b,c,C,f,e,f],H))
 (bV (qL .add r (.int .i64 (.ofNat 16))) fun E=>
 some (.norm [a,b,c,E,f,e,f],H))) (cB D n))
 (some (.exit 0 [c],H))
def zD2 (D:Dyn)(n:Nat)(vs:List AV)(H:AH):Rs:=
 hd vs fun a vs=>
 bV (some a) fun b=>some (.ret b,H)
def XA (D:Dyn)(n:Nat)(vs:List AV)(H:AH):Rs:=
 hd vs fun a vs=>hd vs fun b vs=>hd vs fun c vs=>hd vs fun d vs=>
 jb 0 (qW n (ZN D n) [a,b,c,d,c,(.int .i64 (.ofNat 0))] H) (zD2 D n)
def zFe (D:Dyn)(n:Nat)(vs:List AV)(H:AH):Option (AV×AH):=
 yR (hd vs fun a vs=>nl vs <|
 bA (bxV 61 a) H fun b H=>
 bV (ldN 4 b H) fun c=>
 bR (f65 D n [c] H) fun d H=>
 bV (qL .sub d (.int .i64 (.ofNat 2))) fun e=>
 bV (qL .quo e (.int .i64 (.ofNat 2))) fun f=>
 bV (fAd 1 b) fun g=>
 bV (ld1 g H) fun h=>
 bV (lnSl h) fun i=>
 bV (qL .sub i (.int .i64 (.ofNat 1))) fun k=>
 bV (fAd 0 b) fun m=>
 bV (ld1 m H) fun o=>
 bV (aun .not o) fun p=>
 jn (cnd p (bV (qL .sub k (.int .i64 (.ofNat 1))) fun r=>
 some (.norm [b,f,r,(.int .i64 (.ofNat 16))],H))
 (some (.norm [b,f,k,(.int .i64 (.ofNat 0))],H))) (XA D n))
def h108:Hint:=(.s .o (.s .o (.s .o (.s .o (.s (.s .o (.c [1,3,4,5] (.s .o .o) .o)) (.s (.s .o (.b [4] (.l [1,3,4,5,20,21] (.s .o (.s (.cr .o .o) (.s (.b0 (.s .o (.s .o (.s (.s .o (.c [1,3,4,5,6,20,21] .o .o)) (.s .o (.cl (.s .o .o) .o)))))) .o)))))) (.s .o .o)))))))
theorem zD3 {D:Dyn}(hD:DG D)(n:Nat):FI 108 (zFe D n):=qP (n:=n) (h:=h108) X_ok hD (sc (BP hD n) (SOk.nil)) Tryz.func108 (by kernel_rfl) (by kernel_rfl)
def s49 (D:Dyn)(n:Nat):Tb:=⟨X,[]⟩
def f49 (D:Dyn)(n:Nat)(vs:List AV)(H:AH):Option (AV×AH):=
 yR (hd vs fun a vs=>nl vs <|
 bV (xJ .eql (eqS a .nilSlice)) fun b=>
 cnd b (bV (some .nilSlice) fun c=>some (.ret c,H))
 (bA (xX 9 1 0 [(.str 0 0)] []) H fun d H=>
 bR (apP 9 1 16 d a H) fun e H=>
 bV (some e) fun f=>some (.ret f,H)))
def h49:Hint:=(.s .o (.s (.s .o (.cl (.s .o .o) .o)) (.s .o .o)))
theorem BQ {D:Dyn}(hD:DG D)(n:Nat):FI 49 (f49 D n):=qP (n:=n) (h:=h49) X_ok hD (SOk.nil) Tryz.func49 (by kernel_rfl) (by kernel_rfl)
def s92 (D:Dyn)(n:Nat):Tb:=⟨X,[(47,f47 D n),(108,zFe D n),(49,f49 D n),(74,f74 D n)]⟩
def zHJ (D:Dyn)(n:Nat)(vs:List AV)(H:AH):Rs:=
 hd vs fun a vs=>hd vs fun b vs=>hd vs fun c vs=>hd vs fun d vs=>
 bV (ldN 4 b H) fun e=>
 bV (fAd 1 a) fun f=>
 bV (ld1 f H) fun g=>
 bV (jP 1 g d) fun h=>
 bV (ld1 h H) fun i=>
 bV (ldN 4 c H) fun k=>
 bR (stN 4 b e H) fun m H=>chk (ld1 f H) g <| chk (ld1 h H) i <| chk (ldN 4 c H) k <|
 bR (stN 4 c k H) fun o H=>
 bV (ldN 4 b H) fun p=>bV (some i) fun r=>bV (ldN 4 c H) fun t=>bV (some (.int .i64 (.ofNat 0))) fun u=>some (.ret (.tuple [p,r,t,u]),H)
def f92 (D:Dyn)(n:Nat)(vs:List AV)(H:AH):Option (AV×AH):=
 yR (hd vs fun a vs=>nl vs <|
 bA (bxV 61 a) H fun b H=>
 bA (bxV 61 (.agg [(.bool false), .nilSlice, .nilSlice, .nilSlice])) H fun c H=>
 bA (bxV 61 (.agg [(.bool false), .nilSlice, .nilSlice, .nilSlice])) H fun d H=>
 bV (ldN 4 b H) fun e=>
 bR (f47 D n [e] H) fun f H=>
 bV (aun .not f) fun g=>
 jn (wnt g false (bV (fAd 1 b) fun h=>
 bV (ld1 h H) fun i=>
 bV (lnSl i) fun k=>
 bV (qL .lss k (.int .i64 (.ofNat 2))) fun m=>
 some (.norm [m],H)) (some (.norm [qI],H))) fun vs H=>hd vs fun o vs=>
 bV (pk3 (some g) (some (.bool true)) (some o)) fun p=>
 jn (wnt p false (bV (fAd 0 b) fun r=>
 bV (ld1 r H) fun t=>
 bV (aun .not t) fun u=>
 some (.norm [u],H)) (some (.norm [qI],H))) fun vs H=>hd vs fun v vs=>
 jn (wnt v true (bV (fAd 1 b) fun w=>
 bV (ld1 w H) fun x=>
 bV (lnSl x) fun y=>
 bV (qL .lss y (.int .i64 (.ofNat 3))) fun z=>
 some (.norm [z],H)) (some (.norm [qI],H))) fun vs H=>hd vs fun B vs=>
 jn (wnt p false (bV (pk3 (some v) (some B) (some (.bool false))) fun C=>
 some (.norm [C],H)) (some (.norm [qI],H))) fun vs H=>hd vs fun E vs=>
 bV (pk3 (some p) (some (.bool true)) (some E)) fun F=>
 cnd F (bV (kJ [(0,1),(1,1),(2,1),(3,1)] [(.bool false), .nilSlice, .nilSlice, .nilSlice] []) fun G=>
 bV (kJ [(0,1),(1,1),(2,1),(3,1)] [(.bool false), .nilSlice, .nilSlice, .nilSlice] []) fun I=>
 bR (stN 4 c G H) fun J H=>
 bR (stN 4 d I H) fun K H=>
 bV (ldN 4 c H) fun M=>bV (some (.str 0 0)) fun N=>bV (ldN 4 d H) fun O=>bV (some (.int .i64 (.ofNat 1))) fun P=>some (.ret (.tuple [M,N,O,P]),H))
 (bV (ldN 4 b H) fun Q=>
 bR (zFe D n [Q] H) fun R H=>
 bV (fAd 0 b) fun T=>
 bV (ld1 T H) fun U=>
 bV (fAd 0 b) fun V=>
 bV (ld1 V H) fun W=>
 bV (fAd 0 c) fun Y=>
 bR (stN 1 Y U H) fun Z H=>chk (ld1 V H) W <|
 bV (fAd 0 d) fun a0=>
 bR (stN 1 a0 W H) fun a1 H=>
 bV (fAd 1 b) fun a2=>
 bV (ld1 a2 H) fun a3=>
 bV (jF 1 a3 none (some R) (some R) H) fun a4=>
 bR (f49 D n [a4] H) fun a5 H=>
 bV (fAd 1 c) fun a6=>
 bR (stN 1 a6 a5 H) fun a7 H=>
 bV (fAd 0 b) fun a8=>
 bV (ld1 a8 H) fun a9=>
 jn (cnd a9 (bV (fAd 1 b) fun b0=>
 bV (ld1 b0 H) fun b1=>
 bV (jF 1 b1 (some R) none none H) fun b2=>
 bR (f49 D n [b2] H) fun b3 H=>
 bV (fAd 1 d) fun b4=>
 bR (stN 1 b4 b3 H) fun b5 H=>
 bV (fAd 2 b) fun b6=>
 bV (ld1 b6 H) fun b7=>
 bV (jF 1 b7 none (some R) (some R) H) fun b8=>
 bV (fAd 2 b) fun b9=>
 bV (ld1 b9 H) fun c0=>
 bV (jF 1 c0 (some R) none none H) fun c1=>
 bR (f49 D n [b8] H) fun c2 H=>chk (ld1 b9 H) c0 <| chk (jF 1 c0 (some R) none none H) c1 <|
 bV (fAd 2 c) fun c3=>
 bR (f49 D n [c1] H) fun c4 H=>
 bR (stN 1 c3 c2 H) fun c5 H=>
 bV (fAd 2 d) fun c6=>
 bR (stN 1 c6 c4 H) fun c7 H=>
 some (.norm [b,c,d,R],H))
 (bV (fAd 1 b) fun c8=>
 bV (ld1 c8 H) fun c9=>
 bV (qL .add R (.int .i64 (.ofNat 1))) fun d0=>
 bV (jF 1 c9 (some d0) none none H) fun d1=>
 bR (f49 D n [d1] H) fun d2 H=>
 bV (fAd 1 d) fun d3=>
 bR (stN 1 d3 d2 H) fun d4 H=>
 bV (fAd 3 b) fun d5=>
 bV (ld1 d5 H) fun d6=>
 bV (qL .add R (.int .i64 (.ofNat 1))) fun d7=>
 bV (qL .add R (.int .i64 (.ofNat 1))) fun d8=>
 bV (jF 3 d6 none (some d7) (some d8) H) fun d9=>
 bV (fAd 3 b) fun e0=>
 bV (ld1 e0 H) fun e1=>
 bV (qL .add R (.int .i64 (.ofNat 1))) fun e2=>
 bV (jF 3 e1 (some e2) none none H) fun e3=>
 bR (f74 D n [d9] H) fun e4 H=>chk (ld1 e0 H) e1 <| chk (jF 3 e1 (some e2) none none H) e3 <|
 bV (fAd 3 c) fun e5=>
 bR (f74 D n [e3] H) fun e6 H=>
 bR (stN 1 e5 e4 H) fun e7 H=>
 bV (fAd 3 d) fun e8=>
 bR (stN 1 e8 e6 H) fun e9 H=>
 some (.norm [b,c,d,R],H))) (zHJ D n)))
def h92:Hint:=(.s .o (.s (.s .o (.cl (.s .o .o) .o)) (.s .o (.s .o (.s .o (.s (.s .o (.c [1,2,4,6] (.s .o .o) (.s .o .o))) (.s .o .o)))))))
theorem zG5 {D:Dyn}(hD:DG D)(n:Nat):FI 92 (f92 D n):=qP (n:=n) (h:=h92) X_ok hD (sc (WW hD n) (sc (zD3 hD n) (sc (BQ hD n) (sc (BN hD n) (SOk.nil))))) Tryz.func92 (by kernel_rfl) (by kernel_rfl)
def s67 (D:Dyn)(n:Nat):Tb:=⟨X,[(65,f65 D n),(92,f92 D n)]⟩
def zFb (D:Dyn)(n:Nat)(vs:List AV)(H:AH):Rs:=
 hd vs fun a vs=>hd vs fun b vs=>hd vs fun c vs=>
 bV (ldN 4 a H) fun d=>
 bR (f65 D n [d] H) fun e H=>
 bV (qL .gtr e (.int .i64 (.ofNat 500))) fun f=>
 cnd f (bV (ldN 4 a H) fun g=>
 bR (f92 D n [g] H) fun h H=>
 bV (qH h 0) fun i=>
 bV (qH h 1) fun k=>
 bV (qH h 2) fun m=>
 bV (qH h 3) fun o=>
 bA (bxV 61 (.agg [(.bool false), .nilSlice, .nilSlice, .nilSlice])) H fun p H=>
 bA (bxV 61 (.agg [(.bool false), .nilSlice, .nilSlice, .nilSlice])) H fun r H=>
 bR (stN 4 p i H) fun t H=>
 bR (stN 4 r m H) fun u H=>
 bV (qL .neq o (.int .i64 (.ofNat 0))) fun v=>
 cnd v (bV (some .nilSlice) fun w=>bV (some .nilSlice) fun x=>bV (some (.int .i64 (.ofNat 4))) fun y=>some (.ret (.tuple [w,x,y]),H))
 (bV (ldN 4 p H) fun z=>
 bA (xX 61 4 1 [(.bool false), .nilSlice, .nilSlice, .nilSlice] [(0,z)]) H fun B H=>
 bR (apP 61 4 80 b B H) fun C H=>
 bA (xX 9 1 1 [(.str 0 0)] [(0,k)]) H fun E H=>
 bR (apP 9 1 16 c E H) fun F H=>
 bV (ldN 4 r H) fun G=>
 bR (stN 4 a G H) fun I H=>
 some (.norm [a,C,F],H)))
 (some (.exit 0 [a,b,c],H))
def zJE (D:Dyn)(n:Nat)(vs:List AV)(H:AH):Rs:=
 hd vs fun a vs=>hd vs fun b vs=>hd vs fun c vs=>
 bV (ldN 4 a H) fun d=>
 bA (xX 61 4 1 [(.bool false), .nilSlice, .nilSlice, .nilSlice] [(0,d)]) H fun e H=>
 bR (apP 61 4 80 b e H) fun f H=>
 bV (some f) fun g=>bV (some c) fun h=>bV (some (.int .i64 (.ofNat 0))) fun i=>some (.ret (.tuple [g,h,i]),H)
def f67 (D:Dyn)(n:Nat)(vs:List AV)(H:AH):Option (AV×AH):=
 yR (hd vs fun a vs=>nl vs <|
 bA (bxV 61 a) H fun b H=>
 jb 0 (qW n (zFb D n) [b, .nilSlice, .nilSlice] H) (zJE D n))
def h67:Hint:=(.s .o (.s .o (.s .o (.s (.b [1,5,6] (.l [1,5,6] (.s (.s .o (.cr .o .o)) (.b0 (.s .o (.s (.s .o (.cl (.s .o .o) .o)) (.s .o (.s .o .o)))))))) (.s .o .o)))))
theorem zCD {D:Dyn}(hD:DG D)(n:Nat):FI 67 (f67 D n):=qP (n:=n) (h:=h67) X_ok hD (sc (BP hD n) (sc (zG5 hD n) (SOk.nil))) Tryz.func67 (by kernel_rfl) (by kernel_rfl)
def s70 (D:Dyn)(n:Nat):Tb:=⟨X,[(42,f42 D n)]⟩
def zCy (D:Dyn)(n:Nat)(vs:List AV)(H:AH):Rs:=
 hd vs fun a vs=>hd vs fun b vs=>hd vs fun c vs=>hd vs fun d vs=>hd vs fun e vs=>
 bV (qL .lss e d) fun f=>
 cnd f (bV (jP 4 c e) fun g=>
 bV (ldN 4 g H) fun h=>
 bA (bxV 61 (.agg [(.bool false), .nilSlice, .nilSlice, .nilSlice])) H fun i H=>
 bR (stN 4 i h H) fun k H=>
 bV (ldN 4 i H) fun m=>
 bR (f42 D n [a,m] H) fun o H=>
 bA (xX 57 3 1 [(.int .i64 (.ofNat 0)),(.int .i64 (.ofNat 0)),(.int .u64 (.ofNat 0))] [(0,o)]) H fun p H=>
 bR (apP 57 3 24 b p H) fun r H=>
 bV (qL .add e (.int .i64 (.ofNat 1))) fun t=>
 some (.norm [a,r,c,d,t],H))
 (some (.exit 0 [b],H))
def zJx (D:Dyn)(n:Nat)(vs:List AV)(H:AH):Rs:=
 hd vs fun a vs=>
 bV (some a) fun b=>some (.ret b,H)
def f70 (D:Dyn)(n:Nat)(vs:List AV)(H:AH):Option (AV×AH):=
 yR (hd vs fun a vs=>hd vs fun b vs=>nl vs <|
 bV (lnSl b) fun c=>
 jb 0 (qW n (zCy D n) [a, .nilSlice,b,c,(.int .i64 (.ofNat 0))] H) (zJx D n))
def h70:Hint:=(.s .o (.s .o (.s (.s .o (.b [5] (.l [0,5,8,9,10] (.s .o (.s (.cr .o .o) (.s (.b0 (.s .o .o)) .o)))))) (.s .o .o))))
theorem zCz {D:Dyn}(hD:DG D)(n:Nat):FI 70 (f70 D n):=qP (n:=n) (h:=h70) X_ok hD (sc (BS hD n) (SOk.nil)) Tryz.func70 (by kernel_rfl) (by kernel_rfl)
def s46 (D:Dyn)(n:Nat):Tb:=⟨X,[(41,f41 D n),(67,f67 D n),(70,f70 D n),(42,f42 D n)]⟩
def zHP (D:Dyn)(n:Nat)(vs:List AV)(H:AH):Rs:=
 bV (some (.int .i64 (.ofNat 0))) fun a=>some (.ret a,H)
def zHO (D:Dyn)(n:Nat)(vs:List AV)(H:AH):Rs:=
 bV (some (.int .i64 (.ofNat 0))) fun a=>some (.ret a,H)
def f46 (D:Dyn)(n:Nat)(vs:List AV)(H:AH):Option (AV×AH):=
 yR (hd vs fun a vs=>hd vs fun b vs=>nl vs <|
 bA (bxV 61 b) H fun c H=>
 bV (fAd 1 c) fun d=>
 bV (ld1 d H) fun e=>
 bV (lnSl e) fun f=>
 bV (qL .eql f (.int .i64 (.ofNat 0))) fun g=>
 cnd g (bV (fAd 0 c) fun h=>
 bV (ld1 h H) fun i=>
 jn (cnd i (bV (kJ [(0,1),(1,1),(2,1)] [(.int .i64 (.ofNat 0)),(.int .i64 (.ofNat 0)),(.int .u64 (.ofNat 0))] []) fun k=>
 bR (f41 D n [a,k] H) fun m H=>
 some (.norm [],H))
 (bV (fAd 3 c) fun o=>
 bV (ld1 o H) fun p=>
 bV (jP 3 p (.int .i64 (.ofNat 0))) fun r=>
 bV (ldN 3 r H) fun t=>
 bR (f41 D n [a,t] H) fun u H=>
 some (.norm [],H))) (zHP D n))
 (bV (ldN 4 c H) fun v=>
 bR (f67 D n [v] H) fun w H=>
 bV (qH w 0) fun x=>
 bV (qH w 1) fun y=>
 bV (qH w 2) fun z=>
 bV (qL .neq z (.int .i64 (.ofNat 0))) fun B=>
 cnd B (bV (some z) fun C=>some (.ret C,H))
 (bR (f70 D n [a,x] H) fun E H=>
 bV (lnSl E) fun F=>
 bV (qL .eql F (.int .i64 (.ofNat 1))) fun G=>
 jn (cnd G (bV (jP 3 E (.int .i64 (.ofNat 0))) fun I=>
 bV (ldN 3 I H) fun J=>
 bR (f41 D n [a,J] H) fun K H=>
 some (.norm [],H))
 (bV (kJ [(0,1),(1,1),(2,1),(3,1)] [(.bool false), .nilSlice, .nilSlice, .nilSlice] [(1,y),(3,E)]) fun M=>
 bR (f42 D n [a,M] H) fun N H=>
 bR (f41 D n [a,N] H) fun O H=>
 some (.norm [],H))) (zHO D n))))
def h46:Hint:=(.s .o (.s (.s .o (.cl (.s (.s .o (.c [] .o .o)) (.s .o .o)) .o)) (.s .o (.s (.s .o (.cl (.s .o .o) .o)) (.s .o (.s (.s .o (.c [] .o .o)) (.s .o .o)))))))
theorem zGk {D:Dyn}(hD:DG D)(n:Nat):FI 46 (f46 D n):=qP (n:=n) (h:=h46) X_ok hD (sc (zCQ hD n) (sc (zCD hD n) (sc (zCz hD n) (sc (BS hD n) (SOk.nil))))) Tryz.func46 (by kernel_rfl) (by kernel_rfl)
def s45 (D:Dyn)(n:Nat):Tb:=⟨X,[]⟩
def f45 (D:Dyn)(n:Nat)(vs:List AV)(H:AH):Option (AV×AH):=
 yR (hd vs fun a vs=>hd vs fun b vs=>nl vs <|
 bA (bxV 57 b) H fun c H=>
 bV (kI a) fun d=>
 bV (fAd 3 d) fun e=>
 bV (ld1 e H) fun f=>
 bV (ldN 3 c H) fun g=>
 bA (xX 57 3 1 [(.int .i64 (.ofNat 0)),(.int .i64 (.ofNat 0)),(.int .u64 (.ofNat 0))] [(0,g)]) H fun h H=>
 bR (apP 57 3 24 f h H) fun i H=>
 bV (kI a) fun k=>
 bV (fAd 3 k) fun m=>
 bR (stN 1 m i H) fun o H=>
 some (.ret (.tuple []),H))
def h45:Hint:=(.s .o .o)
theorem zCL {D:Dyn}(hD:DG D)(n:Nat):FI 45 (f45 D n):=qP (n:=n) (h:=h45) X_ok hD (SOk.nil) Tryz.func45 (by kernel_rfl) (by kernel_rfl)
def s91 (D:Dyn)(n:Nat):Tb:=⟨X,[(48,f48 D n)]⟩
def f91 (D:Dyn)(n:Nat)(vs:List AV)(H:AH):Option (AV×AH):=
 yR (hd vs fun a vs=>hd vs fun b vs=>hd vs fun c vs=>nl vs <|
 bA (bxV 61 a) H fun d H=>
 bA (bxV 61 c) H fun e H=>
 bR (f48 D n [b] H) fun f H=>
 bV (aun .not f) fun g=>
 jn (wnt g false (bV (fAd 0 d) fun h=>
 bV (ld1 h H) fun i=>
 bV (fAd 0 e) fun k=>
 bV (ld1 k H) fun m=>
 bV (JZ .neq i m) fun o=>
 some (.norm [o],H)) (some (.norm [qI],H))) fun vs H=>hd vs fun p vs=>
 bV (pk3 (some g) (some (.bool true)) (some p)) fun r=>
 cnd r (bV (some (.bool false)) fun t=>some (.ret t,H))
 (bV (fAd 1 d) fun u=>
 bV (ld1 u H) fun v=>
 bV (lnSl v) fun w=>
 bV (qL .gtr w (.int .i64 (.ofNat 0))) fun x=>
 jn (wnt x true (bV (fAd 1 d) fun y=>
 bV (ld1 y H) fun z=>
 bV (qL .sub w (.int .i64 (.ofNat 1))) fun B=>
 bV (jP 1 z B) fun C=>
 bV (ld1 C H) fun E=>
 bV (kX .geq E b) fun F=>
 some (.norm [F],H)) (some (.norm [qI],H))) fun vs H=>hd vs fun G vs=>
 bV (pk3 (some x) (some G) (some (.bool false))) fun I=>
 cnd I (bV (some (.bool false)) fun J=>some (.ret J,H))
 (bV (fAd 1 e) fun K=>
 bV (ld1 K H) fun M=>
 bV (lnSl M) fun N=>
 bV (qL .eql N (.int .i64 (.ofNat 0))) fun O=>
 cnd O (bV (some (.bool true)) fun P=>some (.ret P,H))
 (bV (fAd 1 e) fun Q=>
 bV (ld1 Q H) fun R=>
 bV (jP 1 R (.int .i64 (.ofNat 0))) fun T=>
 bV (ld1 T H) fun U=>
 bV (kX .lss b U) fun V=>
 jn (wnt V false (bV (fAd 0 d) fun W=>
 bV (ld1 W H) fun Y=>
 some (.norm [Y],H)) (some (.norm [qI],H))) fun vs H=>hd vs fun Z vs=>
 jn (wnt Z true (bV (fAd 1 e) fun a0=>
 bV (ld1 a0 H) fun a1=>
 bV (jP 1 a1 (.int .i64 (.ofNat 0))) fun a2=>
 bV (ld1 a2 H) fun a3=>
 bV (kX .eql b a3) fun a4=>
 some (.norm [a4],H)) (some (.norm [qI],H))) fun vs H=>hd vs fun a5 vs=>
 jn (wnt V false (bV (pk3 (some Z) (some a5) (some (.bool false))) fun a6=>
 some (.norm [a6],H)) (some (.norm [qI],H))) fun vs H=>hd vs fun a7 vs=>
 bV (pk3 (some V) (some (.bool true)) (some a7)) fun a8=>
 bV (some a8) fun a9=>some (.ret a9,H)))))
def h91:Hint:=(.s .o (.s (.s .o (.cl (.s .o .o) .o)) (.s (.s .o (.s .o (.cl (.s .o .o) .o))) (.s (.s .o (.cl (.s .o .o) .o)) (.s .o .o)))))
theorem zG6 {D:Dyn}(hD:DG D)(n:Nat):FI 91 (f91 D n):=qP (n:=n) (h:=h91) X_ok hD (sc (BR hD n) (SOk.nil)) Tryz.func91 (by kernel_rfl) (by kernel_rfl)
def s93 (D:Dyn)(n:Nat):Tb:=⟨X,[]⟩
def zHI (D:Dyn)(n:Nat)(vs:List AV)(H:AH):Rs:=
 hd vs fun a vs=>
 bV (some a) fun b=>some (.ret b,H)
def zHH (D:Dyn)(n:Nat)(vs:List AV)(H:AH):Rs:=
 hd vs fun a vs=>hd vs fun b vs=>
 bV (zAU X 44 a) fun c=>
 bV (lnSl a) fun d=>
 bV (qL .sub c d) fun e=>
 bV (qL .sub b e) fun f=>
 bV (qL .gtr f (.int .i64 (.ofNat 0))) fun g=>
 jn (cnd g (bV (zAU X 44 a) fun h=>
 bV (jF 1 a none (some h) none H) fun i=>
 bR (apZ 9 1 16 [(.str 0 0)] i f H) fun k H=>
 bV (lnSl a) fun m=>
 bV (jF 1 k none (some m) none H) fun o=>
 some (.norm [o],H))
 (some (.norm [a],H))) (zHI D n)
def f93 (D:Dyn)(n:Nat)(vs:List AV)(H:AH):Option (AV×AH):=
 yR (hd vs fun a vs=>hd vs fun b vs=>nl vs <|
 bV (qL .lss b (.int .i64 (.ofNat 0))) fun c=>
 jn (cnd c (none)
 (some (.norm [a,b],H))) (zHH D n))
def h93:Hint:=(.s .o (.s (.s .o (.c [0,1] .o .o)) (.s (.s .o (.s .o (.c [0] .o .o))) (.s .o .o))))
theorem zG4 {D:Dyn}(hD:DG D)(n:Nat):FI 93 (f93 D n):=qP (n:=n) (h:=h93) X_ok hD (SOk.nil) Tryz.func93 (by kernel_rfl) (by kernel_rfl)
def s68 (D:Dyn)(n:Nat):Tb:=⟨X,[(93,f93 D n)]⟩
def zJB (D:Dyn)(n:Nat)(vs:List AV)(H:AH):Rs:=
 hd vs fun a vs=>hd vs fun b vs=>hd vs fun c vs=>hd vs fun d vs=>hd vs fun e vs=>
 bV (qL .add e (.int .i64 (.ofNat 1))) fun f=>
 some (.norm [a,b,c,d,f],H)
def zFa (D:Dyn)(n:Nat)(vs:List AV)(H:AH):Rs:=
 hd vs fun a vs=>hd vs fun b vs=>hd vs fun c vs=>hd vs fun d vs=>hd vs fun e vs=>
 bV (qL .lss e d) fun f=>
 cnd f (bV (jP 1 c e) fun g=>
 bV (ld1 g H) fun h=>
 bV (lnSl h) fun i=>
 bV (qL .add b i) fun k=>
 bV (qL .lss k (.int .i64 (.ofNat 0))) fun m=>
 jn (cnd m (none)
 (some (.norm [a,k,c,d,e],H))) (zJB D n))
 (some (.exit 0 [a,b],H))
def zCC (D:Dyn)(n:Nat)(vs:List AV)(H:AH):Rs:=
 hd vs fun a vs=>hd vs fun b vs=>hd vs fun c vs=>hd vs fun d vs=>
 bV (qL .lss d c) fun e=>
 cnd e (bV (jP 1 b d) fun f=>
 bV (ld1 f H) fun g=>
 bR (apP 9 1 16 a g H) fun h H=>
 bV (qL .add d (.int .i64 (.ofNat 1))) fun i=>
 some (.norm [h,b,c,i],H))
 (some (.exit 2 [a],H))
def zJD (D:Dyn)(n:Nat)(vs:List AV)(H:AH):Rs:=
 hd vs fun a vs=>
 bV (some a) fun b=>some (.ret b,H)
def zJC (D:Dyn)(n:Nat)(vs:List AV)(H:AH):Rs:=
 hd vs fun a vs=>hd vs fun b vs=>
 bR (f93 D n [.nilSlice,b] H) fun c H=>
 bV (lnSl a) fun d=>
 jb 2 (qW n (zCC D n) [c,a,d,(.int .i64 (.ofNat 0))] H) (zJD D n)
def f68 (D:Dyn)(n:Nat)(vs:List AV)(H:AH):Option (AV×AH):=
 yR (hd vs fun a vs=>nl vs <|
 bV (lnSl a) fun b=>
 jb 0 (qW n (zFa D n) [a,(.int .i64 (.ofNat 0)),a,b,(.int .i64 (.ofNat 0))] H) (zJC D n))
def h68:Hint:=(.s .o (.s .o (.s (.s .o (.b [0,3] (.l [0,3,9,10,11] (.s .o (.s (.cr .o .o) (.s (.b0 (.s .o (.s .o (.s .o (.c [0,3,9,10,11] .o .o))))) .o)))))) (.s .o (.s (.s .o (.b [6] (.l [6,25,26,27] (.s .o (.s (.cr .o .o) (.s (.b0 (.s .o .o)) .o)))))) (.s .o .o))))))
theorem BO {D:Dyn}(hD:DG D)(n:Nat):FI 68 (f68 D n):=qP (n:=n) (h:=h68) X_ok hD (sc (zG4 hD n) (SOk.nil)) Tryz.func68 (by kernel_rfl) (by kernel_rfl)
def s94 (D:Dyn)(n:Nat):Tb:=⟨X,[]⟩
def zHG (D:Dyn)(n:Nat)(vs:List AV)(H:AH):Rs:=
 hd vs fun a vs=>
 bV (some a) fun b=>some (.ret b,H)
def zHF (D:Dyn)(n:Nat)(vs:List AV)(H:AH):Rs:=
 hd vs fun a vs=>hd vs fun b vs=>
 bV (zAU X 59 a) fun c=>
 bV (lnSl a) fun d=>
 bV (qL .sub c d) fun e=>
 bV (qL .sub b e) fun f=>
 bV (qL .gtr f (.int .i64 (.ofNat 0))) fun g=>
 jn (cnd g (bV (zAU X 59 a) fun h=>
 bV (jF 3 a none (some h) none H) fun i=>
 bR (apZ 57 3 24 [(.int .i64 (.ofNat 0)),(.int .i64 (.ofNat 0)),(.int .u64 (.ofNat 0))] i f H) fun k H=>
 bV (lnSl a) fun m=>
 bV (jF 3 k none (some m) none H) fun o=>
 some (.norm [o],H))
 (some (.norm [a],H))) (zHG D n)
def f94 (D:Dyn)(n:Nat)(vs:List AV)(H:AH):Option (AV×AH):=
 yR (hd vs fun a vs=>hd vs fun b vs=>nl vs <|
 bV (qL .lss b (.int .i64 (.ofNat 0))) fun c=>
 jn (cnd c (none)
 (some (.norm [a,b],H))) (zHF D n))
def h94:Hint:=(.s .o (.s (.s .o (.c [0,1] .o .o)) (.s (.s .o (.s .o (.c [0] .o .o))) (.s .o .o))))
theorem zG3 {D:Dyn}(hD:DG D)(n:Nat):FI 94 (f94 D n):=qP (n:=n) (h:=h94) X_ok hD (SOk.nil) Tryz.func94 (by kernel_rfl) (by kernel_rfl)
def s69 (D:Dyn)(n:Nat):Tb:=⟨X,[(94,f94 D n)]⟩
def zJy (D:Dyn)(n:Nat)(vs:List AV)(H:AH):Rs:=
 hd vs fun a vs=>hd vs fun b vs=>hd vs fun c vs=>hd vs fun d vs=>hd vs fun e vs=>
 bV (qL .add e (.int .i64 (.ofNat 1))) fun f=>
 some (.norm [a,b,c,d,f],H)
def zF9 (D:Dyn)(n:Nat)(vs:List AV)(H:AH):Rs:=
 hd vs fun a vs=>hd vs fun b vs=>hd vs fun c vs=>hd vs fun d vs=>hd vs fun e vs=>
 bV (qL .lss e d) fun f=>
 cnd f (bV (jP 1 c e) fun g=>
 bV (ld1 g H) fun h=>
 bV (lnSl h) fun i=>
 bV (qL .add b i) fun k=>
 bV (qL .lss k (.int .i64 (.ofNat 0))) fun m=>
 jn (cnd m (none)
 (some (.norm [a,k,c,d,e],H))) (zJy D n))
 (some (.exit 0 [a,b],H))
def zCA (D:Dyn)(n:Nat)(vs:List AV)(H:AH):Rs:=
 hd vs fun a vs=>hd vs fun b vs=>hd vs fun c vs=>hd vs fun d vs=>
 bV (qL .lss d c) fun e=>
 cnd e (bV (jP 1 b d) fun f=>
 bV (ld1 f H) fun g=>
 bR (apP 57 3 24 a g H) fun h H=>
 bV (qL .add d (.int .i64 (.ofNat 1))) fun i=>
 some (.norm [h,b,c,i],H))
 (some (.exit 2 [a],H))
def zJA (D:Dyn)(n:Nat)(vs:List AV)(H:AH):Rs:=
 hd vs fun a vs=>
 bV (some a) fun b=>some (.ret b,H)
def zJz (D:Dyn)(n:Nat)(vs:List AV)(H:AH):Rs:=
 hd vs fun a vs=>hd vs fun b vs=>
 bR (f94 D n [.nilSlice,b] H) fun c H=>
 bV (lnSl a) fun d=>
 jb 2 (qW n (zCA D n) [c,a,d,(.int .i64 (.ofNat 0))] H) (zJA D n)
def f69 (D:Dyn)(n:Nat)(vs:List AV)(H:AH):Option (AV×AH):=
 yR (hd vs fun a vs=>nl vs <|
 bV (lnSl a) fun b=>
 jb 0 (qW n (zF9 D n) [a,(.int .i64 (.ofNat 0)),a,b,(.int .i64 (.ofNat 0))] H) (zJz D n))
def h69:Hint:=(.s .o (.s .o (.s (.s .o (.b [0,3] (.l [0,3,9,10,11] (.s .o (.s (.cr .o .o) (.s (.b0 (.s .o (.s .o (.s .o (.c [0,3,9,10,11] .o .o))))) .o)))))) (.s .o (.s (.s .o (.b [6] (.l [6,25,26,27] (.s .o (.s (.cr .o .o) (.s (.b0 (.s .o .o)) .o)))))) (.s .o .o))))))
theorem zCB {D:Dyn}(hD:DG D)(n:Nat):FI 69 (f69 D n):=qP (n:=n) (h:=h69) X_ok hD (sc (zG3 hD n) (SOk.nil)) Tryz.func69 (by kernel_rfl) (by kernel_rfl)
def s66 (D:Dyn)(n:Nat):Tb:=⟨X,[(47,f47 D n),(91,f91 D n),(68,f68 D n),(69,f69 D n)]⟩
def f66 (D:Dyn)(n:Nat)(vs:List AV)(H:AH):Option (AV×AH):=
 yR (hd vs fun a vs=>hd vs fun b vs=>hd vs fun c vs=>nl vs <|
 bA (bxV 61 a) H fun d H=>
 bA (bxV 61 c) H fun e H=>
 bA (bxV 61 (.agg [(.bool false), .nilSlice, .nilSlice, .nilSlice])) H fun f H=>
 bV (ldN 4 d H) fun g=>
 bR (f47 D n [g] H) fun h H=>
 bV (aun .not h) fun i=>
 jn (wnt i false (bV (ldN 4 e H) fun k=>
 bR (f47 D n [k] H) fun m H=>
 bV (aun .not m) fun o=>
 some (.norm [o],H)) (some (.norm [qI],H))) fun vs H=>hd vs fun p vs=>
 bV (pk3 (some i) (some (.bool true)) (some p)) fun r=>
 jn (wnt r false (bV (ldN 4 d H) fun t=>
 bV (ldN 4 e H) fun u=>
 bR (f91 D n [t,b,u] H) fun v H=>
 bV (aun .not v) fun w=>
 some (.norm [w],H)) (some (.norm [qI],H))) fun vs H=>hd vs fun x vs=>
 bV (pk3 (some r) (some (.bool true)) (some x)) fun y=>
 cnd y (bV (kJ [(0,1),(1,1),(2,1),(3,1)] [(.bool false), .nilSlice, .nilSlice, .nilSlice] []) fun z=>
 bR (stN 4 f z H) fun B H=>
 bV (ldN 4 f H) fun C=>bV (some (.int .i64 (.ofNat 1))) fun E=>some (.ret (.tuple [C,E]),H))
 (bV (fAd 0 d) fun F=>
 bV (ld1 F H) fun G=>
 cnd G (bV (fAd 1 d) fun I=>
 bV (ld1 I H) fun J=>
 bV (fAd 1 e) fun K=>
 bV (ld1 K H) fun M=>
 bA (xX 44 1 2 [.nilSlice] [(0,J),(1,M)]) H fun N H=>
 bV (fAd 2 d) fun O=>
 bV (ld1 O H) fun P=>
 bV (fAd 2 e) fun Q=>
 bV (ld1 Q H) fun R=>
 bA (xX 44 1 2 [.nilSlice] [(0,P),(1,R)]) H fun T H=>
 bR (f68 D n [N] H) fun U H=>chk (ld1 O H) P <| chk (ld1 Q H) R <|
 bR (f68 D n [T] H) fun V H=>
 bV (kJ [(0,1),(1,1),(2,1),(3,1)] [(.bool false), .nilSlice, .nilSlice, .nilSlice] [(0,(.bool true)),(1,U),(2,V)]) fun W=>
 bR (stN 4 f W H) fun Y H=>
 bV (ldN 4 f H) fun Z=>bV (some (.int .i64 (.ofNat 0))) fun a0=>some (.ret (.tuple [Z,a0]),H))
 (bV (fAd 1 d) fun a1=>
 bV (ld1 a1 H) fun a2=>
 bA (xX 9 1 1 [(.str 0 0)] [(0,b)]) H fun a3 H=>
 bV (fAd 1 e) fun a4=>
 bV (ld1 a4 H) fun a5=>
 bA (xX 44 1 3 [.nilSlice] [(0,a2),(1,a3),(2,a5)]) H fun a6 H=>
 bV (fAd 3 d) fun a7=>
 bV (ld1 a7 H) fun a8=>
 bV (fAd 3 e) fun a9=>
 bV (ld1 a9 H) fun b0=>
 bA (xX 59 1 2 [.nilSlice] [(0,a8),(1,b0)]) H fun b1 H=>
 bR (f68 D n [a6] H) fun b2 H=>chk (ld1 a7 H) a8 <| chk (ld1 a9 H) b0 <|
 bR (f69 D n [b1] H) fun b3 H=>
 bV (kJ [(0,1),(1,1),(2,1),(3,1)] [(.bool false), .nilSlice, .nilSlice, .nilSlice] [(1,b2),(3,b3)]) fun b4=>
 bR (stN 4 f b4 H) fun b5 H=>
 bV (ldN 4 f H) fun b6=>bV (some (.int .i64 (.ofNat 0))) fun b7=>some (.ret (.tuple [b6,b7]),H))))
def h66:Hint:=(.s .o (.s (.s .o (.cl (.s .o .o) .o)) (.s (.s .o (.cl (.s .o .o) .o)) (.s .o .o))))
theorem zGa {D:Dyn}(hD:DG D)(n:Nat):FI 66 (f66 D n):=qP (n:=n) (h:=h66) X_ok hD (sc (WW hD n) (sc (zG6 hD n) (sc (BO hD n) (sc (zCB hD n) (SOk.nil))))) Tryz.func66 (by kernel_rfl) (by kernel_rfl)
def s44 (D:Dyn)(n:Nat):Tb:=⟨X,[(65,f65 D n),(32,f32 D n),(45,f45 D n),(66,f66 D n),(67,f67 D n),(68,f68 D n),(70,f70 D n),(69,f69 D n)]⟩
def zHR (D:Dyn)(n:Nat)(vs:List AV)(H:AH):Rs:=
 hd vs fun a vs=>hd vs fun b vs=>hd vs fun c vs=>hd vs fun d vs=>hd vs fun e vs=>hd vs fun f vs=>hd vs fun g vs=>
 bV (qL .neq g (.int .i64 (.ofNat 0))) fun h=>
 cnd h (bV (kJ [(0,1),(1,1),(2,1),(3,1)] [(.bool false), .nilSlice, .nilSlice, .nilSlice] []) fun i=>
 bR (stN 4 d i H) fun k H=>
 bV (ldN 4 d H) fun m=>bV (some (.int .i64 (.ofNat 4))) fun o=>some (.ret (.tuple [m,o]),H))
 (some (.norm [a,b,c,d,e,f],H))
def zHQ (D:Dyn)(n:Nat)(vs:List AV)(H:AH):Rs:=
 hd vs fun a vs=>hd vs fun b vs=>hd vs fun c vs=>hd vs fun d vs=>hd vs fun e vs=>hd vs fun f vs=>
 bV (kI a) fun g=>
 bV (fAd 0 g) fun h=>
 bV (ld1 h H) fun i=>
 bV (fAd 3 c) fun k=>
 bV (ld1 k H) fun m=>
 bV (jP 3 m f) fun o=>
 bV (ldN 3 o H) fun p=>
 bA (bxV 61 (.agg [(.bool false), .nilSlice, .nilSlice, .nilSlice])) H fun r H=>
 bR (f32 D n [i,p] H) fun t H=>
 bV (qH t 0) fun u=>
 bV (qH t 1) fun v=>
 bR (stN 4 r u H) fun w H=>
 bV (qL .neq v (.int .i64 (.ofNat 0))) fun x=>
 cnd x (bV (kJ [(0,1),(1,1),(2,1),(3,1)] [(.bool false), .nilSlice, .nilSlice, .nilSlice] []) fun y=>
 bR (stN 4 e y H) fun z H=>
 bV (ldN 4 e H) fun B=>bV (some v) fun C=>some (.ret (.tuple [B,C]),H))
 (bV (fAd 3 c) fun E=>
 bV (ld1 E H) fun F=>
 bV (jP 3 F f) fun G=>
 bV (ldN 3 G H) fun I=>
 bR (f45 D n [a,I] H) fun J H=>
 bV (mn2 b f) fun K=>
 bV (mx2 b f) fun M=>
 bV (qL .add M (.int .i64 (.ofNat 1))) fun N=>
 bV (qL .lss f b) fun O=>
 jn (cnd O (bV (ldN 4 r H) fun P=>
 bV (fAd 1 c) fun Q=>
 bV (ld1 Q H) fun R=>
 bV (jP 1 R K) fun T=>
 bV (ld1 T H) fun U=>
 bV (ldN 4 d H) fun V=>
 bR (f66 D n [P,U,V] H) fun W H=>
 bV (qH W 0) fun Y=>
 bV (qH W 1) fun Z=>
 bR (stN 4 d Y H) fun a0 H=>
 some (.norm [a,c,d,e,K,N,Z],H))
 (bV (ldN 4 d H) fun a1=>
 bV (fAd 1 c) fun a2=>
 bV (ld1 a2 H) fun a3=>
 bV (jP 1 a3 K) fun a4=>
 bV (ld1 a4 H) fun a5=>
 bV (ldN 4 r H) fun a6=>
 bR (f66 D n [a1,a5,a6] H) fun a7 H=>
 bV (qH a7 0) fun a8=>
 bV (qH a7 1) fun a9=>
 bR (stN 4 d a8 H) fun b0 H=>
 some (.norm [a,c,d,e,K,N,a9],H))) (zHR D n))
def zCM (D:Dyn)(n:Nat)(vs:List AV)(H:AH):Rs:=
 hd vs fun a vs=>hd vs fun b vs=>hd vs fun c vs=>hd vs fun d vs=>hd vs fun e vs=>hd vs fun f vs=>
 bV (ldN 4 c H) fun g=>
 bR (f67 D n [g] H) fun h H=>
 bV (qH h 0) fun i=>
 bV (qH h 1) fun k=>
 bV (qH h 2) fun m=>
 bV (qL .neq m (.int .i64 (.ofNat 0))) fun o=>
 cnd o (bV (kJ [(0,1),(1,1),(2,1),(3,1)] [(.bool false), .nilSlice, .nilSlice, .nilSlice] []) fun p=>
 bR (stN 4 d p H) fun r H=>
 bV (ldN 4 d H) fun t=>bV (some m) fun u=>some (.ret (.tuple [t,u]),H))
 (bV (fAd 1 b) fun v=>
 bV (ld1 v H) fun w=>
 bV (jF 1 w none (some e) (some e) H) fun x=>
 bV (fAd 1 b) fun y=>
 bV (ld1 y H) fun z=>
 bV (qL .sub f (.int .i64 (.ofNat 1))) fun B=>
 bV (jF 1 z (some B) none none H) fun C=>
 bA (xX 44 1 3 [.nilSlice] [(0,x),(1,k),(2,C)]) H fun E H=>
 bV (fAd 3 b) fun F=>
 bV (ld1 F H) fun G=>
 bV (jF 3 G none (some e) (some e) H) fun I=>
 bV (fAd 3 b) fun J=>
 bV (ld1 J H) fun K=>
 bV (jF 3 K (some f) none none H) fun M=>
 bR (f68 D n [E] H) fun N H=>chk (ld1 F H) G <| chk (jF 3 G none (some e) (some e) H) I <| chk (ld1 J H) K <| chk (jF 3 K (some f) none none H) M <|
 bR (f70 D n [a,i] H) fun O H=>chk (ld1 F H) G <| chk (jF 3 G none (some e) (some e) H) I <| chk (ld1 J H) K <| chk (jF 3 K (some f) none none H) M <|
 bA (xX 59 1 3 [.nilSlice] [(0,I),(1,O),(2,M)]) H fun P H=>
 bR (f69 D n [P] H) fun Q H=>
 bV (kJ [(0,1),(1,1),(2,1),(3,1)] [(.bool false), .nilSlice, .nilSlice, .nilSlice] [(1,N),(3,Q)]) fun R=>
 bR (stN 4 d R H) fun T H=>
 bV (ldN 4 d H) fun U=>bV (some (.int .i64 (.ofNat 0))) fun V=>some (.ret (.tuple [U,V]),H))
def f44 (D:Dyn)(n:Nat)(vs:List AV)(H:AH):Option (AV×AH):=
 yR (hd vs fun a vs=>hd vs fun b vs=>hd vs fun c vs=>hd vs fun d vs=>nl vs <|
 bA (bxV 61 b) H fun e H=>
 bA (bxV 61 d) H fun f H=>
 bA (bxV 61 (.agg [(.bool false), .nilSlice, .nilSlice, .nilSlice])) H fun g H=>
 bV (qL .add c (.int .i64 (.ofNat 1))) fun h=>
 bV (ldN 4 f H) fun i=>
 bR (f65 D n [i] H) fun k H=>
 bV (qL .lss k (.int .i64 (.ofNat 160))) fun m=>
 jn (cnd m (bV (qL .sub c (.int .i64 (.ofNat 1))) fun o=>
 bV (qL .eql c (.int .i64 (.ofNat 0))) fun p=>
 jn (cnd p (some (.norm [a,c,e,f,g,(.int .i64 (.ofNat 1))],H))
 (some (.norm [a,c,e,f,g,o],H))) (zHQ D n))
 (some (.norm [a,e,f,g,c,h],H))) (zCM D n))
def h44:Hint:=(.s .o (.s .o (.s (.s .o (.c [0,5,7,8,10,11] (.s .o (.s (.s .o (.c [0,2,5,7,8,12] .o .o)) (.s .o (.s (.s .o (.cl (.s .o .o) .o)) (.s .o (.s .o (.s (.s .o (.c [0,5,7,8,10,11,14] .o .o)) (.s .o (.cl (.s .o .o) .o))))))))) .o)) (.s .o (.s (.s .o (.cl (.s .o .o) .o)) (.s .o .o))))))
theorem zGl {D:Dyn}(hD:DG D)(n:Nat):FI 44 (f44 D n):=qP (n:=n) (h:=h44) X_ok hD (sc (BP hD n) (sc (WZ hD n) (sc (zCL hD n) (sc (zGa hD n) (sc (zCD hD n) (sc (BO hD n) (sc (zCz hD n) (sc (zCB hD n) (SOk.nil))))))))) Tryz.func44 (by kernel_rfl) (by kernel_rfl)
def s43 (D:Dyn)(n:Nat):Tb:=⟨X,[(31,f31 D n),(32,f32 D n),(34,f34 D n),(44,f44 D n),(45,f45 D n)]⟩
def zCN (D:Dyn)(n:Nat)(vs:List AV)(H:AH):Rs:=
 hd vs fun a vs=>hd vs fun b vs=>hd vs fun c vs=>hd vs fun d vs=>hd vs fun e vs=>
 some (.norm [a,b,c,d,e],H)
def WY (D:Dyn)(n:Nat)(vs:List AV)(H:AH):Rs:=
 hd vs fun a vs=>hd vs fun b vs=>hd vs fun c vs=>hd vs fun d vs=>hd vs fun e vs=>
 bV (qL .neq e (.int .i64 (.ofNat 0))) fun f=>
 cnd f (bV (kJ [(0,1),(1,1),(2,1),(3,1)] [(.bool false), .nilSlice, .nilSlice, .nilSlice] []) fun g=>
 bR (stN 4 c g H) fun h H=>
 bV (ldN 4 c H) fun i=>bV (some e) fun k=>some (.ret (.tuple [i,k]),H))
 (bV (ld1 a H) fun m=>
 bV (ldN 3 b H) fun o=>
 bR (f45 D n [m,o] H) fun p H=>
 bV (ldN 4 d H) fun r=>
 bR (stN 4 c r H) fun t H=>
 bV (ldN 4 c H) fun u=>bV (some (.int .i64 (.ofNat 0))) fun v=>some (.ret (.tuple [u,v]),H))
def f43 (D:Dyn)(n:Nat)(vs:List AV)(H:AH):Option (AV×AH):=
 yR (hd vs fun a vs=>hd vs fun b vs=>hd vs fun c vs=>hd vs fun d vs=>hd vs fun e vs=>hd vs fun f vs=>hd vs fun g vs=>nl vs <|
 bA (bxV 57 a) H fun h H=>
 bA (bxV 61 (.agg [(.bool false), .nilSlice, .nilSlice, .nilSlice])) H fun i H=>
 bV (ld1 b H) fun k=>
 bV (qL .add k (.int .i64 (.ofNat 1))) fun m=>
 bR (stN 1 b m H) fun o H=>
 bV (ld1 b H) fun p=>
 bV (ld1 c H) fun r=>
 bR (f31 D n [r] H) fun t H=>chk (ld1 b H) p <|
 bV (qL .gtr p t) fun u=>
 cnd u (bV (kJ [(0,1),(1,1),(2,1),(3,1)] [(.bool false), .nilSlice, .nilSlice, .nilSlice] []) fun v=>
 bR (stN 4 i v H) fun w H=>
 bV (ldN 4 i H) fun x=>bV (some (.int .i64 (.ofNat 4))) fun y=>some (.ret (.tuple [x,y]),H))
 (bV (ld1 c H) fun z=>
 bV (ldN 3 h H) fun B=>
 bR (f32 D n [z,B] H) fun C H=>
 bV (qH C 0) fun E=>
 bV (qH C 1) fun F=>
 bA (bxV 61 (.agg [(.bool false), .nilSlice, .nilSlice, .nilSlice])) H fun G H=>
 bR (stN 4 G E H) fun I H=>
 bV (qL .neq F (.int .i64 (.ofNat 0))) fun J=>
 cnd J (bV (kJ [(0,1),(1,1),(2,1),(3,1)] [(.bool false), .nilSlice, .nilSlice, .nilSlice] []) fun K=>
 bR (stN 4 i K H) fun M H=>
 bV (ldN 4 i H) fun N=>bV (some F) fun O=>some (.ret (.tuple [N,O]),H))
 (bV (fAd 0 G) fun P=>
 bV (ld1 P H) fun Q=>
 jn (cnd Q (bV (ld1 d H) fun R=>
 bV (ldN 4 G H) fun T=>
 bR (callV (s43 D n).S D R [T] H) fun U H=>
 bV (qH U 0) fun V=>
 bV (qH U 1) fun W=>
 bR (stN 4 G V H) fun Y H=>
 some (.norm [g,h,i,G,W],H))
 (bV (ldN 4 G H) fun Z=>
 bV (ld1 e H) fun a0=>
 bR (f34 D n [Z,a0] H) fun a1 H=>
 bA (bxV 61 (.agg [(.bool false), .nilSlice, .nilSlice, .nilSlice])) H fun a2 H=>
 bV (ld1 f H) fun a3=>
 bV (fAd 3 G) fun a4=>
 bV (ld1 a4 H) fun a5=>
 bV (jP 3 a5 a1) fun a6=>
 bV (ldN 3 a6 H) fun a7=>
 bR (callV (s43 D n).S D a3 [a7] H) fun a8 H=>
 bV (qH a8 0) fun a9=>
 bV (qH a8 1) fun b0=>
 bR (stN 4 a2 a9 H) fun b1 H=>
 bV (qL .eql b0 (.int .i64 (.ofNat 0))) fun b2=>
 jn (cnd b2 (bV (ld1 g H) fun b3=>
 bV (ldN 4 G H) fun b4=>
 bV (ldN 4 a2 H) fun b5=>
 bR (f44 D n [b3,b4,a1,b5] H) fun b6 H=>
 bV (qH b6 0) fun b7=>
 bV (qH b6 1) fun b8=>
 bR (stN 4 G b7 H) fun b9 H=>
 some (.norm [g,h,i,G,b8],H))
 (some (.norm [g,h,i,G,b0],H))) (zCN D n))) (WY D n))))
def h43:Hint:=(.s .o (.s (.s .o (.s .o (.cl (.s .o .o) .o))) (.s .o (.s (.s .o (.cl (.s .o .o) .o)) (.s (.s .o (.c [6,7,8,10,11] .o (.s .o (.s .o (.s .o (.s .o (.c [6,7,8,10,11] .o .o))))))) (.s (.s .o (.cl (.s .o .o) .o)) (.s .o (.s .o .o))))))))
theorem zJN {D:Dyn}(hD:DG D)(n:Nat):FI 43 (f43 D n):=qP (n:=n) (h:=h43) X_ok hD (sc (zCV hD n) (sc (WZ hD n) (sc (dZ hD n) (sc (zGl hD n) (sc (zCL hD n) (SOk.nil)))))) Tryz.func43 (by kernel_rfl) (by kernel_rfl)
def s19 (D:Dyn)(n:Nat):Tb:=⟨X,[(42,f42 D n),(41,f41 D n),(46,f46 D n)]⟩
def f19 (D:Dyn)(n:Nat)(vs:List AV)(H:AH):Option (AV×AH):=
 yR (hd vs fun a vs=>hd vs fun b vs=>hd vs fun c vs=>nl vs <|
 bA (bxV 25 a) H fun d H=>
 bA (bxV 9 b) H fun e H=>
 bA (bxV 64 c) H fun f H=>
 bV (ld1 d H) fun g=>
 bV (ld1 d H) fun h=>
 bV (kI h) fun i=>
 bV (fAd 6 i) fun k=>
 bV (ld1 k H) fun m=>
 bA (mkM [10]) H fun o H=>
 bV (kJ [(0,1),(1,1),(2,1),(3,1)] [.nilPtr,(.int .u64 (.ofNat 0)), .nilMap, .nilSlice] [(0,g),(1,m),(2,o)]) fun p=>
 bA (bxV 105 p) H fun r H=>
 bA (bxV 103 .nilPtr) H fun t H=>
 bR (stN 1 t r H) fun u H=>
 bV (ld1 d H) fun v=>
 bV (kI v) fun w=>
 bV (fAd 2 w) fun x=>
 bV (fAd 0 x) fun y=>
 bV (ld1 y H) fun z=>
 bV (qL .eql z (.int .i64 (.ofNat 0))) fun B=>
 cnd B (bV (ld1 f H) fun C=>
 bV (kJ [(0,1),(1,1),(2,1),(3,1)] [(.bool false), .nilSlice, .nilSlice, .nilSlice] [(0,(.bool true))]) fun E=>
 bR (callV (s19 D n).S D C [E] H) fun F H=>
 bV (qH F 0) fun G=>
 bV (qH F 1) fun I=>
 bA (bxV 61 (.agg [(.bool false), .nilSlice, .nilSlice, .nilSlice])) H fun J H=>
 bR (stN 4 J G H) fun K H=>
 bV (qL .neq I (.int .i64 (.ofNat 0))) fun M=>
 cnd M (bV (some I) fun N=>some (.ret N,H))
 (bV (ld1 t H) fun O=>
 bV (ld1 t H) fun P=>
 bV (ldN 4 J H) fun Q=>
 bR (f42 D n [P,Q] H) fun R H=>chk (ld1 t H) O <|
 bR (f41 D n [O,R] H) fun T H=>
 bV (some (.int .i64 (.ofNat 0))) fun U=>some (.ret U,H)))
 (bA (bxV 3 (.int .i64 (.ofNat 0))) H fun V H=>
 bR (stN 1 V (.int .i64 (.ofNat 0)) H) fun W H=>
 bA (bxV 85 .nilFunc) H fun Y H=>
 bR (stN 1 Y (.func 43 [] [V,d,f,e,Y,t]) H) fun Z H=>
 bV (ld1 Y H) fun a0=>
 bV (ld1 d H) fun a1=>
 bV (kI a1) fun a2=>
 bV (fAd 2 a2) fun a3=>
 bV (ldN 3 a3 H) fun a4=>
 bA (bxV 61 (.agg [(.bool false), .nilSlice, .nilSlice, .nilSlice])) H fun a5 H=>
 bR (callV (s19 D n).S D a0 [a4] H) fun a6 H=>
 bV (qH a6 0) fun a7=>
 bV (qH a6 1) fun a8=>
 bR (stN 4 a5 a7 H) fun a9 H=>
 bV (qL .neq a8 (.int .i64 (.ofNat 0))) fun b0=>
 cnd b0 (bV (some a8) fun b1=>some (.ret b1,H))
 (bV (ld1 t H) fun b2=>
 bV (ldN 4 a5 H) fun b3=>
 bR (f46 D n [b2,b3] H) fun b4 H=>
 bV (some b4) fun b5=>some (.ret b5,H))))
def h19:Hint:=(.s .o (.s .o (.s (.s .o (.cl (.s .o (.s (.s .o (.cl (.s .o .o) .o)) (.s .o (.s .o .o)))) .o)) (.s .o (.s .o (.s .o (.s .o (.s (.s .o (.cl (.s .o .o) .o)) (.s .o .o)))))))))
theorem zCZ {D:Dyn}(hD:DG D)(n:Nat):FI 19 (f19 D n):=qP (n:=n) (h:=h19) X_ok hD (sc (BS hD n) (sc (zCQ hD n) (sc (zGk hD n) (SOk.nil)))) Tryz.func19 (by kernel_rfl) (by kernel_rfl)
def s50 (D:Dyn)(n:Nat):Tb:=⟨X,[]⟩
def f50 (D:Dyn)(n:Nat)(vs:List AV)(H:AH):Option (AV×AH):=
 yR (hd vs fun a vs=>hd vs fun b vs=>hd vs fun c vs=>nl vs <|
 bV (jF 1 a (some b) none none H) fun d=>
 bV (lnSl c) fun e=>
 bV (qL .eql e (.int .i64 (.ofNat 0))) fun f=>
 cnd f (bV (some a) fun g=>some (.ret g,H))
 (bV (lnSl a) fun h=>
 bV (qL .eql b h) fun i=>
 cnd i (bR (apP 9 1 16 a c H) fun k H=>
 bV (some k) fun m=>some (.ret m,H))
 (bV (qL .add h e) fun o=>
 bV (zAU X 44 a) fun p=>
 bV (qL .gtr o p) fun r=>
 cnd r (bV (jF 1 a none (some b) none H) fun t=>
 bV (qL .add h e) fun u=>
 bV (qL .sub u b) fun v=>
 bR (apZ 9 1 16 [(.str 0 0)] t v H) fun w H=>
 bV (jF 1 w (some b) none none H) fun x=>
 bR (cpy 1 x c H) fun y H=>
 bV (qL .add b e) fun z=>
 bV (jF 1 w (some z) none none H) fun B=>
 bV (jF 1 a (some b) none none H) fun C=>
 bR (cpy 1 B C H) fun E H=>
 bV (some w) fun F=>some (.ret F,H))
 (bV (qL .add h e) fun G=>
 bV (jF 1 a none (some G) none H) fun I=>
 bV (qL .add b e) fun J=>
 bV (jF 1 I (some J) none none H) fun K=>
 bR (D.fn 71 [c,K] H) fun M H=>
 bV (aun .not M) fun N=>
 cnd N (bV (qL .add b e) fun O=>
 bV (jF 1 I (some O) none none H) fun P=>
 bV (jF 1 I (some b) none none H) fun Q=>
 bR (cpy 1 P Q H) fun R H=>
 bV (jF 1 I (some b) none none H) fun T=>
 bR (cpy 1 T c H) fun U H=>
 bV (some I) fun V=>some (.ret V,H))
 (bV (jF 1 I (some h) none none H) fun W=>
 bR (cpy 1 W c H) fun Y H=>
 bV (jF 1 I (some b) none none H) fun Z=>
 bR (D.fn 72 [Z,e] H) fun a0 H=>
 bV (some I) fun a1=>some (.ret a1,H))))))
def h50:Hint:=(.s .o (.s .o (.s .o (.s (.s .o (.cl (.s .o .o) .o)) (.s .o (.s (.s .o (.cl (.s .o .o) .o)) (.s (.s .o (.cl (.s .o (.s .o (.s .o (.s .o .o)))) .o)) (.s .o (.s (.s .o (.cl (.s .o (.s .o (.s .o .o))) .o)) (.s .o (.s .o (.s .o .o))))))))))))
theorem zJM {D:Dyn}(hD:DG D)(n:Nat):FI 50 (f50 D n):=qP (n:=n) (h:=h50) X_ok hD (SOk.nil) Tryz.func50 (by kernel_rfl) (by kernel_rfl)
def m50 (D:Dyn)(n:Nat)(vs:List AV)(H:AH):Option (AV×AH):=zHz (f50 D n) vs H
theorem zG1 {D:Dyn}(hD:DG D)(n:Nat):FI 50 (m50 D n):=zHy (by kernel_rfl) (zJM hD n)
def s21 (D:Dyn)(n:Nat):Tb:=⟨X,[(47,f47 D n),(48,f48 D n),(49,f49 D n),(34,f34 D n),(50,m50 D n)]⟩
def f21 (D:Dyn)(n:Nat)(vs:List AV)(H:AH):Option (AV×AH):=
 yR (hd vs fun a vs=>hd vs fun b vs=>hd vs fun c vs=>nl vs <|
 bA (bxV 61 a) H fun d H=>
 bA (bxV 61 (.agg [(.bool false), .nilSlice, .nilSlice, .nilSlice])) H fun e H=>
 bV (ldN 4 d H) fun f=>
 bR (f47 D n [f] H) fun g H=>
 bV (aun .not g) fun h=>
 jn (wnt h false (bV (fAd 0 d) fun i=>
 bV (ld1 i H) fun k=>
 bV (aun .not k) fun m=>
 some (.norm [m],H)) (some (.norm [qI],H))) fun vs H=>hd vs fun o vs=>
 bV (pk3 (some h) (some (.bool true)) (some o)) fun p=>
 jn (wnt p false (bR (f48 D n [b] H) fun r H=>
 bV (aun .not r) fun t=>
 some (.norm [t],H)) (some (.norm [qI],H))) fun vs H=>hd vs fun u vs=>
 bV (pk3 (some p) (some (.bool true)) (some u)) fun v=>
 jn (wnt v false (bV (yY c) fun w=>
 bV (qL .gtr w (.int .i64 (.ofNat 200))) fun x=>
 some (.norm [x],H)) (some (.norm [qI],H))) fun vs H=>hd vs fun y vs=>
 bV (pk3 (some v) (some (.bool true)) (some y)) fun z=>
 cnd z (bV (kJ [(0,1),(1,1),(2,1),(3,1)] [(.bool false), .nilSlice, .nilSlice, .nilSlice] []) fun B=>
 bR (stN 4 e B H) fun C H=>
 bV (ldN 4 e H) fun E=>bV (some (.int .i64 (.ofNat 1))) fun F=>some (.ret (.tuple [E,F]),H))
 (bV (fAd 1 d) fun G=>
 bV (ld1 G H) fun I=>
 bV (fAd 2 d) fun J=>
 bV (ld1 J H) fun K=>
 bA (bxV 61 (.agg [(.bool false), .nilSlice, .nilSlice, .nilSlice])) H fun M H=>
 bR (f49 D n [I] H) fun N H=>chk (ld1 J H) K <|
 bR (f49 D n [K] H) fun O H=>
 bV (kJ [(0,1),(1,1),(2,1),(3,1)] [(.bool false), .nilSlice, .nilSlice, .nilSlice] [(0,(.bool true)),(1,N),(2,O)]) fun P=>
 bR (stN 4 M P H) fun Q H=>
 bV (ldN 4 d H) fun R=>
 bR (f34 D n [R,b] H) fun T H=>
 bV (fAd 1 d) fun U=>
 bV (ld1 U H) fun V=>
 bV (lnSl V) fun W=>
 bV (qL .lss T W) fun Y=>
 jn (wnt Y true (bV (fAd 1 d) fun Z=>
 bV (ld1 Z H) fun a0=>
 bV (jP 1 a0 T) fun a1=>
 bV (ld1 a1 H) fun a2=>
 bV (kX .eql a2 b) fun a3=>
 some (.norm [a3],H)) (some (.norm [qI],H))) fun vs H=>hd vs fun a4 vs=>
 bV (pk3 (some Y) (some a4) (some (.bool false))) fun a5=>
 cnd a5 (bV (fAd 2 M) fun a6=>
 bV (ld1 a6 H) fun a7=>
 bV (jP 1 a7 T) fun a8=>
 bR (stN 1 a8 c H) fun a9 H=>
 bV (ldN 4 M H) fun b0=>
 bR (stN 4 e b0 H) fun b1 H=>
 bV (ldN 4 e H) fun b2=>bV (some (.int .i64 (.ofNat 0))) fun b3=>some (.ret (.tuple [b2,b3]),H))
 (bV (fAd 1 M) fun b4=>
 bV (ld1 b4 H) fun b5=>
 bA (xX 9 1 1 [(.str 0 0)] [(0,b)]) H fun b6 H=>
 bR (m50 D n [b5,T,b6] H) fun b7 H=>
 bV (fAd 1 M) fun b8=>
 bR (stN 1 b8 b7 H) fun b9 H=>
 bV (fAd 2 M) fun c0=>
 bV (ld1 c0 H) fun c1=>
 bA (xX 9 1 1 [(.str 0 0)] [(0,c)]) H fun c2 H=>
 bR (m50 D n [c1,T,c2] H) fun c3 H=>
 bV (fAd 2 M) fun c4=>
 bR (stN 1 c4 c3 H) fun c5 H=>
 bV (ldN 4 M H) fun c6=>
 bR (stN 4 e c6 H) fun c7 H=>
 bV (ldN 4 e H) fun c8=>bV (some (.int .i64 (.ofNat 0))) fun c9=>some (.ret (.tuple [c8,c9]),H))))
def h21:Hint:=(.s .o (.s (.s .o (.cl (.s .o .o) .o)) (.s .o (.s .o (.s (.s .o (.cl (.s .o (.s .o .o)) .o)) (.s .o (.s .o (.s .o .o))))))))
theorem zGp {D:Dyn}(hD:DG D)(n:Nat):FI 21 (f21 D n):=qP (n:=n) (h:=h21) X_ok hD (sc (WW hD n) (sc (BR hD n) (sc (BQ hD n) (sc (dZ hD n) (sc (zG1 hD n) (SOk.nil)))))) Tryz.func21 (by kernel_rfl) (by kernel_rfl)
def s20 (D:Dyn)(n:Nat):Tb:=⟨X,[(21,f21 D n)]⟩
def f20 (D:Dyn)(n:Nat)(vs:List AV)(H:AH):Option (AV×AH):=
 yR (hd vs fun a vs=>hd vs fun b vs=>hd vs fun c vs=>nl vs <|
 bA (bxV 61 a) H fun d H=>
 bA (bxV 61 (.agg [(.bool false), .nilSlice, .nilSlice, .nilSlice])) H fun e H=>
 bV (ldN 4 d H) fun f=>
 bV (ld1 b H) fun g=>
 bV (ld1 c H) fun h=>
 bR (f21 D n [f,g,h] H) fun i H=>
 bV (qH i 0) fun k=>
 bV (qH i 1) fun m=>
 bR (stN 4 e k H) fun o H=>
 bV (ldN 4 e H) fun p=>bV (some m) fun r=>some (.ret (.tuple [p,r]),H))
def h20:Hint:=(.s .o (.s .o .o))
theorem zJW {D:Dyn}(hD:DG D)(n:Nat):FI 20 (f20 D n):=qP (n:=n) (h:=h20) X_ok hD (sc (zGp hD n) (SOk.nil)) Tryz.func20 (by kernel_rfl) (by kernel_rfl)
def s8 (D:Dyn)(n:Nat):Tb:=⟨X,[(18,f18 D n),(19,f19 D n)]⟩
def f8 (D:Dyn)(n:Nat)(vs:List AV)(H:AH):Option (AV×AH):=
 yR (hd vs fun a vs=>hd vs fun b vs=>hd vs fun c vs=>nl vs <|
 bA (bxV 9 b) H fun d H=>
 bA (bxV 9 c) H fun e H=>
 bR (f18 D n [a] H) fun f H=>
 cnd f (bV (some (.int .i64 (.ofNat 2))) fun g=>some (.ret g,H))
 (bV (ld1 d H) fun h=>
 bV (yY h) fun i=>
 bV (qL .lss i (.int .i64 (.ofNat 1))) fun k=>
 jn (wnt k false (bV (ld1 d H) fun m=>
 bV (yY m) fun o=>
 bV (qL .gtr o (.int .i64 (.ofNat 40))) fun p=>
 some (.norm [p],H)) (some (.norm [qI],H))) fun vs H=>hd vs fun r vs=>
 bV (pk3 (some k) (some (.bool true)) (some r)) fun t=>
 jn (wnt t false (bV (ld1 e H) fun u=>
 bV (yY u) fun v=>
 bV (qL .gtr v (.int .i64 (.ofNat 200))) fun w=>
 some (.norm [w],H)) (some (.norm [qI],H))) fun vs H=>hd vs fun x vs=>
 bV (pk3 (some t) (some (.bool true)) (some x)) fun y=>
 cnd y (bV (some (.int .i64 (.ofNat 1))) fun z=>some (.ret z,H))
 (bV (ld1 d H) fun B=>
 bR (f19 D n [a,B,(.func 20 [] [d,e])] H) fun C H=>
 bV (some C) fun E=>some (.ret E,H))))
def h8:Hint:=(.s .o (.s (.s .o (.cl (.s .o .o) .o)) (.s (.s .o (.cl (.s .o .o) .o)) (.s .o .o))))
theorem zJt {D:Dyn}(hD:DG D)(n:Nat):FI 8 (f8 D n):=qP (n:=n) (h:=h8) X_ok hD (sc (ZM hD n) (sc (zCZ hD n) (SOk.nil))) Tryz.func8 (by kernel_rfl) (by kernel_rfl)
def s56 (D:Dyn)(n:Nat):Tb:=⟨X,[(47,f47 D n),(34,f34 D n),(68,f68 D n)]⟩
def f56 (D:Dyn)(n:Nat)(vs:List AV)(H:AH):Option (AV×AH):=
 yR (hd vs fun a vs=>hd vs fun b vs=>nl vs <|
 bA (bxV 61 a) H fun c H=>
 bA (bxV 61 (.agg [(.bool false), .nilSlice, .nilSlice, .nilSlice])) H fun d H=>
 bV (ldN 4 c H) fun e=>
 bR (f47 D n [e] H) fun f H=>
 bV (aun .not f) fun g=>
 jn (wnt g false (bV (fAd 0 c) fun h=>
 bV (ld1 h H) fun i=>
 bV (aun .not i) fun k=>
 some (.norm [k],H)) (some (.norm [qI],H))) fun vs H=>hd vs fun m vs=>
 bV (pk3 (some g) (some (.bool true)) (some m)) fun o=>
 cnd o (bV (kJ [(0,1),(1,1),(2,1),(3,1)] [(.bool false), .nilSlice, .nilSlice, .nilSlice] []) fun p=>
 bR (stN 4 d p H) fun r H=>
 bV (ldN 4 d H) fun t=>bV (some (.int .i64 (.ofNat 1))) fun u=>some (.ret (.tuple [t,u]),H))
 (bV (ldN 4 c H) fun v=>
 bR (f34 D n [v,b] H) fun w H=>
 bV (fAd 1 c) fun x=>
 bV (ld1 x H) fun y=>
 bV (lnSl y) fun z=>
 bV (qL .geq w z) fun B=>
 jn (wnt B false (bV (fAd 1 c) fun C=>
 bV (ld1 C H) fun E=>
 bV (jP 1 E w) fun F=>
 bV (ld1 F H) fun G=>
 bV (kX .neq G b) fun I=>
 some (.norm [I],H)) (some (.norm [qI],H))) fun vs H=>hd vs fun J vs=>
 bV (pk3 (some B) (some (.bool true)) (some J)) fun K=>
 cnd K (bV (kJ [(0,1),(1,1),(2,1),(3,1)] [(.bool false), .nilSlice, .nilSlice, .nilSlice] []) fun M=>
 bR (stN 4 d M H) fun N H=>
 bV (ldN 4 d H) fun O=>bV (some (.int .i64 (.ofNat 5))) fun P=>some (.ret (.tuple [O,P]),H))
 (bV (fAd 1 c) fun Q=>
 bV (ld1 Q H) fun R=>
 bV (jF 1 R none (some w) (some w) H) fun T=>
 bV (fAd 1 c) fun U=>
 bV (ld1 U H) fun V=>
 bV (qL .add w (.int .i64 (.ofNat 1))) fun W=>
 bV (jF 1 V (some W) none none H) fun Y=>
 bA (xX 44 1 2 [.nilSlice] [(0,T),(1,Y)]) H fun Z H=>
 bV (fAd 2 c) fun a0=>
 bV (ld1 a0 H) fun a1=>
 bV (jF 1 a1 none (some w) (some w) H) fun a2=>
 bV (fAd 2 c) fun a3=>
 bV (ld1 a3 H) fun a4=>
 bV (qL .add w (.int .i64 (.ofNat 1))) fun a5=>
 bV (jF 1 a4 (some a5) none none H) fun a6=>
 bA (xX 44 1 2 [.nilSlice] [(0,a2),(1,a6)]) H fun a7 H=>
 bR (f68 D n [Z] H) fun a8 H=>chk (ld1 a0 H) a1 <| chk (jF 1 a1 none (some w) (some w) H) a2 <| chk (ld1 a3 H) a4 <| chk (jF 1 a4 (some a5) none none H) a6 <|
 bR (f68 D n [a7] H) fun a9 H=>
 bV (kJ [(0,1),(1,1),(2,1),(3,1)] [(.bool false), .nilSlice, .nilSlice, .nilSlice] [(0,(.bool true)),(1,a8),(2,a9)]) fun b0=>
 bR (stN 4 d b0 H) fun b1 H=>
 bV (ldN 4 d H) fun b2=>bV (some (.int .i64 (.ofNat 0))) fun b3=>some (.ret (.tuple [b2,b3]),H))))
def h56:Hint:=(.s .o (.s (.s .o (.cl (.s .o .o) .o)) (.s .o (.s (.s .o (.cl (.s .o .o) .o)) (.s .o .o)))))
theorem zGg {D:Dyn}(hD:DG D)(n:Nat):FI 56 (f56 D n):=qP (n:=n) (h:=h56) X_ok hD (sc (WW hD n) (sc (dZ hD n) (sc (BO hD n) (SOk.nil)))) Tryz.func56 (by kernel_rfl) (by kernel_rfl)
def s55 (D:Dyn)(n:Nat):Tb:=⟨X,[(56,f56 D n)]⟩
def f55 (D:Dyn)(n:Nat)(vs:List AV)(H:AH):Option (AV×AH):=
 yR (hd vs fun a vs=>hd vs fun b vs=>nl vs <|
 bA (bxV 61 a) H fun c H=>
 bA (bxV 61 (.agg [(.bool false), .nilSlice, .nilSlice, .nilSlice])) H fun d H=>
 bV (ldN 4 c H) fun e=>
 bV (ld1 b H) fun f=>
 bR (f56 D n [e,f] H) fun g H=>
 bV (qH g 0) fun h=>
 bV (qH g 1) fun i=>
 bR (stN 4 d h H) fun k H=>
 bV (ldN 4 d H) fun m=>bV (some i) fun o=>some (.ret (.tuple [m,o]),H))
def h55:Hint:=(.s .o (.s .o .o))
theorem zJK {D:Dyn}(hD:DG D)(n:Nat):FI 55 (f55 D n):=qP (n:=n) (h:=h55) X_ok hD (sc (zGg hD n) (SOk.nil)) Tryz.func55 (by kernel_rfl) (by kernel_rfl)
end Go.Eng.Sh
end
end
section
noncomputable section
namespace Go.Eng.Sh
open Go.Proofs
set_option maxRecDepth 100000
def s30 (D:Dyn)(n:Nat):Tb:=⟨X,[(18,f18 D n),(19,f19 D n)]⟩
def f30 (D:Dyn)(n:Nat)(vs:List AV)(H:AH):Option (AV×AH):=
 yR (hd vs fun a vs=>hd vs fun b vs=>nl vs <|
 bA (bxV 9 b) H fun c H=>
 bR (f18 D n [a] H) fun d H=>
 cnd d (bV (some (.int .i64 (.ofNat 2))) fun e=>some (.ret e,H))
 (bV (ld1 c H) fun f=>
 bV (yY f) fun g=>
 bV (qL .lss g (.int .i64 (.ofNat 1))) fun h=>
 jn (wnt h false (bV (ld1 c H) fun i=>
 bV (yY i) fun k=>
 bV (qL .gtr k (.int .i64 (.ofNat 40))) fun m=>
 some (.norm [m],H)) (some (.norm [qI],H))) fun vs H=>hd vs fun o vs=>
 bV (pk3 (some h) (some (.bool true)) (some o)) fun p=>
 cnd p (bV (some (.int .i64 (.ofNat 1))) fun r=>some (.ret r,H))
 (bV (ld1 c H) fun t=>
 bR (f19 D n [a,t,(.func 55 [] [c])] H) fun u H=>
 bV (some u) fun v=>some (.ret v,H))))
def h30:Hint:=(.s .o (.s (.s .o (.cl (.s .o .o) .o)) (.s (.s .o (.cl (.s .o .o) .o)) (.s .o .o))))
theorem zCW {D:Dyn}(hD:DG D)(n:Nat):FI 30 (f30 D n):=qP (n:=n) (h:=h30) X_ok hD (sc (ZM hD n) (sc (zCZ hD n) (SOk.nil))) Tryz.func30 (by kernel_rfl) (by kernel_rfl)
def s27 (D:Dyn)(n:Nat):Tb:=⟨X,[(53,f53 D n),(14,f14 D n),(8,f8 D n),(30,f30 D n)]⟩
def f27 (D:Dyn)(n:Nat)(vs:List AV)(H:AH):Option (AV×AH):=
 yR (hd vs fun a vs=>hd vs fun b vs=>hd vs fun c vs=>hd vs fun d vs=>hd vs fun e vs=>nl vs <|
 bV (YC d H) fun f=>
 bR (f53 D n [f,(.str 1 0)] H) fun g H=>
 bV (kX .neq g (.str 0 0)) fun h=>
 cnd h (bR (f14 D n [b,c] H) fun i H=>
 bR (f8 D n [a,i,g] H) fun k H=>
 bV (some k) fun m=>some (.ret m,H))
 (cnd e (bR (f14 D n [b,c] H) fun o H=>
 bR (f30 D n [a,o] H) fun p H=>
 bV (some p) fun r=>some (.ret r,H))
 (bV (some (.int .i64 (.ofNat 0))) fun t=>some (.ret t,H))))
def h27:Hint:=(.s .o (.s .o (.s (.b0 (.s .o (.cl (.s .o .o) (.s .o (.cl (.s .o .o) .o))))) (.s .o .o))))
theorem BT {D:Dyn}(hD:DG D)(n:Nat):FI 27 (f27 D n):=qP (n:=n) (h:=h27) X_ok hD (sc (zGi hD n) (sc (Y6 hD n) (sc (zJt hD n) (sc (zCW hD n) (SOk.nil))))) Tryz.func27 (by kernel_rfl) (by kernel_rfl)
def s24 (D:Dyn)(n:Nat):Tb:=⟨X,[(25,f25 D n),(26,f26 D n),(27,f27 D n)]⟩
def f24 (D:Dyn)(n:Nat)(vs:List AV)(H:AH):Option (AV×AH):=
 yR (hd vs fun a vs=>hd vs fun b vs=>hd vs fun c vs=>hd vs fun d vs=>nl vs <|
 bA (bxV 27 (.int .i64 (.ofNat 0))) H fun e H=>
 bV (ld1 a H) fun f=>
 bA (bxV 9 (.str 0 0)) H fun g H=>
 bR (stN 1 g f H) fun h H=>
 bV (ld1 b H) fun i=>
 bV (ld1 a H) fun k=>
 bV (yY k) fun m=>
 bR (f25 D n [i,m] H) fun o H=>
 V9 H (.loop ⟨.ready,none,24,0,[2,3,4,5],[c,d,e,g]⟩) fun A H=>bR (rfC (s24 D n).S D o A H) fun _ H=>ZP A H fun j H=>zEU j (
 bR (stN 1 e (.int .i64 (.ofNat 0)) H) fun p H=>
 bV (ld1 e H) fun r=>some (.ret r,H))
 (fun id=>none) (bV (ld1 e H) fun t=>some (.ret t,H)))
def h24:Hint:=(.s .o (.s .o (.s (.s .o (.b0 (.rf 0 [2,3,4,5]))) (.s .o .o))))
theorem zJU {D:Dyn}(hD:DG D)(n:Nat):FI 24 (f24 D n):=qP (n:=n) (h:=h24) X_ok hD (sc (X9 hD n) (sc (X8 hD n) (sc (BT hD n) (SOk.nil)))) Tryz.func24 (by kernel_rfl) (by kernel_rfl)
def zBM (D:Dyn)(n:Nat)(A:Nat)(l:ALoop)(az:List AV)(H:AH):Option (AV×AH):=
 bif cT [2,3,4,5] l.live then zHU A (hd l.vals fun a vs=>hd vs fun b vs=>hd vs fun c vs=>hd vs fun d vs=>hd az fun e az=>nl az <|
 bA (bxV 71 (.agg [(.int .i64 (.ofNat 0)),(.int .i64 (.ofNat 0)),(.int .i64 (.ofNat 0))])) H fun f H=>
 bR (stN 3 f e H) fun g H=>
 uF A H fun H=>
 bV (ld1 a H) fun h=>
 bV (ld1 b H) fun i=>
 bV (fAd 0 f) fun k=>
 bV (ld1 k H) fun m=>
 bR (f26 D n [h,i,m] H) fun o H=>
 bV (qH o 0) fun p=>
 bV (qH o 1) fun r=>
 bV (qH o 2) fun t=>
 bA (bxV 72 (.agg (rep 128 [(.int .u8 (.ofNat 0))]))) H fun u H=>
 bR (stN 128 u p H) fun v H=>
 bV (qL .neq t (.int .i64 (.ofNat 0))) fun w=>
 cnd w (bR (stN 1 c t H) fun x H=>
 some (.ret (.tuple []),H))
 (bV (ld1 d H) fun y=>
 bV (fAd 1 f) fun z=>
 bV (ld1 z H) fun B=>
 bV (fAd 2 f) fun C=>
 bV (ld1 C H) fun E=>
 bV (xB 128 1 u (some B) (some E) none) fun F=>
 bV (ld1 d H) fun G=>
 bR (cpy 1 F G H) fun I H=>chk (ld1 d H) y <|
 bV (fW y (some I) none) fun J=>
 bR (stN 1 d J H) fun K H=>
 bV (ld1 a H) fun M=>
 bV (ld1 b H) fun N=>
 bV (fAd 0 f) fun O=>
 bV (ld1 O H) fun P=>
 bV (xB 128 1 u none none none) fun Q=>
 bR (f27 D n [M,N,P,Q,r] H) fun R H=>
 bV (qL .neq R (.int .i64 (.ofNat 0))) fun T=>
 cnd T (bR (stN 1 c R H) fun U H=>
 some (.ret (.tuple []),H))
 (some (.norm [],H))))else none
def zIS:Hint:= .o
def zIR:Hint:=(.b0 (.s .o (.s (.s .o (.cl (.s .o .o) .o)) (.s .o (.s .o (.s .o (.cl (.s .o .o) .o)))))))
theorem zEr (D:Dyn)(n:Nat):zBM D n=zH5 (s24 D n) D n 24 0 [2,3,4,5] [] zIS zIR:=by kernel_rfl
theorem zEq {D:Dyn}(hD:DG D)(n:Nat):RS 24 0 (zBM D n):=cQ X_ok hD (sc (X9 hD n) (sc (X8 hD n) (sc (BT hD n) (SOk.nil)))) (by kernel_rfl) (zEr D n)
def s9 (D:Dyn)(n:Nat):Tb:=⟨X,[(22,f22 D n),(23,f23 D n)]⟩
def f9 (D:Dyn)(n:Nat)(vs:List AV)(H:AH):Option (AV×AH):=
 yR (hd vs fun a vs=>hd vs fun b vs=>hd vs fun c vs=>hd vs fun d vs=>nl vs <|
 bA (bxV 25 a) H fun e H=>
 bA (bxV 3 b) H fun f H=>
 bA (bxV 3 c) H fun g H=>
 bA (bxV 9 d) H fun h H=>
 bV (ld1 e H) fun i=>
 bV (xJ .eql (eqP i .nilPtr)) fun k=>
 cnd k (bV (some (.int .i64 (.ofNat 2))) fun m=>some (.ret m,H))
 (bV (ld1 f H) fun o=>
 bR (f22 D n [o] H) fun p H=>
 bV (aun .not p) fun r=>
 jn (wnt r false (bV (ld1 g H) fun t=>
 bV (qL .lss t (.int .i64 (.ofNat 0))) fun u=>
 some (.norm [u],H)) (some (.norm [qI],H))) fun vs H=>hd vs fun v vs=>
 bV (pk3 (some r) (some (.bool true)) (some v)) fun w=>
 cnd w (bV (some (.int .i64 (.ofNat 1))) fun x=>some (.ret x,H))
 (bV (ld1 g H) fun y=>
 bV (qL .gtr y (.int .i64 (.ofNat 32768))) fun z=>
 jn (wnt z false (bV (ld1 h H) fun B=>
 bV (yY B) fun C=>
 bV (ld1 g H) fun E=>
 bV (qL .sub (.int .i64 (.ofNat 32768)) E) fun F=>
 bV (qL .gtr C F) fun G=>
 some (.norm [G],H)) (some (.norm [qI],H))) fun vs H=>hd vs fun I vs=>
 bV (pk3 (some z) (some (.bool true)) (some I)) fun J=>
 cnd J (bV (some (.int .i64 (.ofNat 40))) fun K=>some (.ret K,H))
 (bV (ld1 h H) fun M=>
 bV (kX .eql M (.str 0 0)) fun N=>
 cnd N (bV (some (.int .i64 (.ofNat 0))) fun O=>some (.ret O,H))
 (bV (ld1 e H) fun P=>
 bR (f23 D n [P,(.func 24 [] [h,g,e,f])] H) fun Q H=>
 bV (some Q) fun R=>some (.ret R,H))))))
def h9:Hint:=(.s .o (.s (.s .o (.cl (.s .o .o) .o)) (.s (.s .o (.cl (.s .o .o) .o)) (.s (.s .o (.cl (.s .o .o) .o)) (.s (.s .o (.cl (.s .o .o) .o)) (.s .o .o))))))
theorem zF6 {D:Dyn}(hD:DG D)(n:Nat):FI 9 (f9 D n):=qP (n:=n) (h:=h9) X_ok hD (sc (Y5 hD n) (sc (zCY hD n) (SOk.nil))) Tryz.func9 (by kernel_rfl) (by kernel_rfl)
def s11 (D:Dyn)(n:Nat):Tb:=⟨X,[(22,f22 D n),(25,f25 D n),(26,f26 D n)]⟩
def f11 (D:Dyn)(n:Nat)(vs:List AV)(H:AH):Option (AV×AH):=
 yR (hd vs fun a vs=>hd vs fun b vs=>hd vs fun c vs=>hd vs fun d vs=>hd vs fun e vs=>nl vs <|
 bA (bxV 25 a) H fun f H=>
 bA (bxV 3 b) H fun g H=>
 bA (bxV 9 (.str 0 0)) H fun h H=>
 bA (bxV 27 (.int .i64 (.ofNat 0))) H fun i H=>
 bV (ld1 f H) fun k=>
 bV (xJ .eql (eqP k .nilPtr)) fun m=>
 cnd m (bR (stN 1 h (.str 0 0) H) fun o H=>
 bR (stN 1 i (.int .i64 (.ofNat 2)) H) fun p H=>
 bV (ld1 h H) fun r=>bV (ld1 i H) fun t=>some (.ret (.tuple [r,t]),H))
 (bV (ld1 g H) fun u=>
 bR (f22 D n [u] H) fun v H=>
 bV (aun .not v) fun w=>
 jn (wnt w false (bV (qL .lss c (.int .i64 (.ofNat 0))) fun x=>
 some (.norm [x],H)) (some (.norm [qI],H))) fun vs H=>hd vs fun y vs=>
 bV (pk3 (some w) (some (.bool true)) (some y)) fun z=>
 jn (wnt z false (bV (qL .gtr c (.int .i64 (.ofNat 32768))) fun B=>
 some (.norm [B],H)) (some (.norm [qI],H))) fun vs H=>hd vs fun C vs=>
 bV (pk3 (some z) (some (.bool true)) (some C)) fun E=>
 jn (wnt E false (bV (qL .lss d (.int .i64 (.ofNat 0))) fun F=>
 some (.norm [F],H)) (some (.norm [qI],H))) fun vs H=>hd vs fun G vs=>
 bV (pk3 (some E) (some (.bool true)) (some G)) fun I=>
 jn (wnt I false (bV (qL .lss e (.int .i64 (.ofNat 0))) fun J=>
 some (.norm [J],H)) (some (.norm [qI],H))) fun vs H=>hd vs fun K vs=>
 bV (pk3 (some I) (some (.bool true)) (some K)) fun M=>
 cnd M (bR (stN 1 h (.str 0 0) H) fun N H=>
 bR (stN 1 i (.int .i64 (.ofNat 1)) H) fun O H=>
 bV (ld1 h H) fun P=>bV (ld1 i H) fun Q=>some (.ret (.tuple [P,Q]),H))
 (bV (qL .geq d c) fun R=>
 cnd R (bR (stN 1 h (.str 0 0) H) fun T H=>
 bR (stN 1 i (.int .i64 (.ofNat 0)) H) fun U H=>
 bV (ld1 h H) fun V=>bV (ld1 i H) fun W=>some (.ret (.tuple [V,W]),H))
 (bA (bxV 30 .nilSlice) H fun Y H=>
 bV (qL .sub c d) fun Z=>
 bV (mn2 e Z) fun a0=>
 bR (f25 D n [d,a0] H) fun a1 H=>
 V9 H (.loop ⟨.ready,none,11,0,[5,6,10,11,12],[f,g,h,i,Y]⟩) fun A H=>bR (rfC (s11 D n).S D a1 A H) fun _ H=>ZP A H fun j H=>zEU j (
 bV (ld1 Y H) fun a2=>
 bV (YC a2 H) fun a3=>
 bR (stN 1 h a3 H) fun a4 H=>
 bR (stN 1 i (.int .i64 (.ofNat 0)) H) fun a5 H=>
 bV (ld1 h H) fun a6=>bV (ld1 i H) fun a7=>some (.ret (.tuple [a6,a7]),H))
 (fun id=>none) (bV (ld1 h H) fun a8=>bV (ld1 i H) fun a9=>some (.ret (.tuple [a8,a9]),H))))))
def h11:Hint:=(.s .o (.s (.s .o (.cl (.s .o .o) .o)) (.s (.s .o (.cl (.s .o .o) .o)) (.s (.s .o (.cl (.s .o .o) .o)) (.s .o (.s (.s .o (.b0 (.rf 0 [5,6,10,11,12]))) (.s .o .o)))))))
theorem BU {D:Dyn}(hD:DG D)(n:Nat):FI 11 (f11 D n):=qP (n:=n) (h:=h11) X_ok hD (sc (Y5 hD n) (sc (X9 hD n) (sc (X8 hD n) (SOk.nil)))) Tryz.func11 (by kernel_rfl) (by kernel_rfl)
def zBN (D:Dyn)(n:Nat)(A:Nat)(l:ALoop)(az:List AV)(H:AH):Option (AV×AH):=
 bif cT [5,6,10,11,12] l.live then zHU A (hd l.vals fun a vs=>hd vs fun b vs=>hd vs fun c vs=>hd vs fun d vs=>hd vs fun e vs=>hd az fun f az=>nl az <|
 bA (bxV 71 (.agg [(.int .i64 (.ofNat 0)),(.int .i64 (.ofNat 0)),(.int .i64 (.ofNat 0))])) H fun g H=>
 bR (stN 3 g f H) fun h H=>
 uF A H fun H=>
 bV (ld1 a H) fun i=>
 bV (ld1 b H) fun k=>
 bV (fAd 0 g) fun m=>
 bV (ld1 m H) fun o=>
 bR (f26 D n [i,k,o] H) fun p H=>
 bV (qH p 0) fun r=>
 bV (qH p 1) fun t=>
 bV (qH p 2) fun u=>
 bA (bxV 72 (.agg (rep 128 [(.int .u8 (.ofNat 0))]))) H fun v H=>
 bR (stN 128 v r H) fun w H=>
 bV (qL .neq u (.int .i64 (.ofNat 0))) fun x=>
 cnd x (bR (stN 1 c (.str 0 0) H) fun y H=>
 bR (stN 1 d u H) fun z H=>
 some (.ret (.tuple []),H))
 (bV (ld1 e H) fun B=>
 bV (fAd 1 g) fun C=>
 bV (ld1 C H) fun E=>
 bV (fAd 2 g) fun F=>
 bV (ld1 F H) fun G=>
 bV (xB 128 1 v (some E) (some G) none) fun I=>
 bR (apP 5 1 1 B I H) fun J H=>
 bR (stN 1 e J H) fun K H=>
 some (.norm [],H)))else none
def zIW:Hint:= .o
def zIV:Hint:=(.b0 (.s .o (.s (.s .o (.cl (.s .o .o) .o)) .o)))
theorem zEv (D:Dyn)(n:Nat):zBN D n=zH5 (s11 D n) D n 11 0 [5,6,10,11,12] [] zIW zIV:=by kernel_rfl
theorem zEu {D:Dyn}(hD:DG D)(n:Nat):RS 11 0 (zBN D n):=cQ X_ok hD (sc (Y5 hD n) (sc (X9 hD n) (sc (X8 hD n) (SOk.nil)))) (by kernel_rfl) (zEv D n)
def s54 (D:Dyn)(n:Nat):Tb:=⟨X,[]⟩
def f54l0 (D:Dyn)(n:Nat)(vs:List AV)(H:AH):Rs:=
 hd vs fun a vs=>hd vs fun b vs=>
 bV (qL .geq b (.int .i64 (.ofNat 0))) fun c=>
 cnd c (bV (bL a b) fun d=>
 bV (qL .neq d (.int .u8 (.ofNat 255))) fun e=>
 cnd e (bV (fW a none (some b)) fun f=>
 bV (bL a b) fun g=>
 bV (qL .add g (.int .u8 (.ofNat 1))) fun h=>
 bA (xX 5 1 1 [(.int .u8 (.ofNat 0))] [(0,h)]) H fun i H=>
 bV (YC i H) fun k=>
 bV (kX .add f k) fun m=>
 bV (some m) fun o=>some (.ret o,H))
 (bV (qL .sub b (.int .i64 (.ofNat 1))) fun p=>
 some (.norm [a,p],H)))
 (some (.exit 0 [],H))
def f54b1 (D:Dyn)(n:Nat)(vs:List AV)(H:AH):Rs:=
 bV (some (.str 0 0)) fun a=>some (.ret a,H)
def f54 (D:Dyn)(n:Nat)(vs:List AV)(H:AH):Option (AV×AH):=
 yR (hd vs fun a vs=>nl vs <|
 bV (yY a) fun b=>
 bV (qL .sub b (.int .i64 (.ofNat 1))) fun c=>
 jb 0 (qW n (f54l0 D n) [a,c] H) (f54b1 D n))
def h54:Hint:=(.s .o (.s (.s .o (.b [] (.l [0,3] (.s (.s .o (.cr .o .o)) (.s (.b0 (.s .o (.cl (.s .o .o) .o))) .o))))) (.s .o .o)))
theorem zGh {D:Dyn}(hD:DG D)(n:Nat):FI 54 (f54 D n):=qP (n:=n) (h:=h54) X_ok hD (SOk.nil) Tryz.func54 (by kernel_rfl) (by kernel_rfl)
def s60 (D:Dyn)(n:Nat):Tb:=⟨X,[(18,f18 D n)]⟩
def f60 (D:Dyn)(n:Nat)(vs:List AV)(H:AH):Option (AV×AH):=
 yR (hd vs fun a vs=>nl vs <|
 bR (f18 D n [a] H) fun b H=>
 cnd b (bV (some (.int .i64 (.ofNat 0))) fun c=>some (.ret c,H))
 (bV (kI a) fun d=>
 bV (fAd 5 d) fun e=>
 bV (ld1 e H) fun f=>
 bV (zAE f H) fun g=>
 bV (some g) fun h=>some (.ret h,H)))
def h60:Hint:=(.s .o (.s (.s .o (.cl (.s .o .o) .o)) (.s .o .o)))
theorem zGd {D:Dyn}(hD:DG D)(n:Nat):FI 60 (f60 D n):=qP (n:=n) (h:=h60) X_ok hD (sc (ZM hD n) (SOk.nil)) Tryz.func60 (by kernel_rfl) (by kernel_rfl)
def s35 (D:Dyn)(n:Nat):Tb:=⟨X,[(60,f60 D n)]⟩
def f35 (D:Dyn)(n:Nat)(vs:List AV)(H:AH):Option (AV×AH):=
 yR (hd vs fun a vs=>nl vs <|
 bR (f60 D n [a] H) fun b H=>
 bV (qL .add (.int .i64 (.ofNat 8192)) b) fun c=>
 bV (kJ [(0,1),(1,1),(2,1),(3,1)] [.nilPtr, .nilMap,(.int .i64 (.ofNat 0)),(.int .i64 (.ofNat 0))] [(0,a),(2,c)]) fun d=>
 bA (bxV 97 d) H fun e H=>
 bV (some e) fun f=>some (.ret f,H))
def h35:Hint:=(.s .o (.s .o .o))
theorem zCT {D:Dyn}(hD:DG D)(n:Nat):FI 35 (f35 D n):=qP (n:=n) (h:=h35) X_ok hD (sc (zGd hD n) (SOk.nil)) Tryz.func35 (by kernel_rfl) (by kernel_rfl)
def s89 (D:Dyn)(n:Nat):Tb:=⟨X,[(18,f18 D n)]⟩
def f89 (D:Dyn)(n:Nat)(vs:List AV)(H:AH):Option (AV×AH):=
 yR (hd vs fun a vs=>nl vs <|
 bA (bxV 57 (.agg [(.int .i64 (.ofNat 0)),(.int .i64 (.ofNat 0)),(.int .u64 (.ofNat 0))])) H fun b H=>
 bR (f18 D n [a] H) fun c H=>
 cnd c (bV (kJ [(0,1),(1,1),(2,1)] [(.int .i64 (.ofNat 0)),(.int .i64 (.ofNat 0)),(.int .u64 (.ofNat 0))] []) fun d=>
 bR (stN 3 b d H) fun e H=>
 bV (ldN 3 b H) fun f=>some (.ret f,H))
 (bV (kI a) fun g=>
 bV (fAd 2 g) fun h=>
 bV (ldN 3 h H) fun i=>
 bR (stN 3 b i H) fun k H=>
 bV (ldN 3 b H) fun m=>some (.ret m,H)))
def h89:Hint:=(.s .o (.s (.s .o (.cl (.s .o .o) .o)) (.s .o .o)))
theorem zG8 {D:Dyn}(hD:DG D)(n:Nat):FI 89 (f89 D n):=qP (n:=n) (h:=h89) X_ok hD (sc (ZM hD n) (SOk.nil)) Tryz.func89 (by kernel_rfl) (by kernel_rfl)
def s107 (D:Dyn)(n:Nat):Tb:=⟨X,[(18,f18 D n),(32,f32 D n),(49,f49 D n),(74,f74 D n)]⟩
def zJX (D:Dyn)(n:Nat)(vs:List AV)(H:AH):Option (AV×AH):=
 yR (hd vs fun a vs=>hd vs fun b vs=>nl vs <|
 bA (bxV 57 b) H fun c H=>
 bA (bxV 61 (.agg [(.bool false), .nilSlice, .nilSlice, .nilSlice])) H fun d H=>
 bR (f18 D n [a] H) fun e H=>
 cnd e (bV (kJ [(0,1),(1,1),(2,1),(3,1)] [(.bool false), .nilSlice, .nilSlice, .nilSlice] []) fun f=>
 bR (stN 4 d f H) fun g H=>
 bV (ldN 4 d H) fun h=>bV (some (.int .i64 (.ofNat 2))) fun i=>some (.ret (.tuple [h,i]),H))
 (bV (fAd 0 c) fun k=>
 bV (ld1 k H) fun m=>
 bV (qL .eql m (.int .i64 (.ofNat 0))) fun o=>
 cnd o (bV (kJ [(0,1),(1,1),(2,1),(3,1)] [(.bool false), .nilSlice, .nilSlice, .nilSlice] []) fun p=>
 bR (stN 4 d p H) fun r H=>
 bV (ldN 4 d H) fun t=>bV (some (.int .i64 (.ofNat 1))) fun u=>some (.ret (.tuple [t,u]),H))
 (bV (ldN 3 c H) fun v=>
 bR (f32 D n [a,v] H) fun w H=>
 bV (qH w 0) fun x=>
 bV (qH w 1) fun y=>
 bA (bxV 61 (.agg [(.bool false), .nilSlice, .nilSlice, .nilSlice])) H fun z H=>
 bR (stN 4 z x H) fun B H=>
 bV (qL .neq y (.int .i64 (.ofNat 0))) fun C=>
 cnd C (bV (kJ [(0,1),(1,1),(2,1),(3,1)] [(.bool false), .nilSlice, .nilSlice, .nilSlice] []) fun E=>
 bR (stN 4 d E H) fun F H=>
 bV (ldN 4 d H) fun G=>bV (some y) fun I=>some (.ret (.tuple [G,I]),H))
 (bV (fAd 0 z) fun J=>
 bV (ld1 J H) fun K=>
 bV (fAd 1 z) fun M=>
 bV (ld1 M H) fun N=>
 bV (fAd 2 z) fun O=>
 bV (ld1 O H) fun P=>
 bV (fAd 3 z) fun Q=>
 bV (ld1 Q H) fun R=>
 bR (f49 D n [N] H) fun T H=>chk (ld1 J H) K <| chk (ld1 O H) P <| chk (ld1 Q H) R <|
 bR (f49 D n [P] H) fun U H=>chk (ld1 J H) K <| chk (ld1 Q H) R <|
 bR (f74 D n [R] H) fun V H=>chk (ld1 J H) K <|
 bV (kJ [(0,1),(1,1),(2,1),(3,1)] [(.bool false), .nilSlice, .nilSlice, .nilSlice] [(0,K),(1,T),(2,U),(3,V)]) fun W=>
 bR (stN 4 d W H) fun Y H=>
 bV (ldN 4 d H) fun Z=>bV (some (.int .i64 (.ofNat 0))) fun a0=>some (.ret (.tuple [Z,a0]),H)))))
def h107:Hint:=(.s .o (.s (.s .o (.cl (.s .o .o) .o)) (.s (.s .o (.cl (.s .o .o) .o)) (.s .o (.s (.s .o (.cl (.s .o .o) .o)) (.s .o .o))))))
theorem zD4 {D:Dyn}(hD:DG D)(n:Nat):FI 107 (zJX D n):=qP (n:=n) (h:=h107) X_ok hD (sc (ZM hD n) (sc (WZ hD n) (sc (BQ hD n) (sc (BN hD n) (SOk.nil))))) Tryz.func107 (by kernel_rfl) (by kernel_rfl)
def s90 (D:Dyn)(n:Nat):Tb:=⟨X,[(107,zJX D n),(34,f34 D n)]⟩
def f90l0 (D:Dyn)(n:Nat)(vs:List AV)(H:AH):Rs:=
 hd vs fun a vs=>hd vs fun b vs=>hd vs fun c vs=>hd vs fun d vs=>hd vs fun e vs=>hd vs fun f vs=>hd vs fun g vs=>hd vs fun h vs=>
 bV (fAd 3 f) fun i=>
 bV (ld1 i H) fun k=>
 bV (lnSl k) fun m=>
 bV (qL .lss h m) fun o=>
 cnd o (bV (qL .gtr h g) fun p=>
 jn (wnt p true (bV (kX .neq c (.str 0 0)) fun r=>
 some (.norm [r],H)) (some (.norm [qI],H))) fun vs H=>hd vs fun t vs=>
 bV (pk3 (some p) (some t) (some (.bool false))) fun u=>
 jn (wnt u true (bV (fAd 1 f) fun v=>
 bV (ld1 v H) fun w=>
 bV (qL .sub h (.int .i64 (.ofNat 1))) fun x=>
 bV (jP 1 w x) fun y=>
 bV (ld1 y H) fun z=>
 bV (kX .geq z c) fun B=>
 some (.norm [B],H)) (some (.norm [qI],H))) fun vs H=>hd vs fun C vs=>
 bV (pk3 (some u) (some C) (some (.bool false))) fun E=>
 cnd E (some (.exit 0 [],H))
 (bV (fAd 3 f) fun F=>
 bV (ld1 F H) fun G=>
 bV (jP 3 G h) fun I=>
 bV (ldN 3 I H) fun J=>
 bR (D.fn 90 [a,J,b,c,d,e] H) fun K H=>
 bV (aun .not K) fun M=>
 cnd M (bV (some (.bool false)) fun N=>some (.ret N,H))
 (bV (qL .add h (.int .i64 (.ofNat 1))) fun O=>
 some (.norm [a,b,c,d,e,f,g,O],H))))
 (some (.exit 0 [],H))
def f90b1 (D:Dyn)(n:Nat)(vs:List AV)(H:AH):Rs:=
 bV (some (.bool true)) fun a=>some (.ret a,H)
def f90j2 (D:Dyn)(n:Nat)(vs:List AV)(H:AH):Rs:=
 hd vs fun a vs=>hd vs fun b vs=>hd vs fun c vs=>hd vs fun d vs=>hd vs fun e vs=>hd vs fun f vs=>hd vs fun g vs=>
 bV (kI a) fun h=>
 bV (fAd 3 h) fun i=>
 bV (ld1 i H) fun k=>
 bV (qL .neq k (.int .i64 (.ofNat 0))) fun m=>
 jn (wnt m false (bV (ldN 3 f H) fun o=>
 bV (ldN 4 g H) fun p=>
 bR (callV (s90 D n).S D e [o,p] H) fun r H=>
 bV (aun .not r) fun t=>
 some (.norm [t],H)) (some (.norm [qI],H))) fun vs H=>hd vs fun u vs=>
 bV (pk3 (some m) (some (.bool true)) (some u)) fun v=>
 cnd v (bV (some (.bool false)) fun w=>some (.ret w,H))
 (bV (fAd 0 g) fun x=>
 bV (ld1 x H) fun y=>
 cnd y (bV (some (.bool true)) fun z=>some (.ret z,H))
 (bV (ldN 4 g H) fun B=>
 bR (f34 D n [B,b] H) fun C H=>
 jb 0 (qW n (f90l0 D n) [a,b,c,d,e,g,C,C] H) (f90b1 D n)))
def f90 (D:Dyn)(n:Nat)(vs:List AV)(H:AH):Option (AV×AH):=
 yR (hd vs fun a vs=>hd vs fun b vs=>hd vs fun c vs=>hd vs fun d vs=>hd vs fun e vs=>hd vs fun f vs=>nl vs <|
 bA (bxV 57 b) H fun g H=>
 bV (ldN 3 g H) fun h=>
 bR (callV (s90 D n).S D e [h] H) fun i H=>
 cnd i (bV (some (.bool true)) fun k=>some (.ret k,H))
 (bV (kI a) fun m=>
 bV (fAd 2 m) fun o=>
 bV (ld1 o H) fun p=>
 bV (qL .sub p (.int .i64 (.ofNat 1))) fun r=>
 bV (kI a) fun t=>
 bV (fAd 2 t) fun u=>
 bR (stN 1 u r H) fun v H=>
 bV (kI a) fun w=>
 bV (fAd 2 w) fun x=>
 bV (ld1 x H) fun y=>
 bV (qL .lss y (.int .i64 (.ofNat 0))) fun z=>
 cnd z (bV (kI a) fun B=>
 bV (fAd 3 B) fun C=>
 bR (stN 1 C (.int .i64 (.ofNat 4)) H) fun E H=>
 bV (some (.bool false)) fun F=>some (.ret F,H))
 (bV (kI a) fun G=>
 bV (fAd 1 G) fun I=>
 bV (ld1 I H) fun J=>
 bV (ldN 3 g H) fun K=>
 bV (lkM (1::[6,6,10]) (.agg [(.bool false), .nilSlice, .nilSlice, .nilSlice]) true J K H) fun M=>
 bV (qH M 0) fun N=>
 bV (qH M 1) fun O=>
 bA (bxV 61 (.agg [(.bool false), .nilSlice, .nilSlice, .nilSlice])) H fun P H=>
 bR (stN 4 P N H) fun Q H=>
 bV (aun .not O) fun R=>
 jn (cnd R (bV (kI a) fun T=>
 bV (fAd 0 T) fun U=>
 bV (ld1 U H) fun V=>
 bV (ldN 3 g H) fun W=>
 bR (zJX D n [V,W] H) fun Y H=>
 bV (qH Y 0) fun Z=>
 bV (qH Y 1) fun a0=>
 bR (stN 4 P Z H) fun a1 H=>
 bV (kI a) fun a2=>
 bV (fAd 3 a2) fun a3=>
 bR (stN 1 a3 a0 H) fun a4 H=>
 some (.norm [a,c,d,e,f,g,P],H))
 (some (.norm [a,c,d,e,f,g,P],H))) (f90j2 D n))))
def h90:Hint:=(.s .o (.s (.s .o (.cl (.s .o .o) .o)) (.s (.s .o (.s .o (.cl (.s .o (.s .o .o)) .o))) (.s .o (.s (.s .o (.c [0,2,3,4,5,7,13] .o .o)) (.s (.s .o (.cl (.s .o .o) .o)) (.s (.s .o (.cl (.s .o .o) .o)) (.s .o (.s (.s .o (.b [] (.l [0,2,3,4,5,13,15,16] (.s (.s .o (.cr .o .o)) (.s (.b0 (.s (.s .o (.cl .o .o)) (.s .o (.cl (.s .o .o) .o)))) .o))))) (.s .o .o))))))))))
theorem zG7 {D:Dyn}(hD:DG D)(n:Nat):FI 90 (f90 D n):=qP (n:=n) (h:=h90) X_ok hD (sc (zD4 hD n) (sc (dZ hD n) (SOk.nil))) Tryz.func90 (by kernel_rfl) (by kernel_rfl)
def s88 (D:Dyn)(n:Nat):Tb:=⟨X,[(89,f89 D n),(90,f90 D n)]⟩
def f88j0 (D:Dyn)(n:Nat)(vs:List AV)(H:AH):Rs:=
 some (.ret (.tuple []),H)
def f88 (D:Dyn)(n:Nat)(vs:List AV)(H:AH):Option (AV×AH):=
 yR (hd vs fun a vs=>hd vs fun b vs=>hd vs fun c vs=>hd vs fun d vs=>hd vs fun e vs=>nl vs <|
 bV (ld1 b H) fun f=>
 bV (kI f) fun g=>
 bV (fAd 0 g) fun h=>
 bV (ld1 h H) fun i=>
 bR (f89 D n [i] H) fun k H=>
 bA (bxV 57 (.agg [(.int .i64 (.ofNat 0)),(.int .i64 (.ofNat 0)),(.int .u64 (.ofNat 0))])) H fun m H=>
 bR (stN 3 m k H) fun o H=>
 bV (fAd 0 m) fun p=>
 bV (ld1 p H) fun r=>
 bV (qL .neq r (.int .i64 (.ofNat 0))) fun t=>
 jn (wnt t true (bV (ld1 c H) fun u=>
 bV (kX .eql u (.str 0 0)) fun v=>
 some (.norm [v],H)) (some (.norm [qI],H))) fun vs H=>hd vs fun w vs=>
 jn (wnt w false (bV (ld1 d H) fun x=>
 bV (ld1 c H) fun y=>
 bV (kX .lss x y) fun z=>
 some (.norm [z],H)) (some (.norm [qI],H))) fun vs H=>hd vs fun B vs=>
 jn (wnt t true (bV (pk3 (some w) (some (.bool true)) (some B)) fun C=>
 some (.norm [C],H)) (some (.norm [qI],H))) fun vs H=>hd vs fun E vs=>
 bV (pk3 (some t) (some E) (some (.bool false))) fun F=>
 jn (cnd F (bV (ld1 b H) fun G=>
 bV (ldN 3 m H) fun I=>
 bV (ld1 d H) fun J=>
 bV (ld1 c H) fun K=>
 bV (ld1 e H) fun M=>
 bR (f90 D n [G,I,J,K,M,a] H) fun N H=>
 some (.norm [],H))
 (some (.norm [],H))) (f88j0 D n))
def h88:Hint:=(.s .o (.s .o (.c [] .o .o)))
theorem zJu {D:Dyn}(hD:DG D)(n:Nat):FI 88 (f88 D n):=qP (n:=n) (h:=h88) X_ok hD (sc (zG8 hD n) (sc (zG7 hD n) (SOk.nil))) Tryz.func88 (by kernel_rfl) (by kernel_rfl)
def s62 (D:Dyn)(n:Nat):Tb:=⟨X,[]⟩
def f62 (D:Dyn)(n:Nat)(vs:List AV)(H:AH):Option (AV×AH):=
 yR (hd vs fun a vs=>hd vs fun b vs=>hd vs fun c vs=>hd vs fun d vs=>nl vs <|
 bA (bxV 89 a) H fun e H=>
 bA (bxV 9 b) H fun f H=>
 bA (bxV 9 c) H fun g H=>
 bA (bxV 94 d) H fun h H=>
 bV (some (.func 88 [] [e,g,f,h])) fun i=>some (.ret i,H))
def h62:Hint:=(.s .o (.s .o .o))
theorem zCH {D:Dyn}(hD:DG D)(n:Nat):FI 62 (f62 D n):=qP (n:=n) (h:=h62) X_ok hD (SOk.nil) Tryz.func62 (by kernel_rfl) (by kernel_rfl)
def s61 (D:Dyn)(n:Nat):Tb:=⟨X,[(62,f62 D n),(34,f34 D n)]⟩
def f61 (D:Dyn)(n:Nat)(vs:List AV)(H:AH):Option (AV×AH):=
 yR (hd vs fun a vs=>hd vs fun b vs=>hd vs fun c vs=>hd vs fun d vs=>hd vs fun e vs=>nl vs <|
 bA (bxV 123 a) H fun f H=>
 bV (ld1 b H) fun g=>
 bV (ld1 c H) fun h=>
 bV (ld1 d H) fun i=>
 bV (ld1 e H) fun k=>
 bR (f62 D n [g,h,i,k] H) fun m H=>
 V9 H (.loop ⟨.ready,none,61,0,[2,3,5],[c,d,f]⟩) fun A H=>bR (rfC (s61 D n).S D m A H) fun _ H=>ZP A H fun j H=>zEU j (
 some (.ret (.tuple []),H))
 (fun id=>none) (some (.ret (.tuple []),H)))
def h61:Hint:=(.s .o (.s .o (.b0 (.rf 0 [2,3,5]))))
theorem zJI {D:Dyn}(hD:DG D)(n:Nat):FI 61 (f61 D n):=qP (n:=n) (h:=h61) X_ok hD (sc (zCH hD n) (sc (dZ hD n) (SOk.nil))) Tryz.func61 (by kernel_rfl) (by kernel_rfl)
def f61l0 (D:Dyn)(n:Nat)(vs:List AV)(H:AH):Rs:=
 hd vs fun a vs=>hd vs fun b vs=>hd vs fun c vs=>hd vs fun d vs=>
 bV (fAd 1 c) fun e=>
 bV (ld1 e H) fun f=>
 bV (lnSl f) fun g=>
 bV (qL .lss d g) fun h=>
 cnd h (bV (ld1 a H) fun i=>
 bV (kX .neq i (.str 0 0)) fun k=>
 jn (wnt k true (bV (fAd 1 c) fun m=>
 bV (ld1 m H) fun o=>
 bV (jP 1 o d) fun p=>
 bV (ld1 p H) fun r=>
 bV (ld1 a H) fun t=>
 bV (kX .geq r t) fun u=>
 some (.norm [u],H)) (some (.norm [qI],H))) fun vs H=>hd vs fun v vs=>
 bV (pk3 (some k) (some v) (some (.bool false))) fun w=>
 jn (wnt w false (bV (ld1 b H) fun x=>
 bV (fAd 1 c) fun y=>
 bV (ld1 y H) fun z=>
 bV (jP 1 z d) fun B=>
 bV (ld1 B H) fun C=>
 bV (fAd 2 c) fun E=>
 bV (ld1 E H) fun F=>
 bV (jP 1 F d) fun G=>
 bV (ld1 G H) fun I=>
 bV (kJ [(0,1),(1,1)] [(.str 0 0),(.str 0 0)] [(0,C),(1,I)]) fun J=>
 bR (callV (s61 D n).S D x [J] H) fun K H=>
 bV (aun .not K) fun M=>
 some (.norm [M],H)) (some (.norm [qI],H))) fun vs H=>hd vs fun N vs=>
 bV (pk3 (some w) (some (.bool true)) (some N)) fun O=>
 cnd O (some (.ret (.tuple []),H))
 (bV (qL .add d (.int .i64 (.ofNat 1))) fun P=>
 some (.norm [a,b,c,P],H)))
 (some (.exit 2 [],H))
def f61b1 (D:Dyn)(n:Nat)(vs:List AV)(H:AH):Rs:=
 some (.norm [],H)
def f61b2 (D:Dyn)(n:Nat)(vs:List AV)(H:AH):Rs:=
 some (.norm [],H)
def zHa (D:Dyn)(n:Nat)(A:Nat)(l:ALoop)(az:List AV)(H:AH):Option (AV×AH):=
 bif cT [2,3,5] l.live then zHU A (hd l.vals fun a vs=>hd vs fun b vs=>hd vs fun c vs=>hd az fun d az=>hd az fun e az=>nl az <|
 bA (bxV 61 (.agg [(.bool false), .nilSlice, .nilSlice, .nilSlice])) H fun f H=>
 bR (stN 4 f e H) fun g H=>
 uF A H fun H=>
 jb 1 (bV (fAd 0 f) fun h=>
 bV (ld1 h H) fun i=>
 bV (aun .not i) fun k=>
 cnd k (some (.exit 1 [],H))
 (bV (ldN 4 f H) fun m=>
 bV (ld1 a H) fun o=>
 bR (f34 D n [m,o] H) fun p H=>
 jb 2 (qW n (f61l0 D n) [b,c,f,p] H) (f61b1 D n))) (f61b2 D n))else none
def zIQ:Hint:= .o
def zIP:Hint:=(.b [] (.s (.s .o (.cl .o .o)) (.s .o (.b [] (.l [3,5,7,8] (.s (.s .o (.cr .o .o)) (.s (.b0 (.s .o (.cl .o .o))) .o)))))))
theorem zEp (D:Dyn)(n:Nat):zHa D n=zH5 (s61 D n) D n 61 0 [2,3,5] [] zIQ zIP:=by kernel_rfl
theorem zEo {D:Dyn}(hD:DG D)(n:Nat):RS 61 0 (zHa D n):=cQ X_ok hD (sc (zCH hD n) (sc (dZ hD n) (SOk.nil))) (by kernel_rfl) (zEp D n)
def s36 (D:Dyn)(n:Nat):Tb:=⟨X,[]⟩
def f36 (D:Dyn)(n:Nat)(vs:List AV)(H:AH):Option (AV×AH):=
 yR (hd vs fun a vs=>hd vs fun b vs=>hd vs fun c vs=>hd vs fun d vs=>nl vs <|
 bA (bxV 89 a) H fun e H=>
 bA (bxV 9 b) H fun f H=>
 bA (bxV 9 c) H fun g H=>
 bA (bxV 94 d) H fun h H=>
 bV (some (.func 61 [] [e,f,g,h])) fun i=>some (.ret i,H))
def h36:Hint:=(.s .o (.s .o .o))
theorem zCS {D:Dyn}(hD:DG D)(n:Nat):FI 36 (f36 D n):=qP (n:=n) (h:=h36) X_ok hD (SOk.nil) Tryz.func36 (by kernel_rfl) (by kernel_rfl)
def s37 (D:Dyn)(n:Nat):Tb:=⟨X,[]⟩
def f37 (D:Dyn)(n:Nat)(vs:List AV)(H:AH):Option (AV×AH):=
 yR (hd vs fun a vs=>nl vs <|
 bA (bxV 57 a) H fun b H=>
 bV (some (.bool false)) fun c=>some (.ret c,H))
def h37:Hint:=(.s .o (.s .o .o))
theorem zJR {D:Dyn}(hD:DG D)(n:Nat):FI 37 (f37 D n):=qP (n:=n) (h:=h37) X_ok hD (SOk.nil) Tryz.func37 (by kernel_rfl) (by kernel_rfl)
def s13 (D:Dyn)(n:Nat):Tb:=⟨X,[(35,f35 D n),(36,f36 D n)]⟩
def f13b0 (D:Dyn)(n:Nat)(vs:List AV)(H:AH):Rs:=
 hd vs fun a vs=>hd vs fun b vs=>hd vs fun c vs=>
 bV (kI a) fun d=>
 bV (fAd 3 d) fun e=>
 bV (ld1 e H) fun f=>
 bV (qL .neq f (.int .i64 (.ofNat 0))) fun g=>
 cnd g (bV (kI a) fun h=>
 bV (fAd 3 h) fun i=>
 bV (ld1 i H) fun k=>
 bV (some .nilSlice) fun m=>bV (some (.bool false)) fun o=>bV (some k) fun p=>some (.ret (.tuple [m,o,p]),H))
 (bV (ld1 b H) fun r=>
 bV (ld1 c H) fun t=>
 bV (some r) fun u=>bV (some t) fun v=>bV (some (.int .i64 (.ofNat 0))) fun w=>some (.ret (.tuple [u,v,w]),H))
def f13 (D:Dyn)(n:Nat)(vs:List AV)(H:AH):Option (AV×AH):=
 yR (hd vs fun a vs=>hd vs fun b vs=>hd vs fun c vs=>hd vs fun d vs=>nl vs <|
 bA (bxV 3 d) H fun e H=>
 bV (xJ .eql (eqP a .nilPtr)) fun f=>
 cnd f (bV (some .nilSlice) fun g=>bV (some (.bool false)) fun h=>bV (some (.int .i64 (.ofNat 2))) fun i=>some (.ret (.tuple [g,h,i]),H))
 (bV (ld1 e H) fun k=>
 bV (qL .lss k (.int .i64 (.ofNat 0))) fun m=>
 cnd m (bV (some .nilSlice) fun o=>bV (some (.bool false)) fun p=>bV (some (.int .i64 (.ofNat 1))) fun r=>some (.ret (.tuple [o,p,r]),H))
 (bR (f35 D n [a] H) fun t H=>
 bA (bxV 37 .nilSlice) H fun u H=>
 bA (bxV 4 (.bool false)) H fun v H=>
 bR (stN 1 v (.bool false) H) fun w H=>
 bR (f36 D n [t,b,c,(.func 37 [] [])] H) fun x H=>
 jb 0 (V9 H (.loop ⟨.ready,none,13,0,[7,12,13],[e,u,v]⟩) fun A H=>bR (rfC (s13 D n).S D x A H) fun _ H=>ZP A H fun j H=>zEU j (
 some (.norm [t,u,v],H))
 (fun id=>cond (Nat.beq 0 id) (some (.exit id [t,u,v],H)) (none)) (bV (some .nilSlice) fun y=>bV (some (.bool false)) fun z=>bV (some (.int .i64 (.ofNat 0))) fun B=>some (.ret (.tuple [y,z,B]),H))) (f13b0 D n))))
def h13:Hint:=(.s .o (.s (.s .o (.cl (.s .o .o) .o)) (.s (.s .o (.cl (.s .o .o) .o)) (.s .o (.s .o (.s .o (.s (.s .o (.b [11,12,13] (.rf 0 [7,12,13]))) (.s (.s .o (.cl (.s .o .o) .o)) (.s .o .o)))))))))
theorem zGt {D:Dyn}(hD:DG D)(n:Nat):FI 13 (f13 D n):=qP (n:=n) (h:=h13) X_ok hD (sc (zCT hD n) (sc (zCS hD n) (SOk.nil))) Tryz.func13 (by kernel_rfl) (by kernel_rfl)
def zHb (D:Dyn)(n:Nat)(A:Nat)(l:ALoop)(az:List AV)(H:AH):Option (AV×AH):=
 bif cT [7,12,13] l.live then zHU A (hd l.vals fun a vs=>hd vs fun b vs=>hd vs fun c vs=>hd az fun d az=>nl az <|
 bA (bxV 42 (.agg [(.str 0 0),(.str 0 0)])) H fun e H=>
 bR (stN 2 e d H) fun f H=>
 uF A H fun H=>
 bV (ld1 b H) fun g=>
 bV (lnSl g) fun h=>
 bV (ld1 a H) fun i=>
 bV (qL .eql h i) fun k=>
 cnd k (bR (stN 1 c (.bool true) H) fun m H=>
 some (.exit 0 [],H))
 (bV (ld1 b H) fun o=>
 bV (ldN 2 e H) fun p=>
 bA (xX 42 2 1 [(.str 0 0),(.str 0 0)] [(0,p)]) H fun r H=>
 bR (apP 42 2 32 o r H) fun t H=>
 bR (stN 1 b t H) fun u H=>
 some (.norm [],H)))else none
def zIU:Hint:= .o
def zIT:Hint:=(.b0 (.s (.s .o (.cl (.s .o .o) .o)) .o))
theorem zEt (D:Dyn)(n:Nat):zHb D n=zH5 (s13 D n) D n 13 0 [7,12,13] [0] zIU zIT:=by kernel_rfl
theorem zEs {D:Dyn}(hD:DG D)(n:Nat):RS 13 0 (zHb D n):=cQ X_ok hD (sc (zCT hD n) (sc (zCS hD n) (SOk.nil))) (by kernel_rfl) (zEt D n)
def s28 (D:Dyn)(n:Nat):Tb:=⟨X,[(14,f14 D n),(38,f38 D n),(54,f54 D n),(13,f13 D n)]⟩
def f28j0 (D:Dyn)(n:Nat)(vs:List AV)(H:AH):Rs:=
 hd vs fun a vs=>hd vs fun b vs=>hd vs fun c vs=>hd vs fun d vs=>
 bV (qL .add d (.int .i64 (.ofNat 1))) fun e=>
 some (.norm [a,b,c,e],H)
def f28l1 (D:Dyn)(n:Nat)(vs:List AV)(H:AH):Rs:=
 hd vs fun a vs=>hd vs fun b vs=>hd vs fun c vs=>hd vs fun d vs=>
 bV (qL .lss d c) fun e=>
 cnd e (bV (jP 2 b d) fun f=>
 bV (ldN 2 f H) fun g=>
 bA (bxV 42 (.agg [(.str 0 0),(.str 0 0)])) H fun h H=>
 bR (stN 2 h g H) fun i H=>
 bV (fAd 0 h) fun k=>
 bV (ld1 k H) fun m=>
 bV (yY m) fun o=>
 bV (qL .eql o (.int .i64 (.ofNat 9))) fun p=>
 jn (cnd p (bV (ldN 2 h H) fun r=>
 bA (xX 42 2 1 [(.str 0 0),(.str 0 0)] [(0,r)]) H fun t H=>
 bR (apP 42 2 32 a t H) fun u H=>
 some (.norm [u,b,c,d],H))
 (some (.norm [a,b,c,d],H))) (f28j0 D n))
 (some (.exit 0 [a],H))
def f28b2 (D:Dyn)(n:Nat)(vs:List AV)(H:AH):Rs:=
 hd vs fun a vs=>
 bV (some a) fun b=>bV (some (.int .i64 (.ofNat 0))) fun c=>some (.ret (.tuple [b,c]),H)
def f28 (D:Dyn)(n:Nat)(vs:List AV)(H:AH):Option (AV×AH):=
 yR (hd vs fun a vs=>hd vs fun b vs=>hd vs fun c vs=>nl vs <|
 bV (qL .gtr c (.int .i64 (.ofNat 4294967295))) fun d=>
 cnd d (bV (some .nilSlice) fun e=>bV (some (.int .i64 (.ofNat 0))) fun f=>some (.ret (.tuple [e,f]),H))
 (bR (f14 D n [b,c] H) fun g H=>
 bR (f38 D n [b] H) fun h H=>
 bR (f54 D n [h] H) fun i H=>
 bR (f13 D n [a,g,i,(.int .i64 (.ofNat 9223372036854775807))] H) fun k H=>
 bV (qH k 0) fun m=>
 bV (qH k 1) fun o=>
 bV (qH k 2) fun p=>
 bV (qL .neq p (.int .i64 (.ofNat 0))) fun r=>
 cnd r (bV (some .nilSlice) fun t=>bV (some p) fun u=>some (.ret (.tuple [t,u]),H))
 (bV (lnSl m) fun v=>
 jb 0 (qW n (f28l1 D n) [.nilSlice,m,v,(.int .i64 (.ofNat 0))] H) (f28b2 D n))))
def h28:Hint:=(.s .o (.s (.s .o (.cl (.s .o .o) .o)) (.s .o (.s (.s .o (.cl (.s .o .o) .o)) (.s .o (.s (.s .o (.b [11] (.l [11,31,32,33] (.s .o (.s (.cr .o .o) (.s (.b0 (.s .o (.s .o (.c [11,31,32,33] .o .o)))) .o)))))) (.s .o .o)))))))
theorem zCX {D:Dyn}(hD:DG D)(n:Nat):FI 28 (f28 D n):=qP (n:=n) (h:=h28) X_ok hD (sc (Y6 hD n) (sc (zCR hD n) (sc (zGh hD n) (sc (zGt hD n) (SOk.nil))))) Tryz.func28 (by kernel_rfl) (by kernel_rfl)
def s29 (D:Dyn)(n:Nat):Tb:=⟨X,[(14,f14 D n),(27,f27 D n),(30,f30 D n)]⟩
def f29b0 (D:Dyn)(n:Nat)(vs:List AV)(H:AH):Rs:=
 hd vs fun a vs=>hd vs fun b vs=>hd vs fun c vs=>hd vs fun d vs=>hd vs fun e vs=>hd vs fun f vs=>hd vs fun g vs=>
 bV (qL .add g (.int .i64 (.ofNat 1))) fun h=>
 some (.norm [a,b,c,d,e,f,h],H)
def f29l1 (D:Dyn)(n:Nat)(vs:List AV)(H:AH):Rs:=
 hd vs fun a vs=>hd vs fun b vs=>hd vs fun c vs=>hd vs fun d vs=>hd vs fun e vs=>hd vs fun f vs=>hd vs fun g vs=>
 bV (qL .lss g f) fun h=>
 cnd h (jb 1 (bV (jP 2 e g) fun i=>
 bV (ldN 2 i H) fun k=>
 bA (bxV 42 (.agg [(.str 0 0),(.str 0 0)])) H fun m H=>
 bR (stN 2 m k H) fun o H=>
 bV (fAd 0 m) fun p=>
 bV (ld1 p H) fun r=>
 bV (ld1 a H) fun t=>
 bV (ld1 b H) fun u=>
 bR (f14 D n [t,u] H) fun v H=>chk (ld1 p H) r <|
 bV (kX .eql r v) fun w=>
 jn (wnt w true (bV (ld1 c H) fun x=>
 bV (qL .gtr x (.int .i64 (.ofNat 0))) fun y=>
 some (.norm [y],H)) (some (.norm [qI],H))) fun vs H=>hd vs fun z vs=>
 bV (pk3 (some w) (some z) (some (.bool false))) fun B=>
 cnd B (bV (fAd 1 m) fun C=>
 bV (ld1 C H) fun E=>
 bV (yY E) fun F=>
 bV (ld1 c H) fun G=>
 bV (qL .leq F G) fun I=>
 cnd I (some (.exit 1 [a,b,c,d,e,f,g],H))
 (bV (ld1 d H) fun J=>
 bV (ld1 a H) fun K=>
 bV (ld1 b H) fun M=>
 bV (fAd 1 m) fun N=>
 bV (ld1 N H) fun O=>
 bV (ld1 c H) fun P=>
 bV (fW O none (some P)) fun Q=>
 bA (cvSB 5 Q) H fun R H=>
 bR (f27 D n [J,K,M,R,(.bool true)] H) fun T H=>
 bV (qL .neq T (.int .i64 (.ofNat 0))) fun U=>
 cnd U (bV (some T) fun V=>some (.ret V,H))
 (some (.exit 1 [a,b,c,d,e,f,g],H))))
 (bV (ld1 d H) fun W=>
 bV (fAd 0 m) fun Y=>
 bV (ld1 Y H) fun Z=>
 bR (f30 D n [W,Z] H) fun a0 H=>
 bV (qL .neq a0 (.int .i64 (.ofNat 0))) fun a1=>
 cnd a1 (bV (some a0) fun a2=>some (.ret a2,H))
 (some (.norm [a,b,c,d,e,f,g],H)))) (f29b0 D n))
 (some (.exit 0 [],H))
def f29b2 (D:Dyn)(n:Nat)(vs:List AV)(H:AH):Rs:=
 bV (some (.int .i64 (.ofNat 0))) fun a=>some (.ret a,H)
def f29 (D:Dyn)(n:Nat)(vs:List AV)(H:AH):Option (AV×AH):=
 yR (hd vs fun a vs=>hd vs fun b vs=>hd vs fun c vs=>hd vs fun d vs=>hd vs fun e vs=>nl vs <|
 bV (ld1 a H) fun f=>
 bV (lnSl f) fun g=>
 jb 0 (qW n (f29l1 D n) [b,c,d,e,f,g,(.int .i64 (.ofNat 0))] H) (f29b2 D n))
def h29:Hint:=(.s .o (.s (.s .o (.b [] (.l [1,2,3,4,10,11,12] (.s .o (.s (.cr .o .o) (.s (.b [1,2,3,4,10,11,12] (.s .o (.s (.s .o (.cl (.s (.s .o (.cl .o .o)) (.s (.s .o (.s .o (.cl (.s .o .o) .o))) .o)) .o)) (.s .o (.s .o (.cl (.s .o .o) .o)))))) .o)))))) (.s .o .o)))
theorem zJT {D:Dyn}(hD:DG D)(n:Nat):FI 29 (f29 D n):=qP (n:=n) (h:=h29) X_ok hD (sc (Y6 hD n) (sc (BT hD n) (sc (zCW hD n) (SOk.nil)))) Tryz.func29 (by kernel_rfl) (by kernel_rfl)
def s10 (D:Dyn)(n:Nat):Tb:=⟨X,[(22,f22 D n),(28,f28 D n),(23,f23 D n)]⟩
def f10 (D:Dyn)(n:Nat)(vs:List AV)(H:AH):Option (AV×AH):=
 yR (hd vs fun a vs=>hd vs fun b vs=>hd vs fun c vs=>nl vs <|
 bA (bxV 25 a) H fun d H=>
 bA (bxV 3 b) H fun e H=>
 bV (ld1 d H) fun f=>
 bV (xJ .eql (eqP f .nilPtr)) fun g=>
 cnd g (bV (some (.int .i64 (.ofNat 2))) fun h=>some (.ret h,H))
 (bV (ld1 e H) fun i=>
 bR (f22 D n [i] H) fun k H=>
 bV (aun .not k) fun m=>
 jn (wnt m false (bV (qL .lss c (.int .i64 (.ofNat 0))) fun o=>
 some (.norm [o],H)) (some (.norm [qI],H))) fun vs H=>hd vs fun p vs=>
 bV (pk3 (some m) (some (.bool true)) (some p)) fun r=>
 cnd r (bV (some (.int .i64 (.ofNat 1))) fun t=>some (.ret t,H))
 (bV (qL .quo c (.int .i64 (.ofNat 128))) fun u=>
 bV (qL .rem c (.int .i64 (.ofNat 128))) fun v=>
 bA (bxV 3 (.int .i64 (.ofNat 0))) H fun w H=>
 bA (bxV 3 (.int .i64 (.ofNat 0))) H fun x H=>
 bR (stN 1 w u H) fun y H=>
 bR (stN 1 x v H) fun z H=>
 bV (ld1 d H) fun B=>
 bV (ld1 e H) fun C=>
 bV (ld1 w H) fun E=>
 bR (f28 D n [B,C,E] H) fun F H=>
 bV (qH F 0) fun G=>
 bV (qH F 1) fun I=>
 bA (bxV 37 .nilSlice) H fun J H=>
 bR (stN 1 J G H) fun K H=>
 bV (qL .neq I (.int .i64 (.ofNat 0))) fun M=>
 jn (wnt M false (bV (ld1 J H) fun N=>
 bV (lnSl N) fun O=>
 bV (qL .eql O (.int .i64 (.ofNat 0))) fun P=>
 some (.norm [P],H)) (some (.norm [qI],H))) fun vs H=>hd vs fun Q vs=>
 bV (pk3 (some M) (some (.bool true)) (some Q)) fun R=>
 cnd R (bV (some I) fun T=>some (.ret T,H))
 (bV (ld1 d H) fun U=>
 bR (f23 D n [U,(.func 29 [] [J,e,w,x,d])] H) fun V H=>
 bV (some V) fun W=>some (.ret W,H)))))
def h10:Hint:=(.s .o (.s (.s .o (.cl (.s .o .o) .o)) (.s (.s .o (.cl (.s .o .o) .o)) (.s .o (.s .o (.s (.s .o (.cl (.s .o .o) .o)) (.s .o .o)))))))
theorem zGu {D:Dyn}(hD:DG D)(n:Nat):FI 10 (f10 D n):=qP (n:=n) (h:=h10) X_ok hD (sc (Y5 hD n) (sc (zCX hD n) (sc (zCY hD n) (SOk.nil)))) Tryz.func10 (by kernel_rfl) (by kernel_rfl)
def s15 (D:Dyn)(n:Nat):Tb:=⟨X,[(22,f22 D n),(28,f28 D n)]⟩
def f15 (D:Dyn)(n:Nat)(vs:List AV)(H:AH):Option (AV×AH):=
 yR (hd vs fun a vs=>hd vs fun b vs=>nl vs <|
 bV (xJ .eql (eqP a .nilPtr)) fun c=>
 cnd c (bV (some (.int .i64 (.ofNat 0))) fun d=>bV (some (.int .i64 (.ofNat 2))) fun e=>some (.ret (.tuple [d,e]),H))
 (bR (f22 D n [b] H) fun f H=>
 bV (aun .not f) fun g=>
 cnd g (bV (some (.int .i64 (.ofNat 0))) fun h=>bV (some (.int .i64 (.ofNat 1))) fun i=>some (.ret (.tuple [h,i]),H))
 (bR (f28 D n [a,b,(.int .i64 (.ofNat 0))] H) fun k H=>
 bV (qH k 0) fun m=>
 bV (qH k 1) fun o=>
 bV (lnSl m) fun p=>
 bV (some p) fun r=>bV (some o) fun t=>some (.ret (.tuple [r,t]),H))))
def h15:Hint:=(.s .o (.s (.s .o (.cl (.s .o .o) .o)) (.s (.s .o (.cl (.s .o .o) .o)) (.s .o (.s .o .o)))))
theorem zGs {D:Dyn}(hD:DG D)(n:Nat):FI 15 (f15 D n):=qP (n:=n) (h:=h15) X_ok hD (sc (Y5 hD n) (sc (zCX hD n) (SOk.nil))) Tryz.func15 (by kernel_rfl) (by kernel_rfl)
def s6 (D:Dyn)(n:Nat):Tb:=⟨X,[(7,f7 D n),(9,f9 D n),(14,f14 D n),(12,f12 D n),(11,f11 D n),(10,f10 D n),(15,f15 D n)]⟩
def f6 (D:Dyn)(n:Nat)(vs:List AV)(H:AH):Option (AV×AH):=
 yR (nl vs <|
 bR (f7 D n [] H) fun a H=>
 bV (xJ .eql (eqP a .nilPtr)) fun b=>
 jn (wnt b false (bR (f9 D n [a,(.int .i64 (.ofNat 5)),(.int .i64 (.ofNat 126)),(.str 4 1684234849)] H) fun c H=>
 bV (qL .neq c (.int .i64 (.ofNat 0))) fun d=>
 some (.norm [d],H)) (some (.norm [qI],H))) fun vs H=>hd vs fun e vs=>
 bV (pk3 (some b) (some (.bool true)) (some e)) fun f=>
 cnd f (bV (some (.bool false)) fun g=>some (.ret g,H))
 (bR (f14 D n [(.int .i64 (.ofNat 5)),(.int .i64 (.ofNat 0))] H) fun h H=>
 bR (f12 D n [a,h] H) fun i H=>
 bV (qH i 0) fun k=>
 bV (qH i 1) fun m=>
 bR (f14 D n [(.int .i64 (.ofNat 5)),(.int .i64 (.ofNat 1))] H) fun o H=>
 bR (f12 D n [a,o] H) fun p H=>
 bV (qH p 0) fun r=>
 bV (qH p 1) fun t=>
 bR (f11 D n [a,(.int .i64 (.ofNat 5)),(.int .i64 (.ofNat 130)),(.int .i64 (.ofNat 125)),(.int .i64 (.ofNat 3))] H) fun u H=>
 bV (qH u 0) fun v=>
 bV (qH u 1) fun w=>
 bR (f10 D n [a,(.int .i64 (.ofNat 5)),(.int .i64 (.ofNat 127))] H) fun x H=>
 bR (f14 D n [(.int .i64 (.ofNat 5)),(.int .i64 (.ofNat 0))] H) fun y H=>
 bR (f12 D n [a,y] H) fun z H=>
 bV (qH z 0) fun B=>
 bV (qH z 1) fun C=>
 bR (f14 D n [(.int .i64 (.ofNat 5)),(.int .i64 (.ofNat 1))] H) fun E H=>
 bR (f12 D n [a,E] H) fun F H=>
 bV (qH F 0) fun G=>
 bV (qH F 1) fun I=>
 bR (f9 D n [a,(.int .i64 (.ofNat 5)),(.int .i64 (.ofNat 126)),(.str 1 0)] H) fun J H=>
 bR (f15 D n [a,(.int .i64 (.ofNat 5))] H) fun K H=>
 bV (qH K 0) fun M=>
 bV (qH K 1) fun N=>
 bV (yY k) fun O=>
 bV (qL .eql O (.int .i64 (.ofNat 128))) fun P=>
 jn (wnt P true (bV (fW k (some (.int .i64 (.ofNat 126))) none) fun Q=>
 bV (kX .eql Q (.str 2 25185)) fun R=>
 some (.norm [R],H)) (some (.norm [qI],H))) fun vs H=>hd vs fun T vs=>
 bV (pk3 (some P) (some T) (some (.bool false))) fun U=>
 jn (wnt U true (bV (qL .eql m (.int .i64 (.ofNat 0))) fun V=>
 some (.norm [V],H)) (some (.norm [qI],H))) fun vs H=>hd vs fun W vs=>
 bV (pk3 (some U) (some W) (some (.bool false))) fun Y=>
 jn (wnt Y true (bV (kX .eql r (.str 2 25699)) fun Z=>
 some (.norm [Z],H)) (some (.norm [qI],H))) fun vs H=>hd vs fun a0 vs=>
 bV (pk3 (some Y) (some a0) (some (.bool false))) fun a1=>
 jn (wnt a1 true (bV (qL .eql t (.int .i64 (.ofNat 0))) fun a2=>
 some (.norm [a2],H)) (some (.norm [qI],H))) fun vs H=>hd vs fun a3 vs=>
 bV (pk3 (some a1) (some a3) (some (.bool false))) fun a4=>
 jn (wnt a4 true (bV (kX .eql v (.str 3 6447360)) fun a5=>
 some (.norm [a5],H)) (some (.norm [qI],H))) fun vs H=>hd vs fun a6 vs=>
 bV (pk3 (some a4) (some a6) (some (.bool false))) fun a7=>
 jn (wnt a7 true (bV (qL .eql w (.int .i64 (.ofNat 0))) fun a8=>
 some (.norm [a8],H)) (some (.norm [qI],H))) fun vs H=>hd vs fun a9 vs=>
 bV (pk3 (some a7) (some a9) (some (.bool false))) fun b0=>
 jn (wnt b0 true (bV (qL .eql x (.int .i64 (.ofNat 0))) fun b1=>
 some (.norm [b1],H)) (some (.norm [qI],H))) fun vs H=>hd vs fun b2 vs=>
 bV (pk3 (some b0) (some b2) (some (.bool false))) fun b3=>
 jn (wnt b3 true (bV (yY B) fun b4=>
 bV (qL .eql b4 (.int .i64 (.ofNat 127))) fun b5=>
 some (.norm [b5],H)) (some (.norm [qI],H))) fun vs H=>hd vs fun b6 vs=>
 bV (pk3 (some b3) (some b6) (some (.bool false))) fun b7=>
 jn (wnt b7 true (bV (bL B (.int .i64 (.ofNat 126))) fun b8=>
 bV (qL .eql b8 (.int .u8 (.ofNat 97))) fun b9=>
 some (.norm [b9],H)) (some (.norm [qI],H))) fun vs H=>hd vs fun c0 vs=>
 bV (pk3 (some b7) (some c0) (some (.bool false))) fun c1=>
 jn (wnt c1 true (bV (qL .eql C (.int .i64 (.ofNat 0))) fun c2=>
 some (.norm [c2],H)) (some (.norm [qI],H))) fun vs H=>hd vs fun c3 vs=>
 bV (pk3 (some c1) (some c3) (some (.bool false))) fun c4=>
 jn (wnt c4 true (bV (qL .eql I (.int .i64 (.ofNat 5))) fun c5=>
 some (.norm [c5],H)) (some (.norm [qI],H))) fun vs H=>hd vs fun c6 vs=>
 bV (pk3 (some c4) (some c6) (some (.bool false))) fun c7=>
 jn (wnt c7 true (bV (qL .eql J (.int .i64 (.ofNat 0))) fun c8=>
 some (.norm [c8],H)) (some (.norm [qI],H))) fun vs H=>hd vs fun c9 vs=>
 bV (pk3 (some c7) (some c9) (some (.bool false))) fun d0=>
 jn (wnt d0 true (bV (qL .eql M (.int .i64 (.ofNat 0))) fun d1=>
 some (.norm [d1],H)) (some (.norm [qI],H))) fun vs H=>hd vs fun d2 vs=>
 bV (pk3 (some d0) (some d2) (some (.bool false))) fun d3=>
 jn (wnt d3 true (bV (qL .eql N (.int .i64 (.ofNat 0))) fun d4=>
 some (.norm [d4],H)) (some (.norm [qI],H))) fun vs H=>hd vs fun d5 vs=>
 bV (pk3 (some d3) (some d5) (some (.bool false))) fun d6=>
 jn (wnt d6 true (bR (f14 D n [(.int .i64 (.ofNat 5)),(.int .i64 (.ofNat 1))] H) fun d7 H=>
 bV (kX .eql d7 (.str 9 18446744095184388196)) fun d8=>
 some (.norm [d8],H)) (some (.norm [qI],H))) fun vs H=>hd vs fun d9 vs=>
 bV (pk3 (some d6) (some d9) (some (.bool false))) fun e0=>
 bV (some e0) fun e1=>some (.ret e1,H)))
def h6:Hint:=(.s .o (.s .o (.s (.s .o (.cl (.s .o .o) .o)) (.s .o (.s .o (.s .o (.s .o (.s .o (.s .o (.s .o (.s .o (.s .o .o))))))))))))
theorem zF8 {D:Dyn}(hD:DG D)(n:Nat):FI 6 (f6 D n):=qP (n:=n) (h:=h6) X_ok hD (sc (zF7 hD n) (sc (zF6 hD n) (sc (Y6 hD n) (sc (zD1 hD n) (sc (BU hD n) (sc (zGu hD n) (sc (zGs hD n) (SOk.nil)))))))) Tryz.func6 (by kernel_rfl) (by kernel_rfl)
end Go.Eng.Sh
end
end
section
noncomputable section
namespace Go.Eng.Sh
open Go.Proofs
set_option maxRecDepth 100000
def s4 (D:Dyn)(n:Nat):Tb:=⟨X,[(7,f7 D n),(6,f6 D n),(9,f9 D n),(11,f11 D n)]⟩
def f4j0 (D:Dyn)(n:Nat)(vs:List AV)(H:AH):Rs:=
 hd vs fun a vs=>hd vs fun b vs=>hd vs fun c vs=>hd vs fun d vs=>hd vs fun e vs=>hd vs fun f vs=>hd vs fun g vs=>hd vs fun h vs=>
 bV (qL .add h (.int .i64 (.ofNat 1))) fun i=>
 some (.norm [a,b,c,d,e,f,g,i],H)
def f4l1 (D:Dyn)(n:Nat)(vs:List AV)(H:AH):Rs:=
 hd vs fun a vs=>hd vs fun b vs=>hd vs fun c vs=>hd vs fun d vs=>hd vs fun e vs=>hd vs fun f vs=>hd vs fun g vs=>hd vs fun h vs=>
 bV (lnSl a) fun i=>
 bV (qL .lss h i) fun k=>
 jn (wnt k true (bV (lnSl b) fun m=>
 bV (qL .lss h m) fun o=>
 some (.norm [o],H)) (some (.norm [qI],H))) fun vs H=>hd vs fun p vs=>
 bV (pk3 (some k) (some p) (some (.bool false))) fun r=>
 cnd r (bV (jP 1 a h) fun t=>
 bV (ld1 t H) fun u=>
 bV (yY u) fun v=>
 bV (qL .gtr v (.int .i64 (.ofNat 500))) fun w=>
 cnd w (bV (some (.bool true)) fun x=>some (.ret x,H))
 (bV (jP 1 b h) fun y=>
 bV (ld1 y H) fun z=>
 bV (qL .rem z (.int .u16 (.ofNat 8000))) fun B=>
 bV (cvI .i64 B) fun C=>
 bV (jP 1 a h) fun E=>
 bV (ld1 E H) fun F=>
 bR (f9 D n [f,(.int .i64 (.ofNat 5)),C,F] H) fun G H=>
 bV (qL .eql G (.int .i64 (.ofNat 0))) fun I=>
 jn (cnd I (bV (jP 1 b h) fun J=>
 bV (ld1 J H) fun K=>
 bV (qL .rem K (.int .u16 (.ofNat 8000))) fun M=>
 bV (cvI .i64 M) fun N=>
 bV (jP 1 a h) fun O=>
 bV (ld1 O H) fun P=>
 bV (yY P) fun Q=>
 bV (qL .add N Q) fun R=>
 bV (mx2 g R) fun T=>
 some (.norm [a,b,c,d,e,f,T,h],H))
 (some (.norm [a,b,c,d,e,f,g,h],H))) (f4j0 D n)))
 (some (.exit 0 [c,d,e,f,g],H))
def f4b2 (D:Dyn)(n:Nat)(vs:List AV)(H:AH):Rs:=
 hd vs fun a vs=>hd vs fun b vs=>hd vs fun c vs=>hd vs fun d vs=>hd vs fun e vs=>
 bR (f11 D n [d,(.int .i64 (.ofNat 5)),e,a,b] H) fun f H=>
 bV (qH f 0) fun g=>
 bV (qH f 1) fun h=>
 bV (yY g) fun i=>
 bV (qL .add a i) fun k=>
 bR (f11 D n [d,(.int .i64 (.ofNat 5)),e,k,c] H) fun m H=>
 bV (qH m 0) fun o=>
 bV (qH m 1) fun p=>
 bV (qL .add b c) fun r=>
 bR (f11 D n [d,(.int .i64 (.ofNat 5)),e,a,r] H) fun t H=>
 bV (qH t 0) fun u=>
 bV (qH t 1) fun v=>
 bV (qL .add b c) fun w=>
 bR (f11 D n [d,(.int .i64 (.ofNat 5)),e,a,w] H) fun x H=>
 bV (qH x 0) fun y=>
 bV (qH x 1) fun z=>
 bV (qL .neq h (.int .i64 (.ofNat 0))) fun B=>
 jn (wnt B false (bV (qL .neq p (.int .i64 (.ofNat 0))) fun C=>
 some (.norm [C],H)) (some (.norm [qI],H))) fun vs H=>hd vs fun E vs=>
 bV (pk3 (some B) (some (.bool true)) (some E)) fun F=>
 jn (wnt F false (bV (qL .neq v (.int .i64 (.ofNat 0))) fun G=>
 some (.norm [G],H)) (some (.norm [qI],H))) fun vs H=>hd vs fun I vs=>
 bV (pk3 (some F) (some (.bool true)) (some I)) fun J=>
 jn (wnt J false (bV (qL .neq z (.int .i64 (.ofNat 0))) fun K=>
 some (.norm [K],H)) (some (.norm [qI],H))) fun vs H=>hd vs fun M vs=>
 bV (pk3 (some J) (some (.bool true)) (some M)) fun N=>
 cnd N (bV (qL .neq h (.int .i64 (.ofNat 0))) fun O=>
 jn (wnt O false (bV (qL .neq p (.int .i64 (.ofNat 0))) fun P=>
 some (.norm [P],H)) (some (.norm [qI],H))) fun vs H=>hd vs fun Q vs=>
 bV (pk3 (some O) (some (.bool true)) (some Q)) fun R=>
 jn (wnt R false (bV (qL .eql v z) fun T=>
 some (.norm [T],H)) (some (.norm [qI],H))) fun vs H=>hd vs fun U vs=>
 bV (pk3 (some R) (some (.bool true)) (some U)) fun V=>
 bV (some V) fun W=>some (.ret W,H))
 (bV (kX .eql u y) fun Y=>
 jn (wnt Y true (bV (yY g) fun Z=>
 bV (qL .lss Z b) fun a0=>
 some (.norm [a0],H)) (some (.norm [qI],H))) fun vs H=>hd vs fun a1 vs=>
 jn (wnt a1 true (bV (kX .eql u g) fun a2=>
 some (.norm [a2],H)) (some (.norm [qI],H))) fun vs H=>hd vs fun a3 vs=>
 jn (wnt Y true (bV (pk3 (some a1) (some a3) (some (.bool false))) fun a4=>
 some (.norm [a4],H)) (some (.norm [qI],H))) fun vs H=>hd vs fun a5 vs=>
 jn (wnt a5 false (bV (yY g) fun a6=>
 bV (qL .eql a6 b) fun a7=>
 some (.norm [a7],H)) (some (.norm [qI],H))) fun vs H=>hd vs fun a8 vs=>
 jn (wnt a8 true (bV (kX .add g o) fun a9=>
 bV (kX .eql u a9) fun b0=>
 some (.norm [b0],H)) (some (.norm [qI],H))) fun vs H=>hd vs fun b1 vs=>
 jn (wnt a5 false (bV (pk3 (some a8) (some b1) (some (.bool false))) fun b2=>
 some (.norm [b2],H)) (some (.norm [qI],H))) fun vs H=>hd vs fun b3 vs=>
 jn (wnt Y true (bV (pk3 (some a5) (some (.bool true)) (some b3)) fun b4=>
 some (.norm [b4],H)) (some (.norm [qI],H))) fun vs H=>hd vs fun b5 vs=>
 bV (pk3 (some Y) (some b5) (some (.bool false))) fun b6=>
 bV (some b6) fun b7=>some (.ret b7,H))
def f4 (D:Dyn)(n:Nat)(vs:List AV)(H:AH):Option (AV×AH):=
 yR (hd vs fun a vs=>hd vs fun b vs=>hd vs fun c vs=>hd vs fun d vs=>hd vs fun e vs=>nl vs <|
 bR (f7 D n [] H) fun f H=>
 bR (f6 D n [] H) fun g H=>
 bV (aun .not g) fun h=>
 jn (wnt h false (bV (xJ .eql (eqP f .nilPtr)) fun i=>
 some (.norm [i],H)) (some (.norm [qI],H))) fun vs H=>hd vs fun k vs=>
 bV (pk3 (some h) (some (.bool true)) (some k)) fun m=>
 jn (wnt m false (bV (lnSl a) fun o=>
 bV (qL .gtr o (.int .i64 (.ofNat 12))) fun p=>
 some (.norm [p],H)) (some (.norm [qI],H))) fun vs H=>hd vs fun r vs=>
 bV (pk3 (some m) (some (.bool true)) (some r)) fun t=>
 jn (wnt t false (bV (qL .lss c (.int .i64 (.ofNat 0))) fun u=>
 some (.norm [u],H)) (some (.norm [qI],H))) fun vs H=>hd vs fun v vs=>
 bV (pk3 (some t) (some (.bool true)) (some v)) fun w=>
 jn (wnt w false (bV (qL .lss d (.int .i64 (.ofNat 0))) fun x=>
 some (.norm [x],H)) (some (.norm [qI],H))) fun vs H=>hd vs fun y vs=>
 bV (pk3 (some w) (some (.bool true)) (some y)) fun z=>
 jn (wnt z false (bV (qL .lss e (.int .i64 (.ofNat 0))) fun B=>
 some (.norm [B],H)) (some (.norm [qI],H))) fun vs H=>hd vs fun C vs=>
 bV (pk3 (some z) (some (.bool true)) (some C)) fun E=>
 jn (wnt E false (bV (qL .gtr c (.int .i64 (.ofNat 40000))) fun F=>
 some (.norm [F],H)) (some (.norm [qI],H))) fun vs H=>hd vs fun G vs=>
 bV (pk3 (some E) (some (.bool true)) (some G)) fun I=>
 jn (wnt I false (bV (qL .gtr d (.int .i64 (.ofNat 40000))) fun J=>
 some (.norm [J],H)) (some (.norm [qI],H))) fun vs H=>hd vs fun K vs=>
 bV (pk3 (some I) (some (.bool true)) (some K)) fun M=>
 jn (wnt M false (bV (qL .gtr e (.int .i64 (.ofNat 40000))) fun N=>
 some (.norm [N],H)) (some (.norm [qI],H))) fun vs H=>hd vs fun O vs=>
 bV (pk3 (some M) (some (.bool true)) (some O)) fun P=>
 cnd P (bR (f6 D n [] H) fun Q H=>
 bV (some Q) fun R=>some (.ret R,H))
 (jb 0 (qW n (f4l1 D n) [a,b,c,d,e,f,(.int .i64 (.ofNat 0)),(.int .i64 (.ofNat 0))] H) (f4b2 D n)))
def h4:Hint:=(.s .o (.s .o (.s (.s .o (.cl (.s .o .o) .o)) (.s .o (.s (.s .o (.b [2,3,4,11,12] (.l [0,1,2,3,4,11,12,13] (.s (.s .o (.cr .o .o)) (.s (.b0 (.s (.s .o (.cl (.s .o .o) .o)) (.s .o (.c [0,1,2,3,4,11,12,13] .o .o)))) .o))))) (.s .o (.s .o (.s .o (.s .o (.s (.s .o (.cl (.s .o .o) .o)) (.s .o .o)))))))))))
theorem f4_ok {D:Dyn}(hD:DG D)(n:Nat):FI 4 (f4 D n):=qP (n:=n) (h:=h4) X_ok hD (sc (zF7 hD n) (sc (zF8 hD n) (sc (zF6 hD n) (sc (BU hD n) (SOk.nil))))) Tryz.func4 (by kernel_rfl) (by kernel_rfl)
end Go.Eng.Sh
end
end
section
noncomputable section
namespace Go.Eng.Sh
open Go.Proofs
set_option maxRecDepth 100000
def tab (D:Dyn)(n:Nat):List (Nat×(List AV->AH->Option (AV×AH))):=[(4,f4 D n),(6,f6 D n),(7,f7 D n),(8,f8 D n),(9,f9 D n),(10,f10 D n),(11,f11 D n),(12,f12 D n),(13,f13 D n),(14,f14 D n),(15,f15 D n),(16,f16 D n),(17,f17 D n),(18,f18 D n),(19,f19 D n),(20,f20 D n),(21,f21 D n),(22,f22 D n),(23,f23 D n),(24,f24 D n),(25,f25 D n),(26,f26 D n),(27,f27 D n),(28,f28 D n),(29,f29 D n),(30,f30 D n),(31,f31 D n),(32,f32 D n),(33,f33 D n),(34,f34 D n),(35,f35 D n),(36,f36 D n),(37,f37 D n),(38,f38 D n),(39,f39 D n),(40,f40 D n),(41,f41 D n),(42,f42 D n),(43,f43 D n),(44,f44 D n),(45,f45 D n),(46,f46 D n),(47,f47 D n),(48,f48 D n),(49,f49 D n),(50,m50 D n),(51,f51 D n),(52,f52 D n),(53,f53 D n),(54,f54 D n),(55,f55 D n),(56,f56 D n),(58,f58 D n),(59,f59 D n),(60,f60 D n),(61,f61 D n),(62,f62 D n),(63,f63 D n),(64,f64 D n),(65,f65 D n),(66,f66 D n),(67,f67 D n),(68,f68 D n),(69,f69 D n),(70,f70 D n),(73,m73 D n),(74,f74 D n),(75,f75 D n),(88,f88 D n),(89,f89 D n),(90,f90 D n),(91,f91 D n),(92,f92 D n),(93,f93 D n),(94,f94 D n),(107,zJX D n),(108,zFe D n)]
def tabR (D:Dyn)(n:Nat):List ((Nat×Nat)×(Nat->ALoop->List AV->AH->Option (AV×AH))):=[((11,0),zBN D n),((13,0),zHb D n),((24,0),zBM D n),((61,0),zHa D n)]
theorem zIA (D:Dyn)(n:Nat)(hD:DG D):SOk (tab D n):=sc (f4_ok hD n) (sc (zF8 hD n) (sc (zF7 hD n) (sc (zJt hD n) (sc (zF6 hD n) (sc (zGu hD n) (sc (BU hD n) (sc (zD1 hD n) (sc (zGt hD n) (sc (Y6 hD n) (sc (zGs hD n) (sc (zGr hD n) (sc (zGq hD n) (sc (ZM hD n) (sc (zCZ hD n) (sc (zJW hD n) (sc (zGp hD n) (sc (Y5 hD n) (sc (zCY hD n) (sc (zJU hD n) (sc (X9 hD n) (sc (X8 hD n) (sc (BT hD n) (sc (zCX hD n) (sc (zJT hD n) (sc (zCW hD n) (sc (zCV hD n) (sc (WZ hD n) (sc (zGo hD n) (sc (dZ hD n) (sc (zCT hD n) (sc (zCS hD n) (sc (zJR hD n) (sc (zCR hD n) (sc (zGn hD n) (sc (zGm hD n) (sc (zCQ hD n) (sc (BS hD n) (sc (zJN hD n) (sc (zGl hD n) (sc (zCL hD n) (sc (zGk hD n) (sc (WW hD n) (sc (BR hD n) (sc (BQ hD n) (sc (zG1 hD n) (sc (zGj hD n) (sc (zJL hD n) (sc (zGi hD n) (sc (zGh hD n) (sc (zJK hD n) (sc (zGg hD n) (sc (zGf hD n) (sc (zGe hD n) (sc (zGd hD n) (sc (zJI hD n) (sc (zCH hD n) (sc (zGc hD n) (sc (zGb hD n) (sc (BP hD n) (sc (zGa hD n) (sc (zCD hD n) (sc (BO hD n) (sc (zCB hD n) (sc (zCz hD n) (sc (zG0 hD n) (sc (BN hD n) (sc (zG9 hD n) (sc (zJu hD n) (sc (zG8 hD n) (sc (zG7 hD n) (sc (zG6 hD n) (sc (zG5 hD n) (sc (zG4 hD n) (sc (zG3 hD n) (sc (zD4 hD n) (sc (zD3 hD n) (SOk.nil)))))))))))))))))))))))))))))))))))))))))))))))))))))))))))))))))))))))))))))
theorem zGI (D:Dyn)(n:Nat)(hD:DG D):ROk (tabR D n):=ROk.cons (zEu hD n) (ROk.cons (zEs hD n) (ROk.cons (zEq hD n) (ROk.cons (zEo hD n) (ROk.nil))))
def dy (n:Nat):Dyn:=dyOf tab tabR n
theorem dy_ok (n:Nat):DG (dy n):=zDc zIA zGI n
end Go.Eng.Sh
end
end
section
noncomputable section
namespace Go.Eng.Sh
open Go.Proofs
set_option maxRecDepth 1000000
theorem c6_r:zH1 (f6 (dy 100000) 100000 [] ⟨.leaf,0⟩)=true:=by kernel_rfl
theorem c6 (w:World):Calls PP 6 #[] w fun e w'=>e= .returned (.bool true)/\RowKit.Below w.heap.size w w':=zFu (zF8 (dy_ok 100000) 100000) c6_r w
end Go.Eng.Sh
end
end
section
noncomputable section
namespace Go.Eng.Sh
open Go.Proofs
set_option maxRecDepth 1000000
def z6 (D:Dyn)(n:Nat)(vs:List AV)(H:AH):Option (AV×AH):=cloK (f6 D n) vs H
theorem z6_ok {D:Dyn}(hD:DG D)(n:Nat):FI 6 (z6 D n):=zI1 ⟨_,Tryz.func6,rfl⟩ c6 (zF8 hD n)
def s4z (D:Dyn)(n:Nat):Tb:=⟨X,[(7,f7 D n),(6,z6 D n),(9,f9 D n),(11,f11 D n)]⟩
def zHL (D:Dyn)(n:Nat)(vs:List AV)(H:AH):Rs:=
 hd vs fun a vs=>hd vs fun b vs=>hd vs fun c vs=>hd vs fun d vs=>hd vs fun e vs=>hd vs fun f vs=>hd vs fun g vs=>hd vs fun h vs=>
 bV (qL .add h (.int .i64 (.ofNat 1))) fun i=>
 some (.norm [a,b,c,d,e,f,g,i],H)
def QA (D:Dyn)(n:Nat)(vs:List AV)(H:AH):Rs:=
 hd vs fun a vs=>hd vs fun b vs=>hd vs fun c vs=>hd vs fun d vs=>hd vs fun e vs=>hd vs fun f vs=>hd vs fun g vs=>hd vs fun h vs=>
 bV (lnSl a) fun i=>
 bV (qL .lss h i) fun k=>
 jn (wnt k true (bV (lnSl b) fun m=>
 bV (qL .lss h m) fun o=>
 some (.norm [o],H)) (some (.norm [qI],H))) fun vs H=>hd vs fun p vs=>
 bV (pk3 (some k) (some p) (some (.bool false))) fun r=>
 cnd r (bV (jP 1 a h) fun t=>
 bV (ld1 t H) fun u=>
 bV (yY u) fun v=>
 bV (qL .gtr v (.int .i64 (.ofNat 500))) fun w=>
 cnd w (bV (some (.bool true)) fun x=>some (.ret x,H))
 (bV (jP 1 b h) fun y=>
 bV (ld1 y H) fun z=>
 bV (qL .rem z (.int .u16 (.ofNat 8000))) fun B=>
 bV (cvI .i64 B) fun C=>
 bV (jP 1 a h) fun E=>
 bV (ld1 E H) fun F=>
 bR (f9 D n [f,(.int .i64 (.ofNat 5)),C,F] H) fun G H=>
 bV (qL .eql G (.int .i64 (.ofNat 0))) fun I=>
 jn (cnd I (bV (jP 1 b h) fun J=>
 bV (ld1 J H) fun K=>
 bV (qL .rem K (.int .u16 (.ofNat 8000))) fun M=>
 bV (cvI .i64 M) fun N=>
 bV (jP 1 a h) fun O=>
 bV (ld1 O H) fun P=>
 bV (yY P) fun Q=>
 bV (qL .add N Q) fun R=>
 bV (mx2 g R) fun T=>
 some (.norm [a,b,c,d,e,f,T,h],H))
 (some (.norm [a,b,c,d,e,f,g,h],H))) (zHL D n)))
 (some (.exit 0 [c,d,e,f,g],H))
def zFc (D:Dyn)(n:Nat)(vs:List AV)(H:AH):Rs:=
 hd vs fun a vs=>hd vs fun b vs=>hd vs fun c vs=>hd vs fun d vs=>hd vs fun e vs=>
 bR (f11 D n [d,(.int .i64 (.ofNat 5)),e,a,b] H) fun f H=>
 bV (qH f 0) fun g=>
 bV (qH f 1) fun h=>
 bV (yY g) fun i=>
 bV (qL .add a i) fun k=>
 bR (f11 D n [d,(.int .i64 (.ofNat 5)),e,k,c] H) fun m H=>
 bV (qH m 0) fun o=>
 bV (qH m 1) fun p=>
 bV (qL .add b c) fun r=>
 bR (f11 D n [d,(.int .i64 (.ofNat 5)),e,a,r] H) fun t H=>
 bV (qH t 0) fun u=>
 bV (qH t 1) fun v=>
 bV (qL .add b c) fun w=>
 bR (f11 D n [d,(.int .i64 (.ofNat 5)),e,a,w] H) fun x H=>
 bV (qH x 0) fun y=>
 bV (qH x 1) fun z=>
 bV (qL .neq h (.int .i64 (.ofNat 0))) fun B=>
 jn (wnt B false (bV (qL .neq p (.int .i64 (.ofNat 0))) fun C=>
 some (.norm [C],H)) (some (.norm [qI],H))) fun vs H=>hd vs fun E vs=>
 bV (pk3 (some B) (some (.bool true)) (some E)) fun F=>
 jn (wnt F false (bV (qL .neq v (.int .i64 (.ofNat 0))) fun G=>
 some (.norm [G],H)) (some (.norm [qI],H))) fun vs H=>hd vs fun I vs=>
 bV (pk3 (some F) (some (.bool true)) (some I)) fun J=>
 jn (wnt J false (bV (qL .neq z (.int .i64 (.ofNat 0))) fun K=>
 some (.norm [K],H)) (some (.norm [qI],H))) fun vs H=>hd vs fun M vs=>
 bV (pk3 (some J) (some (.bool true)) (some M)) fun N=>
 cnd N (bV (qL .neq h (.int .i64 (.ofNat 0))) fun O=>
 jn (wnt O false (bV (qL .neq p (.int .i64 (.ofNat 0))) fun P=>
 some (.norm [P],H)) (some (.norm [qI],H))) fun vs H=>hd vs fun Q vs=>
 bV (pk3 (some O) (some (.bool true)) (some Q)) fun R=>
 jn (wnt R false (bV (qL .eql v z) fun T=>
 some (.norm [T],H)) (some (.norm [qI],H))) fun vs H=>hd vs fun U vs=>
 bV (pk3 (some R) (some (.bool true)) (some U)) fun V=>
 bV (some V) fun W=>some (.ret W,H))
 (bV (kX .eql u y) fun Y=>
 jn (wnt Y true (bV (yY g) fun Z=>
 bV (qL .lss Z b) fun a0=>
 some (.norm [a0],H)) (some (.norm [qI],H))) fun vs H=>hd vs fun a1 vs=>
 jn (wnt a1 true (bV (kX .eql u g) fun a2=>
 some (.norm [a2],H)) (some (.norm [qI],H))) fun vs H=>hd vs fun a3 vs=>
 jn (wnt Y true (bV (pk3 (some a1) (some a3) (some (.bool false))) fun a4=>
 some (.norm [a4],H)) (some (.norm [qI],H))) fun vs H=>hd vs fun a5 vs=>
 jn (wnt a5 false (bV (yY g) fun a6=>
 bV (qL .eql a6 b) fun a7=>
 some (.norm [a7],H)) (some (.norm [qI],H))) fun vs H=>hd vs fun a8 vs=>
 jn (wnt a8 true (bV (kX .add g o) fun a9=>
 bV (kX .eql u a9) fun b0=>
 some (.norm [b0],H)) (some (.norm [qI],H))) fun vs H=>hd vs fun b1 vs=>
 jn (wnt a5 false (bV (pk3 (some a8) (some b1) (some (.bool false))) fun b2=>
 some (.norm [b2],H)) (some (.norm [qI],H))) fun vs H=>hd vs fun b3 vs=>
 jn (wnt Y true (bV (pk3 (some a5) (some (.bool true)) (some b3)) fun b4=>
 some (.norm [b4],H)) (some (.norm [qI],H))) fun vs H=>hd vs fun b5 vs=>
 bV (pk3 (some Y) (some b5) (some (.bool false))) fun b6=>
 bV (some b6) fun b7=>some (.ret b7,H))
def f4z (D:Dyn)(n:Nat)(vs:List AV)(H:AH):Option (AV×AH):=
 yR (hd vs fun a vs=>hd vs fun b vs=>hd vs fun c vs=>hd vs fun d vs=>hd vs fun e vs=>nl vs <|
 bR (f7 D n [] H) fun f H=>
 bR (z6 D n [] H) fun g H=>
 bV (aun .not g) fun h=>
 jn (wnt h false (bV (xJ .eql (eqP f .nilPtr)) fun i=>
 some (.norm [i],H)) (some (.norm [qI],H))) fun vs H=>hd vs fun k vs=>
 bV (pk3 (some h) (some (.bool true)) (some k)) fun m=>
 jn (wnt m false (bV (lnSl a) fun o=>
 bV (qL .gtr o (.int .i64 (.ofNat 12))) fun p=>
 some (.norm [p],H)) (some (.norm [qI],H))) fun vs H=>hd vs fun r vs=>
 bV (pk3 (some m) (some (.bool true)) (some r)) fun t=>
 jn (wnt t false (bV (qL .lss c (.int .i64 (.ofNat 0))) fun u=>
 some (.norm [u],H)) (some (.norm [qI],H))) fun vs H=>hd vs fun v vs=>
 bV (pk3 (some t) (some (.bool true)) (some v)) fun w=>
 jn (wnt w false (bV (qL .lss d (.int .i64 (.ofNat 0))) fun x=>
 some (.norm [x],H)) (some (.norm [qI],H))) fun vs H=>hd vs fun y vs=>
 bV (pk3 (some w) (some (.bool true)) (some y)) fun z=>
 jn (wnt z false (bV (qL .lss e (.int .i64 (.ofNat 0))) fun B=>
 some (.norm [B],H)) (some (.norm [qI],H))) fun vs H=>hd vs fun C vs=>
 bV (pk3 (some z) (some (.bool true)) (some C)) fun E=>
 jn (wnt E false (bV (qL .gtr c (.int .i64 (.ofNat 40000))) fun F=>
 some (.norm [F],H)) (some (.norm [qI],H))) fun vs H=>hd vs fun G vs=>
 bV (pk3 (some E) (some (.bool true)) (some G)) fun I=>
 jn (wnt I false (bV (qL .gtr d (.int .i64 (.ofNat 40000))) fun J=>
 some (.norm [J],H)) (some (.norm [qI],H))) fun vs H=>hd vs fun K vs=>
 bV (pk3 (some I) (some (.bool true)) (some K)) fun M=>
 jn (wnt M false (bV (qL .gtr e (.int .i64 (.ofNat 40000))) fun N=>
 some (.norm [N],H)) (some (.norm [qI],H))) fun vs H=>hd vs fun O vs=>
 bV (pk3 (some M) (some (.bool true)) (some O)) fun P=>
 cnd P (bR (z6 D n [] H) fun Q H=>
 bV (some Q) fun R=>some (.ret R,H))
 (jb 0 (qW n (QA D n) [a,b,c,d,e,f,(.int .i64 (.ofNat 0)),(.int .i64 (.ofNat 0))] H) (zFc D n)))
def h4z:Hint:=(.s .o (.s .o (.s (.s .o (.cl (.s .o .o) .o)) (.s .o (.s (.s .o (.b [2,3,4,11,12] (.l [0,1,2,3,4,11,12,13] (.s (.s .o (.cr .o .o)) (.s (.b0 (.s (.s .o (.cl (.s .o .o) .o)) (.s .o (.c [0,1,2,3,4,11,12,13] .o .o)))) .o))))) (.s .o (.s .o (.s .o (.s .o (.s (.s .o (.cl (.s .o .o) .o)) (.s .o .o)))))))))))
theorem f4z_ok {D:Dyn}(hD:DG D)(n:Nat):FI 4 (f4z D n):=qP (n:=n) (h:=h4z) X_ok hD (sc (zF7 hD n) (sc (z6_ok hD n) (sc (zF6 hD n) (sc (BU hD n) (SOk.nil))))) Tryz.func4 (by kernel_rfl) (by kernel_rfl)
end Go.Eng.Sh
end
end
section
namespace Go.Nd
abbrev Str:=List UInt8
structure Ptr where
 at_:Int
 birth:Int
 sum:Int
 deriving DecidableEq
structure Node where
 leaf:Bool
 keys:List Str
 vals:List Str
 kids:List Ptr
 deriving DecidableEq
def be:Nat->Nat->Str
 | 0,_=>[]
 | k+1,n=>be k (n / 256)++[UInt8.ofNat n]
theorem be_length: ∀k n,(be k n).length=k
 | 0,_=>rfl
 | k+1,n=>by simp[be,be_length k]
def zHm (p:Ptr):Bool:=if p.at_=0 then decide (p.birth=0)&&decide (p.sum=0)else decide (0<p.at_)&&decide (p.at_<8192)&&decide (0<=p.birth)&&decide (p.birth<=2147483647)
def encP (p:Ptr):Str:=be 4 p.at_.toNat++(be 4 p.birth.toNat++be 8 p.sum.toNat)
theorem encP_length (p:Ptr):(encP p).length=16:=by simp[encP,be_length]
def sumOk (p:Ptr):Prop:=0<=p.sum/\p.sum<18446744073709551616
def encT (s:Str):Str:=UInt8.ofNat s.length::s
def mayK (k:Str):Bool:=decide (1<=k.length)&&decide (k.length<=40)
def rising (lt:Str->Str->Bool):List Str->Bool
 | []=>true
 | [_]=>true
 | a::b::l=>lt a b&&rising lt (b::l)
def kidOk (p:Ptr):Bool:=decide (1<=p.at_)&&decide (p.at_<8192)&&decide (0<=p.birth)&&decide (p.birth<=2147483647)
def shaped (lt:Str->Str->Bool)(n:Node):Bool:=
 n.keys.all mayK&&rising lt n.keys&&
 (if n.leaf then decide (n.vals.length=n.keys.length)&&decide (n.kids=[])&&n.vals.all (fun v=>decide (v.length<=200))
  else decide (n.keys≠[])&&decide (n.vals=[])&&decide (n.kids.length=n.keys.length+1)&&n.kids.all kidOk)
def y9 (l:List Str):Nat:=l.foldl (fun n s=>n+(1+s.length)) 0
theorem KK (l:List Str)(a:Nat):l.foldl (fun n s=>n+(1+s.length)) a=a+y9 l:=by
 induction l generalizing a with
 | nil=>simp[y9]
 | cons s l ih=>simp only[List.foldl_cons,y9];rw[ih,ih];omega
theorem sumL_cons (s:Str)(l:List Str):y9 (s::l)=1+s.length+y9 l:=by
 simp only[y9,List.foldl_cons];rw[KK,KK];simp[y9]
theorem sumL_append (l m:List Str):y9 (l++m)=y9 l+y9 m:=by
 induction l with
 | nil=>simp[y9]
 | cons s l ih=>rw[List.cons_append,sumL_cons,sumL_cons,ih];omega
def size (n:Node):Nat:=2+16*n.kids.length+y9 n.keys+y9 n.vals
def encL:List Str->List Str->Str
 | k::ks,v::vs=>encT k++(encT v++encL ks vs)
 | _,_=>[]
def encI:List Str->List Ptr->Str
 | k::ks,p::ps=>encT k++(encP p++encI ks ps)
 | _,_=>[]
def encB (n:Node):Str:=if n.leaf then encL n.keys n.vals else match n.kids with
 | p::ps=>encP p++encI n.keys ps
 | []=>[]
def encN (n:Node):Str:=be 2 n.keys.length++encB n
theorem sumL_ge (l:List Str):l.length<=y9 l:=by
 induction l with
 | nil=>simp
 | cons s l ih=>rw[sumL_cons,zH];omega
end Go.Nd
end
section
namespace Go.Eng
theorem uM {b:List AV->AH->Rs}{H:AH}{r:Rs}(st:Nat->List AV)(N:Nat)(step: ∀i,i<N->b (st i) H=some (.norm (st (i+1)),H))(last: ∀n,qW (n+1) b (st N) H=r): ∀n,N<n->qW n b (st 0) H=r:=by
 suffices h: ∀(m i n:Nat),i+m=N->m<n->qW n b (st i) H=r from fun n hn=>h N 0 n (by omega) hn
 intro m
 induction m with
 | zero=>
  intro i n hi hn;obtain⟨n,rfl⟩: ∃k,n=k+1:=⟨n - 1,by omega⟩;rw[show i=N by omega];exact last n
 | succ m ih=>
  intro i n hi hn;obtain⟨n,rfl⟩: ∃k,n=k+1:=⟨n - 1,by omega⟩;rw[xT (step i (by omega))];exact ih (i+1) n (by omega) (by omega)
theorem gJ {α:Type}(l:List α)(i:Nat)(h:i<l.length):l.take (i+1)=l.take i++[l[i]]:=by
 rw[zO h]
theorem JF (H:AH)(l:List AV)(e sz o:Nat)(g:Bool):ld1 (.ptr H.next o) (H.push (.cells l e sz g))=l[o]? :=by simp only[ld1,AH.push_get_eq,gQ]
theorem zEP (H:AH)(l:List AV)(e sz o n:Nat)(g:Bool):ldN n (.ptr H.next o) (H.push (.cells l e sz g))=(v8 l o n).map .agg:=by
 simp only[ldN,AH.push_get_eq];cases v8 l o n<;>rfl
theorem zCd {H:AH}{A:Nat}(o:Nat)(x:AObj)(h:A<H.next):ld1 (.ptr A o) (H.push x)=ld1 (.ptr A o) H:=by simp only[ld1,AH.push_get_ne _ _ h]
theorem zHr {H:AH}{A:Nat}(o n:Nat)(x:AObj)(h:A<H.next):ldN n (.ptr A o) (H.push x)=ldN n (.ptr A o) H:=by simp only[ldN,AH.push_get_ne _ _ h]
theorem uL {b:List AV->AH->Rs}(N:Nat)(I:Nat->List AV->AH->Prop)(step: ∀i vs H,i<N->I i vs H-> ∃vs' H',b vs H=some (.norm vs',H')/\I (i+1) vs' H'):
  ∀(n:Nat) (vs:List AV) (H:AH),I 0 vs H->N<n-> ∃m vs' H',qW n b vs H=qW (m+1) b vs' H'/\I N vs' H':=by
 suffices h: ∀(m i n:Nat) (vs:List AV) (H:AH),i+m=N->m<n->I i vs H-> ∃m vs' H',qW n b vs H=qW (m+1) b vs' H'/\I N vs' H' from fun n vs H h0 hn=>h N 0 n vs H (by omega) hn h0
 intro m
 induction m with
 | zero=>
  intro i n vs H hi hn hI;obtain⟨n,rfl⟩: ∃k,n=k+1:=⟨n - 1,by omega⟩;exact⟨n,vs,H,rfl,by rw[show N=i by omega];exact hI⟩
 | succ m ih=>
  intro i n vs H hi hn hI;obtain⟨n,rfl⟩: ∃k,n=k+1:=⟨n - 1,by omega⟩;obtain⟨vs',H',h1,h2⟩:=step i vs H (by omega) hI;rw[xT h1];exact ih (i+1) n vs' H' (by omega) (by omega) h2
def notN:Ex->Bool
 | .norm _=>false
 | _=>true
theorem zCg {e:Ex}{H:AH}{K:List AV->AH->Rs}(h:notN e=true):jn (some (e,H)) K=some (e,H):=by cases e<;>first | rfl | (simp[notN]at h)
theorem JD {b:List AV->AH->Rs}(N:Nat)(good:Nat->Bool)(I:Nat->List AV->AH->Prop)(Good Bad:Ex->AH->Prop)
  (step: ∀i vs H,i<N->I i vs H->good i=true-> ∃vs' H',b vs H=some (.norm vs',H')/\I (i+1) vs' H')
  (bad: ∀i vs H,i<N->I i vs H->good i=false-> ∃e H',b vs H=some (e,H')/\notN e=true/\Bad e H')
  (last: ∀vs H,I N vs H-> ∃e H',b vs H=some (e,H')/\notN e=true/\Good e H'):
  ∀(n:Nat) (vs:List AV) (H:AH),I 0 vs H->N<n-> ∃e H',qW n b vs H=some (e,H')/\if(List.range N).all good then Good e H' else Bad e H':=by
 suffices h: ∀(m i n:Nat) (vs:List AV) (H:AH),i+m=N->m<n->I i vs H->(∀j,j<i->good j=true)-> ∃e H',qW n b vs H=some (e,H')/\if(List.range N).all good then Good e H' else Bad e H' from
  fun n vs H h0 hn=>h N 0 n vs H (by omega) hn h0 (fun j hj=>by omega)
 intro m
 induction m with
 | zero=>
  intro i n vs H hi hn hI hg;obtain⟨n,rfl⟩: ∃k,n=k+1:=⟨n - 1,by omega⟩;rw[show i=N by omega]at hI hg;obtain⟨e,H',h1,h2,h3⟩:=last vs H hI;refine⟨e,H', ?_, ?_⟩
  ·show jn (b vs H) _=_;rw[h1,zCg h2]
  ·rw[if_pos (by simpa[List.all_eq_true]using hg)];exact h3
 | succ m ih=>
  intro i n vs H hi hn hI hg;obtain⟨n,rfl⟩: ∃k,n=k+1:=⟨n - 1,by omega⟩
  cases hgi:good i with
  | true=>
   obtain⟨vs',H',h1,h2⟩:=step i vs H (by omega) hI hgi;rw[xT h1];exact ih (i+1) n vs' H' (by omega) (by omega) h2 (fun j hj=>by
    rcases Nat.lt_succ_iff_lt_or_eq.1 hj with h | rfl
    ·exact hg j h
    ·exact hgi)
  | false=>
   obtain⟨e,H',h1,h2,h3⟩:=bad i vs H (by omega) hI hgi;refine⟨e,H', ?_, ?_⟩
   ·show jn (b vs H) _=_;rw[h1,zCg h2]
   ·rw[if_neg (by
     simp only[List.all_eq_true,List.mem_range];intro h;have:=h i (by omega);rw[hgi]at this;cases this)];exact h3
theorem zB1 (want:Bool)(x y:Rs):wnt qI want x y=y:=by cases want<;>rfl
theorem JY (k k':IntKind){a:Int}{s:Nat}(ha:0<=a)(hs:s<=k.bits):qL .shr (.int k a) (.int k' (s:Int))=some (.int k (a / 2 ^ s)):=by
 show fI (a.fdiv ((2 ^ (Nat.min s k.bits):Nat):Int)) (fun r=>some (AV.int k r))=_;rw[zAI,show Nat.min s k.bits=s from Nat.min_eq_left hs,Int.fdiv_eq_ediv_of_nonneg _ (Int.natCast_nonneg _)];simp
theorem yQ {v:AV}(h:isCell v=true):qQ v=[v]:=by cases v<;>first | rfl | (simp[isCell]at h)
theorem Rw.isCell {k n:Nat}{H:AH}{v:AV}{l:List AV}(h:Rw k H v n l):Eng.isCell v=true:=by
 obtain⟨_,⟨rfl,_⟩ | ⟨rfl,_⟩ | ⟨A,off,cc,c,e,sz,g,rfl,_⟩⟩:=h<;>rfl
theorem YK (k:IntKind)(a b:Int):XQ (gW k) (.int k a) (.int k b)=some (decide (a=b)):=by
 have:keq k k=true:=by rw[kE];simp
 simp only[XQ,Nat.beq_refl,this,Bool.and_self,cond_true,kF];congr 1
theorem yC {k n:Nat}{H:AH}{v:AV}{l:List AV}(h:Rw k H v n l):aveq v v=true:=by
 obtain⟨_,⟨rfl,_⟩ | ⟨rfl,_⟩ | ⟨A,off,cc,c,e,sz,g,rfl,_⟩⟩:=h
 ·rfl
 ·rfl
 ·simp[aveq]
theorem j8 {x:Option AV}{v:AV}{K:Rs}(h:x=some v)(hv:aveq v v=true):chk x v K=K:=by subst h;simp[chk,hv]
theorem qJ {H:AH}{A:Nat}{l:List AV}{e:TypeId}{sz:Nat}{g:Bool}(h:H.h.get A=some (.cells l e sz g))(o:Nat):ld1 (.ptr A o) H=l[o]? :=by simp only[ld1,h,gQ]
theorem qN {H:AH}{A:Nat}{l:List AV}{e:TypeId}{sz:Nat}{g:Bool}(h:H.h.get A=some (.cells l e sz g))(o n:Nat):ldN n (.ptr A o) H=(v8 l o n).map .agg:=by simp only[ldN,h];cases v8 l o n<;>rfl
theorem zJg (b c:Bool)(H:AH)(K:AV->AH->Rs):
  jn (if b=false then some (.norm [.bool c],H)else some (.norm [qI],H)) (fun vs H=>hd vs fun y _=>bV (if b=true then some (.bool true)else some y) fun x=>K x H)=K (.bool (b||c)) H:=by
 cases b<;>simp[jn,hd,bV]
theorem zJf (p:Prop)[Decidable p](b:Bool)(H:AH)(K:AV->AH->Rs):
  jn (if ¬p then some (.norm [.bool b],H)else some (.norm [qI],H)) (fun vs H=>hd vs fun y _=>bV (if p then some (.bool true)else some y) fun x=>K x H)=K (.bool (decide p||b)) H:=by
 by_cases h:p<;>simp[h,jn,hd,bV]
theorem lg:(∀(p:Prop) [Decidable p] (b:Bool) (H:AH) (K:AV->AH->Rs),jn (if ¬p then some (.norm [.bool b],H)else some (.norm [qI],H)) (fun vs H=>hd vs fun y _=>bV (if p then some (.bool true)else some y) fun x=>K x H)=K (.bool (decide p||b)) H)/\
  (∀(p:Prop) [Decidable p] (b:Bool) (H:AH) (K:AV->AH->Rs),jn (if p then some (.norm [.bool b],H)else some (.norm [qI],H)) (fun vs H=>hd vs fun y _=>bV (if p then some y else some (.bool false)) fun x=>K x H)=K (.bool (decide p&&b)) H)/\
  (∀(p:Prop) [Decidable p] (b:Bool) (H:AH) (K:AV->AH->Rs),jn (if p then some (.norm [qI],H)else some (.norm [.bool b],H)) (fun vs H=>hd vs fun y _=>bV (if p then some (.bool true)else some y) fun x=>K x H)=K (.bool (decide p||b)) H)/\
  (∀(b c:Bool) (H:AH) (K:AV->AH->Rs),jn (if b=false then some (.norm [.bool c],H)else some (.norm [qI],H)) (fun vs H=>hd vs fun y _=>bV (if b=true then some (.bool true)else some y) fun x=>K x H)=K (.bool (b||c)) H)/\
  (∀(p:Prop) [Decidable p],(decide p=true)=p)/\(∀(p:Prop) [Decidable p],(decide p=false)= ¬p)/\(∀(b:Bool),decide (b=true)=b):=
 ⟨fun p _ b H K=>zJf p b H K,fun p _ b H K=>zJi p b H K,fun p _ b H K=>jn_or p b H K,zJg,fun p _=>zE,fun p _=>by simp,fun b=>by simp⟩
theorem ev:(∀(v:AV) (vs:List AV) (K:AV->List AV->Rs),hd (v::vs) K=K v vs)/\
 (∀(K:Rs),nl [] K=K)/\
 (∀(v:AV) (K:AV->Rs),bV (some v) K=K v)/\
 (∀(v:AV) (H:AH) (K:AV->AH->Rs),bR (some (v,H)) K=K v H)/\
 (∀(vs:List AV) (H:AH) (K:List AV->AH->Rs),jn (some (.norm vs,H)) K=K vs H)/\
 (∀(v:AV) (H:AH) (K:List AV->AH->Rs),jn (some (.ret v,H)) K=some (.ret v,H))/\
 (∀(i:Nat) (vs:List AV) (H:AH) (K:List AV->AH->Rs),jn (some (.exit i vs,H)) K=some (.exit i vs,H))/\
 (∀(id:Nat) (vs:List AV) (H:AH) (K:List AV->AH->Rs),jb id (some (.norm vs,H)) K=K vs H)/\
 (∀(id:Nat) (v:AV) (H:AH) (K:List AV->AH->Rs),jb id (some (.ret v,H)) K=some (.ret v,H))/\
 (∀(id:Nat) (vs:List AV) (H:AH) (K:List AV->AH->Rs),jb id (some (.exit id vs,H)) K=K vs H)/\
 (∀(v:AV) (H:AH),yR (some (.ret v,H))=some (v,H))/\
 (∀(b:Bool) (x y:Rs),cnd (.bool b) x y=if b then x else y)/\
 (∀(b want:Bool) (x y:Rs),wnt (.bool b) want x y=if b=want then x else y)/\
 (∀(b:Bool) (x y:Option AV),pk3 (some (.bool b)) x y=if b then x else y)/\
 (∀(k:IntKind) (a b:Int),qL .add (.int k a) (.int k b)=some (.int k (k.wrap (a+b))))/\
 (∀(k:IntKind) (a b:Int),qL .sub (.int k a) (.int k b)=some (.int k (k.wrap (a - b))))/\
 (∀(k:IntKind) (a b:Int),qL .mul (.int k a) (.int k b)=some (.int k (k.wrap (a*b))))/\
 (∀(k:IntKind) (a b:Int),qL .eql (.int k a) (.int k b)=some (.bool (decide (a=b))))/\
 (∀(k:IntKind) (a b:Int),qL .neq (.int k a) (.int k b)=some (.bool (decide (a≠b))))/\
 (∀(k:IntKind) (a b:Int),qL .lss (.int k a) (.int k b)=some (.bool (decide (a<b))))/\
 (∀(k:IntKind) (a b:Int),qL .leq (.int k a) (.int k b)=some (.bool (decide (a<=b))))/\
 (∀(k:IntKind) (a b:Int),qL .gtr (.int k a) (.int k b)=some (.bool (decide (b<a))))/\
 (∀(k:IntKind) (a b:Int),qL .geq (.int k a) (.int k b)=some (.bool (decide (b<=a))))/\
 (∀(k k':IntKind) (z:Int),cvI k (.int k' z)=some (.int k (k.wrap z)))/\
 (∀(a b:Bool),JZ .eql (.bool a) (.bool b)=some (.bool (a==b)))/\
 (∀(a b:Bool),JZ .neq (.bool a) (.bool b)=some (.bool (!(a==b))))/\
 (∀(b:Bool),aun .not (.bool b)=some (.bool !b))/\
 (∀(l:Str),yY (S l)=some (.int .i64 (l.length:Nat)))/\
 (∀(l m:Str),kX .eql (S l) (S m)=some (.bool (decide (l=m))))/\
 (∀(l m:Str),kX .neq (S l) (S m)=some (.bool (decide (l≠m))))/\
 (∀(l m:Str),kX .lss (S l) (S m)=some (.bool (ltS l m)))/\
 (∀(l m:Str),kX .geq (S l) (S m)=some (.bool (!ltS l m)))/\
 (∀(A o:Nat),kI (.ptr A o)=some (.ptr A o))/\
 (∀(f A o:Nat),fAd f (.ptr A o)=some (.ptr A (o+f)))/\
 (∀(e:TypeId) (x:AV),bxV e x=some (.cells (qQ x) e 1 false,fun A=> .ptr A 0))/\
 (∀(l:List AV),qQ (.agg l)=l)/\
 (∀(H:AH) (l:List AV) (e sz o:Nat) (g:Bool),ld1 (.ptr H.next o) (H.push (.cells l e sz g))=l[o]?)/\
 (∀(H:AH) (l:List AV) (e sz o n:Nat) (g:Bool),ldN n (.ptr H.next o) (H.push (.cells l e sz g))=(v8 l o n).map .agg)/\
 (∀(a:AV) (l:List AV),(a::l)[0]? =some a)/\
 (∀(a:AV) (l:List AV) (i:Nat),(a::l)[i+1]? =l[i]?)/\
 (∀(n:Nat),0+n=n)/\
 (∀(n:Nat),Int.ofNat n=(n:Int))/\
 (∀(z:Int), -9223372036854775808<=z->z<=9223372036854775807->IntKind.wrap .i64 z=z):=
 ⟨bN,zC5,bVs,bRs,JJ,zJe,zHt,zHu,zJj,zHv,UY,zAL,zIw,zIY,cY,zFB,zFC,zFD,zA6,fJ,zA7,zA8,zA9,U2,zDz,zDy,zI8,jX,vF,cX,zFz,zFA,zEB,zHE,fun _ _=>rfl,fun _=>rfl,JF,zEP,fun _ _=>List.getElem?_cons_zero,fun _ _ _=>List.getElem?_cons_succ,Nat.zero_add,fun _=>rfl,fun _ h1 h2=>wrap_i64 h1 h2⟩
def eZ:=And.intro zB1 (And.intro ev (And.intro lg ew))
def jT (k e:Nat)(H:AH)(v:AV)(n:Nat)(l:List AV):Prop:=
 Own k e H v n l\/(l.length=n*k/\ ∃A e' g,v= .slice A 0 n (2*n)/\A<H.next/\H.h.get A=some (.cells l e' k g)/\n=0)
theorem jT.row {k e n:Nat}{H:AH}{v:AV}{l:List AV}(h:jT k e H v n l):Rw k H v n l:=by
 rcases h with h | ⟨h0,A,e',g,rfl,hA,hg,hn0⟩
 ·exact h.row
 ·exact⟨h0, .inr (.inr ⟨A,0,2*n,l,e',k,g,rfl,hg,hA,by omega,by rw[List.drop_zero,zL (by omega)]⟩)⟩
theorem jT.mono {k e n:Nat}{S:Nat->Prop}{H H':AH}{v:AV}{l:List AV}(h:jT k e H v n l)(s:Stp S H H')(hS: ∀A,Blk v A-> ¬S A):jT k e H' v n l:=by
 rcases h with h | ⟨h0,A,e',g,rfl,hA,hg,hn0⟩
 ·exact .inl (h.mono s hS)
 ·exact .inr ⟨h0,A,e',g,rfl,zR hA s.next,by rw[s.keep A hA (hS A (Blk.slice.2 rfl))];exact hg,hn0⟩
theorem jT.lt {k e n:Nat}{H:AH}{v:AV}{l:List AV}(h:jT k e H v n l){B:Nat}(hB:Blk v B):B<H.next:=by
 rcases h with⟨_,⟨rfl,_⟩ | ⟨A,rfl,hA,_⟩⟩ | ⟨_,A,e',g,rfl,hA,_⟩
 ·exact(Blk.nil.1 hB).elim
 ·rw[Blk.slice.1 hB];exact hA
 ·rw[Blk.slice.1 hB];exact hA
theorem jT.app1 {k e bytes n m:Nat}{H:AH}{v:AV}{l new:List AV}(hk:H.ok)(hpos:0<k)(h:jT k e H v n l)(hm:new.length=m*k)(hn:n+m<=1000000000)(hb:bytes<=1000):
  ∃v' H',Eng.app1 e k bytes m new v H=some (v',H')/\jT k e H' v' (n+m) (l++new)/\Stp (Blk v) H H'/\(∀B,Blk v' B->Blk v B\/H.next<=B):=by
 by_cases h0:m=0
 ·subst h0;have:new=[]:=zF (by simpa using hm);subst this;rcases h with h | ⟨h0,A,e',g,rfl,hA,hg,hn0⟩
  ·obtain⟨H',h1,h2,h3,h4⟩:=XY (bytes:=bytes) hk hpos h;exact⟨v,H',h1, .inl (by simpa using h2),h3.mono (fun _ _ x=>x.elim),fun B hB=> .inl hB⟩
  ·have hroom:yB l g k 0 (2*n) k=n:=by
    simp only[yB,show((2*n) % 2).beq 0=true by rw[Nat.mul_mod_right];rfl,cond_true,Nat.mul_div_cancel_left n (show 0<2 by omega)]
   have hz:Nat.blt 0 k=true:=by rw[zK];exact hpos
   have hset:setAt l (0+n*k) []=some l:=by rw[xR (by simp;omega)];simp
   have hg':(H.put A (.cells l e' k g)).h.get A=some (.cells l e' k g):=by rw[AH.put_get,if_pos rfl]
   refine⟨.slice A 0 n (2*n),H.put A (.cells l e' k g), ?_, .inr ⟨by simpa using h0,A,e',g,rfl,hA,by simpa using hg',by omega⟩,(Stp.refl hk).put hA _ (.inr (Blk.slice.2 rfl)),fun B hB=> .inl hB⟩;simp only[Eng.app1,hg,zGy,hroom,Nat.add_zero,Nat.ble_eq_true_of_le (Nat.le_refl n),cond_true,hz,hset,zAN,jQ,qZ]
 ·rcases h with h | ⟨hl,A,e',g,rfl,hA,hg,hn0⟩
  ·obtain⟨H',h1,h2,h3,h4⟩:=zAb (bytes:=bytes) hk hpos h hm (by omega) hn hb;exact⟨_,H',h1, .inl h2,h3,fun B hB=> .inr (by rw[Blk.slice.1 hB];exact Nat.le_refl _)⟩
  ·have h1:=V0 (k:=k) (e:=e) (bytes:=bytes) (n:=n) (m:=m) (off:=0) (new:=new) hk hg (by omega) (by omega) hn hb;rw[List.drop_zero,zL (by omega)]at h1;refine⟨_,_,h1, .inl ⟨by simp[hl,hm,Nat.add_mul], .inr ⟨H.next,rfl,Nat.lt_succ_self _,AH.push_get_eq _ _⟩⟩,(Stp.refl hk).push _,fun B hB=> .inr (by rw[Blk.slice.1 hB];exact Nat.le_refl _)⟩
theorem jT.app {k e bytes n m:Nat}{H:AH}{v s:AV}{l new:List AV}(hk:H.ok)(hpos:0<k)(h:jT k e H v n l)(hs:srcOf k s H=some (m,new))(hm:new.length=m*k)(hc:qK new=true)(hn:n+m<=1000000000)(hb:bytes<=1000):
  ∃v' H',apP e k bytes v s H=some (v',H')/\jT k e H' v' (n+m) (l++new)/\Stp (Blk v) H H'/\(∀B,Blk v' B->Blk v B\/H.next<=B):=by
 obtain⟨v',H',h1,h2⟩:=h.app1 (bytes:=bytes) (e:=e) hk hpos hm hn hb;exact⟨v',H',by simp only[apP,hs,hc,cond_true,h1],h2⟩
theorem jT.isCell {k e n:Nat}{H:AH}{v:AV}{l:List AV}(h:jT k e H v n l):isCell v=true:=h.row.isCell
def Box (H:AH)(A:Nat)(v:AV):Prop:= ∃e,H.h.get A=some (.cells [v] e 1 false)
theorem Box.ld {H:AH}{A:Nat}{v:AV}(h:Box H A v):ld1 (.ptr A 0) H=some v:=by
 obtain⟨e,h⟩:=h;rw[qJ h];rfl
theorem Box.st {H:AH}{A:Nat}{v x:AV}(h:Box H A v)(hk:H.ok)(hx:Eng.isCell x=true): ∃H',stN 1 (.ptr A 0) x H=some (qI,H')/\Box H' A x/\Stp (fun B=>B=A) H H':=by
 obtain⟨e,h⟩:=h;exact⟨_,aT h (by decide) hx (by simp),⟨e,by rw[AH.put_get,if_pos rfl];rfl⟩,(Stp.refl hk).put (hk.lt h) _ (.inr rfl)⟩
theorem Box.mono {S:Nat->Prop}{H H':AH}{A:Nat}{v:AV}(h:Box H A v)(hk:H.ok)(s:Stp S H H')(hA: ¬S A):Box H' A v:=by
 obtain⟨e,h⟩:=h;exact⟨e,by rw[s.keep A (hk.lt h) hA];exact h⟩
theorem Box.lt {H:AH}{A:Nat}{v:AV}(h:Box H A v)(hk:H.ok):A<H.next:=by obtain⟨e,h⟩:=h;exact hk.lt h
end Go.Eng
end
section
namespace Go.Nd
theorem rising_ix (lt:Str->Str->Bool): ∀l:List Str,rising lt l=true↔ ∀i (h:i+1<l.length),lt l[i] l[i+1]=true
 | []=>by simp[rising]
 | [a]=>by simp[rising]
 | a::b::l=>by
  have ih:=rising_ix lt (b::l);simp only[rising,z8,ih];constructor
  ·rintro⟨h1,h2⟩ i h
   cases i with
   | zero=>exact h1
   | succ i=>exact h2 i (by simpa using h)
  ·intro h;exact⟨h 0 (by simp),fun i hi=>h (i+1) (by simpa using hi)⟩
theorem rising_take {lt:Str->Str->Bool}{l:List Str}(h:rising lt l=true)(k:Nat):rising lt (l.take k)=true:=by
 rw[rising_ix]at h⊢;intro i hi;simp only[zG]at hi;simp only[List.getElem_take];exact h i (by omega)
theorem rising_drop {lt:Str->Str->Bool}{l:List Str}(h:rising lt l=true)(k:Nat):rising lt (l.drop k)=true:=by
 rw[rising_ix]at h⊢;intro i hi;simp only[zM]at hi;simp only[List.getElem_drop];exact h (k+i) (by omega)
theorem cZ {α:Type}{f:α->Bool}{l:List α}(h:l.all f=true)(k:Nat):(l.take k).all f=true:=by
 simp only[List.all_eq_true]at h⊢;exact fun x hx=>h x (List.mem_of_mem_take hx)
theorem aB {α:Type}{f:α->Bool}{l:List α}(h:l.all f=true)(k:Nat):(l.drop k).all f=true:=by
 simp only[List.all_eq_true]at h⊢;exact fun x hx=>h x (List.mem_of_mem_drop hx)
def cutA (n:Node)(k:Nat):Node:=if n.leaf then⟨true,n.keys.take k,n.vals.take k,[]⟩else⟨false,n.keys.take k,[],n.kids.take (k+1)⟩
def bZ (n:Node)(k:Nat):Node:=if n.leaf then⟨true,n.keys.drop k,n.vals.drop k,[]⟩else⟨false,n.keys.drop (k+1),[],n.kids.drop (k+1)⟩
def uV (a:Node)(sep:Str)(b:Node):Node:=if a.leaf then⟨true,a.keys++b.keys,a.vals++b.vals,[]⟩else⟨false,a.keys++([sep]++b.keys),[],a.kids++b.kids⟩
def cutOk (n:Node)(k:Nat):Prop:=1<=k/\k+(if n.leaf then 1 else 2)<=n.keys.length
theorem cut_shaped {lt:Str->Str->Bool}{n:Node}{k:Nat}(h:shaped lt n=true)(hk:cutOk n k):shaped lt (cutA n k)=true/\shaped lt (bZ n k)=true:=by
 obtain⟨leaf,keys,vals,kids⟩:=n;obtain⟨k1,k2⟩:=hk
 cases leaf with
 | true=>
  simp only[shaped,if_true,z8,zE]at h k2;obtain⟨⟨h1,h2⟩,⟨h3,h4⟩,h5⟩:=h;simp only[shaped,cutA,bZ,if_true,z8,zE];exact⟨⟨⟨cZ h1 k,rising_take h2 k⟩,⟨by simp[h3],trivial⟩,cZ h5 k⟩,⟨aB h1 k,rising_drop h2 k⟩,⟨by simp[h3],trivial⟩,aB h5 k⟩
 | false=>
  simp only[shaped,Bool.false_eq_true,if_false,z8,zE]at h k2;obtain⟨⟨h1,h2⟩,⟨⟨h3,h4⟩,h5⟩,h6⟩:=h;simp only[shaped,cutA,bZ,Bool.false_eq_true,if_false,z8,zE];refine⟨⟨⟨cZ h1 k,rising_take h2 k⟩,⟨⟨?_,trivial⟩, ?_⟩,cZ h6 _⟩,⟨aB h1 _,rising_drop h2 _⟩,⟨⟨?_,trivial⟩, ?_⟩,aB h6 _⟩
  ·intro e;have:=congrArg List.length e;rw[zG]at this;simp only[zY]at this;omega
  ·rw[zG,zG];omega
  ·intro e;have:=congrArg List.length e;rw[zM]at this;simp only[zY]at this;omega
  ·rw[zM,zM];omega
theorem sumL_drop_le (l:List Str)(k:Nat):y9 (l.drop k)<=y9 l:=by
 have:y9 l=y9 (l.take k)+y9 (l.drop k):=by rw[<-sumL_append,List.take_append_drop]
 omega
theorem sumL_take_le (l:List Str)(k:Nat):y9 (l.take k)<=y9 l:=by
 have:y9 l=y9 (l.take k)+y9 (l.drop k):=by rw[<-sumL_append,List.take_append_drop]
 omega
theorem fS (l:List Str)(k:Nat):y9 l=y9 (l.take k)+y9 (l.drop k):=by rw[<-sumL_append,List.take_append_drop]
theorem cut_size {lt:Str->Str->Bool}{n:Node}{k:Nat}(h:shaped lt n=true)(hk:cutOk n k):size (cutA n k)<size n/\size (bZ n k)<size n:=by
 obtain⟨leaf,keys,vals,kids⟩:=n;obtain⟨k1,k2⟩:=hk;have p1:=fS keys k;have g1:=sumL_ge (keys.take k);have g2:=sumL_ge (keys.drop k);simp only[zG,zM]at g1 g2
 cases leaf with
 | true=>
  simp only[if_true]at k2;simp only[shaped,if_true,z8,zE]at h;have p2:=fS vals k;simp only[cutA,bZ,if_true,size,zY,h.2.1.2];omega
 | false=>
  simp only[Bool.false_eq_true,if_false]at k2;simp only[shaped,Bool.false_eq_true,if_false,z8,zE]at h;have h5:=h.2.1.2;have p3:=fS keys (k+1);have g3:=sumL_ge (keys.take (k+1));simp only[zG]at g3;simp only[cutA,bZ,Bool.false_eq_true,if_false,size,h.2.1.1.2,zG,zM];have:y9 []=0:=rfl;omega
end Go.Nd
end
section
section
namespace Go.Eng.Sh
open Go.Nd (Ptr y9)
theorem yI (D:Dyn)(n:Nat)(s:Str)(H:AH):f48 D n [S s] H=some (.bool (Nd.mayK s),H):=by
 simp only[f48,bN,zC5,jX,bVs,zA9,zA7,zIw,zJh,JJ,zIY,zED,UY];have h1:(Int.ofNat 1<=((s.length:Nat):Int))=(1<=s.length):=by simp;omega
 have h2:(((s.length:Nat):Int)<=Int.ofNat 40)=(s.length<=40):=by simp;omega
 simp only[h1,h2,Nd.mayK];by_cases h:1<=s.length<;>simp[h,bVs,yR]
theorem sumL_nil:y9 []=0:=rfl
theorem zBq (l:List Str)(i:Nat)(hi:i<l.length):y9 (l.take (i+1))=y9 (l.take i)+(1+l[i].length)/\y9 (l.take i)+(1+l[i].length)<=y9 l:=by
 have hs:y9 l=y9 (l.take i)+(1+l[i].length+y9 (l.drop (i+1))):=by
  rw[<-Nd.sumL_cons,<-zN hi,<-Nd.sumL_append,List.take_append_drop]
 refine⟨?_,by omega⟩;rw[gJ l i hi,Nd.sumL_append,Nd.sumL_cons];simp[y9]
theorem size0 (D:Dyn)(n0:Nat){H:AH}{ks:AV}{l:List Str}(h:Strs H ks l)(x:AV)(a:Int)(n:Nat)(ha:0<=a)(hn:l.length<n)(hb:a+y9 l<=1000000000000):
  qW n (zCF D n0) [x, .int .i64 a,ks, .int .i64 (l.length:Nat), .int .i64 (0:Nat)] H=some (.exit 0 [x, .int .i64 (a+y9 l)],H):=by
 have key:=uM (b:=zCF D n0) (H:=H) (r:=some (.exit 0 [x, .int .i64 (a+y9 l)],H)) (fun i=>[x, .int .i64 (a+y9 (l.take i)),ks, .int .i64 (l.length:Nat), .int .i64 (i:Nat)]) l.length (fun i hi=>by
  obtain⟨p,h1,h2⟩:=h.at hi;obtain⟨hs1,hs⟩:=zBq l i hi;have hge:=Nd.sumL_ge l;simp(disch:=omega) [zCF,bN,bVs,fJ,zAL,hi,h1,h2,jX,cY,wrap_i64,hs1,Int.add_assoc]) (fun n=>yO (by
  simp[zCF,bN,bVs,fJ,zAL])) n hn
 simpa[sumL_nil]using key
theorem size1 (D:Dyn)(n0:Nat){H:AH}{ks:AV}{l:List Str}(h:Strs H ks l)(a:Int)(n:Nat)(ha:0<=a)(hn:l.length<n)(hb:a+y9 l<=1000000000000):
  qW n (zCE D n0) [.int .i64 a,ks, .int .i64 (l.length:Nat), .int .i64 (0:Nat)] H=some (.exit 2 [.int .i64 (a+y9 l)],H):=by
 have key:=uM (b:=zCE D n0) (H:=H) (r:=some (.exit 2 [.int .i64 (a+y9 l)],H)) (fun i=>[.int .i64 (a+y9 (l.take i)),ks, .int .i64 (l.length:Nat), .int .i64 (i:Nat)]) l.length (fun i hi=>by
  obtain⟨p,h1,h2⟩:=h.at hi;obtain⟨hs1,hs⟩:=zBq l i hi;have hge:=Nd.sumL_ge l;simp(disch:=omega) [zCE,bN,bVs,fJ,zAL,hi,h1,h2,jX,cY,wrap_i64,hs1,Int.add_assoc]) (fun n=>yO (by
  simp[zCE,bN,bVs,fJ,zAL])) n hn
 simpa[sumL_nil]using key
def y7 (p:Ptr):List AV:=[.int .i64 p.at_, .int .i64 p.birth, .int .u64 p.sum]
def uI (H:AH)(v:AV)(l:List Ptr):Prop:=Rw 3 H v l.length (l.flatMap y7)
def bY (H:AH)(v:AV)(n:Nd.Node):Prop:= ∃ks vs ps,v= .agg [.bool n.leaf,ks,vs,ps]/\Strs H ks n.keys/\Strs H vs n.vals/\uI H ps n.kids
theorem uI.lnSl {H:AH}{v:AV}{l:List Ptr}(h:uI H v l):Eng.lnSl v=some (.int .i64 (l.length:Int)):=Rw.lnSl h
theorem uI.prs {H H':AH}{v:AV}{l:List Ptr}(h:uI H v l)(s:Prs H H'):uI H' v l:=Rw.prs h s
theorem zJs: ∀(l:List Ptr) (i:Nat) (hi:i<l.length),((l.flatMap y7).drop (i*3)).take 3=y7 l[i]
 | [],i,hi=>by simp at hi
 | p::l,0,_=>rfl
 | p::l,i+1,hi=>by
  have:=zJs l i (by simpa using hi);rw[show(i+1)*3=i*3+3 from by omega];exact this
theorem uI.at {H:AH}{v:AV}{l:List Ptr}(h:uI H v l){i:Nat}(hi:i<l.length): ∃p,(∀κ (z:Int),z=(i:Int)->jP 3 v (.int κ z)=some p)/\Eng.ldN 3 p H=some (.agg (y7 l[i])):=by
 obtain⟨p,h1,h2⟩:=Rw.ldN h hi;rw[zJs l i hi]at h2;exact⟨p,h1,h2⟩
theorem bY.prs {H H':AH}{v:AV}{n:Nd.Node}(h:bY H v n)(s:Prs H H'):bY H' v n:=by
 obtain⟨ks,vs,ps,rfl,h1,h2,h3⟩:=h;exact⟨ks,vs,ps,rfl,h1.prs s,h2.prs s,h3.prs s⟩
def small (n:Nd.Node):Prop:=n.kids.length<=100000/\y9 n.keys<=100000000/\y9 n.vals<=100000000
theorem VG (D:Dyn)(n:Nat){H:AH}(hk:H.ok){v:AV}{nd:Nd.Node}(h:bY H v nd)(hs:small nd)(hn:200000000<=n):
  Ret (f65 D n [v] H) fun r H'=>r= .int .i64 (Nd.size nd:Nat)/\Prs H H':=by
 obtain⟨ks,vs,ps,rfl,h1,h2,h3⟩:=h;obtain⟨s1,s2,s3⟩:=hs;have hP:Prs H (H.push (.cells [.bool nd.leaf,ks,vs,ps] 61 1 false)):=(Stp.refl hk).push _;have hkl:=Nd.sumL_ge nd.keys;have hvl:=Nd.sumL_ge nd.vals;simp(disch:=omega) only[f65,ev,xY hk,h1.lnSl,h2.lnSl,h3.lnSl,size0 D n (h1.prs hP),zJF,size1 D n (h2.prs hP),zJG];apply Ret.pure;refine⟨?_,hP⟩;simp only[Nd.size,AV.int.injEq,true_and];omega
open Go.Nd (be zHm encP)
theorem QO (lt:Str->Str->Bool): ∀l:List Str,Nd.rising lt l=true↔ ∀i (h:i+1<l.length),lt l[i] l[i+1]=true
 | []=>by simp[Nd.rising]
 | [a]=>by simp[Nd.rising]
 | a::b::l=>by
  have ih:=QO lt (b::l);simp only[Nd.rising,z8,ih];constructor
  ·rintro⟨h1,h2⟩ i h
   cases i with
   | zero=>exact h1
   | succ i=>exact h2 i (by simpa using h)
  ·intro h;exact⟨h 0 (by simp),fun i hi=>h (i+1) (by simpa using hi)⟩
def zAG (l:List Str)(i:Nat):Bool:=Nd.mayK (l.getD i [])&&(decide (i=0)||ltS (l.getD (i - 1) []) (l.getD i []))
theorem zCr (l:List Str):(List.range l.length).all (zAG l)=(l.all Nd.mayK&&Nd.rising ltS l):=by
 rw[Bool.eq_iff_iff,z8,QO];simp only[List.all_eq_true,List.mem_range,zAG,z8,Bool.or_eq_true,zE];constructor
 ·intro h;refine⟨fun x hx=> ?_,fun i hi=> ?_⟩
  ·obtain⟨i,hi,rfl⟩:=List.mem_iff_getElem.1 hx;have:=(h i hi).1;rwa[zI,zB hi]at this
  ·have:=(h (i+1) hi).2;simp only[Nat.add_eq_zero_iff,Nat.one_ne_zero,and_false,false_or,Nat.add_sub_cancel]at this;rwa[zI,zB (by omega),zI,zB hi]at this
 ·rintro⟨h1,h2⟩ i hi
  refine⟨?_, ?_⟩
  ·rw[zI,zB hi];exact h1 _ (zV hi)
  ·by_cases h0:i=0
   ·exact .inl h0
   ·right;have:=h2 (i - 1) (by omega);rw[zI,zB (show i - 1<l.length by omega),zI,zB hi];simpa[show i - 1+1=i by omega]using this
theorem V1 {α:Type}(l:List α)(d:α)(f:α->Bool):(List.range l.length).all (fun i=>f (l.getD i d))=l.all f:=by
 rw[Bool.eq_iff_iff];simp only[List.all_eq_true,List.mem_range];constructor
 ·intro h x hx;obtain⟨i,hi,rfl⟩:=List.mem_iff_getElem.1 hx;have:=h i hi;rwa[zI,zB hi]at this
 ·intro h i hi;rw[zI,zB hi];exact h _ (zV hi)
theorem jY {α:Type}{l:List α}{i:Nat}{d:α}(h:i<l.length):l.getD i d=l[i]:=by rw[zI,zB h];rfl
theorem zGY (D:Dyn)(n:Nat){H:AH}{ks:AV}{l:List Str}(h:Strs H ks l){A e:Nat}{c:List AV}(hA:H.h.get A=some (.cells c e 1 false))(hc:c[1]? =some ks)(hl:l.length<=1000000000)(n':Nat)(hn:l.length<n'):
  ∃e H',qW n' (WU D n) [.ptr A 0,ks, .int .i64 (l.length:Nat), .int .i64 (0:Nat)] H=some (e,H')/\if(List.range l.length).all (zAG l)then(e= .exit 0 [.ptr A 0]/\H'=H)else(e= .ret (.bool false)/\H'=H):=by
 refine JD l.length (zAG l) (fun i vs H'=>H'=H/\vs=[.ptr A 0,ks, .int .i64 (l.length:Nat), .int .i64 (i:Nat)]) (fun e H'=>e= .exit 0 [.ptr A 0]/\H'=H) (fun e H'=>e= .ret (.bool false)/\H'=H) ?_ ?_ ?_ n' _ H ⟨rfl,rfl⟩ hn
 ·rintro i vs H' hi ⟨rfl,rfl⟩ hg
  obtain⟨p,h1,h2⟩:=h.at hi;simp only[zAG,jY hi,z8,Bool.or_eq_true,zE]at hg;refine⟨_,H', ?_,rfl,rfl⟩;have hiI:((i:Nat):Int)< ((l.length:Nat):Int):=by omega
  by_cases h0:i=0
  ·subst h0;simp(disch:=omega) only[WU,eZ,hiI,h1,h2,yI,hg.1,q8,show((0:Nat):Int)+((1:Nat):Int)=((0+1:Nat):Int)from rfl]
  ·have hlt:i - 1<l.length:=by omega
   obtain⟨q,q1,q2⟩:=h.at hlt;have hg2:=hg.2.resolve_left h0;rw[jY hlt]at hg2;have hsub:((i:Nat):Int) - ((1:Nat):Int)=((i - 1:Nat):Int):=by omega
   have hpos:((0:Nat):Int)< (i:Int):=by omega
   simp(disch:=omega) only[WU,eZ,hiI,hpos,h1,h2,yI,hg.1,qJ hA,hc,hsub,q1,q2,hg2,Int.natCast_add]
 ·rintro i vs H' hi ⟨rfl,rfl⟩ hg
  obtain⟨p,h1,h2⟩:=h.at hi;have hiI:((i:Nat):Int)< ((l.length:Nat):Int):=by omega
  refine⟨.ret (.bool false),H', ?_,rfl,rfl,rfl⟩;simp only[zAG,jY hi]at hg
  cases hm:Nd.mayK l[i]with
  | false=>simp(disch:=omega) only[WU,eZ,hiI,h1,h2,yI,hm]
  | true=>
   simp only[hm,Bool.true_and,Bool.or_eq_false_iff,decide_eq_false_iff_not]at hg;have hlt:i - 1<l.length:=by omega
   obtain⟨q,q1,q2⟩:=h.at hlt;have hg2:=hg.2;rw[jY hlt]at hg2;have hsub:((i:Nat):Int) - ((1:Nat):Int)=((i - 1:Nat):Int):=by omega
   have hpos:((0:Nat):Int)< (i:Int):=by omega
   simp(disch:=omega) only[WU,eZ,hiI,hpos,h1,h2,yI,hm,qJ hA,hc,hsub,q1,q2,hg2]
 ·rintro vs H' ⟨rfl,rfl⟩
  refine⟨.exit 0 [.ptr A 0],H', ?_,rfl,rfl,rfl⟩;simp only[WU,eZ,q8]
theorem zGX (D:Dyn)(n:Nat){H:AH}{vs:AV}{l:List Str}(h:Strs H vs l)(hl:l.length<=1000000000)(n':Nat)(hn:l.length<n'):
  ∃e H',qW n' (zCK D n) [vs, .int .i64 (l.length:Nat), .int .i64 (0:Nat)] H=some (e,H')/\if(List.range l.length).all (fun i=>decide ((l.getD i []).length<=200))then(e= .exit 2 []/\H'=H)else(e= .ret (.bool false)/\H'=H):=by
 refine JD l.length _ (fun i us H'=>H'=H/\us=[vs, .int .i64 (l.length:Nat), .int .i64 (i:Nat)]) (fun e H'=>e= .exit 2 []/\H'=H) (fun e H'=>e= .ret (.bool false)/\H'=H) ?_ ?_ ?_ n' _ H ⟨rfl,rfl⟩ hn
 ·rintro i us H' hi ⟨rfl,rfl⟩ hg
  obtain⟨p,h1,h2⟩:=h.at hi;simp only[jY hi,zE]at hg;refine⟨_,H', ?_,rfl,rfl⟩;have hiI:((i:Nat):Int)< ((l.length:Nat):Int):=by omega
  have hg': ¬((200:Nat):Int)< ((l[i].length:Nat):Int):=by omega
  simp(disch:=omega) only[zCK,eZ,hiI,h1,h2,hg',Int.natCast_add]
 ·rintro i us H' hi ⟨rfl,rfl⟩ hg
  obtain⟨p,h1,h2⟩:=h.at hi;simp only[jY hi,decide_eq_false_iff_not]at hg;refine⟨.ret (.bool false),H', ?_,rfl,rfl,rfl⟩;have hiI:((i:Nat):Int)< ((l.length:Nat):Int):=by omega
  have hg':((200:Nat):Int)< ((l[i].length:Nat):Int):=by omega
  simp(disch:=omega) only[zCK,eZ,hiI,h1,h2,hg',Int.natCast_add]
 ·rintro us H' ⟨rfl,rfl⟩
  refine⟨.exit 2 [],H', ?_,rfl,rfl,rfl⟩;simp only[zCK,eZ,q8]
def pz:Ptr:=⟨0,0,0⟩
theorem zJc (x:Ptr):(((decide (x.at_< ((1:Nat):Int))||decide (((8192:Nat):Int)<=x.at_))||decide (x.birth< ((0:Nat):Int)))||decide (((2147483647:Nat):Int)<x.birth))= !(Nd.kidOk x):=by
 rw[Bool.eq_iff_iff];simp only[Nd.kidOk,Bool.or_eq_true,zE,Bool.not_eq_true',Bool.and_eq_false_iff,decide_eq_false_iff_not];omega
theorem zDu {H':AH}(hk:H'.ok)(x:Ptr): ∃H2,stN 3 (.ptr H'.next 0) (.agg (y7 x)) (H'.push (.cells [.int .i64 (0:Nat), .int .i64 (0:Nat), .int .u64 (0:Nat)] 57 1 false))=some (qI,H2)/\Prs H' H2/\H2.next=H'.next+1/\H2.h.get H'.next=some (.cells (y7 x) 57 1 false):=by
 refine⟨_,KO (AH.push_get_eq _ _) (by decide) rfl rfl (by decide), ?_,rfl,by rw[AH.put_get,if_pos rfl];rfl⟩;exact((Stp.refl hk).push _).fresh ((Stp.refl (hk.push _)).put (by rw[AH.push_next];omega) _ (.inr rfl)) (fun A hA=>by omega)
theorem zGW (D:Dyn)(n:Nat){H:AH}(hk:H.ok){vs:AV}{l:List Ptr}(h:uI H vs l)(hl:l.length<=1000000000)(n':Nat)(hn:l.length<n'):
  ∃e H',qW n' (zCJ D n) [vs, .int .i64 (l.length:Nat), .int .i64 (0:Nat)] H=some (e,H')/\if(List.range l.length).all (fun i=>Nd.kidOk (l.getD i pz))then(e= .exit 4 []/\Prs H H')else(e= .ret (.bool false)/\Prs H H'):=by
 refine JD l.length _ (fun i us H'=>Prs H H'/\us=[vs, .int .i64 (l.length:Nat), .int .i64 (i:Nat)]) (fun e H'=>e= .exit 4 []/\Prs H H') (fun e H'=>e= .ret (.bool false)/\Prs H H') ?_ ?_ ?_ n' _ H ⟨Stp.refl hk,rfl⟩ hn
 ·rintro i us H' hi ⟨hP,rfl⟩ hg
  obtain⟨p,h1,h2⟩:=(h.prs hP).at hi;simp only[jY hi]at hg;generalize l[i]=x at hg h2;obtain⟨H2,hH2,hP2,n2,g2⟩:=zDu hP.ok x;have hiI:((i:Nat):Int)< ((l.length:Nat):Int):=by omega
  have hb:=zJc x;rw[hg]at hb;simp only[y7]at g2 hH2 h2;refine⟨_,H2, ?_,hP.trans hP2,rfl⟩;simp(disch:=omega) only[zCJ,eZ,hiI,h1,h2,xY hP.ok,hH2,qJ g2,hb,Int.natCast_add]
 ·rintro i us H' hi ⟨hP,rfl⟩ hg
  obtain⟨p,h1,h2⟩:=(h.prs hP).at hi;simp only[jY hi]at hg;generalize l[i]=x at hg h2;obtain⟨H2,hH2,hP2,n2,g2⟩:=zDu hP.ok x;have hiI:((i:Nat):Int)< ((l.length:Nat):Int):=by omega
  have hb:=zJc x;rw[hg]at hb;simp only[y7]at g2 hH2 h2;refine⟨.ret (.bool false),H2, ?_,rfl,rfl,hP.trans hP2⟩;simp(disch:=omega) only[zCJ,eZ,hiI,h1,h2,xY hP.ok,hH2,qJ g2,hb]
 ·rintro us H' ⟨hP,rfl⟩
  refine⟨.exit 4 [],H', ?_,rfl,rfl,hP⟩;simp only[zCJ,eZ,q8]
theorem vW (D:Dyn)(n:Nat){H:AH}(hk:H.ok){v:AV}{nd:Nd.Node}(h:bY H v nd)(hs:small nd)(hn:200000000<=n):
  ∃H',f47 D n [v] H=some (.bool (Nd.shaped ltS nd),H')/\Prs H H':=by
 obtain⟨ks,vs,ps,rfl,h1,h2,h3⟩:=h;obtain⟨s1,s2,s3⟩:=hs;have hP:Prs H (H.push (.cells [.bool nd.leaf,ks,vs,ps] 61 1 false)):=(Stp.refl hk).push _;have hg:(H.push (.cells [.bool nd.leaf,ks,vs,ps] 61 1 false)).h.get H.next=some (.cells [.bool nd.leaf,ks,vs,ps] 61 1 false):=AH.push_get_eq _ _
 have hkl:=Nd.sumL_ge nd.keys;have hvl:=Nd.sumL_ge nd.vals;have hf:f47 D n [.agg [.bool nd.leaf,ks,vs,ps]] H=yR (jb 0 (qW n (WU D n) [.ptr H.next 0,ks, .int .i64 (nd.keys.length:Nat), .int .i64 (0:Nat)] (H.push (.cells [.bool nd.leaf,ks,vs,ps] 61 1 false))) (WV D n)):=by
  simp only[f47,eZ,xY hk,h1.lnSl]
 rw[hf];generalize H.push (.cells [.bool nd.leaf,ks,vs,ps] 61 1 false)=H1 at hP hg;obtain⟨e0,H2,e1,e2⟩:=zGY D n (h1.prs hP) hg (by rfl) (by omega) n (by omega);rw[e1];rw[zCr]at e2;split at e2
 ·rename_i hgood;obtain⟨rfl,rfl⟩:=e2;simp only[Nd.shaped,hgood,Bool.true_and];obtain⟨leaf,keys,vals,kids⟩:=nd;simp only at h1 h2 h3 hg hkl hvl s1 s2 s3 hgood⊢
  cases leaf with
  | true=>
   by_cases hc:vals.length=keys.length/\kids.length=0
   ·obtain⟨hc1,hc2⟩:=hc;obtain⟨e3,H3,e4,e5⟩:=zGX D n (h2.prs hP) (by omega) n (by omega);have hz: ¬(((vals.length:Nat):Int)≠((keys.length:Nat):Int)):=by omega
    have hz2: ¬(((kids.length:Nat):Int)≠((0:Nat):Int)):=by omega
    have hkn:kids=[]:=zF hc2;rw[V1 vals ([]:Str) (fun v=>decide (v.length<=200))]at e5;split at e5
    ·rename_i hv;obtain⟨rfl,rfl⟩:=e5;refine⟨H3, ?_,hP⟩;have hr:(decide (vals.length=keys.length)&&decide (kids=[])&&vals.all fun v=>decide (v.length<=200))=true:=by simp only[hc1,hkn,hv,decide_true,Bool.and_self]
     simp only[WV,eZ,qJ hg,h1.lnSl,h2.lnSl,h3.lnSl,hz,hz2,e4,zHN,hr]
    ·rename_i hv;obtain⟨rfl,rfl⟩:=e5;refine⟨H3, ?_,hP⟩;have hr:(decide (vals.length=keys.length)&&decide (kids=[])&&vals.all fun v=>decide (v.length<=200))=false:=by simp only[Bool.eq_false_iff.2 hv,Bool.and_false]
     simp only[WV,eZ,qJ hg,h1.lnSl,h2.lnSl,h3.lnSl,hz,hz2,e4,zHN,hr]
   ·refine⟨H2, ?_,hP⟩;have hr:(decide (vals.length=keys.length)&&decide (kids=[]))=false:=by
     rw[Bool.and_eq_false_iff,decide_eq_false_iff_not,decide_eq_false_iff_not];by_cases ha:vals.length=keys.length
     ·right;intro hb;exact hc ⟨ha,by rw[hb];rfl⟩
     ·exact .inl ha
    simp only[WV,eZ,qJ hg,h1.lnSl,h2.lnSl,h3.lnSl,hr];rw[if_pos (by simp only[Bool.or_eq_true,zE];omega)];simp only[eZ]
  | false=>
   by_cases hc:keys.length≠0/\vals.length=0/\kids.length=keys.length+1
   ·obtain⟨hc1,hc2,hc3⟩:=hc;obtain⟨e3,H3,e4,e5⟩:=zGW D n hP.ok (h3.prs hP) (by omega) n (by omega);have hz: ¬(((keys.length:Nat):Int)=((0:Nat):Int)):=by omega
    have hz2: ¬(((vals.length:Nat):Int)≠((0:Nat):Int)):=by omega
    have hz3: ¬(((kids.length:Nat):Int)≠((keys.length:Nat):Int)+((1:Nat):Int)):=by omega
    have hvn:vals=[]:=zF hc2;have hkn:keys≠[]:=fun e=>hc1 (by rw[e];rfl)
    rw[V1 kids pz Nd.kidOk]at e5;split at e5
    ·rename_i hv;obtain⟨rfl,hP3⟩:=e5;refine⟨H3, ?_,hP.trans hP3⟩;have hr:(decide (keys≠[])&&decide (vals=[])&&decide (kids.length=keys.length+1)&&kids.all Nd.kidOk)=true:=by simp only[hc3,hvn,hv,decide_eq_true hkn,decide_true,Bool.and_self]
     simp(disch:=omega) only[WV,eZ,qJ hg,h1.lnSl,h2.lnSl,h3.lnSl,hz,hz2,hz3,e4,zHM,hr]
    ·rename_i hv;obtain⟨rfl,hP3⟩:=e5;refine⟨H3, ?_,hP.trans hP3⟩;have hr:(decide (keys≠[])&&decide (vals=[])&&decide (kids.length=keys.length+1)&&kids.all Nd.kidOk)=false:=by simp only[Bool.eq_false_iff.2 hv,Bool.and_false]
     simp(disch:=omega) only[WV,eZ,qJ hg,h1.lnSl,h2.lnSl,h3.lnSl,hz,hz2,hz3,e4,zHM,hr]
   ·refine⟨H2, ?_,hP⟩;have hr:(decide (keys≠[])&&decide (vals=[])&&decide (kids.length=keys.length+1))=false:=by
     rw[Bool.eq_false_iff];intro hh;simp only[z8,zE]at hh;exact hc ⟨fun e=>hh.1.1 (zF e),by rw[hh.1.2];rfl,hh.2⟩
    simp(disch:=omega) only[WV,eZ,qJ hg,h1.lnSl,h2.lnSl,h3.lnSl,hr];rw[if_pos (by simp only[Bool.or_eq_true,zE];omega)];simp only[eZ]
 ·rename_i hbad;obtain⟨rfl,rfl⟩:=e2;refine⟨H2, ?_,hP⟩;simp only[Nd.shaped,Bool.eq_false_iff.2 hbad,eZ]
open Go.Nd (encT)
theorem fU (a b c d:AV):v8 [a,b,c,d] 0 4=some [a,b,c,d]:=rfl
theorem yE {H:AH}(hk:H.ok){A:Nat}{l l':List AV}{e:TypeId}(h:H.h.get A=some (.cells l e 1 false))(hl:l'.length=l.length)(hc:qK l'=true):
  ∃H',stN l.length (.ptr A 0) (.agg l') H=some (qI,H')/\H'.h.get A=some (.cells l' e 1 false)/\Stp (fun B=>B=A) H H'/\H'.next=H.next:=by
 refine⟨_,KO h (by decide) hl hc (by omega), ?_,(Stp.refl hk).put (hk.lt h) _ (.inr rfl),rfl⟩;rw[AH.put_get,if_pos rfl];simp[qQ]
def K8 (H0 H:AH)(v:AV)(nd:Nd.Node):Prop:= ∃ks vs ps,v= .agg [.bool nd.leaf,ks,vs,ps]/\Own 1 9 H ks nd.keys.length (nd.keys.map S)/\Own 1 9 H vs nd.vals.length (nd.vals.map S)/\Own 3 57 H ps nd.kids.length (nd.kids.flatMap y7)/\(∀B,Blk ks B\/Blk vs B\/Blk ps B->H0.next<=B)/\(∀B,Blk ks B-> ¬Blk vs B/\ ¬Blk ps B)/\ ∀B,Blk vs B-> ¬Blk ps B
theorem fL (x:Bool)(a b c:AV)(ha:isCell a=true)(hb:isCell b=true)(hc:isCell c=true):qK [.bool x,a,b,c]=true:=by
 simp only[qK,ha,hb,hc];rfl
theorem jT.zero (k e:Nat){H:AH}{A:Nat}{e':TypeId}{g:Bool}(h:H.h.get A=some (.cells [] e' k g))(hk:H.ok):jT k e H (.slice A 0 0 0) 0 []:= .inr ⟨by simp,A,e',g,rfl,hk.lt h,h,rfl⟩
theorem XU (b:Bool):aveq (.bool b) (.bool b)=true:=by cases b<;>rfl
theorem kD (l:List Str):qK (l.map S)=true:=by
 rw[jB];intro x hx;obtain⟨s,_,rfl⟩:=List.mem_map.1 hx;rfl
theorem wM (l:List Ptr):qK (l.flatMap y7)=true:=by
 rw[jB];intro x hx;obtain⟨p,_,hp⟩:=List.mem_flatMap.1 hx;simp only[y7,List.mem_cons,List.not_mem_nil,or_false]at hp;rcases hp with rfl | rfl | rfl<;>rfl
theorem Rw.blk {k n:Nat}{H:AH}{v:AV}{l:List AV}(h:Rw k H v n l){B:Nat}(hB:Blk v B):B<H.next:=by
 obtain⟨_,⟨rfl,_⟩ | ⟨rfl,_⟩ | ⟨A,off,cc,c,e,sz,g,rfl,_,hlt,_⟩⟩:=h
 ·exact(Blk.nil.1 hB).elim
 ·obtain⟨_,_,_,h⟩:=hB;cases h
 ·rw[Blk.slice.1 hB];exact hlt
def qY (H:AH)(v:AV)(nd:Nd.Node):Prop:= ∃ks vs ps,v= .agg [.bool nd.leaf,ks,vs,ps]/\jT 1 9 H ks nd.keys.length (nd.keys.map S)/\jT 1 9 H vs nd.vals.length (nd.vals.map S)/\jT 3 57 H ps nd.kids.length (nd.kids.flatMap y7)
theorem qY.node {H:AH}{v:AV}{nd:Nd.Node}(h:qY H v nd):bY H v nd:=by
 obtain⟨ks,vs,ps,e,h1,h2,h3⟩:=h;exact⟨ks,vs,ps,e,h1.row,h2.row,h3.row⟩
theorem qY.prs {H H':AH}{v:AV}{nd:Nd.Node}(h:qY H v nd)(s:Prs H H'):qY H' v nd:=by
 obtain⟨ks,vs,ps,e,h1,h2,h3⟩:=h;exact⟨ks,vs,ps,e,h1.mono s (fun _ _ x=>x),h2.mono s (fun _ _ x=>x),h3.mono s (fun _ _ x=>x)⟩
theorem zK6 (x:Nat):Nat.ble 0 x=true:=by rw[zQ];omega
theorem J0 {k e n:Nat}{H:AH}{v:AV}{l:List AV}(h:jT k e H v n l)(hpos:0<k){i:Nat}(hi:i<=n)(κ κ':IntKind):
  ∃r,jF k v none (some (.int κ (i:Nat))) (some (.int κ' (i:Nat))) H=some r/\Rw k H r i (l.take (i*k))/\(0<i->r≠ .nilSlice/\r≠ .emptySl):=by
 have n1:=yD κ (z:=((i:Nat):Int)) (by omega);have n2:=yD κ' (z:=((i:Nat):Int)) (by omega);simp only[zS]at n1 n2;have hb:Nat.blt 0 k=true:=by rw[zK];exact hpos
 have hz:Nat.beq i 0=decide (i=0):=by rw[Bool.eq_iff_iff];simp
 have hmul:i*k<=n*k:=q5 _ hi;have b1:Nat.ble i n=true:=by rw[zQ];exact hi
 have b2:Nat.ble i i=true:=by rw[zQ];exact Nat.le_refl _
 have b3:Nat.ble 0 i=true:=by rw[zQ];omega
 rcases h with⟨h0,⟨rfl,rfl⟩ | ⟨A,rfl,hA,hg⟩⟩ | ⟨h0,A,e',g,rfl,hA,hg,hn0⟩
 ·obtain rfl:i=0:=by omega
  exact⟨.nilSlice,by simp only[jF,yM,n1,n2];simp,⟨by simp, .inl ⟨rfl,rfl⟩⟩,fun h=>absurd h (by omega)⟩
 ·have hroom:yB l true k 0 1 k=n:=by
   simp only[yB,show((1 % 2).beq 0)=false from rfl,cond_false,Nat.beq_refl,show Nat.beq 0 (1 / 2*k)=true from by simp,Bool.and_self,cond_true,qX,h0,Nat.sub_zero];exact Nat.mul_div_cancel _ hpos
  by_cases hi0:i=0
  ·subst hi0;refine⟨.slice A 0 0 0, ?_,⟨by simp, .inr (.inr ⟨A,0,0,l,e,k,true,rfl,hg,hA,by simp,by simp⟩)⟩,fun h=>absurd h (by omega)⟩;simp only[jF,yM,n1,n2,hg,hb,cond_true];simp[Q1,hroom,qZ,zK6]
  ·have hz0:Nat.beq i 0=false:=by rw[hz];simpa using hi0
   refine⟨.slice A 0 i (2*i), ?_,⟨by rw[zG,h0,Nat.min_eq_left hmul], .inr (.inr ⟨A,0,2*i,l,e,k,true,rfl,hg,hA,by omega,by simp⟩)⟩,fun _=>⟨by simp,by simp⟩⟩;simp only[jF,yM,n1,n2,hg,hb,cond_true];simp[Q1,hroom,b1,b2,hz0,qZ,zK6]
 ·have hroom:yB l g k 0 (2*n) k=n:=by
   simp only[yB,show((2*n) % 2).beq 0=true by rw[Nat.mul_mod_right];rfl,cond_true,Nat.mul_div_cancel_left n (show 0<2 by omega)]
  by_cases hi0:i=0
  ·subst hi0;refine⟨.slice A 0 0 0, ?_,⟨by simp, .inr (.inr ⟨A,0,0,l,e',k,g,rfl,hg,hA,by simp,by simp⟩)⟩,fun h=>absurd h (by omega)⟩;simp only[jF,yM,n1,n2,hg,hb,cond_true];simp[Q1,hroom,qZ,zK6]
  ·have hz0:Nat.beq i 0=false:=by rw[hz];simpa using hi0
   refine⟨.slice A 0 i (2*i), ?_,⟨by rw[zG,h0,Nat.min_eq_left hmul], .inr (.inr ⟨A,0,2*i,l,e',k,g,rfl,hg,hA,by omega,by simp⟩)⟩,fun _=>⟨by simp,by simp⟩⟩;simp only[jF,yM,n1,n2,hg,hb,cond_true];simp[Q1,hroom,b1,b2,hz0,qZ,zK6]
theorem aU {k e n:Nat}{H:AH}{v:AV}{l:List AV}(h:jT k e H v n l)(hpos:0<k){i:Nat}(hi:i<n)(κ:IntKind):
  ∃r,jF k v (some (.int κ (i:Nat))) none none H=some r/\Rw k H r (n - i) (l.drop (i*k))/\r≠ .nilSlice/\r≠ .emptySl:=by
 have n1:=yD κ (z:=((i:Nat):Int)) (by omega);simp only[zS]at n1;have hb:Nat.blt 0 k=true:=by rw[zK];exact hpos
 have hmul:i*k<=n*k:=q5 _ (by omega);have hsub:(n - i)*k=n*k - i*k:=Nat.sub_mul _ _ _;have b1:Nat.ble n n=true:=by rw[zQ];exact Nat.le_refl _
 have b2:Nat.ble i n=true:=by rw[zQ];omega
 have b3:Nat.blt i n=true:=by rw[zK];exact hi
 have b4:Nat.beq n i=false:=by rw[Bool.eq_false_iff];intro h;have:=Nat.eq_of_beq_eq_true h;omega
 rcases h with⟨h0,⟨rfl,rfl⟩ | ⟨A,rfl,hA,hg⟩⟩ | ⟨h0,A,e',g,rfl,hA,hg,hn0⟩
 ·omega
 ·have hroom:yB l true k 0 1 k=n:=by
   simp only[yB,show((1 % 2).beq 0)=false from rfl,cond_false,Nat.beq_refl,show Nat.beq 0 (1 / 2*k)=true from by simp,Bool.and_self,cond_true,qX,h0,Nat.sub_zero];exact Nat.mul_div_cancel _ hpos
  by_cases hi0:i=0
  ·subst hi0;refine⟨.slice A 0 n 1, ?_,⟨by simp[h0], .inr (.inr ⟨A,0,1,l,e,k,true,by simp,hg,hA,by simp[h0],by rw[Nat.sub_zero,Nat.zero_mul,List.drop_zero,zL (by omega)]⟩)⟩,by simp,by simp⟩;simp only[jF,yM,n1,hg,hb,cond_true];simp[Q1,hroom,b1,qZ,zK6,show Nat.beq 1 0=false from rfl]
  ·have hz0:Nat.beq i 0=false:=by rw[Bool.eq_false_iff];intro h;exact hi0 (Nat.eq_of_beq_eq_true h)
   refine⟨.slice A (0+i*k) (n - i) (1+2*i), ?_,⟨by simp[h0,hsub], .inr (.inr ⟨A,0+i*k,1+2*i,l,e,k,true,rfl,hg,hA,by omega,by rw[Nat.zero_add,zL (by simp[h0,hsub])]⟩)⟩,by simp,by simp⟩;simp only[jF,yM,n1,hg,hb,cond_true];simp[Q1,hroom,b1,b2,b3,hz0,qZ,show Nat.beq 1 0=false from rfl]
 ·have hroom:yB l g k 0 (2*n) k=n:=by
   simp only[yB,show((2*n) % 2).beq 0=true by rw[Nat.mul_mod_right];rfl,cond_true,Nat.mul_div_cancel_left n (show 0<2 by omega)]
  have b4':Nat.beq (2*n / 2) i=false:=by rw[Nat.mul_div_cancel_left n (show 0<2 by omega)];exact b4
  refine⟨.slice A (0+i*k) (n - i) (2*(2*n / 2 - i)), ?_,⟨by simp[h0,hsub], .inr (.inr ⟨A,0+i*k,2*(2*n / 2 - i),l,e',k,g,rfl,hg,hA,by omega,by rw[Nat.zero_add,zL (by simp[h0,hsub])]⟩)⟩,by simp,by simp⟩;simp only[jF,yM,n1,hg,hb,cond_true];simp[Q1,hroom,b1,b2,b4',qZ,b4]
theorem ZS (D:Dyn)(n:Nat){H:AH}(hk:H.ok){v:AV}{l:List Str}(h:Strs H v l)(hn:v≠ .nilSlice)(he:v≠ .emptySl)(hl:l.length<=1000000000):
  ∃v' H',f49 D n [v] H=some (v',H')/\Prs H H'/\jT 1 9 H' v' l.length (l.map S)/\ ∀B,Blk v' B->H.next<=B:=by
 have p1:Prs H (H.push (.cells [] 9 1 false)):=(Stp.refl hk).push _;have g1:(H.push (.cells [] 9 1 false)).h.get H.next=some (.cells [] 9 1 false):=AH.push_get_eq _ _
 have n1:(H.push (.cells [] 9 1 false)).next=H.next+1:=rfl
 generalize hH1:H.push (.cells [] 9 1 false)=H1 at p1 g1 n1;obtain⟨v',H2,e2,w2,s2,f2⟩:=(jT.zero 1 9 g1 p1.ok).app (bytes:=16) p1.ok (by decide) (Rw.srcOf (h.prs p1)) (by simp) (kD _) (by omega) (by decide);have hz1:xX 9 1 0 [.str 0 0] []=some (.cells [] 9 1 false,fun A=> .slice A 0 0 0):=rfl;have heq:xJ .eql (eqS v .nilSlice)=some (.bool false):=by
  obtain⟨_,⟨rfl,_⟩ | ⟨rfl,_⟩ | ⟨A,off,cc,c,e,sz,g,rfl,_⟩⟩:=h
  ·exact absurd rfl hn
  ·exact absurd rfl he
  ·rfl
 refine⟨v',H2, ?_,p1.fresh s2 (fun B hB=>by rw[Blk.slice.1 hB];exact Nat.le_refl _),by simpa using w2,fun B hB=> ?_⟩
 ·simp only[f49,eZ,heq,hz1,xY hk,hH1,e2]
 ·rcases f2 B hB with h | h
  ·rw[Blk.slice.1 h];exact Nat.le_refl _
  ·omega
theorem XH (D:Dyn)(n:Nat){H:AH}(hk:H.ok){v:AV}{l:List Ptr}(h:uI H v l)(hn:v≠ .nilSlice)(he:v≠ .emptySl)(hl:l.length<=1000000000):
  ∃v' H',f74 D n [v] H=some (v',H')/\Prs H H'/\jT 3 57 H' v' l.length (l.flatMap y7)/\ ∀B,Blk v' B->H.next<=B:=by
 have p1:Prs H (H.push (.cells [] 57 3 false)):=(Stp.refl hk).push _;have g1:(H.push (.cells [] 57 3 false)).h.get H.next=some (.cells [] 57 3 false):=AH.push_get_eq _ _
 have n1:(H.push (.cells [] 57 3 false)).next=H.next+1:=rfl
 generalize hH1:H.push (.cells [] 57 3 false)=H1 at p1 g1 n1;obtain⟨v',H2,e2,w2,s2,f2⟩:=(jT.zero 3 57 g1 p1.ok).app (bytes:=24) p1.ok (by decide) (Rw.srcOf (h.prs p1)) h.1 (wM _) (by omega) (by decide);have hz1: ∀a b c:AV,xX 57 3 0 [a,b,c] []=some (.cells [] 57 3 false,fun A=> .slice A 0 0 0):=fun _ _ _=>rfl
 have heq:xJ .eql (eqS v .nilSlice)=some (.bool false):=by
  obtain⟨_,⟨rfl,_⟩ | ⟨rfl,_⟩ | ⟨A,off,cc,c,e,sz,g,rfl,_⟩⟩:=h
  ·exact absurd rfl hn
  ·exact absurd rfl he
  ·rfl
 refine⟨v',H2, ?_,p1.fresh s2 (fun B hB=>by rw[Blk.slice.1 hB];exact Nat.le_refl _),by simpa using w2,fun B hB=> ?_⟩
 ·simp only[f74,eZ,heq,hz1,xY hk,hH1,e2]
 ·rcases f2 B hB with h | h
  ·rw[Blk.slice.1 h];exact Nat.le_refl _
  ·omega
end Go.Eng.Sh
end
end
section
namespace Go.Eng.Sh
open Go.Nd (Ptr y9 cutOk)
def xE (nd:Nd.Node):Prop:=2<=nd.keys.length/\(nd.leaf=true\/3<=nd.keys.length)
def hbnd (nd:Nd.Node)(k:Nat):Prop:=
 (k=1\/Nd.size (Nd.cutA nd k)<=(Nd.size nd - 2) / 2+2)/\(k+(if nd.leaf then 1 else 2)=nd.keys.length\/(Nd.size nd - 2) / 2+2<Nd.size (Nd.cutA nd (k+1)))
theorem aO (l:List Str){i:Nat}(h:i<l.length):y9 (l.take (i+1))=y9 (l.take i)+(1+(l[i]).length):=by
 rw[zO h,Nd.sumL_append,Nd.sumL_cons];rfl
theorem size_leaf {nd:Nd.Node}(hl:nd.leaf=true)(hv:nd.vals.length=nd.keys.length){i:Nat}(h:i<nd.keys.length):Nd.size (Nd.cutA nd (i+1))=Nd.size (Nd.cutA nd i)+(1+(nd.keys[i]).length)+(1+(nd.vals[i]'(by omega)).length):=by
 simp only[Nd.cutA,hl,if_true,Nd.size,aO nd.keys h,aO nd.vals (i:=i) (by omega)];omega
theorem size_inner {nd:Nd.Node}(hl:nd.leaf=false)(hv:nd.kids.length=nd.keys.length+1){i:Nat}(h:i<nd.keys.length):Nd.size (Nd.cutA nd (i+1))=Nd.size (Nd.cutA nd i)+(1+(nd.keys[i]).length)+16:=by
 simp only[Nd.cutA,hl,Bool.false_eq_true,if_false,Nd.size,aO nd.keys h,zG];omega
theorem J2 (nd:Nd.Node):2<=Nd.size nd:=by simp only[Nd.size];omega
theorem BJ (D:Dyn)(n:Nat){H:AH}{ks vs ps:AV}{nd:Nd.Node}(h1:Strs H ks nd.keys)(h2:Strs H vs nd.vals)(hv:nd.leaf=true->nd.vals.length=nd.keys.length)(hp:nd.leaf=false->nd.kids.length=nd.keys.length+1){A:Nat}{e:TypeId}(hA:H.h.get A=some (.cells [.bool nd.leaf,ks,vs,ps] e 1 false))
  (most:Nat) (L:Nat) (hL:L<=nd.keys.length) (hb:nd.keys.length<=1000000000) (hz:Nd.size nd<=1000000000) (n':Nat) (hn:L<n'):
  Fin (qW n' (ZN D n) [.ptr A 0, .int .i64 (most:Nat), .int .i64 (L:Nat), .int .i64 ((Nd.size (Nd.cutA nd 0) - 2:Nat):Int), .int .i64 (L:Nat), .int .i64 (0:Nat)] H) fun x H'=>H'=H/\((∃j:Nat,0<j/\j<L/\x= .ret (.int .i64 (j:Nat))/\(j=1\/Nd.size (Nd.cutA nd j)<=most+2)/\most+2<Nd.size (Nd.cutA nd (j+1)))\/(x= .exit 0 [.int .i64 (L:Nat)]/\(L<=1\/Nd.size (Nd.cutA nd L)<=most+2))):=by
 refine Fin.loop (fun k us H'=>H'=H/\ ∃(i:Nat),us=[.ptr A 0, .int .i64 (most:Nat), .int .i64 (L:Nat), .int .i64 ((Nd.size (Nd.cutA nd i) - 2:Nat):Int), .int .i64 (L:Nat), .int .i64 (i:Nat)]/\i<=L/\k=L - i/\(i<=1\/Nd.size (Nd.cutA nd i)<=most+2)) ?_ n' L _ H ⟨rfl,0,rfl,by omega,by omega, .inl (by omega)⟩ hn
 rintro k us H' ⟨rfl,i,rfl,hi,rfl,hpre⟩
 by_cases hlt:i<L
 ·have hik:i<nd.keys.length:=by omega
  obtain⟨p,p1,p2⟩:=h1.at hik;have hiI:((i:Nat):Int)< ((L:Nat):Int):=by omega
  have z2:=J2 (Nd.cutA nd i);have z2':=J2 (Nd.cutA nd (i+1));have tail:Fin (cB D n [.ptr A 0, .int .i64 (most:Nat), .int .i64 (L:Nat), .int .i64 ((Nd.size (Nd.cutA nd (i+1)) - 2:Nat):Int), .int .i64 (i:Nat), .int .i64 (L:Nat), .int .i64 (i:Nat)] H')
    (orN (fun us' H''=> ∃k',k'<L - i/\H''=H'/\ ∃(i:Nat),us'=[.ptr A 0, .int .i64 (most:Nat), .int .i64 (L:Nat), .int .i64 ((Nd.size (Nd.cutA nd i) - 2:Nat):Int), .int .i64 (L:Nat), .int .i64 (i:Nat)]/\i<=L/\k'=L - i/\(i<=1\/Nd.size (Nd.cutA nd i)<=most+2))
     (fun x H''=>H''=H'/\((∃j:Nat,0<j/\j<L/\x= .ret (.int .i64 (j:Nat))/\(j=1\/Nd.size (Nd.cutA nd j)<=most+2)/\most+2<Nd.size (Nd.cutA nd (j+1)))\/(x= .exit 0 [.int .i64 (L:Nat)]/\(L<=1\/Nd.size (Nd.cutA nd L)<=most+2))))):=by
   by_cases hc:0<i/\most<Nd.size (Nd.cutA nd (i+1)) - 2
   ·have c1:((0:Nat):Int)< (i:Int):=by omega
    have c2:((most:Nat):Int)< ((Nd.size (Nd.cutA nd (i+1)) - 2:Nat):Int):=by omega
    have:cB D n [.ptr A 0, .int .i64 (most:Nat), .int .i64 (L:Nat), .int .i64 ((Nd.size (Nd.cutA nd (i+1)) - 2:Nat):Int), .int .i64 (i:Nat), .int .i64 (L:Nat), .int .i64 (i:Nat)] H'=some (.ret (.int .i64 (i:Nat)),H'):=by
     simp(disch:=omega) only[cB,eZ,c1,c2]
    rw[this];exact⟨_,_,rfl,rfl, .inl ⟨i,hc.1,hlt,rfl,by omega,by omega⟩⟩
   ·have hcb:(decide (((0:Nat):Int)< (i:Int))&&decide (((most:Nat):Int)< ((Nd.size (Nd.cutA nd (i+1)) - 2:Nat):Int)))=false:=by
     rw[Bool.eq_false_iff];intro hh;simp only[z8,zE]at hh;exact hc ⟨by omega,by omega⟩
    have:cB D n [.ptr A 0, .int .i64 (most:Nat), .int .i64 (L:Nat), .int .i64 ((Nd.size (Nd.cutA nd (i+1)) - 2:Nat):Int), .int .i64 (i:Nat), .int .i64 (L:Nat), .int .i64 (i:Nat)] H'=some (.norm [.ptr A 0, .int .i64 (most:Nat), .int .i64 (L:Nat), .int .i64 ((Nd.size (Nd.cutA nd (i+1)) - 2:Nat):Int), .int .i64 (L:Nat), .int .i64 ((i+1:Nat):Int)],H'):=by
     simp(disch:=omega) only[cB,eZ,hcb,Int.natCast_add]
    rw[this];exact⟨_,_,rfl,L - (i+1),by omega,rfl,i+1,rfl,by omega,rfl,by omega⟩
  have hsz:Nd.size (Nd.cutA nd i)<=1000000002:=by
   have t1:=Nd.sumL_take_le nd.keys i;have t2:=Nd.sumL_take_le nd.vals i;have:Nd.size nd=2+16*nd.kids.length+y9 nd.keys+y9 nd.vals:=rfl;have z0:y9 []=0:=rfl;simp only[Nd.cutA];split<;>simp only[Nd.size,zY,zG,z0]<;>omega
  have hkl:(nd.keys[i]).length<=1000000000:=by
   have:=Nd.sumL_drop_le nd.keys i;rw[zN hik,Nd.sumL_cons]at this;have:Nd.size nd=2+16*nd.kids.length+y9 nd.keys+y9 nd.vals:=rfl;omega
  cases hl:nd.leaf with
  | true=>
   rw[hl]at hA;obtain⟨q,q1,q2⟩:=h2.at (i:=i) (by rw[hv hl];exact hik);have hs:=size_leaf hl (hv hl) hik;have hvl:(nd.vals[i]'(by rw[hv hl];exact hik)).length<=1000000000:=by
    have:=Nd.sumL_drop_le nd.vals i;rw[zN (by rw[hv hl];exact hik),Nd.sumL_cons]at this;have:Nd.size nd=2+16*nd.kids.length+y9 nd.keys+y9 nd.vals:=rfl;omega
   have hz:((Nd.size (Nd.cutA nd (i+1)) - 2:Nat):Int)=((Nd.size (Nd.cutA nd i) - 2:Nat):Int)+(((1:Nat):Int)+(((nd.keys[i]).length:Nat):Int))+(((1:Nat):Int)+(((nd.vals[i]'(by rw[hv hl];exact hik)).length:Nat):Int)):=by omega
   have:ZN D n [.ptr A 0, .int .i64 (most:Nat), .int .i64 (L:Nat), .int .i64 ((Nd.size (Nd.cutA nd i) - 2:Nat):Int), .int .i64 (L:Nat), .int .i64 (i:Nat)] H'=jn (some (.norm [.ptr A 0, .int .i64 (most:Nat), .int .i64 (L:Nat), .int .i64 ((Nd.size (Nd.cutA nd (i+1)) - 2:Nat):Int), .int .i64 (i:Nat), .int .i64 (L:Nat), .int .i64 (i:Nat)],H')) (cB D n):=by
    rw[hz];simp(disch:=omega) only[ZN,eZ,hiI,qJ hA,p1,p2,q1,q2]
   rw[this,JJ];exact tail
  | false=>
   rw[hl]at hA;have hs:=size_inner hl (hp hl) hik;have hz:((Nd.size (Nd.cutA nd (i+1)) - 2:Nat):Int)=((Nd.size (Nd.cutA nd i) - 2:Nat):Int)+(((1:Nat):Int)+(((nd.keys[i]).length:Nat):Int))+((16:Nat):Int):=by omega
   have:ZN D n [.ptr A 0, .int .i64 (most:Nat), .int .i64 (L:Nat), .int .i64 ((Nd.size (Nd.cutA nd i) - 2:Nat):Int), .int .i64 (L:Nat), .int .i64 (i:Nat)] H'=jn (some (.norm [.ptr A 0, .int .i64 (most:Nat), .int .i64 (L:Nat), .int .i64 ((Nd.size (Nd.cutA nd (i+1)) - 2:Nat):Int), .int .i64 (i:Nat), .int .i64 (L:Nat), .int .i64 (i:Nat)],H')) (cB D n):=by
    rw[hz];simp(disch:=omega) only[ZN,eZ,hiI,qJ hA,p1,p2]
   rw[this,JJ];exact tail
 ·have hiI: ¬((i:Nat):Int)< ((L:Nat):Int):=by omega
  have hiL:i=L:=by omega
  subst hiL;refine⟨.exit 0 [.int .i64 (i:Nat)],H', ?_,rfl, .inr ⟨rfl,hpre⟩⟩;simp only[ZN,eZ,hiI]
theorem zCp (D:Dyn)(n:Nat)(hn:200000000<=n){H:AH}(hk:H.ok){v:AV}{nd:Nd.Node}(h:bY H v nd)(hs:small nd)(hsh:Nd.shaped ltS nd=true)(hc:xE nd):
  ∃(k:Nat) (H':AH),zFe D n [v] H=some (.int .i64 (k:Nat),H')/\Prs H H'/\cutOk nd k/\hbnd nd k:=by
 have h0:=h;obtain⟨ks,vs,ps,rfl,h1,h2,h3⟩:=h;have hkl:=Nd.sumL_ge nd.keys;obtain⟨s1,s2,s3⟩:=id hs;obtain⟨c1,c2⟩:=hc;have hv:nd.leaf=true->nd.vals.length=nd.keys.length:=by
  intro hl;simp only[Nd.shaped,hl,if_true,z8,zE]at hsh;exact hsh.2.1.1
 have hp:nd.leaf=false->nd.kids.length=nd.keys.length+1:=by
  intro hl;simp only[Nd.shaped,hl,Bool.false_eq_true,if_false,z8,zE]at hsh;exact hsh.2.1.2
 have p1:Prs H (H.push (.cells [.bool nd.leaf,ks,vs,ps] 61 1 false)):=(Stp.refl hk).push _;have g1:(H.push (.cells [.bool nd.leaf,ks,vs,ps] 61 1 false)).h.get H.next=some (.cells [.bool nd.leaf,ks,vs,ps] 61 1 false):=AH.push_get_eq _ _
 generalize hH1:H.push (.cells [.bool nd.leaf,ks,vs,ps] 61 1 false)=H1 at p1 g1;obtain⟨z,H2,e2,rfl,p2⟩:=VG D n p1.ok (h0.prs p1) hs hn;have g2:=p2.get p1.ok g1;have P:Prs H H2:=p1.trans p2;have hq:=zA5 .i64 (((Nd.size nd:Nat):Int) - ((2:Nat):Int)) ((2:Nat):Int) (by omega);have hsz:Nd.size nd<=1000000000:=by simp only[Nd.size];omega
 have hz2:=J2 nd;have hmost:IntKind.wrap .i64 ((((Nd.size nd:Nat):Int) - ((2:Nat):Int)).tdiv ((2:Nat):Int))=(((Nd.size nd - 2) / 2:Nat):Int):=by
  rw[show((Nd.size nd:Nat):Int) - ((2:Nat):Int)=((Nd.size nd - 2:Nat):Int)by omega,Int.tdiv_eq_ediv_of_nonneg (by omega)];rw[wrap_i64 (by omega) (by omega)];omega
 rw[hmost]at hq
 cases hl:nd.leaf with
 | true=>
  obtain⟨x,H3,e3,rfl,hx⟩:=BJ D n (h1.prs P) (h2.prs P) hv hp g2 ((Nd.size nd - 2) / 2) (nd.keys.length - 1) (by omega) (by omega) hsz n (by omega);have hL:((nd.keys.length:Nat):Int) - ((1:Nat):Int)=((nd.keys.length - 1:Nat):Int):=by omega
  rw[hl]at g2 hH1 e2;rw[show Nd.size (Nd.cutA nd 0) - 2=0 by simp[Nd.cutA,hl,Nd.size,y9]]at e3;rcases hx with⟨j,j1,j2,rfl,j3,j4⟩ | ⟨rfl,j3⟩
  ·refine⟨j,H3, ?_,P,⟨j1,by rw[hl];simp only[if_true];omega⟩,j3, .inr j4⟩;simp(disch:=omega) only[zFe,eZ,xY hk,hH1,fU,Option.map_some,hl,e2,hq,qJ g2,h1.lnSl,hL,XA,e3]
  ·refine⟨nd.keys.length - 1,H3, ?_,P,⟨by omega,by rw[hl];simp only[if_true];omega⟩,by omega, .inl (by rw[hl];simp only[if_true];omega)⟩;simp(disch:=omega) only[zFe,eZ,xY hk,hH1,fU,Option.map_some,hl,e2,hq,qJ g2,h1.lnSl,hL,XA,e3,zD2]
 | false=>
  have c3:3<=nd.keys.length:=by rcases c2 with h | h;rw[hl]at h;cases h;exact h
  obtain⟨x,H3,e3,rfl,hx⟩:=BJ D n (h1.prs P) (h2.prs P) hv hp g2 ((Nd.size nd - 2) / 2) (nd.keys.length - 2) (by omega) (by omega) hsz n (by omega);have hL:((nd.keys.length:Nat):Int) - ((1:Nat):Int) - ((1:Nat):Int)=((nd.keys.length - 2:Nat):Int):=by omega
  rw[hl]at g2 hH1 e2;rw[show Nd.size (Nd.cutA nd 0) - 2=16 by have hpl:=hp hl;simp only[Nd.cutA,hl,Bool.false_eq_true,if_false,Nd.size,List.take_zero,zG,Nat.zero_add,show y9 []=0 from rfl];omega]at e3;rcases hx with⟨j,j1,j2,rfl,j3,j4⟩ | ⟨rfl,j3⟩
  ·refine⟨j,H3, ?_,P,⟨j1,by rw[hl];simp only[Bool.false_eq_true,if_false];omega⟩,j3, .inr j4⟩;simp(disch:=omega) only[zFe,eZ,xY hk,hH1,fU,Option.map_some,hl,e2,hq,qJ g2,h1.lnSl,hL,XA,e3]
  ·refine⟨nd.keys.length - 2,H3, ?_,P,⟨by omega,by rw[hl];simp only[Bool.false_eq_true,if_false];omega⟩,by omega, .inl (by rw[hl];simp only[Bool.false_eq_true,if_false];omega)⟩;simp(disch:=omega) only[zFe,eZ,xY hk,hH1,fU,Option.map_some,hl,e2,hq,qJ g2,h1.lnSl,hL,XA,e3,zD2]
open Go.Nd (cutA bZ)
theorem xO {k e n:Nat}{H H':AH}{v:AV}{l l':List AV}(h:jT k e H v n l)(h':jT k e H' v n l')(hpos:0<k)(lo hi mx:Option AV):jF k v lo hi mx H'=jF k v lo hi mx H:=by
 have room1: ∀l:List AV,l.length=n*k->yB l true k 0 1 k=n:=fun l h0=>by
  simp only[yB,show((1 % 2).beq 0)=false from rfl,cond_false,Nat.beq_refl,show Nat.beq 0 (1 / 2*k)=true from by simp,Bool.and_self,cond_true,qX,h0,Nat.sub_zero];exact Nat.mul_div_cancel _ hpos
 have room2: ∀(l:List AV) (g:Bool),yB l g k 0 (2*n) k=n:=fun l g=>by
  simp only[yB,show((2*n) % 2).beq 0=true by rw[Nat.mul_mod_right];rfl,cond_true,Nat.mul_div_cancel_left n (show 0<2 by omega)]
 rcases h with⟨h0,⟨rfl,_⟩ | ⟨A,rfl,hA,hg⟩⟩ | ⟨h0,A,e',g,rfl,hA,hg,hn0⟩
 ·rfl
 ·rcases h' with⟨h0',⟨hv,_⟩ | ⟨A',hv,hA',hg'⟩⟩ | ⟨h0',A',e'',g',hv,hA',hg',_⟩
  ·cases hv
  ·simp only[AV.slice.injEq]at hv;obtain⟨rfl,_⟩:=hv;simp only[jF,hg,hg',room1 l h0,room1 l' h0']
  ·simp only[AV.slice.injEq]at hv;omega
 ·rcases h' with⟨h0',⟨hv,_⟩ | ⟨A',hv,hA',hg'⟩⟩ | ⟨h0',A',e'',g',hv,hA',hg',_⟩
  ·cases hv
  ·simp only[AV.slice.injEq]at hv;omega
  ·simp only[AV.slice.injEq]at hv;obtain⟨rfl,_⟩:=hv;simp only[jF,hg,hg',room2]
theorem aS {H:AH}(hk:H.ok){A o:Nat}{l:List AV}{e:TypeId}{x:AV}(h:H.h.get A=some (.cells l e 1 false))(hx:isCell x=true)(ho:o<l.length):
  ∃H',stN 1 (.ptr A o) x H=some (qI,H')/\H'.h.get A=some (.cells (l.set o x) e 1 false)/\Stp (fun B=>B=A) H H'/\H'.next=H.next:=
 ⟨_,aT h (by decide) hx ho,by rw[AH.put_get,if_pos rfl],(Stp.refl hk).put (hk.lt h) _ (.inr rfl),rfl⟩
theorem map_take (l:List Str)(k:Nat):(l.map S).take (k*1)=(l.take k).map S:=by simp
theorem map_drop (l:List Str)(k:Nat):(l.map S).drop (k*1)=(l.drop k).map S:=by simp
theorem ZJ: ∀(l:List Ptr) (k:Nat),(l.flatMap y7).take (k*3)=(l.take k).flatMap y7
 | _,0=>by simp
 | [],k+1=>by simp
 | p::l,k+1=>by
  have ih:=ZJ l k;rw[show(k+1)*3=k*3+3 from by omega];show((y7 p)++l.flatMap y7).take (k*3+3)=y7 p++(l.take k).flatMap y7;rw[<-ih];rfl
theorem ZK: ∀(l:List Ptr) (k:Nat),(l.flatMap y7).drop (k*3)=(l.drop k).flatMap y7
 | _,0=>by simp
 | [],k+1=>by simp
 | p::l,k+1=>by
  have ih:=ZK l k;rw[show(k+1)*3=k*3+3 from by omega];show((y7 p)++l.flatMap y7).drop (k*3+3)=(l.drop k).flatMap y7;rw[<-ih];rfl
structure CutI (H0:AH)(A1 A2 A4:Nat)(H:AH)(l1 l2 l4:List AV):Prop where
 prs:Prs H0 H
 a1:H.h.get A1=some (.cells l1 61 1 false)
 a2:H.h.get A2=some (.cells l2 61 1 false)
 a4:H.h.get A4=some (.cells l4 61 1 false)
 o1:H0.next<=A1
 o2:A1<A2
 o4:A2<A4
theorem CutI.lt {H0 H:AH}{A1 A2 A4:Nat}{l1 l2 l4:List AV}(h:CutI H0 A1 A2 A4 H l1 l2 l4):A4<H.next:=h.prs.ok.lt h.a4
theorem CutI.step {H0 H H':AH}{A1 A2 A4:Nat}{l1 l2 l4:List AV}(h:CutI H0 A1 A2 A4 H l1 l2 l4)(s:Prs H H'):CutI H0 A1 A2 A4 H' l1 l2 l4:=
 ⟨h.prs.trans s,s.get h.prs.ok h.a1,s.get h.prs.ok h.a2,s.get h.prs.ok h.a4,h.o1,h.o2,h.o4⟩
theorem CutI.st2 {H0 H:AH}{A1 A2 A4:Nat}{l1 l2 l4:List AV}(h:CutI H0 A1 A2 A4 H l1 l2 l4){o:Nat}{x:AV}(hx:isCell x=true)(ho:o<l2.length):
  ∃H',stN 1 (.ptr A2 o) x H=some (qI,H')/\CutI H0 A1 A2 A4 H' l1 (l2.set o x) l4/\Stp (fun B=>B=A2) H H':=by
 obtain⟨H',e,g,s,n⟩:=aS h.prs.ok h.a2 hx ho;have:=h.o1;have:=h.o2;have:=h.o4;have l4:=h.lt;exact⟨H',e,⟨h.prs.fresh s (fun B hB=>by omega),by rw[s.keep _ (by omega) (by omega)];exact h.a1,g,by rw[s.keep _ l4 (by omega)];exact h.a4,h.o1,h.o2,h.o4⟩,s⟩
theorem CutI.st4 {H0 H:AH}{A1 A2 A4:Nat}{l1 l2 l4:List AV}(h:CutI H0 A1 A2 A4 H l1 l2 l4){o:Nat}{x:AV}(hx:isCell x=true)(ho:o<l4.length):
  ∃H',stN 1 (.ptr A4 o) x H=some (qI,H')/\CutI H0 A1 A2 A4 H' l1 l2 (l4.set o x)/\Stp (fun B=>B=A4) H H':=by
 obtain⟨H',e,g,s,n⟩:=aS h.prs.ok h.a4 hx ho;have:=h.o1;have:=h.o2;have:=h.o4;have l4:=h.lt;exact⟨H',e,⟨h.prs.fresh s (fun B hB=>by omega),by rw[s.keep _ (by omega) (by omega)];exact h.a1,by rw[s.keep _ (by omega) (by omega)];exact h.a2,g,h.o1,h.o2,h.o4⟩,s⟩
theorem CutI.all2 {H0 H:AH}{A1 A2 A4:Nat}{l1 l2 l4 l':List AV}(h:CutI H0 A1 A2 A4 H l1 l2 l4)(hl:l'.length=l2.length)(hc:qK l'=true):
  ∃H',stN l2.length (.ptr A2 0) (.agg l') H=some (qI,H')/\CutI H0 A1 A2 A4 H' l1 l' l4/\Stp (fun B=>B=A2) H H':=by
 obtain⟨H',e,g,s,n⟩:=yE h.prs.ok h.a2 hl hc;have:=h.o1;have:=h.o2;have:=h.o4;have l4:=h.lt;exact⟨H',e,⟨h.prs.fresh s (fun B hB=>by omega),by rw[s.keep _ (by omega) (by omega)];exact h.a1,g,by rw[s.keep _ l4 (by omega)];exact h.a4,h.o1,h.o2,h.o4⟩,s⟩
theorem CutI.all4 {H0 H:AH}{A1 A2 A4:Nat}{l1 l2 l4 l':List AV}(h:CutI H0 A1 A2 A4 H l1 l2 l4)(hl:l'.length=l4.length)(hc:qK l'=true):
  ∃H',stN l4.length (.ptr A4 0) (.agg l') H=some (qI,H')/\CutI H0 A1 A2 A4 H' l1 l2 l'/\Stp (fun B=>B=A4) H H':=by
 obtain⟨H',e,g,s,n⟩:=yE h.prs.ok h.a4 hl hc;have:=h.o1;have:=h.o2;have:=h.o4;have l4:=h.lt;exact⟨H',e,⟨h.prs.fresh s (fun B hB=>by omega),by rw[s.keep _ (by omega) (by omega)];exact h.a1,by rw[s.keep _ (by omega) (by omega)];exact h.a2,g,h.o1,h.o2,h.o4⟩,s⟩
def v5 (u:AV)(B:Nat):Prop:= ∃x ks vs ps,u= .agg [x,ks,vs,ps]/\(Blk ks B\/Blk vs B\/Blk ps B)
theorem jS {x ks vs ps:AV}{B:Nat} :v5 (.agg [x,ks,vs,ps]) B↔(Blk ks B\/Blk vs B\/Blk ps B):=
 ⟨fun⟨_,_,_,_,e,h⟩=>by simp only[AV.agg.injEq,List.cons.injEq,and_true]at e;obtain⟨rfl,rfl,rfl,rfl⟩:=e;exact h,fun h=>⟨_,_,_,_,rfl,h⟩⟩
def kL (N:Nat)(H:AH)(v:AV)(nd:Nd.Node):Prop:=qY H v nd/\ ∀B,v5 v B->N<=B
structure FrG (A k e:Nat)(H:AH)(v:AV)(n:Nat)(l:List AV):Prop where
 g:jT k e H v n l
 f: ∀B,Blk v B->A<B
theorem FrG.prs {A k e n:Nat}{H H':AH}{v:AV}{l:List AV}(h:FrG A k e H v n l)(s:Prs H H'):FrG A k e H' v n l:=⟨h.g.mono s (fun _ _ x=>x),h.f⟩
theorem FrG.stp {A A' k e n:Nat}{H H':AH}{v:AV}{l:List AV}(h:FrG A k e H v n l)(s:Stp (fun B=>B=A') H H')(hA:A'<=A):FrG A k e H' v n l:=
 ⟨h.g.mono s (fun B hB e=>by have:=h.f B hB;omega),h.f⟩
theorem zK8 (l:Str):aveq (S l) (S l)=true:=by simp[S,aveq]
theorem FrG.nil (A k e:Nat)(H:AH):FrG A k e H .nilSlice 0 []:=⟨.inl ⟨by simp, .inl ⟨rfl,rfl⟩⟩,fun B hB=>(Blk.nil.1 hB).elim⟩
theorem FrG.isCell {A k e n:Nat}{H:AH}{v:AV}{l:List AV}(h:FrG A k e H v n l):isCell v=true:=h.g.isCell
theorem FrG.aveq {A k e n:Nat}{H:AH}{v:AV}{l:List AV}(h:FrG A k e H v n l):aveq v v=true:=yC h.g.row
structure FrN (A:Nat)(H:AH)(a b c:AV)(nd:Nd.Node):Prop where
 k:FrG A 1 9 H a nd.keys.length (nd.keys.map S)
 v:FrG A 1 9 H b nd.vals.length (nd.vals.map S)
 p:FrG A 3 57 H c nd.kids.length (nd.kids.flatMap y7)
theorem FrN.stp {A A':Nat}{H H':AH}{a b c:AV}{nd:Nd.Node}(h:FrN A H a b c nd)(s:Stp (fun B=>B=A') H H')(hA:A'<=A):FrN A H' a b c nd:=⟨h.k.stp s hA,h.v.stp s hA,h.p.stp s hA⟩
theorem FrN.fresh {A N:Nat}{H:AH}{x a b c:AV}{nd:Nd.Node}(h:FrN A H a b c nd)(hN:N<=A): ∀B,v5 (.agg [x,a,b,c]) B->N<=B:=fun B hB=>by
 rcases jS.1 hB with k | k | k
 ·have:=h.k.f B k;omega
 ·have:=h.v.f B k;omega
 ·have:=h.p.f B k;omega
theorem zDm (D:Dyn)(n:Nat){H0 H:AH}{A1 A2 A4 k:Nat}{b:Bool}{ks vs ps k2 v2 p2 k4 v4 p4:AV}{keys:List Str}{na nb:Nd.Node}
  (h:CutI H0 A1 A2 A4 H [.bool b,ks,vs,ps] [.bool b,k2,v2,p2] [.bool b,k4,v4,p4]) (hks:Strs H ks keys) (hR: ∀B,Blk ks B->B<H0.next) (hk:k<keys.length) (ha:FrN A4 H k2 v2 p2 na) (hb:FrN A4 H k4 v4 p4 nb):
  ∃H',zHJ D n [.ptr A1 0, .ptr A2 0, .ptr A4 0, .int .i64 (k:Nat)] H=some (.ret (.tuple [.agg [.bool b,k2,v2,p2],S (keys.getD k []), .agg [.bool b,k4,v4,p4], .int .i64 ((0:Nat):Int)]),H')/\Prs H0 H'/\FrN A4 H' k2 v2 p2 na/\FrN A4 H' k4 v4 p4 nb:=by
 have o1:=h.o1;have o2:=h.o2;have o4:=h.o4;obtain⟨q,q1,q2⟩:=hks.at hk;obtain⟨H1,e1,h1,s1⟩:=h.all2 (l':=[.bool b,k2,v2,p2]) rfl (fL _ _ _ _ ha.k.isCell ha.v.isCell ha.p.isCell);have hks1:Strs H1 ks keys:=Rw.stp hks s1 (fun B hB e=>by have:=hR B hB;omega);obtain⟨q',q1',q2'⟩:=hks1.at hk;obtain rfl:q=q':=by have:=q1 .i64 k rfl;rw[q1' .i64 k rfl]at this;cases this;rfl
 obtain⟨H2,e2,h2,s2⟩:=h1.all4 (l':=[.bool b,k4,v4,p4]) rfl (fL _ _ _ _ hb.k.isCell hb.v.isCell hb.p.isCell);have e1':stN 4 (.ptr A2 0) (.agg [.bool b,k2,v2,p2]) H=some (qI,H1):=e1;have e2':stN 4 (.ptr A4 0) (.agg [.bool b,k4,v4,p4]) H1=some (qI,H2):=e2;have hagg:aveq (.agg [.bool b,k4,v4,p4]) (.agg [.bool b,k4,v4,p4])=true:=by simp[Eng.aveq,dP,hb.k.aveq,hb.v.aveq,hb.p.aveq]
 have hg:keys.getD k []=keys[k]:=by rw[zI,zB hk];rfl
 have l4:ldN 4 (.ptr A4 0) H1=some (.agg [.bool b,k4,v4,p4]):=by rw[qN h1.a4];rfl
 refine⟨H2, ?_,h2.prs,(ha.stp s1 (by omega)).stp s2 (by omega),(hb.stp s1 (by omega)).stp s2 (by omega)⟩;rw[hg];simp(disch:=omega) only[zHJ,eZ,qN h.a2,qN h.a4,qJ h.a1,q1,q2,e1',e2',j8 (qJ h1.a1 1) (yC hks),j8 q2' (zK8 _),j8 l4 hagg,qN h2.a2,qN h2.a4,fU,Option.map_some]
theorem zCn (D:Dyn)(n:Nat){H:AH}(hk:H.ok){v:AV}{l:List Str}(h:jT 1 9 H v l.length (l.map S))(hl:l.length<=1000000000){i:Nat}(h0:0<i)(hi:i<=l.length)(A:Nat)(hA:A<H.next):
  ∃r v' H',jF 1 v none (some (.int .i64 (i:Nat))) (some (.int .i64 (i:Nat))) H=some r/\f49 D n [r] H=some (v',H')/\Prs H H'/\FrG A 1 9 H' v' (l.take i).length ((l.take i).map S):=by
 obtain⟨r,e1,w,hz⟩:=J0 h (by decide) hi .i64 .i64;rw[map_take]at w;have hlen:(l.take i).length=i:=by rw[zG];omega
 have w':Strs H r (l.take i):=by rw[Strs,hlen];exact w
 obtain⟨v',H',e2,p,g,f⟩:=ZS D n hk w' (hz h0).1 (hz h0).2 (by omega);exact⟨r,v',H',e1,e2,p,g,fun B hB=>by have:=f B hB;omega⟩
theorem zCb (D:Dyn)(n:Nat){H:AH}(hk:H.ok){v:AV}{l:List Str}(h:jT 1 9 H v l.length (l.map S))(hl:l.length<=1000000000){i:Nat}(hi:i<l.length)(A:Nat)(hA:A<H.next):
  ∃r v' H',aveq r r=true/\jF 1 v (some (.int .i64 (i:Nat))) none none H=some r/\f49 D n [r] H=some (v',H')/\Prs H H'/\FrG A 1 9 H' v' (l.drop i).length ((l.drop i).map S):=by
 obtain⟨r,e1,w,z1,z2⟩:=aU h (by decide) hi .i64;rw[map_drop]at w;have hlen:(l.drop i).length=l.length - i:=by rw[zM]
 have w':Strs H r (l.drop i):=by rw[Strs,hlen];exact w
 obtain⟨v',H',e2,p,g,f⟩:=ZS D n hk w' z1 z2 (by omega);exact⟨r,v',H',yC w,e1,e2,p,g,fun B hB=>by have:=f B hB;omega⟩
theorem zJp (D:Dyn)(n:Nat){H:AH}(hk:H.ok){v:AV}{l:List Ptr}(h:jT 3 57 H v l.length (l.flatMap y7))(hl:l.length<=1000000000){i:Nat}(h0:0<i)(hi:i<=l.length)(A:Nat)(hA:A<H.next):
  ∃r v' H',jF 3 v none (some (.int .i64 (i:Nat))) (some (.int .i64 (i:Nat))) H=some r/\f74 D n [r] H=some (v',H')/\Prs H H'/\FrG A 3 57 H' v' (l.take i).length ((l.take i).flatMap y7):=by
 obtain⟨r,e1,w,hz⟩:=J0 h (by decide) hi .i64 .i64;rw[ZJ]at w;have hlen:(l.take i).length=i:=by rw[zG];omega
 have w':uI H r (l.take i):=by rw[uI,hlen];exact w
 obtain⟨v',H',e2,p,g,f⟩:=XH D n hk w' (hz h0).1 (hz h0).2 (by omega);exact⟨r,v',H',e1,e2,p,g,fun B hB=>by have:=f B hB;omega⟩
theorem zJ8 (D:Dyn)(n:Nat){H:AH}(hk:H.ok){v:AV}{l:List Ptr}(h:jT 3 57 H v l.length (l.flatMap y7))(hl:l.length<=1000000000){i:Nat}(hi:i<l.length)(A:Nat)(hA:A<H.next):
  ∃r v' H',aveq r r=true/\jF 3 v (some (.int .i64 (i:Nat))) none none H=some r/\f74 D n [r] H=some (v',H')/\Prs H H'/\FrG A 3 57 H' v' (l.drop i).length ((l.drop i).flatMap y7):=by
 obtain⟨r,e1,w,z1,z2⟩:=aU h (by decide) hi .i64;rw[ZK]at w;have hlen:(l.drop i).length=l.length - i:=by rw[zM]
 have w':uI H r (l.drop i):=by rw[uI,hlen];exact w
 obtain⟨v',H',e2,p,g,f⟩:=XH D n hk w' z1 z2 (by omega);exact⟨r,v',H',yC w,e1,e2,p,g,fun B hB=>by have:=f B hB;omega⟩
theorem U3 (D:Dyn)(n:Nat)(hn:200000000<=n){H:AH}(hk:H.ok){b:Bool}{ks vs ps:AV}{nd:Nd.Node}(hb:nd.leaf=b)(h:bY H (.agg [.bool b,ks,vs,ps]) nd)(hs:small nd):
  ∃H1 H2 H3 H4 A1 A2 A4,(∀K,bA (some (AObj.cells [.bool b,ks,vs,ps] 61 1 false,fun A=>AV.ptr A 0)) H K=K (.ptr A1 0) H1)/\(∀K,bA (some (AObj.cells [.bool false, .nilSlice, .nilSlice, .nilSlice] 61 1 false,fun A=>AV.ptr A 0)) H1 K=K (.ptr A2 0) H2)/\
   (∀K,bA (some (AObj.cells [.bool false, .nilSlice, .nilSlice, .nilSlice] 61 1 false,fun A=>AV.ptr A 0)) H2 K=K (.ptr A4 0) H3)/\f47 D n [.agg [.bool b,ks,vs,ps]] H3=some (.bool (Nd.shaped ltS nd),H4)/\
   CutI H A1 A2 A4 H3 [.bool b,ks,vs,ps] [.bool false, .nilSlice, .nilSlice, .nilSlice] [.bool false, .nilSlice, .nilSlice, .nilSlice]/\CutI H A1 A2 A4 H4 [.bool b,ks,vs,ps] [.bool false, .nilSlice, .nilSlice, .nilSlice] [.bool false, .nilSlice, .nilSlice, .nilSlice]:=by
 have p1:Prs H (H.push (.cells [.bool b,ks,vs,ps] 61 1 false)):=(Stp.refl hk).push _;have g1:(H.push (.cells [.bool b,ks,vs,ps] 61 1 false)).h.get H.next=some (.cells [.bool b,ks,vs,ps] 61 1 false):=AH.push_get_eq _ _
 have n1:(H.push (.cells [.bool b,ks,vs,ps] 61 1 false)).next=H.next+1:=rfl
 generalize hH1:H.push (.cells [.bool b,ks,vs,ps] 61 1 false)=H1 at p1 g1 n1;have p2:Prs H1 (H1.push (.cells [.bool false, .nilSlice, .nilSlice, .nilSlice] 61 1 false)):=(Stp.refl p1.ok).push _;have g2:(H1.push (.cells [.bool false, .nilSlice, .nilSlice, .nilSlice] 61 1 false)).h.get H1.next=some (.cells [.bool false, .nilSlice, .nilSlice, .nilSlice] 61 1 false):=AH.push_get_eq _ _
 have n2:(H1.push (.cells [.bool false, .nilSlice, .nilSlice, .nilSlice] 61 1 false)).next=H1.next+1:=rfl
 have g12:=p2.get p1.ok g1;generalize hH2:H1.push (.cells [.bool false, .nilSlice, .nilSlice, .nilSlice] 61 1 false)=H2 at p2 g2 n2 g12;have p3:Prs H2 (H2.push (.cells [.bool false, .nilSlice, .nilSlice, .nilSlice] 61 1 false)):=(Stp.refl p2.ok).push _;have g3:(H2.push (.cells [.bool false, .nilSlice, .nilSlice, .nilSlice] 61 1 false)).h.get H2.next=some (.cells [.bool false, .nilSlice, .nilSlice, .nilSlice] 61 1 false):=AH.push_get_eq _ _
 have g13:=p3.get p2.ok g12;have g23:=p3.get p2.ok g2;generalize hH3:H2.push (.cells [.bool false, .nilSlice, .nilSlice, .nilSlice] 61 1 false)=H3 at p3 g3 g13 g23;have P3:Prs H H3:=(p1.trans p2).trans p3;obtain⟨H4,e4,p4⟩:=vW D n p3.ok (h.prs P3) hs hn;have c3:CutI H H.next H1.next H2.next H3 [.bool b,ks,vs,ps] [.bool false, .nilSlice, .nilSlice, .nilSlice] [.bool false, .nilSlice, .nilSlice, .nilSlice]:=⟨P3,g13,g23,g3,by omega,by omega,by omega⟩
 refine⟨H1,H2,H3,H4,H.next,H1.next,H2.next,fun K=> ?_,fun K=> ?_,fun K=> ?_,e4,c3,c3.step p4⟩
 ·simp only[eZ,xY hk,hH1]
 ·simp only[eZ,xY p1.ok,hH2]
 ·simp only[eZ,xY p2.ok,hH3]
theorem zI0 (D:Dyn)(n:Nat)(hn:200000000<=n){H:AH}(hk:H.ok){v:AV}{nd:Nd.Node}(h:qY H v nd)(hs:small nd)(hsh:Nd.shaped ltS nd=true)(hc:xE nd)(hl:nd.leaf=true):
  ∃k va vb H',f92 D n [v] H=some (.tuple [va,S (nd.keys.getD k []),vb, .int .i64 ((0:Nat):Int)],H')/\Prs H H'/\kL H.next H' va (cutA nd k)/\kL H.next H' vb (bZ nd k)/\cutOk nd k/\hbnd nd k:=by
 have h0:=h.node;obtain⟨ks,vs,ps,rfl,h1,h2,h3⟩:=h;rw[hl]at h0;have hkl:=Nd.sumL_ge nd.keys;have hvl:nd.vals.length=nd.keys.length:=by
  simp only[Nd.shaped,hl,if_true,z8,zE]at hsh;exact hsh.2.1.1
 obtain⟨s1,s2,s3⟩:=id hs;obtain⟨c1,c2⟩:=id hc;obtain⟨H1,H2,H3,H4,A1,A2,A4,b1,b2,b3,e4,i3,i4⟩:=U3 D n hn hk hl h0 hs;obtain⟨k,H5,e5,p5,⟨k1,k2⟩,kb⟩:=zCp D n hn i4.prs.ok (h0.prs i4.prs) hs hsh hc;simp only[hl,if_true]at k2;have i5:=i4.step p5;obtain⟨H6,e6,i6,t6⟩:=i5.st2 (o:=0) (x:= .bool true) rfl (by simp);obtain⟨H7,e7,i7,t7⟩:=i6.st4 (o:=0) (x:= .bool true) rfl (by simp);have m {H':AH} (p:Prs H H'):=h1.mono p (fun _ _ x=>x);have m2 {H':AH} (p:Prs H H'):=h2.mono p (fun _ _ x=>x);obtain⟨r8,k8,H8,c8,e8,p8,f8⟩:=zCn D n i7.prs.ok (m i7.prs) (by omega) k1 (by omega) A4 i7.lt;have i8:=i7.step p8;obtain⟨H9,e9,i9,t9⟩:=i8.st2 (o:=1) (x:=k8) f8.isCell (by simp);have f9:=f8.stp t9 (by have:=i8.o4;omega);obtain⟨r10,k10,H10,_,c10,e10,p10,f10⟩:=zCb D n i9.prs.ok (m i9.prs) (by omega) (show k< _ by omega) A4 i9.lt;have i10:=i9.step p10;obtain⟨H11,e11,i11,t11⟩:=i10.st4 (o:=1) (x:=k10) f10.isCell (by simp);have f11:=f10.stp t11 (by omega);obtain⟨r12,k12,H12,c12,e12,p12,f12⟩:=zCn D n i11.prs.ok (m2 i11.prs) (by omega) k1 (by omega) A4 i11.lt;have i12:=i11.step p12;obtain⟨r13,k13,H13,q13,c13,e13,p13,f13⟩:=zCb D n i12.prs.ok (m2 i12.prs) (by omega) (show k< _ by omega) A4 i12.lt;have c13':jF 1 vs (some (.int .i64 (k:Nat))) none none H11=some r13:=by rw[xO (m2 i12.prs) (m2 i11.prs) (by decide)];exact c13
 have i13:=i12.step p13;obtain⟨H14,e14,i14,t14⟩:=i13.st2 (o:=2) (x:=k12) f12.isCell (by simp);obtain⟨H15,e15,i15,t15⟩:=i14.st4 (o:=2) (x:=k13) f13.isCell (by simp);have o4:=i15.o4;have h24:=i15.o1;have h12:=i15.o2;have F8:FrG A4 1 9 H15 k8 _ _:=(((((f9.prs p10).stp t11 (by omega)).prs p12).prs p13).stp t14 (by omega)).stp t15 (by omega);have F10:FrG A4 1 9 H15 k10 _ _:=(((f11.prs p12).prs p13).stp t14 (by omega)).stp t15 (by omega);have F12:FrG A4 1 9 H15 k12 _ _:=((f12.prs p13).stp t14 (by omega)).stp t15 (by omega);have F13:FrG A4 1 9 H15 k13 _ _:=(f13.stp t14 (by omega)).stp t15 (by omega);have na:FrN A4 H15 k8 k12 .nilSlice (cutA nd k):=by
  simp only[cutA,hl,if_true];exact⟨F8,F12,FrG.nil ..⟩
 have nb:FrN A4 H15 k10 k13 .nilSlice (bZ nd k):=by
  simp only[bZ,hl,if_true];exact⟨F10,F13,FrG.nil ..⟩
 obtain⟨H16,e16,P,fa,fb⟩:=zDm D n i15 ((m i15.prs).row) (fun B hB=>h1.lt hB) (show k<nd.keys.length by omega) na nb;refine⟨k, .agg [.bool true,k8,k12, .nilSlice], .agg [.bool true,k10,k13, .nilSlice],H16, ?_,P, ?_, ?_,⟨k1,by rw[hl];simp only[if_true];omega⟩,kb⟩
 ·have t2: ¬((nd.keys.length:Nat):Int)< ((2:Nat):Int):=by omega
  simp(maxSteps:=999999)(disch:=omega) only[f92,eZ,hl,b1,b2,b3,qN i3.a1,qN i4.a1,fU,Option.map_some,e4,hsh,qJ i4.a1,h1.row.lnSl,t2,e5,qJ i5.a1,e6,j8 (qJ i6.a1 0) (XU _),e7,qJ i7.a1,c8,e8,e9,qJ i9.a1,c10,e10,e11,qJ i11.a1,c12,c13',e12,j8 (qJ i12.a1 2) (yC h2.row),j8 c13 q13,e13,e14,e15,e16]
 ·exact⟨⟨k8,k12, .nilSlice,by simp only[cutA,hl,if_true],fa.k.g,fa.v.g,fa.p.g⟩,fa.fresh (by omega)⟩
 ·exact⟨⟨k10,k13, .nilSlice,by simp only[bZ,hl,if_true],fb.k.g,fb.v.g,fb.p.g⟩,fb.fresh (by omega)⟩
theorem zFm (D:Dyn)(n:Nat)(hn:200000000<=n){H:AH}(hk:H.ok){v:AV}{nd:Nd.Node}(h:qY H v nd)(hs:small nd)(hsh:Nd.shaped ltS nd=true)(hc:xE nd)(hl:nd.leaf=false):
  ∃k va vb H',f92 D n [v] H=some (.tuple [va,S (nd.keys.getD k []),vb, .int .i64 ((0:Nat):Int)],H')/\Prs H H'/\kL H.next H' va (cutA nd k)/\kL H.next H' vb (bZ nd k)/\cutOk nd k/\hbnd nd k:=by
 have h0:=h.node;obtain⟨ks,vs,ps,rfl,h1,h2,h3⟩:=h;rw[hl]at h0;have hkl:=Nd.sumL_ge nd.keys;have hpl:nd.kids.length=nd.keys.length+1:=by
  simp only[Nd.shaped,hl,Bool.false_eq_true,if_false,z8,zE]at hsh;exact hsh.2.1.2
 obtain⟨s1,s2,s3⟩:=id hs;obtain⟨c1,c2⟩:=id hc;obtain⟨H1,H2,H3,H4,A1,A2,A4,b1,b2,b3,e4,i3,i4⟩:=U3 D n hn hk hl h0 hs;obtain⟨k,H5,e5,p5,⟨k1,k2⟩,kb⟩:=zCp D n hn i4.prs.ok (h0.prs i4.prs) hs hsh hc;simp only[hl,Bool.false_eq_true,if_false]at k2;have i5:=i4.step p5;obtain⟨H6,e6,i6,t6⟩:=i5.st2 (o:=0) (x:= .bool false) rfl (by simp);obtain⟨H7,e7,i7,t7⟩:=i6.st4 (o:=0) (x:= .bool false) rfl (by simp);have m {H':AH} (p:Prs H H'):=h1.mono p (fun _ _ x=>x);have m2 {H':AH} (p:Prs H H'):=h3.mono p (fun _ _ x=>x);obtain⟨r8,k8,H8,c8,e8,p8,f8⟩:=zCn D n i7.prs.ok (m i7.prs) (by omega) k1 (by omega) A4 i7.lt;have i8:=i7.step p8;obtain⟨H9,e9,i9,t9⟩:=i8.st2 (o:=1) (x:=k8) f8.isCell (by simp);have f9:=f8.stp t9 (by have:=i8.o4;omega);obtain⟨r10,k10,H10,_,c10,e10,p10,f10⟩:=zCb D n i9.prs.ok (m i9.prs) (by omega) (show k+1< _ by omega) A4 i9.lt;have i10:=i9.step p10;obtain⟨H11,e11,i11,t11⟩:=i10.st4 (o:=1) (x:=k10) f10.isCell (by simp);have f11:=f10.stp t11 (by omega);obtain⟨r12,k12,H12,c12,e12,p12,f12⟩:=zJp D n i11.prs.ok (m2 i11.prs) (by omega) (show 0<k+1 by omega) (by omega) A4 i11.lt;have i12:=i11.step p12;obtain⟨r13,k13,H13,q13,c13,e13,p13,f13⟩:=zJ8 D n i12.prs.ok (m2 i12.prs) (by omega) (show k+1< _ by omega) A4 i12.lt;have c13':jF 3 ps (some (.int .i64 ((k+1:Nat):Int))) none none H11=some r13:=by rw[xO (m2 i12.prs) (m2 i11.prs) (by decide)];exact c13
 have i13:=i12.step p13;obtain⟨H14,e14,i14,t14⟩:=i13.st2 (o:=3) (x:=k12) f12.isCell (by simp);obtain⟨H15,e15,i15,t15⟩:=i14.st4 (o:=3) (x:=k13) f13.isCell (by simp);simp only[Int.natCast_add]at c10 c12 c13 c13';have o4:=i15.o4;have h24:=i15.o1;have h12:=i15.o2;have F8:FrG A4 1 9 H15 k8 _ _:=(((((f9.prs p10).stp t11 (by omega)).prs p12).prs p13).stp t14 (by omega)).stp t15 (by omega);have F10:FrG A4 1 9 H15 k10 _ _:=(((f11.prs p12).prs p13).stp t14 (by omega)).stp t15 (by omega);have F12:FrG A4 3 57 H15 k12 _ _:=((f12.prs p13).stp t14 (by omega)).stp t15 (by omega);have F13:FrG A4 3 57 H15 k13 _ _:=(f13.stp t14 (by omega)).stp t15 (by omega);have na:FrN A4 H15 k8 .nilSlice k12 (cutA nd k):=by
  simp only[cutA,hl,Bool.false_eq_true,if_false];exact⟨F8,FrG.nil ..,F12⟩
 have nb:FrN A4 H15 k10 .nilSlice k13 (bZ nd k):=by
  simp only[bZ,hl,Bool.false_eq_true,if_false];exact⟨F10,FrG.nil ..,F13⟩
 obtain⟨H16,e16,P,fa,fb⟩:=zDm D n i15 ((m i15.prs).row) (fun B hB=>h1.lt hB) (show k<nd.keys.length by omega) na nb;refine⟨k, .agg [.bool false,k8, .nilSlice,k12], .agg [.bool false,k10, .nilSlice,k13],H16, ?_,P, ?_, ?_,⟨k1,by rw[hl];simp only[Bool.false_eq_true,if_false];omega⟩,kb⟩
 ·have t2: ¬((nd.keys.length:Nat):Int)< ((2:Nat):Int):=by omega
  have t3: ¬((nd.keys.length:Nat):Int)< ((3:Nat):Int):=by omega
  simp(maxSteps:=999999)(disch:=omega) only[f92,eZ,hl,b1,b2,b3,qN i3.a1,qN i4.a1,fU,Option.map_some,e4,hsh,qJ i4.a1,h1.row.lnSl,t2,t3,e5,qJ i5.a1,e6,j8 (qJ i6.a1 0) (XU _),e7,qJ i7.a1,c8,e8,e9,qJ i9.a1,c10,e10,e11,qJ i11.a1,c12,c13',e12,j8 (qJ i12.a1 3) (yC h3.row),j8 c13 q13,e13,e14,e15,e16]
 ·exact⟨⟨k8, .nilSlice,k12,by simp only[cutA,hl,Bool.false_eq_true,if_false],fa.k.g,fa.v.g,fa.p.g⟩,fa.fresh (by omega)⟩
 ·exact⟨⟨k10, .nilSlice,k13,by simp only[bZ,hl,Bool.false_eq_true,if_false],fb.k.g,fb.v.g,fb.p.g⟩,fb.fresh (by omega)⟩
end Go.Eng.Sh
end
section
namespace Go.Eng
namespace T
variable {α:Type}
theorem zEj: ∀(f g:Nat) (t:T α) (n:Nat) (a:α) (t' t'':T α),Q4 f t n a=some t'->Q4 g t n a=some t''->t'=t'':=by
 intro f
 induction f with
 | zero=>intro g t n a t' t'' h;simp[aW]at h
 | succ f ih=>
  intro g t n a t' t'' h h'
  cases g with
  | zero=>simp[aW]at h'
  | succ g=>
   cases t with
   | leaf=>
    rw[xQ]at h h';split at h
    ·rename_i h0;rw[if_pos h0]at h';rw[h]at h';simpa using h'
    ·rename_i h0;rw[if_neg h0]at h';split at h
     ·rename_i hm;rw[if_pos hm]at h';split at h
      ·rename_i l hl;split at h'
       ·rename_i l' hl';have:=ih g _ _ _ _ _ hl hl';subst this;rw[h]at h';simpa using h'
       ·simp at h'
      ·simp at h
     ·rename_i hm;rw[if_neg hm]at h';split at h
      ·rename_i l hl;split at h'
       ·rename_i l' hl';have:=ih g _ _ _ _ _ hl hl';subst this;rw[h]at h';simpa using h'
       ·simp at h'
      ·simp at h
   | node l v r=>
    rw[xP]at h h';split at h
    ·rename_i h0;rw[if_pos h0]at h';rw[h]at h';simpa using h'
    ·rename_i h0;rw[if_neg h0]at h';split at h
     ·rename_i hm;rw[if_pos hm]at h';split at h
      ·rename_i l hl;split at h'
       ·rename_i l' hl';have:=ih g _ _ _ _ _ hl hl';subst this;rw[h]at h';simpa using h'
       ·simp at h'
      ·simp at h
     ·rename_i hm;rw[if_neg hm]at h';split at h
      ·rename_i l hl;split at h'
       ·rename_i l' hl';have:=ih g _ _ _ _ _ hl hl';subst this;rw[h]at h';simpa using h'
       ·simp at h'
      ·simp at h
noncomputable def st (t:T α)(n:Nat)(a:α):T α:=(T.set 40 t n a).getD .leaf
theorem zAq {f:Nat}{t:T α}{n:Nat}{a:α}{t':T α}(h:Q4 f t n a=some t'):st t n a=t':=by
 obtain⟨t2,h2⟩:=Option.isSome_iff_exists.1 (T.set_some 40 t n a);have:=zEj _ _ _ _ _ _ _ h2 h;simp only[st,h2,Option.getD_some,this]
theorem UN (t:T α)(n:Nat)(a:α): ∃f,Q4 f t n a=some (st t n a):=by
 obtain⟨t2,h2⟩:=Option.isSome_iff_exists.1 (T.set_some 40 t n a);exact⟨_,by simp only[st,h2,Option.getD_some];exact h2⟩
theorem zBw (n:Nat)(a:α):st (.leaf:T α) n a=if n=0 then .node .leaf (some a) .leaf else if n % 2=1 then .node (st .leaf (n / 2) a) none .leaf else .node .leaf none (st .leaf (n / 2 - 1) a):=by
 by_cases h0:n=0
 ·rw[if_pos h0];exact zAq (f:=1) (by rw[xQ,if_pos h0])
 ·rw[if_neg h0];by_cases hm:n % 2=1
  ·rw[if_pos hm];obtain⟨f,hf⟩:=UN (.leaf:T α) (n / 2) a;exact zAq (f:=f+1) (by rw[xQ,if_neg h0,if_pos hm,hf])
  ·rw[if_neg hm];obtain⟨f,hf⟩:=UN (.leaf:T α) (n / 2 - 1) a;exact zAq (f:=f+1) (by rw[xQ,if_neg h0,if_neg hm,hf])
theorem vV (l:T α)(v:Option α)(r:T α)(n:Nat)(a:α):st (.node l v r) n a=if n=0 then .node l (some a) r else if n % 2=1 then .node (st l (n / 2) a) v r else .node l v (st r (n / 2 - 1) a):=by
 by_cases h0:n=0
 ·rw[if_pos h0];exact zAq (f:=1) (by rw[xP,if_pos h0])
 ·rw[if_neg h0];by_cases hm:n % 2=1
  ·rw[if_pos hm];obtain⟨f,hf⟩:=UN l (n / 2) a;exact zAq (f:=f+1) (by rw[xP,if_neg h0,if_pos hm,hf])
  ·rw[if_neg hm];obtain⟨f,hf⟩:=UN r (n / 2 - 1) a;exact zAq (f:=f+1) (by rw[xP,if_neg h0,if_neg hm,hf])
theorem st_st (n:Nat): ∀(t:T α) (a b:α),st (st t n a) n b=st t n b:=by
 induction n using Nat.strongRecOn with
 | ind n ih=>
  intro t a b
  cases t with
  | leaf=>
   rw[zBw n a,zBw n b];by_cases h0:n=0
   ·rw[if_pos h0,if_pos h0,vV,if_pos h0]
   ·rw[if_neg h0,if_neg h0];by_cases hm:n % 2=1
    ·rw[if_pos hm,if_pos hm,vV,if_neg h0,if_pos hm,ih (n / 2) (by omega)]
    ·rw[if_neg hm,if_neg hm,vV,if_neg h0,if_neg hm,ih (n / 2 - 1) (by omega)]
  | node l v r=>
   rw[vV l v r n a,vV l v r n b];by_cases h0:n=0
   ·rw[if_pos h0,if_pos h0,vV,if_pos h0]
   ·rw[if_neg h0,if_neg h0];by_cases hm:n % 2=1
    ·rw[if_pos hm,if_pos hm,vV,if_neg h0,if_pos hm,ih (n / 2) (by omega)]
    ·rw[if_neg hm,if_neg hm,vV,if_neg h0,if_neg hm,ih (n / 2 - 1) (by omega)]
end T
theorem AH.push_st (H:AH)(o:AObj):H.push o=⟨T.st H.h H.next o,H.next+1⟩:=rfl
theorem AH.put_st (H:AH)(A:Nat)(o:AObj):H.put A o=⟨T.st H.h A o,H.next⟩:=rfl
theorem AH.put_push (H:AH)(o o':AObj):(H.push o).put H.next o'=H.push o':=by
 simp only[AH.push_st,AH.put_st,T.st_st]
theorem zEg {H:AH}{n:Nat}{z l:List AV}{e sz:Nat}{g:Bool}(hz:0<sz)(hl:l.length=n)(hn:z.length=n)(hc:qK l=true):
  stN n (.ptr H.next 0) (.agg l) (H.push (.cells z e sz g))=some (qI,H.push (.cells l e sz g)):=by
 rw[KO (x:= .agg l) (AH.push_get_eq _ _) hz hl hc (by omega),AH.put_push];simp[qQ,zP,hn]
theorem Prs.refl {H:AH}(h:H.ok):Prs H H:=Stp.refl h
def Rws (k:Nat)(H:AH):List AV->List (Nat×List AV)->Prop
 | [],[]=>True
 | v::vs,r::rs=>(Rw k H v r.1 r.2/\qK r.2=true)/\Rws k H vs rs
 | _,_=>False
theorem Rws.len {k:Nat}{H:AH} : ∀ {vs:List AV} {rs:List (Nat×List AV)},Rws k H vs rs->vs.length=rs.length
 | [],[],_=>rfl
 | _::vs,_::rs,h=>by simp only[zH,Rws.len h.2]
 | [],_::_,h=>h.elim
 | _::_,[],h=>h.elim
theorem Rws.at {k:Nat}{H:AH} : ∀ {vs:List AV} {rs:List (Nat×List AV)} {i:Nat} {x:AV},Rws k H vs rs->vs[i]? =some x-> ∃r,rs[i]? =some r/\Rw k H x r.1 r.2/\qK r.2=true
 | [],[],_,_,_,h=>by simp at h
 | _::vs,r::rs,0,x,h,hx=>by simp only[List.getElem?_cons_zero,z7]at hx;subst hx;exact⟨r,rfl,h.1⟩
 | _::vs,_::rs,i+1,x,h,hx=>by simp only[List.getElem?_cons_succ]at hx⊢;exact Rws.at h.2 hx
 | [],_::_,_,_,h,_=>h.elim
 | _::_,[],_,_,h,_=>h.elim
theorem Rws.prs {k:Nat}{H H':AH}(s:Prs H H'): ∀ {vs:List AV} {rs:List (Nat×List AV)},Rws k H vs rs->Rws k H' vs rs
 | [],[],_=>trivial
 | _::vs,_::rs,h=>⟨⟨h.1.1.prs s,h.1.2⟩,Rws.prs s h.2⟩
 | [],_::_,h=>h.elim
 | _::_,[],h=>h.elim
def xM (rs:List (Nat×List AV)):Nat:=(rs.map Prod.fst).sum
def zAM (rs:List (Nat×List AV)):List AV:=rs.flatMap Prod.snd
theorem gK {rs:List (Nat×List AV)}{i:Nat}{r:Nat×List AV}(h:rs[i]? =some r):xM (rs.take (i+1))=xM (rs.take i)+r.1:=by
 obtain⟨hi,rfl⟩:=List.getElem?_eq_some_iff.1 h;rw[zO hi];simp only[xM,List.map_append,List.sum_append,List.map_cons,List.map_nil,List.sum_cons,List.sum_nil,Nat.add_zero]
theorem XS {rs:List (Nat×List AV)}{i:Nat}{r:Nat×List AV}(h:rs[i]? =some r):zAM (rs.take (i+1))=zAM (rs.take i)++r.2:=by
 obtain⟨hi,rfl⟩:=List.getElem?_eq_some_iff.1 h;rw[zO hi];simp only[zAM,qC,zW,List.flatMap_nil,List.append_nil]
theorem fR (rs:List (Nat×List AV))(i:Nat):xM (rs.take i)<=xM rs:=by
 have:rs=rs.take i++rs.drop i:=(List.take_append_drop i rs).symm
 conv=>rhs;rw[this]
 simp only[xM,List.map_append,List.sum_append];omega
def Part (k e:Nat)(H:AH)(v:AV)(n:Nat)(l:List AV)(tot:Nat):Prop:=
 (tot=0/\v= .nilSlice/\n=0/\l=[])\/ ∃A rest,v= .slice A 0 n 1/\A<H.next/\H.h.get A=some (.cells (l++rest) e k true)/\l.length=n*k/\rest.length=(tot - n)*k/\n<=tot
theorem Part.own {k e:Nat}{H:AH}{v:AV}{n:Nat}{l:List AV}(h:Part k e H v n l n):Own k e H v n l:=by
 rcases h with⟨rfl,rfl,_,rfl⟩ | ⟨A,rest,rfl,hA,hg,hl,hr,_⟩
 ·exact Own.nil _ _ _
 ·have:rest=[]:=zF (by rw[hr,Nat.sub_self,Nat.zero_mul]);subst this;rw[List.append_nil]at hg;exact⟨hl, .inr ⟨A,rfl,hA,hg⟩⟩
theorem Part.app {k e bytes:Nat}{H:AH}{v s:AV}{n m tot:Nat}{l new:List AV}(hk:H.ok)(hpos:0<k)(h:Part k e H v n l tot)(hs:srcOf k s H=some (m,new))(hm:new.length=m*k)(hc:qK new=true)(hle:n+m<=tot):
  ∃v' H',apP e k bytes v s H=some (v',H')/\Part k e H' v' (n+m) (l++new) tot/\Stp (Blk v) H H'/\H'.next=H.next/\ ∀B,Blk v' B->Blk v B:=by
 rcases h with⟨rfl,rfl,rfl,rfl⟩ | ⟨A,rest,rfl,hA,hg,hl,hr,hn⟩
 ·obtain rfl:m=0:=by omega
  have:new=[]:=zF (by simpa using hm);subst this;exact⟨.nilSlice,H,by simp[apP,hs,hc,app1], .inl ⟨rfl,rfl,rfl,rfl⟩,Stp.refl hk,rfl,fun _ x=>x⟩
 ·have hlen:(l++rest).length=tot*k:=by rw[zJ,hl,hr,<-Nat.add_mul];congr 1;omega
  have hroom:yB (l++rest) true k 0 1 k=tot:=by
   simp only[yB,show((1 % 2).beq 0)=false from rfl,cond_false,Nat.beq_refl,show Nat.beq 0 (1 / 2*k)=true from by simp,Bool.and_self,cond_true,qX,hlen,Nat.sub_zero];exact Nat.mul_div_cancel _ hpos
  have b1:Nat.ble (n+m) tot=true:=by rw[zQ];exact hle
  have hz:Nat.blt 0 k=true:=by rw[zK];exact hpos
  have hmr:m*k<=rest.length:=by rw[hr];exact q5 _ (by omega)
  have hset:setAt (l++rest) (0+n*k) new=some (l++new++rest.drop (m*k)):=by
   rw[xR (by rw[hlen,hm,Nat.zero_add,<-Nat.add_mul];exact q5 _ hle),Nat.zero_add,hm];congr 1;rw[List.take_append_of_le_length (by omega),zL (by omega),List.drop_append,<-hl,List.drop_of_length_le (by omega),List.nil_append];congr 2;omega
  refine⟨.slice A 0 (n+m) 1,H.put A (.cells (l++new++rest.drop (m*k)) e k true), ?_, .inr ⟨A,rest.drop (m*k),rfl,hA,by rw[AH.put_get,if_pos rfl],by rw[zJ,hl,hm,Nat.add_mul],by rw[zM,hr,<-Nat.sub_mul];congr 1;omega,hle⟩,(Stp.refl hk).put hA _ (.inr (Blk.slice.2 rfl)),rfl,fun B hB=>Blk.slice.2 (Blk.slice.1 hB)⟩;simp only[apP,hs,hc,cond_true,app1,hg,zGy,hroom,b1,hz,hset,zAN,jQ,qZ]
theorem zBI (z:AV): ∀m:Nat,(rep m [z]).length=m
 | 0=>rfl
 | m+1=>by simp[rep,zBI z m]
theorem UT (a b c:AV): ∀m:Nat,(rep m [a,b,c]).length=m*3
 | 0=>rfl
 | m+1=>by simp only[rep,zJ,UT a b c m,zH,zY];omega
theorem zG2 {k e bytes m:Nat}{H:AH}{z:List AV}(hk:H.ok)(hpos:0<k)(hz:(rep m z).length=m*k)(hm0:0<m)(hm:m<=1000000000)(hb:bytes<=1000):
  apZ e k bytes z .nilSlice (.int .i64 ((m:Nat):Int)) H=some (.slice H.next 0 m 1,H.push (.cells (rep m z) e k true))/\
  jF k (.slice H.next 0 m 1) none (some (.int .i64 ((0:Nat):Int))) none (H.push (.cells (rep m z) e k true))=some (.slice H.next 0 0 1)/\
  Part k e (H.push (.cells (rep m z) e k true)) (.slice H.next 0 0 1) 0 [] m:=by
 have b1:Nat.ble (m*bytes) 281474976710656=true:=by
  rw[zQ];exact Nat.le_trans (Nat.mul_le_mul hm hb) (by decide)
 have b2:Nat.blt m 4611686018427387904=true:=by rw[zK];omega
 have b3:Nat.beq m 0=false:=by rw[Bool.eq_false_iff];intro h;have:=Nat.eq_of_beq_eq_true h;omega
 have hroom:yB (rep m z) true k 0 1 k=m:=by
  simp only[yB,show((1 % 2).beq 0)=false from rfl,cond_false,Nat.beq_refl,show Nat.beq 0 (1 / 2*k)=true from by simp,Bool.and_self,cond_true,qX,hz,Nat.sub_zero];exact Nat.mul_div_cancel _ hpos
 have hb':Nat.blt 0 k=true:=by rw[zK];exact hpos
 refine⟨?_, ?_, .inr ⟨H.next,rep m z,rfl,Nat.lt_succ_self _,AH.push_get_eq _ _,by simp,by simpa using hz,by omega⟩⟩
 ·show apZ e k bytes z .nilSlice (.int .i64 (Int.ofNat m)) H=_;simp only[apZ,b1,b2,Bool.and_self,cond_true,app1,show m.beq 0=false from b3,cond_false,kZ,cR hm hb,fM,List.nil_append,Z8 hk,qZ]
 ·have n0:=yD .i64 (z:=((0:Nat):Int)) (by omega);simp only[jF,yM,n0,AH.push_get_eq,hb',cond_true];simp[Q1,hroom,qZ,show Nat.ble 0 m=true from by rw[zQ];omega,show Nat.ble 0 0=true from rfl,show Nat.beq 1 0=false from rfl]
end Go.Eng
namespace Go.Eng.Sh
open Go.Nd (Ptr y9 cutOk cutA bZ)
theorem zEZ (D:Dyn)(n m:Nat)(hm:m<=1000000000){H:AH}(hk:H.ok):
  ∃v H',f93 D n [.nilSlice, .int .i64 (m:Nat)] H=some (v,H')/\Prs H H'/\Part 1 9 H' v 0 [] m/\ ∀B,Blk v B->H.next<=B:=by
 have hcap:zAU X 44 .nilSlice=some (.int .i64 ((0:Nat):Int)):=rfl;have hln:lnSl .nilSlice=some (.int .i64 ((0:Nat):Int)):=rfl;have hs:jF 1 .nilSlice none (some (.int .i64 ((0:Nat):Int))) none H=some .nilSlice:=rfl;have h0: ¬((m:Nat):Int)< ((0:Nat):Int):=by omega
 by_cases hp:m=0
 ·subst hp;refine⟨.nilSlice,H, ?_,Stp.refl hk, .inl ⟨rfl,rfl,rfl,rfl⟩,fun B hB=>(Blk.nil.1 hB).elim⟩;simp(disch:=omega) only[f93,zHH,zHI,eZ,h0,hcap,hln,Int.sub_zero,q8,Int.sub_self]
 ·obtain⟨e1,e2,p⟩:=zG2 (k:=1) (e:=9) (bytes:=16) (m:=m) (z:=[.str 0 0]) hk (by decide) (by rw[zBI];omega) (by omega) hm (by decide);have hsub:((m:Nat):Int) - (((0:Nat):Int) - ((0:Nat):Int))=((m:Nat):Int):=by omega
  have hpI:((0:Nat):Int)< ((m:Nat):Int):=by omega
  refine⟨_,_, ?_,(Stp.refl hk).push _,p,fun B hB=>by rw[Blk.slice.1 hB];exact Nat.le_refl _⟩;simp(disch:=omega) only[f93,zHH,zHI,eZ,h0,hcap,hln,hs,hsub,hpI,e1,e2]
theorem zF0 (D:Dyn)(n m:Nat)(hm:m<=1000000000){H:AH}(hk:H.ok):
  ∃v H',f94 D n [.nilSlice, .int .i64 (m:Nat)] H=some (v,H')/\Prs H H'/\Part 3 57 H' v 0 [] m/\ ∀B,Blk v B->H.next<=B:=by
 have hcap:zAU X 59 .nilSlice=some (.int .i64 ((0:Nat):Int)):=rfl;have hln:lnSl .nilSlice=some (.int .i64 ((0:Nat):Int)):=rfl;have hs:jF 3 .nilSlice none (some (.int .i64 ((0:Nat):Int))) none H=some .nilSlice:=rfl;have h0: ¬((m:Nat):Int)< ((0:Nat):Int):=by omega
 by_cases hp:m=0
 ·subst hp;refine⟨.nilSlice,H, ?_,Stp.refl hk, .inl ⟨rfl,rfl,rfl,rfl⟩,fun B hB=>(Blk.nil.1 hB).elim⟩;simp(disch:=omega) only[f94,zHF,zHG,eZ,h0,hcap,hln,Int.sub_zero,q8,Int.sub_self]
 ·obtain⟨e1,e2,p⟩:=zG2 (k:=3) (e:=57) (bytes:=24) (m:=m) (z:=[.int .i64 (.ofNat 0), .int .i64 (.ofNat 0), .int .u64 (.ofNat 0)]) hk (by decide) (by rw[UT]) (by omega) hm (by decide);have hsub:((m:Nat):Int) - (((0:Nat):Int) - ((0:Nat):Int))=((m:Nat):Int):=by omega
  have hpI:((0:Nat):Int)< ((m:Nat):Int):=by omega
  refine⟨_,_, ?_,(Stp.refl hk).push _,p,fun B hB=>by rw[Blk.slice.1 hB];exact Nat.le_refl _⟩;simp only[Int.ofNat_eq_natCast]at e1 e2;simp(disch:=omega) only[f94,zHF,zHG,eZ,h0,hcap,hln,hs,hsub,hpI,e1,e2]
theorem catS1 (D:Dyn)(n:Nat){H:AH}{v:AV}{vs:List AV}{rs:List (Nat×List AV)}(hv:Rw 1 H v vs.length vs)(h:Rws 1 H vs rs)(hb:xM rs<=1000000000)(hl:vs.length<=1000000000)(n':Nat)(hn:vs.length<n'):
  qW n' (zFa D n) [v, .int .i64 ((0:Nat):Int),v, .int .i64 (vs.length:Nat), .int .i64 ((0:Nat):Int)] H=some (.exit 0 [v, .int .i64 (xM rs:Nat)],H):=by
 have hlen:=h.len;refine uM (fun i=>[v, .int .i64 (xM (rs.take i):Nat),v, .int .i64 (vs.length:Nat), .int .i64 (i:Nat)]) vs.length ?_ ?_ n' hn
 ·intro i hi;obtain⟨p,x,p1,p2,p3⟩:=hv.ld1 hi;obtain⟨r,r1,r2,r3⟩:=h.at p3;have hiI:((i:Nat):Int)< ((vs.length:Nat):Int):=by omega
  have hs:=gK r1;have hs2:=fR rs i;have hs3:=fR rs (i+1);have hneg: ¬((xM (rs.take i):Nat):Int)+((r.1:Nat):Int)< ((0:Nat):Int):=by omega
  have hc:((xM (rs.take (i+1)):Nat):Int)=((xM (rs.take i):Nat):Int)+((r.1:Nat):Int):=by omega
  rw[hc];simp(disch:=omega) only[zFa,zJB,eZ,hiI,p1,p2,r2.lnSl,hneg,Int.natCast_add]
 ·intro m;refine yO ?_;have:rs.take vs.length=rs:=by rw[hlen];exact q6
  simp only[zFa,eZ,q8,this]
theorem catS2 (D:Dyn)(n:Nat){H:AH}(hk:H.ok){v:AV}{vs:List AV}{rs:List (Nat×List AV)}(hv:Rw 1 H v vs.length vs)(h:Rws 1 H vs rs)(hl:vs.length<=1000000000)
  {w:AV} (hw:Part 1 9 H w 0 [] (xM rs)) (hd1: ∀B,Blk w B-> ¬Blk v B) (hd2: ∀B,Blk w B-> ∀x∈vs,¬Blk x B) (n':Nat) (hn:vs.length<n'):
  ∃w' H',qW n' (zCC D n) [w,v, .int .i64 (vs.length:Nat), .int .i64 ((0:Nat):Int)] H=some (.exit 2 [w'],H')/\Stp (Blk w) H H'/\Part 1 9 H' w' (xM rs) (zAM rs) (xM rs)/\ ∀B,Blk w' B->Blk w B:=by
 have hlen:=h.len;obtain⟨m,us,H',k1,w',rfl,k3,k4,k5⟩:=uL (b:=zCC D n) vs.length (fun i us H'=> ∃w',us=[w',v, .int .i64 (vs.length:Nat), .int .i64 (i:Nat)]/\Stp (Blk w) H H'/\Part 1 9 H' w' (xM (rs.take i)) (zAM (rs.take i)) (xM rs)/\ ∀B,Blk w' B->Blk w B) (fun i us H1 hi ⟨w1,hus,hs,hp,hB⟩=>by
  subst hus;obtain⟨p,x,p1,p2,p3⟩:=(hv.stp hs (fun A hA hh=>hd1 A hh hA)).ld1 hi;obtain⟨r,r1,r2,r3⟩:=h.at p3;have hx:x∈vs:=List.mem_of_getElem? p3;have r2':=r2.stp hs (fun A hA hh=>hd2 A hh x hx hA);have hiI:((i:Nat):Int)< ((vs.length:Nat):Int):=by omega
  have hs3:=fR rs (i+1);have hst:=gK r1;obtain⟨w2,H2,e2,q2,s2,n2,b2⟩:=hp.app (bytes:=16) hs.ok (by decide) r2'.srcOf r2.1 r3 (by omega);rw[<-hst,<-XS r1]at q2;refine⟨_,H2, ?_,w2,rfl,hs.trans (s2.mono fun A _ hA=>hB A hA),q2,fun B hb=>hB B (b2 B hb)⟩;simp(disch:=omega) only[zCC,eZ,hiI,p1,p2,e2,Int.natCast_add]) n' _ H ⟨w,rfl,Stp.refl hk,hw,fun _ x=>x⟩ hn
 rw[hlen,q6]at k4;exact⟨w',H',k1.trans (yO (by simp only[zCC,eZ,q8])),k3,k4,k5⟩
theorem zDq (D:Dyn)(n:Nat){H:AH}(hk:H.ok){v:AV}{vs:List AV}{rs:List (Nat×List AV)}(hv:Rw 1 H v vs.length vs)(h:Rws 1 H vs rs)(hb:xM rs<=1000000000)(hl:vs.length<=1000000000)(hn:vs.length<n)
  (hv0: ∀B,Blk v B->B<H.next) (hx0: ∀x∈vs,∀B,Blk x B->B<H.next):
  ∃w H',f68 D n [v] H=some (w,H')/\Prs H H'/\Own 1 9 H' w (xM rs) (zAM rs)/\ ∀B,Blk w B->H.next<=B:=by
 obtain⟨w1,H1,e1,p1,q1,f1⟩:=zEZ D n (xM rs) hb hk;obtain⟨w2,H2,e2,s2,q2,f2⟩:=catS2 D n p1.ok (hv.prs p1) (h.prs p1) hl q1 (fun B hB hh=>by have:=f1 B hB;have:=hv0 B hh;omega) (fun B hB x hx hh=>by have:=f1 B hB;have:=hx0 x hx B hh;omega) n hn;have l1:=catS1 D n hv h hb hl n hn;refine⟨w2,H2, ?_,p1.fresh s2 f1,q2.own,fun B hB=>f1 B (f2 B hB)⟩;simp only[f68,eZ,hv.lnSl,l1,zJC,e1,e2,zJD]
theorem catP1 (D:Dyn)(n:Nat){H:AH}{v:AV}{vs:List AV}{rs:List (Nat×List AV)}(hv:Rw 1 H v vs.length vs)(h:Rws 3 H vs rs)(hb:xM rs<=1000000000)(hl:vs.length<=1000000000)(n':Nat)(hn:vs.length<n'):
  qW n' (zF9 D n) [v, .int .i64 ((0:Nat):Int),v, .int .i64 (vs.length:Nat), .int .i64 ((0:Nat):Int)] H=some (.exit 0 [v, .int .i64 (xM rs:Nat)],H):=by
 have hlen:=h.len;refine uM (fun i=>[v, .int .i64 (xM (rs.take i):Nat),v, .int .i64 (vs.length:Nat), .int .i64 (i:Nat)]) vs.length ?_ ?_ n' hn
 ·intro i hi;obtain⟨p,x,p1,p2,p3⟩:=hv.ld1 hi;obtain⟨r,r1,r2,r3⟩:=h.at p3;have hiI:((i:Nat):Int)< ((vs.length:Nat):Int):=by omega
  have hs:=gK r1;have hs2:=fR rs i;have hs3:=fR rs (i+1);have hneg: ¬((xM (rs.take i):Nat):Int)+((r.1:Nat):Int)< ((0:Nat):Int):=by omega
  have hc:((xM (rs.take (i+1)):Nat):Int)=((xM (rs.take i):Nat):Int)+((r.1:Nat):Int):=by omega
  rw[hc];simp(disch:=omega) only[zF9,zJy,eZ,hiI,p1,p2,r2.lnSl,hneg,Int.natCast_add]
 ·intro m;refine yO ?_;have:rs.take vs.length=rs:=by rw[hlen];exact q6
  simp only[zF9,eZ,q8,this]
theorem catP2 (D:Dyn)(n:Nat){H:AH}(hk:H.ok){v:AV}{vs:List AV}{rs:List (Nat×List AV)}(hv:Rw 1 H v vs.length vs)(h:Rws 3 H vs rs)(hl:vs.length<=1000000000)
  {w:AV} (hw:Part 3 57 H w 0 [] (xM rs)) (hd1: ∀B,Blk w B-> ¬Blk v B) (hd2: ∀B,Blk w B-> ∀x∈vs,¬Blk x B) (n':Nat) (hn:vs.length<n'):
  ∃w' H',qW n' (zCA D n) [w,v, .int .i64 (vs.length:Nat), .int .i64 ((0:Nat):Int)] H=some (.exit 2 [w'],H')/\Stp (Blk w) H H'/\Part 3 57 H' w' (xM rs) (zAM rs) (xM rs)/\ ∀B,Blk w' B->Blk w B:=by
 have hlen:=h.len;obtain⟨m,us,H',k1,w',rfl,k3,k4,k5⟩:=uL (b:=zCA D n) vs.length (fun i us H'=> ∃w',us=[w',v, .int .i64 (vs.length:Nat), .int .i64 (i:Nat)]/\Stp (Blk w) H H'/\Part 3 57 H' w' (xM (rs.take i)) (zAM (rs.take i)) (xM rs)/\ ∀B,Blk w' B->Blk w B) (fun i us H1 hi ⟨w1,hus,hs,hp,hB⟩=>by
  subst hus;obtain⟨p,x,p1,p2,p3⟩:=(hv.stp hs (fun A hA hh=>hd1 A hh hA)).ld1 hi;obtain⟨r,r1,r2,r3⟩:=h.at p3;have hx:x∈vs:=List.mem_of_getElem? p3;have r2':=r2.stp hs (fun A hA hh=>hd2 A hh x hx hA);have hiI:((i:Nat):Int)< ((vs.length:Nat):Int):=by omega
  have hs3:=fR rs (i+1);have hst:=gK r1;obtain⟨w2,H2,e2,q2,s2,n2,b2⟩:=hp.app (bytes:=24) hs.ok (by decide) r2'.srcOf r2.1 r3 (by omega);rw[<-hst,<-XS r1]at q2;refine⟨_,H2, ?_,w2,rfl,hs.trans (s2.mono fun A _ hA=>hB A hA),q2,fun B hb=>hB B (b2 B hb)⟩;simp(disch:=omega) only[zCA,eZ,hiI,p1,p2,e2,Int.natCast_add]) n' _ H ⟨w,rfl,Stp.refl hk,hw,fun _ x=>x⟩ hn
 rw[hlen,q6]at k4;exact⟨w',H',k1.trans (yO (by simp only[zCA,eZ,q8])),k3,k4,k5⟩
theorem zDr (D:Dyn)(n:Nat){H:AH}(hk:H.ok){v:AV}{vs:List AV}{rs:List (Nat×List AV)}(hv:Rw 1 H v vs.length vs)(h:Rws 3 H vs rs)(hb:xM rs<=1000000000)(hl:vs.length<=1000000000)(hn:vs.length<n)
  (hv0: ∀B,Blk v B->B<H.next) (hx0: ∀x∈vs,∀B,Blk x B->B<H.next):
  ∃w H',f69 D n [v] H=some (w,H')/\Prs H H'/\Own 3 57 H' w (xM rs) (zAM rs)/\ ∀B,Blk w B->H.next<=B:=by
 obtain⟨w1,H1,e1,p1,q1,f1⟩:=zF0 D n (xM rs) hb hk;obtain⟨w2,H2,e2,s2,q2,f2⟩:=catP2 D n p1.ok (hv.prs p1) (h.prs p1) hl q1 (fun B hB hh=>by have:=f1 B hB;have:=hv0 B hh;omega) (fun B hB x hx hh=>by have:=f1 B hB;have:=hx0 x hx B hh;omega) n hn;have l1:=catP1 D n hv h hb hl n hn;refine⟨w2,H2, ?_,p1.fresh s2 f1,q2.own,fun B hB=>f1 B (f2 B hB)⟩;simp only[f69,eZ,hv.lnSl,l1,zJz,e1,e2,zJA]
end Go.Eng.Sh
end
section
namespace Go.Eng
theorem hp:(∀(o:AObj) (mk:Nat->AV) (H:AH) (K:AV->AH->Rs),H.ok->bA (some (o,mk)) H K=K (mk H.next) (H.push o))/\
  (∀(H:AH) (A o:Nat) (x:AObj),A<H.next->ld1 (.ptr A o) (H.push x)=ld1 (.ptr A o) H)/\
  (∀(H:AH) (A o n:Nat) (x:AObj),A<H.next->ldN n (.ptr A o) (H.push x)=ldN n (.ptr A o) H)/\
  (∀(l:List AV) (o n:Nat) (a:AV),o=0->n=l.length->(v8 l o n).map AV.agg=some (.agg l))/\
  (∀(a b c d:AV),v8 [a,b,c,d] 0 4=some [a,b,c,d])/\
  (∀(l:List AV),(some l).map AV.agg=some (.agg l))/\
  (∀(vs:List AV) (i:Nat),qH (.tuple vs) i=vs[i]?):=
 ⟨fun o mk H K h=>xY h o mk K,fun H A o x h=>zCd o x h,fun H A o n x h=>zHr o n x h,fun l o n _ h1 h2=>by subst h1;subst h2;rw[jG _ _ _ (.inr (by omega)),List.drop_zero,q6];rfl,fun _ _ _ _=>rfl,fun _=>rfl,fun vs i=>by simp only[qH,gQ]⟩
end Go.Eng
end
section
namespace Go.Nd
def partedN (lt:Str->Str->Bool)(a:Node)(sep:Str)(b:Node):Bool:=
 mayK sep&&(a.leaf==b.leaf)&&(decide (a.keys.length=0)||lt (a.keys.getD (a.keys.length - 1) []) sep)&&(decide (b.keys.length=0)||lt sep (b.keys.getD 0 [])||(a.leaf&&decide (sep=b.keys.getD 0 [])))
end Go.Nd
namespace Go.Eng.Sh
open Go.Nd (Ptr y9 cutOk cutA bZ partedN)
theorem zBR (D:Dyn)(n:Nat){H:AH}(hk:H.ok){v w:AV}{a b:Nd.Node}{sep:Str}(h:bY H v a)(h':bY H w b)(hs:small a)(hs':small b):
  ∃H',f91 D n [v,S sep,w] H=some (.bool (partedN ltS a sep b),H')/\Prs H H':=by
 obtain⟨ks,vs,ps,rfl,h1,h2,h3⟩:=h;obtain⟨ks',vs',ps',rfl,k1,k2,k3⟩:=h';have hkl:=Nd.sumL_ge a.keys;have hkl':=Nd.sumL_ge b.keys;obtain⟨s1,s2,s3⟩:=hs;obtain⟨s1',s2',s3'⟩:=hs';have P:Prs H ((H.push (.cells [.bool a.leaf,ks,vs,ps] 61 1 false)).push (.cells [.bool b.leaf,ks',vs',ps'] 61 1 false)):=((Stp.refl hk).push _).push _;have l1:=h1.lnSl;have l2:=k1.lnSl;have q1:=h1.prs P;have q2:=k1.prs P;generalize hH2:(H.push (.cells [.bool a.leaf,ks,vs,ps] 61 1 false)).push (.cells [.bool b.leaf,ks',vs',ps'] 61 1 false)=H2 at P q1 q2;have r1: ∀o,ld1 (.ptr H.next o) H2=[.bool a.leaf,ks,vs,ps][o]? :=fun o=>by rw[<-hH2,zCd _ _ (by rw[AH.push_next];omega),JF]
 have r2: ∀o,ld1 (.ptr (H.push (.cells [.bool a.leaf,ks,vs,ps] 61 1 false)).next o) H2=[.bool b.leaf,ks',vs',ps'][o]? :=fun o=>by rw[<-hH2,JF]
 refine⟨H2, ?_,P⟩;have hne: ∀x y:Bool,(!(x==y))=false->x=y:=fun x y=>by cases x<;>cases y<;>simp
 cases hm:Nd.mayK sep with
 | false=>simp(disch:=first | assumption | omega | (simp only[AH.push_next,AH.put_next];omega) | (repeat(first | assumption | apply AH.ok.push))) only[f91,eZ,hp,hH2,yI,hm,partedN]
 | true=>
  cases hl:(a.leaf==b.leaf)with
  | false=>simp(disch:=first | assumption | omega | (simp only[AH.push_next,AH.put_next];omega) | (repeat(first | assumption | apply AH.ok.push))) only[f91,eZ,hp,hH2,yI,hm,partedN,r1,r2,hl]
  | true=>
   have e:b.leaf=a.leaf:=by revert hl;cases a.leaf<;>cases b.leaf<;>simp
   rw[e]at r2 hH2;simp only[partedN,hm,hl,Bool.true_and];rw[e];clear hl e hne;generalize a.leaf=la at*
   have hll:(la==la)=true:=by simp
   have tail:
     (∃q0,b.keys.length≠0->(∀κ (z:Int),z=((0:Nat):Int)->jP 1 ks' (.int κ z)=some q0)/\Eng.ld1 q0 H2=some (S (b.keys.getD 0 []))):=by
    by_cases h0:b.keys.length=0
    ·exact⟨.nilPtr,fun h=>absurd h0 h⟩
    ·obtain⟨q,i1,i2⟩:=q2.at (i:=0) (by omega);refine⟨q,fun _=>⟨i1, ?_⟩⟩;rw[jY (by omega)];exact i2
   obtain⟨q0,hq0⟩:=tail;by_cases ha:a.keys.length=0
   ·have ga: ¬((0:Nat):Int)< ((a.keys.length:Nat):Int):=by omega
    simp only[ha,decide_true,Bool.true_or,Bool.true_and];by_cases hb:b.keys.length=0
    ·have gb:((b.keys.length:Nat):Int)=((0:Nat):Int):=by omega
     simp only[hb,decide_true,Bool.true_or];simp(disch:=first | assumption | omega | (simp only[AH.push_next,AH.put_next];omega) | (repeat(first | assumption | apply AH.ok.push))) only[f91,eZ,hp,hH2,yI,hm,r1,r2,hll,l1,l2,ga,gb]
    ·have gb: ¬((b.keys.length:Nat):Int)=((0:Nat):Int):=by omega
     obtain⟨i1,i2⟩:=hq0 hb;simp only[hb,decide_false,Bool.false_or]
     cases h1':ltS sep (b.keys.getD 0 [])<;>cases la<;>simp(disch:=first | assumption | omega | (simp only[AH.push_next,AH.put_next];omega) | (repeat(first | assumption | apply AH.ok.push))) only[f91,eZ,hp,hH2,yI,hm,r1,r2,hll,l1,l2,ga,gb,i1,i2,h1']
   ·have ga:((0:Nat):Int)< ((a.keys.length:Nat):Int):=by omega
    obtain⟨q,j1,j2⟩:=q1.at (i:=a.keys.length - 1) (by omega);rw[<-jY (d:=[])]at j2;have hsub:((a.keys.length:Nat):Int) - ((1:Nat):Int)=((a.keys.length - 1:Nat):Int):=by omega
    simp only[ha,decide_false,Bool.false_or]
    cases h0':ltS (a.keys.getD (a.keys.length - 1) []) sep with
    | false=>simp(disch:=first | assumption | omega | (simp only[AH.push_next,AH.put_next];omega) | (repeat(first | assumption | apply AH.ok.push))) only[f91,eZ,hp,hH2,yI,hm,r1,r2,hll,l1,l2,ga,hsub,j1,j2,h0']
    | true=>
     by_cases hb:b.keys.length=0
     ·have gb:((b.keys.length:Nat):Int)=((0:Nat):Int):=by omega
      simp only[hb,decide_true,Bool.true_or];simp(disch:=first | assumption | omega | (simp only[AH.push_next,AH.put_next];omega) | (repeat(first | assumption | apply AH.ok.push))) only[f91,eZ,hp,hH2,yI,hm,r1,r2,hll,l1,l2,ga,gb,hsub,j1,j2,h0']
     ·have gb: ¬((b.keys.length:Nat):Int)=((0:Nat):Int):=by omega
      obtain⟨i1,i2⟩:=hq0 hb;simp only[hb,decide_false,Bool.false_or]
      cases h1':ltS sep (b.keys.getD 0 [])<;>cases la<;>simp(disch:=first | assumption | omega | (simp only[AH.push_next,AH.put_next];omega) | (repeat(first | assumption | apply AH.ok.push))) only[f91,eZ,hp,hH2,yI,hm,r1,r2,hll,l1,l2,ga,gb,hsub,j1,j2,h0',i1,i2,h1']
end Go.Eng.Sh
end
section
namespace Go.Eng
theorem box {H:AH}(hk:H.ok)(o:AObj): ∃H' A,(∀(mk:Nat->AV) (K:AV->AH->Rs),bA (some (o,mk)) H K=K (mk A) H')/\Prs H H'/\H'.h.get A=some o/\H.next<=A/\A<H'.next:=
 ⟨H.push o,H.next,fun mk K=>xY hk o mk K,(Stp.refl hk).push o,AH.push_get_eq _ _,Nat.le_refl _,by rw[AH.push_next];omega⟩
theorem zIK {x y:AV}(e:TypeId)(z:AV)(hx:isCell x=true)(hy:isCell y=true)(hz:isCell z=true):xX e 1 2 [z] [(0,x),(1,y)]=some (.cells [x,y] e 1 false,fun A=> .slice A 0 2 4):=by
 simp only[xX,uB,rep,yQ hx,yQ hy];rfl
theorem row3 {x y w:AV}(e:TypeId)(z:AV)(hx:isCell x=true)(hy:isCell y=true)(hw:isCell w=true):xX e 1 3 [z] [(0,x),(1,y),(2,w)]=some (.cells [x,y,w] e 1 false,fun A=> .slice A 0 3 6):=by
 simp only[xX,uB,rep,yQ hx,yQ hy,yQ hw];rfl
theorem zIl {x:AV}(e:TypeId)(z:AV)(hx:isCell x=true):xX e 1 1 [z] [(0,x)]=some (.cells [x] e 1 false,fun A=> .slice A 0 1 2):=by
 simp only[xX,uB,rep,yQ hx];rfl
theorem Rw.lit {H:AH}{A e:Nat}{l:List AV}{cc:Nat}(hk:H.ok)(h:H.h.get A=some (.cells l e 1 false)):Rw 1 H (.slice A 0 l.length cc) l.length l:=
 ⟨by simp, .inr (.inr ⟨A,0,cc,l,e,1,false,rfl,h,hk.lt h,by simp,by simp⟩)⟩
end Go.Eng
namespace Go.Eng.Sh
open Go.Nd (Ptr y9 cutOk cutA bZ partedN uV)
theorem xL {A:Nat}{H:AH}{l:List AV}{e:TypeId}(h:H.h.get A=some (.cells l e 1 false))(hl:l.length=4):ldN 4 (.ptr A 0) H=some (.agg l):=by
 rw[qN h,jG _ _ _ (.inr (by omega)),List.drop_zero,zL (by omega)];rfl
def nd0:Nd.Node:=⟨false,[],[],[]⟩
theorem K8.zero (H0 H:AH):K8 H0 H (.agg [.bool false, .nilSlice, .nilSlice, .nilSlice]) nd0:=
 ⟨_,_,_,rfl,Own.nil ..,Own.nil ..,Own.nil ..,fun B hB=>by rcases hB with h | h | h<;>exact(Blk.nil.1 h).elim,fun B hB=>(Blk.nil.1 hB).elim,fun B hB=>(Blk.nil.1 hB).elim⟩
def joinOk (a:Nd.Node)(sep:Str)(b:Nd.Node):Bool:=Nd.shaped ltS a&&Nd.shaped ltS b&&partedN ltS a sep b
theorem zFp (D:Dyn)(n:Nat){H:AH}{A cc:Nat}{x y:AV}{l m:List Str}(hk:H.ok)(hg:H.h.get A=some (.cells [x,y] 44 1 false))(h1:Strs H x l)(h2:Strs H y m)(hb:l.length+m.length<=1000000000)(hn:100<=n):
  ∃w H',f68 D n [.slice A 0 2 cc] H=some (w,H')/\Prs H H'/\Own 1 9 H' w (l++m).length ((l++m).map S)/\ ∀B,Blk w B->H.next<=B:=by
 obtain⟨w,H',e,p,o,f⟩:=zDq D n hk (v:= .slice A 0 2 cc) (vs:=[x,y]) (rs:=[(l.length,l.map S),(m.length,m.map S)]) (Rw.lit hk hg) ⟨⟨h1,kD _⟩,⟨h2,kD _⟩,trivial⟩ (by simpa[xM]using hb) (by simp) (by simp;omega)
  (fun B hB=>by rw[Blk.slice.1 hB];exact hk.lt hg) (fun z hz B hB=>by
   simp only[List.mem_cons,List.not_mem_nil,or_false]at hz;rcases hz with rfl | rfl
   ·exact Rw.blk h1 hB
   ·exact Rw.blk h2 hB)
 exact⟨w,H',e,p,by simpa[xM,zAM]using o,f⟩
theorem zK2 (D:Dyn)(n:Nat){H:AH}{A cc:Nat}{x y z:AV}{l m k:List Str}(hk:H.ok)(hg:H.h.get A=some (.cells [x,y,z] 44 1 false))(h1:Strs H x l)(h2:Strs H y m)(h3:Strs H z k)(hb:l.length+m.length+k.length<=1000000000)(hn:100<=n):
  ∃w H',f68 D n [.slice A 0 3 cc] H=some (w,H')/\Prs H H'/\Own 1 9 H' w (l++(m++k)).length ((l++(m++k)).map S)/\ ∀B,Blk w B->H.next<=B:=by
 obtain⟨w,H',e,p,o,f⟩:=zDq D n hk (v:= .slice A 0 3 cc) (vs:=[x,y,z]) (rs:=[(l.length,l.map S),(m.length,m.map S),(k.length,k.map S)]) (Rw.lit hk hg) ⟨⟨h1,kD _⟩,⟨h2,kD _⟩,⟨h3,kD _⟩,trivial⟩ (by simp[xM];omega) (by simp) (by simp;omega)
  (fun B hB=>by rw[Blk.slice.1 hB];exact hk.lt hg) (fun z hz B hB=>by
   simp only[List.mem_cons,List.not_mem_nil,or_false]at hz;rcases hz with rfl | rfl | rfl
   ·exact Rw.blk h1 hB
   ·exact Rw.blk h2 hB
   ·exact Rw.blk h3 hB)
 exact⟨w,H',e,p,by simpa[xM,zAM]using o,f⟩
theorem conP2 (D:Dyn)(n:Nat){H:AH}{A cc:Nat}{x y:AV}{l m:List Ptr}(hk:H.ok)(hg:H.h.get A=some (.cells [x,y] 59 1 false))(h1:uI H x l)(h2:uI H y m)(hb:l.length+m.length<=1000000000)(hn:100<=n):
  ∃w H',f69 D n [.slice A 0 2 cc] H=some (w,H')/\Prs H H'/\Own 3 57 H' w (l++m).length ((l++m).flatMap y7)/\ ∀B,Blk w B->H.next<=B:=by
 obtain⟨w,H',e,p,o,f⟩:=zDr D n hk (v:= .slice A 0 2 cc) (vs:=[x,y]) (rs:=[(l.length,l.flatMap y7),(m.length,m.flatMap y7)]) (Rw.lit hk hg) ⟨⟨h1,wM _⟩,⟨h2,wM _⟩,trivial⟩ (by simpa[xM]using hb) (by simp) (by simp;omega)
  (fun B hB=>by rw[Blk.slice.1 hB];exact hk.lt hg) (fun z hz B hB=>by
   simp only[List.mem_cons,List.not_mem_nil,or_false]at hz;rcases hz with rfl | rfl
   ·exact Rw.blk h1 hB
   ·exact Rw.blk h2 hB)
 exact⟨w,H',e,p,by simpa[xM,zAM]using o,f⟩
theorem bQ:kJ [(0,1),(1,1),(2,1),(3,1)] [.bool false, .nilSlice, .nilSlice, .nilSlice] []=some (.agg [.bool false, .nilSlice, .nilSlice, .nilSlice]):=rfl
theorem zDv {a b:AV}(x:Bool)(ha:isCell a=true)(hb:isCell b=true):kJ [(0,1),(1,1),(2,1),(3,1)] [.bool false, .nilSlice, .nilSlice, .nilSlice] [(0, .bool x),(1,a),(2,b)]=some (.agg [.bool x,a,b, .nilSlice]):=by
 simp only[kJ,uB,zFZ,yQ ha,yQ hb];rfl
theorem zI6 {a b:AV}(ha:isCell a=true)(hb:isCell b=true):kJ [(0,1),(1,1),(2,1),(3,1)] [.bool false, .nilSlice, .nilSlice, .nilSlice] [(1,a),(3,b)]=some (.agg [.bool false,a, .nilSlice,b]):=by
 simp only[kJ,uB,zFZ,yQ ha,yQ hb];rfl
theorem zCf (D:Dyn)(n:Nat)(hn:200000000<=n){H:AH}(hk:H.ok){v w:AV}{a b:Nd.Node}{sep:Str}(h:bY H v a)(h':bY H w b)(hs:small a)(hs':small b):
  ∃u H',f66 D n [v,S sep,w] H=some (.tuple [u, .int .i64 ((if joinOk a sep b then 0 else 1:Nat):Int)],H')/\Prs H H'/\K8 H H' u (if joinOk a sep b then uV a sep b else nd0):=by
 have i0:=h;have i0':=h';obtain⟨ks,vs,ps,rfl,h1,h2,h3⟩:=h;obtain⟨la,hla⟩: ∃la,la=a.leaf:=⟨_,rfl⟩;rw[<-hla]at i0⊢;obtain⟨ks',vs',ps',rfl,k1,k2,k3⟩:=h';have hkl:=Nd.sumL_ge a.keys;have hkl':=Nd.sumL_ge b.keys;have hvl:=Nd.sumL_ge a.vals;have hvl':=Nd.sumL_ge b.vals;have s0:=hs;have s0':=hs';obtain⟨s1,s2,s3⟩:=hs;obtain⟨s1',s2',s3'⟩:=hs';obtain⟨H1,A1,b1,p1,g1,m1,n1⟩:=box hk (.cells [.bool la,ks,vs,ps] 61 1 false);obtain⟨H2,A2,b2,p2,g2,m2,n2⟩:=box p1.ok (.cells [.bool b.leaf,ks',vs',ps'] 61 1 false);obtain⟨H3,A3,b3,p3,g3,m3,n3⟩:=box p2.ok (.cells [.bool false, .nilSlice, .nilSlice, .nilSlice] 61 1 false);have P3:Prs H H3:=(p1.trans p2).trans p3;have g13:=p3.get p2.ok (p2.get p1.ok g1);have g23:=p3.get p2.ok g2;obtain⟨H4,e4,p4⟩:=vW D n P3.ok (i0.prs P3) s0 hn;have P4:=P3.trans p4;have g14:=p4.get P3.ok g13;have g24:=p4.get P3.ok g23;have g34:=p4.get P3.ok g3;have fin: ∀ {Hx:AH} {l:List AV},Prs H Hx->Hx.h.get A3=some (.cells [.bool false, .nilSlice, .nilSlice, .nilSlice] 61 1 false)->l.length=4->qK l=true-> ∃Hy,stN 4 (.ptr A3 0) (.agg l) Hx=some (qI,Hy)/\Prs H Hy/\Stp (fun B=>B=A3) Hx Hy/\ldN 4 (.ptr A3 0) Hy=some (.agg l):=fun {Hx l} px hg hl hc=>by
  obtain⟨Hy,e,g,s,_⟩:=yE px.ok hg hl hc;have e':stN 4 (.ptr A3 0) (.agg l) Hx=some (qI,Hy):=e;exact⟨Hy,e',px.fresh s (fun B hB=>by omega),s,by rw[qN g,jG _ _ _ (.inr (by omega)),List.drop_zero,zL (by omega)];rfl⟩
 cases c1:Nd.shaped ltS a with
 | false=>
  obtain⟨Hy,ey,py,_,ly⟩:=fin (l:=[.bool false, .nilSlice, .nilSlice, .nilSlice]) P4 g34 rfl rfl;refine⟨.agg [.bool false, .nilSlice, .nilSlice, .nilSlice],Hy, ?_,py, ?_⟩
  rotate_left
  ·simp only[joinOk,c1,Bool.false_and,Bool.false_eq_true,if_false];exact K8.zero _ _
  ·simp only[joinOk,c1,Bool.false_and,Bool.false_eq_true,if_false];simp(disch:=omega) only[f66,eZ,b1,b2,b3,qN g13,fU,Option.map_some,e4,c1,bQ,ey,ly]
 | true=>
 obtain⟨H5,e5,p5⟩:=vW D n P4.ok (i0'.prs P4) s0' hn;have P5:=P4.trans p5;have g15:=p5.get P4.ok g14;have g25:=p5.get P4.ok g24;have g35:=p5.get P4.ok g34
 cases c2:Nd.shaped ltS b with
 | false=>
  obtain⟨Hy,ey,py,_,ly⟩:=fin (l:=[.bool false, .nilSlice, .nilSlice, .nilSlice]) P5 g35 rfl rfl;refine⟨.agg [.bool false, .nilSlice, .nilSlice, .nilSlice],Hy, ?_,py, ?_⟩
  rotate_left
  ·simp only[joinOk,c2,Bool.false_and,Bool.and_false,Bool.false_eq_true,if_false];exact K8.zero _ _
  ·simp only[joinOk,c2,Bool.false_and,Bool.and_false,Bool.false_eq_true,if_false];simp(disch:=omega) only[f66,eZ,b1,b2,b3,qN g13,qN g24,fU,Option.map_some,e4,e5,c1,c2,bQ,ey,ly]
 | true=>
 obtain⟨H6,e6,p6⟩:=zBR D n P5.ok (sep:=sep) (i0.prs P5) (i0'.prs P5) s0 s0';have P6:=P5.trans p6;have g16:=p6.get P5.ok g15;have g26:=p6.get P5.ok g25;have g36:=p6.get P5.ok g35
 cases c3:partedN ltS a sep b with
 | false=>
  obtain⟨Hy,ey,py,_,ly⟩:=fin (l:=[.bool false, .nilSlice, .nilSlice, .nilSlice]) P6 g36 rfl rfl;refine⟨.agg [.bool false, .nilSlice, .nilSlice, .nilSlice],Hy, ?_,py, ?_⟩
  rotate_left
  ·simp only[joinOk,c3,Bool.false_and,Bool.and_false,Bool.false_eq_true,if_false];exact K8.zero _ _
  ·simp only[joinOk,c3,Bool.false_and,Bool.and_false,Bool.false_eq_true,if_false];simp(disch:=omega) only[f66,eZ,b1,b2,b3,qN g13,qN g24,qN g15,qN g25,fU,Option.map_some,e4,e5,e6,c1,c2,c3,bQ,ey,ly]
 | true=>
 have hj:joinOk a sep b=true:=by simp only[joinOk,c1,c2,c3,Bool.and_self]
 simp only[hj,if_true]
 cases la with
 | true=>
  obtain⟨H7,A7,b7,p7,g7,m7,n7⟩:=box P6.ok (.cells [ks,ks'] 44 1 false);have P7:=P6.trans p7;obtain⟨H8,A8,b8,p8,g8,m8,n8⟩:=box P7.ok (.cells [vs,vs'] 44 1 false);have P8:=P7.trans p8;obtain⟨w9,H9,e9,p9,o9,f9⟩:=zFp D n (cc:=4) P8.ok (p8.get P7.ok g7) (h1.prs P8) (k1.prs P8) (by omega) (by omega);have P9:=P8.trans p9;obtain⟨w10,H10,e10,p10,o10,f10⟩:=zFp D n (cc:=4) P9.ok (p9.get P8.ok g8) (h2.prs P9) (k2.prs P9) (by omega) (by omega);have P10:=P9.trans p10;have up {Hx:AH} {o:AObj} {A:Nat} (g:H6.h.get A=some o) (p:Prs H6 Hx):=p.get P6.ok g;have p69:Prs H6 H9:=(p7.trans p8).trans p9;obtain⟨Hy,ey,py,sy,ly⟩:=fin (l:=[.bool true,w9,w10, .nilSlice]) P10 (up g36 (p69.trans p10)) rfl (by simp only[qK,o9.row.isCell,o10.row.isCell];rfl);have n3':A3<H8.next:=by have:=p4.next;have:=p5.next;have:=p6.next;have:=p7.next;have:=p8.next;omega
  have n9:=p9.next
  refine⟨.agg [.bool true,w9,w10, .nilSlice],Hy, ?_,py, ?_⟩
  rotate_left
  ·have:uV a sep b=⟨true,a.keys++b.keys,a.vals++b.vals,[]⟩:=by simp only[uV,<-hla,if_true]
   rw[this];refine⟨w9,w10, .nilSlice,rfl,(o9.mono p10 (fun _ _ x=>x)).mono sy (fun B hB e=>by have:=f9 B hB;omega),o10.mono sy (fun B hB e=>by have:=f10 B hB;omega),Own.nil ..,fun B hB=> ?_,fun B hB=>⟨fun h=> ?_,fun h=>(Blk.nil.1 h).elim⟩,fun B hB h=>(Blk.nil.1 h).elim⟩
   ·have:=P8.next
    rcases hB with h | h | h
    ·have:=f9 B h;omega
    ·have:=f10 B h;omega
    ·exact(Blk.nil.1 h).elim
   ·have:=f10 B h;have:=Rw.blk o9.row hB;omega
  ·simp(disch:=omega) only[f66,eZ,b1,b2,b3,qN g13,qN g24,qN g15,qN g25,fU,Option.map_some,e4,e5,e6,c1,c2,c3,qJ g16,qJ g26,qJ (up g16 p7),qJ (up g26 p7),zIK 44 .nilSlice h1.isCell k1.isCell rfl,zIK 44 .nilSlice h2.isCell k2.isCell rfl,b7,b8,e9,
    j8 (qJ (up g16 p69) 2) (yC h2),j8 (qJ (up g26 p69) 2) (yC k2),e10,zDv _ o9.row.isCell o10.row.isCell,ey,ly]
 | false=>
  obtain⟨H7,A7,b7,p7,g7,m7,n7⟩:=box P6.ok (.cells [S sep] 9 1 false);have P7:=P6.trans p7;obtain⟨H8,A8,b8,p8,g8,m8,n8⟩:=box P7.ok (.cells [ks, .slice A7 0 1 2,ks'] 44 1 false);have P8:=P7.trans p8;obtain⟨H9,A9,b9,p9,g9,m9,n9⟩:=box P8.ok (.cells [ps,ps'] 59 1 false);have P9:=P8.trans p9;have hsep:Strs H9 (.slice A7 0 1 2) [sep]:=Rw.lit (cc:=2) P9.ok (Prs.get (p8.trans p9) P7.ok g7);obtain⟨w10,H10,e10,p10,o10,f10⟩:=zK2 D n (cc:=6) P9.ok (p9.get P8.ok g8) (h1.prs P9) hsep (k1.prs P9) (by simp only[zH,zY];omega) (by omega);have P10:=P9.trans p10;obtain⟨w11,H11,e11,p11,o11,f11⟩:=conP2 D n (cc:=4) P10.ok (p10.get P9.ok g9) (h3.prs P10) (k3.prs P10) (by omega) (by omega);have P11:=P10.trans p11;have up {Hx:AH} {o:AObj} {A:Nat} (g:H6.h.get A=some o) (p:Prs H6 Hx):=p.get P6.ok g;have p610:Prs H6 H10:=((p7.trans p8).trans p9).trans p10;obtain⟨Hy,ey,py,sy,ly⟩:=fin (l:=[.bool false,w10, .nilSlice,w11]) P11 (up g36 (p610.trans p11)) rfl (by simp only[qK,o10.row.isCell,o11.row.isCell];rfl);have n3':A3<H9.next:=by have:=p4.next;have:=p5.next;have:=p6.next;have:=p7.next;have:=p8.next;have:=p9.next;omega
  have n10:=p10.next
  refine⟨.agg [.bool false,w10, .nilSlice,w11],Hy, ?_,py, ?_⟩
  rotate_left
  ·have:uV a sep b=⟨false,a.keys++([sep]++b.keys),[],a.kids++b.kids⟩:=by simp only[uV,<-hla,Bool.false_eq_true,if_false]
   rw[this];refine⟨w10, .nilSlice,w11,rfl,(o10.mono p11 (fun _ _ x=>x)).mono sy (fun B hB e=>by have:=f10 B hB;omega),Own.nil ..,o11.mono sy (fun B hB e=>by have:=f11 B hB;omega),fun B hB=> ?_,fun B hB=>⟨fun h=>(Blk.nil.1 h).elim,fun h=> ?_⟩,fun B hB=>(Blk.nil.1 hB).elim⟩
   ·have:=P9.next
    rcases hB with h | h | h
    ·have:=f10 B h;omega
    ·exact(Blk.nil.1 h).elim
    ·have:=f11 B h;omega
   ·have:=f11 B h;have:=Rw.blk o10.row hB;omega
  ·simp(disch:=omega) only[f66,eZ,b1,b2,b3,qN g13,qN g24,qN g15,qN g25,fU,Option.map_some,e4,e5,e6,c1,c2,c3,qJ g16,qJ g26,qJ (up g26 p7),qJ (up g16 (p7.trans p8)),qJ (up g26 (p7.trans p8)),zIl 9 (.str 0 0) (cI sep),b7,
    row3 44 .nilSlice h1.isCell (show isCell (.slice A7 0 1 2)=true from rfl) k1.isCell,zIK 59 .nilSlice h3.isCell k3.isCell rfl,b8,b9,e10,
    j8 (qJ (up g16 p610) 3) (yC h3),j8 (qJ (up g26 p610) 3) (yC k3),e11,zI6 o10.row.isCell o11.row.isCell,ey,ly]
end Go.Eng.Sh
end
