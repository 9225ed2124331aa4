/- A checked evaluator for the program, and what it tells, part 4: no condition. -/
import Derived.Test.YtngkjhifpekkcaaGreatO3
import Derived.Test.YtngkjhifpekkcaaGreatProg
import Derived.KernelRfl
set_option linter.all false
set_option linter.unusedVariables false
set_option linter.unusedSimpArgs false
set_option maxHeartbeats 8000000
section
noncomputable section
namespace Go.Eng.Sh
open Go.Proofs
set_option maxRecDepth 100000
def s101 (D:Dyn)(n:Nat):Tb:=⟨X,[]⟩
def zJz (D:Dyn)(n:Nat)(vs:List AV)(H:AH):Rs:=
 hd vs fun a vs=>hd vs fun b vs=>hd vs fun c vs=>hd vs fun d vs=>hd vs fun e vs=>hd vs fun f vs=>
 bV (qP .add f (.int .i64 (.ofNat 1))) fun g=>
 some (.norm [a,b,c,d,e,g],H)
def UE (D:Dyn)(n:Nat)(vs:List AV)(H:AH):Rs:=
 hd vs fun a vs=>hd vs fun b vs=>hd vs fun c vs=>hd vs fun d vs=>hd vs fun e vs=>hd vs fun f vs=>
 bV (qP .lss f e) fun g=>
 cnd g (bV (yW 3 d f) fun h=>
 bV (ldN 3 h H) fun i=>
 bA (bxV 72 (.agg [(.int .i64 (.ofNat 0)),(.int .i64 (.ofNat 0)),(.int .u64 (.ofNat 0))])) H fun k H=>
 bR (stN 3 k i H) fun m H=>
 bV (fAd 0 k) fun o=>
 bV (ld1 o H) fun p=>
 bV (qP .eql p (.int .i64 (.ofNat 1))) fun r=>
 jn (cnd r (bV (wU c) fun t=>
 bV (fAd 5 t) fun u=>
 bV (ld1 u H) fun v=>
 bV (fAd 2 k) fun w=>
 bV (ld1 w H) fun x=>
 bR (dlM [10] v x H) fun y H=>
 some (.norm [a,b,c,d,e,f],H))
 (bV (wU c) fun z=>
 bV (fAd 7 z) fun B=>
 bV (ld1 B H) fun C=>
 bV (ldN 3 k H) fun E=>
 bA (kZ 72 3 1 [(.int .i64 (.ofNat 0)),(.int .i64 (.ofNat 0)),(.int .u64 (.ofNat 0))] [(0,E)]) H fun F H=>
 bR (apP 72 3 24 C F H) fun G H=>
 bV (wU c) fun I=>
 bV (fAd 7 I) fun J=>
 bR (stN 1 J G H) fun K H=>
 some (.norm [a,b,c,d,e,f],H))) (zJz D n))
 (some (.exit 0 [a,b,c],H))
def zJA (D:Dyn)(n:Nat)(vs:List AV)(H:AH):Rs:=
 hd vs fun a vs=>hd vs fun b vs=>hd vs fun c vs=>
 tld (uR [a,b,c] H) H.next fun H=>
 bV (wU a) fun d=>
 bV (fAd 1 d) fun e=>
 bV (ld1 e H) fun f=>
 bV (wU c) fun g=>
 bV (fAd 6 g) fun h=>
 bR (stN 1 h f H) fun i H=>
 bV (ldN 3 b H) fun k=>
 bV (wU c) fun m=>
 bV (fAd 2 m) fun o=>
 bR (stN 3 o k H) fun p H=>
 some (.ret (.tuple []),H)
def f101 (D:Dyn)(n:Nat)(vs:List AV)(H:AH):Option (AV×AH):=
 outR (hd vs fun a vs=>hd vs fun b vs=>nl vs <|
 bA (bxV 72 b) H fun c H=>
 bV (wU a) fun d=>
 bV (fAd 0 d) fun e=>
 bV (ld1 e H) fun f=>
 bV (wU a) fun g=>
 bV (fAd 3 g) fun h=>
 bV (ld1 h H) fun i=>
 bV (lnSl i) fun k=>
 jb 0 (qV n (UE D n) [a,c,f,i,k,(.int .i64 (.ofNat 0))] H) (zJA D n))
def h101:Hint:=(.s .o (.s .o (.s (.s .o (.b [0,3,4] (.l [0,3,4,16,17,18] (.s .o (.s (.cr .o .o) (.s (.b0 (.s .o (.s .o (.c [0,3,4,16,17,18] .o .o)))) .o)))))) (.s (.t [0,3,4] uR) (.s .o .o)))))
theorem zLa (D:Dyn)(n:Nat):f101 D n=zMY (s101 D n) D n 101 Tryz.f101 h101:=by kernel_rfl
theorem zCz:zAP Tryz.f101 h101=[(YY.code,[0,3,4],uR)]:=by kernel_rfl
theorem zFK: ∀x∈zAP Tryz.f101 h101,Y5 PP Tryz.f101.ntmps 101 x.1 x.2.1 x.2.2:=by
 rw[zCz];intro x hx
 simp only[List.mem_cons,List.not_mem_nil,or_false]at hx
 subst hx;exact zD6
theorem zAw {D:Dyn}(hD:DG D)(n:Nat):FI 101 (f101 D n):=zKO X_ok hD (SOk.nil) Tryz.func101 (zDw (by kernel_rfl) zFK) (zLa D n)
def s123 (D:Dyn)(n:Nat):Tb:=⟨X,[]⟩
def U6 (D:Dyn)(n:Nat)(vs:List AV)(H:AH):Rs:=
 hd vs fun a vs=>hd vs fun b vs=>hd vs fun c vs=>hd vs fun d vs=>hd vs fun e vs=>
 bV (qP .lss e d) fun f=>
 cnd f (bV (yW 1 c e) fun g=>
 bV (ld1 g H) fun h=>
 bV (jV h) fun i=>
 bV (qP .add (.int .i64 (.ofNat 1)) i) fun k=>
 bV (qP .add b k) fun m=>
 bV (qP .add e (.int .i64 (.ofNat 1))) fun o=>
 some (.norm [a,m,c,d,o],H))
 (some (.exit 0 [a,b],H))
def U5 (D:Dyn)(n:Nat)(vs:List AV)(H:AH):Rs:=
 hd vs fun a vs=>hd vs fun b vs=>hd vs fun c vs=>hd vs fun d vs=>
 bV (qP .lss d c) fun e=>
 cnd e (bV (yW 1 b d) fun f=>
 bV (ld1 f H) fun g=>
 bV (jV g) fun h=>
 bV (qP .add (.int .i64 (.ofNat 1)) h) fun i=>
 bV (qP .add a i) fun k=>
 bV (qP .add d (.int .i64 (.ofNat 1))) fun m=>
 some (.norm [k,b,c,m],H))
 (some (.exit 2 [a],H))
def zJp (D:Dyn)(n:Nat)(vs:List AV)(H:AH):Rs:=
 hd vs fun a vs=>
 bV (some a) fun b=>some (.ret b,H)
def zJo (D:Dyn)(n:Nat)(vs:List AV)(H:AH):Rs:=
 hd vs fun a vs=>hd vs fun b vs=>
 bV (fAd 2 a) fun c=>
 bV (ld1 c H) fun d=>
 bV (lnSl d) fun e=>
 jb 2 (qV n (U5 D n) [b,d,e,(.int .i64 (.ofNat 0))] H) (zJp D n)
def zGJ (D:Dyn)(n:Nat)(vs:List AV)(H:AH):Option (AV×AH):=
 outR (hd vs fun a vs=>nl vs <|
 bA (bxV 133 a) H fun b H=>
 bV (fAd 3 b) fun c=>
 bV (ld1 c H) fun d=>
 bV (lnSl d) fun e=>
 bV (qP .mul (.int .i64 (.ofNat 16)) e) fun f=>
 bV (qP .add (.int .i64 (.ofNat 2)) f) fun g=>
 bV (fAd 1 b) fun h=>
 bV (ld1 h H) fun i=>
 bV (lnSl i) fun k=>
 jb 0 (qV n (U6 D n) [b,g,i,k,(.int .i64 (.ofNat 0))] H) (zJo D n))
def h123:Hint:=(.s .o (.s .o (.s (.s .o (.b [1,3] (.l [1,3,14,15,16] (.s .o (.s (.cr .o .o) (.s (.b0 (.s .o .o)) .o)))))) (.s (.s .o (.b [3] (.l [3,27,28,29] (.s .o (.s (.cr .o .o) (.s (.b0 (.s .o .o)) .o)))))) (.s .o .o)))))
theorem WL {D:Dyn}(hD:DG D)(n:Nat):FI 123 (zGJ D n):=qS (n:=n) (h:=h123) X_ok hD (SOk.nil) Tryz.func123 (by kernel_rfl) (by kernel_rfl)
def s108 (D:Dyn)(n:Nat):Tb:=⟨X,[]⟩
def zGK (D:Dyn)(n:Nat)(vs:List AV)(H:AH):Option (AV×AH):=
 outR (hd vs fun a vs=>nl vs <|
 bV (jV a) fun b=>
 bV (qP .geq b (.int .i64 (.ofNat 1))) fun c=>
 jn (wnt c true (bV (jV a) fun d=>
 bV (qP .leq d (.int .i64 (.ofNat 40))) fun e=>
 some (.norm [e],H)) (some (.norm [qN],H))) fun vs H=>hd vs fun f vs=>
 bV (pk3 (some c) (some f) (some (.bool false))) fun g=>
 bV (some g) fun h=>some (.ret h,H))
def h108:Hint:=(.s .o (.s .o .o))
theorem WO {D:Dyn}(hD:DG D)(n:Nat):FI 108 (zGK D n):=qS (n:=n) (h:=h108) X_ok hD (SOk.nil) Tryz.func108 (by kernel_rfl) (by kernel_rfl)
def s107 (D:Dyn)(n:Nat):Tb:=⟨X,[(108,zGK D n)]⟩
def aN (D:Dyn)(n:Nat)(vs:List AV)(H:AH):Rs:=
 hd vs fun a vs=>hd vs fun b vs=>hd vs fun c vs=>hd vs fun d vs=>
 bV (qP .lss d c) fun e=>
 cnd e (bV (yW 1 b d) fun f=>
 bV (ld1 f H) fun g=>
 bR (zGK D n [g] H) fun h H=>
 bV (aun .not h) fun i=>
 jn (wnt i false (bV (qP .gtr d (.int .i64 (.ofNat 0))) fun k=>
 some (.norm [k],H)) (some (.norm [qN],H))) fun vs H=>hd vs fun m vs=>
 jn (wnt m true (bV (fAd 1 a) fun o=>
 bV (ld1 o H) fun p=>
 bV (qP .sub d (.int .i64 (.ofNat 1))) fun r=>
 bV (yW 1 p r) fun t=>
 bV (ld1 t H) fun u=>
 bV (jY .geq u g) fun v=>
 some (.norm [v],H)) (some (.norm [qN],H))) fun vs H=>hd vs fun w vs=>
 jn (wnt i false (bV (pk3 (some m) (some w) (some (.bool false))) fun x=>
 some (.norm [x],H)) (some (.norm [qN],H))) fun vs H=>hd vs fun y vs=>
 bV (pk3 (some i) (some (.bool true)) (some y)) fun z=>
 cnd z (bV (some (.bool false)) fun B=>some (.ret B,H))
 (bV (qP .add d (.int .i64 (.ofNat 1))) fun C=>
 some (.norm [a,b,c,C],H)))
 (some (.exit 0 [a],H))
def UB (D:Dyn)(n:Nat)(vs:List AV)(H:AH):Rs:=
 hd vs fun a vs=>hd vs fun b vs=>hd vs fun c vs=>
 bV (qP .lss c b) fun d=>
 cnd d (bV (yW 1 a c) fun e=>
 bV (ld1 e H) fun f=>
 bV (jV f) fun g=>
 bV (qP .gtr g (.int .i64 (.ofNat 200))) fun h=>
 cnd h (bV (some (.bool false)) fun i=>some (.ret i,H))
 (bV (qP .add c (.int .i64 (.ofNat 1))) fun k=>
 some (.norm [a,b,k],H)))
 (some (.exit 2 [],H))
def zFD (D:Dyn)(n:Nat)(vs:List AV)(H:AH):Rs:=
 bV (some (.bool true)) fun a=>some (.ret a,H)
def UA (D:Dyn)(n:Nat)(vs:List AV)(H:AH):Rs:=
 hd vs fun a vs=>hd vs fun b vs=>hd vs fun c vs=>
 bV (qP .lss c b) fun d=>
 cnd d (bV (yW 3 a c) fun e=>
 bV (ldN 3 e H) fun f=>
 bA (bxV 72 (.agg [(.int .i64 (.ofNat 0)),(.int .i64 (.ofNat 0)),(.int .u64 (.ofNat 0))])) H fun g H=>
 bR (stN 3 g f H) fun h H=>
 bV (fAd 0 g) fun i=>
 bV (ld1 i H) fun k=>
 bV (qP .lss k (.int .i64 (.ofNat 1))) fun m=>
 jn (wnt m false (bV (fAd 0 g) fun o=>
 bV (ld1 o H) fun p=>
 bV (qP .geq p (.int .i64 (.ofNat 8192))) fun r=>
 some (.norm [r],H)) (some (.norm [qN],H))) fun vs H=>hd vs fun t vs=>
 bV (pk3 (some m) (some (.bool true)) (some t)) fun u=>
 jn (wnt u false (bV (fAd 1 g) fun v=>
 bV (ld1 v H) fun w=>
 bV (qP .lss w (.int .i64 (.ofNat 0))) fun x=>
 some (.norm [x],H)) (some (.norm [qN],H))) fun vs H=>hd vs fun y vs=>
 bV (pk3 (some u) (some (.bool true)) (some y)) fun z=>
 jn (wnt z false (bV (fAd 1 g) fun B=>
 bV (ld1 B H) fun C=>
 bV (qP .gtr C (.int .i64 (.ofNat 2147483647))) fun E=>
 some (.norm [E],H)) (some (.norm [qN],H))) fun vs H=>hd vs fun F vs=>
 bV (pk3 (some z) (some (.bool true)) (some F)) fun G=>
 cnd G (bV (some (.bool false)) fun I=>some (.ret I,H))
 (bV (qP .add c (.int .i64 (.ofNat 1))) fun J=>
 some (.norm [a,b,J],H)))
 (some (.exit 4 [],H))
def zFC (D:Dyn)(n:Nat)(vs:List AV)(H:AH):Rs:=
 bV (some (.bool true)) fun a=>some (.ret a,H)
def aO (D:Dyn)(n:Nat)(vs:List AV)(H:AH):Rs:=
 hd vs fun a vs=>
 bV (fAd 0 a) fun b=>
 bV (ld1 b H) fun c=>
 cnd c (bV (fAd 2 a) fun d=>
 bV (ld1 d H) fun e=>
 bV (lnSl e) fun f=>
 bV (fAd 1 a) fun g=>
 bV (ld1 g H) fun h=>
 bV (lnSl h) fun i=>
 bV (qP .neq f i) fun k=>
 jn (wnt k false (bV (fAd 3 a) fun m=>
 bV (ld1 m H) fun o=>
 bV (lnSl o) fun p=>
 bV (qP .neq p (.int .i64 (.ofNat 0))) fun r=>
 some (.norm [r],H)) (some (.norm [qN],H))) fun vs H=>hd vs fun t vs=>
 bV (pk3 (some k) (some (.bool true)) (some t)) fun u=>
 cnd u (bV (some (.bool false)) fun v=>some (.ret v,H))
 (bV (fAd 2 a) fun w=>
 bV (ld1 w H) fun x=>
 bV (lnSl x) fun y=>
 jb 2 (qV n (UB D n) [x,y,(.int .i64 (.ofNat 0))] H) (zFD D n)))
 (bV (fAd 1 a) fun z=>
 bV (ld1 z H) fun B=>
 bV (lnSl B) fun C=>
 bV (qP .eql C (.int .i64 (.ofNat 0))) fun E=>
 jn (wnt E false (bV (fAd 2 a) fun F=>
 bV (ld1 F H) fun G=>
 bV (lnSl G) fun I=>
 bV (qP .neq I (.int .i64 (.ofNat 0))) fun J=>
 some (.norm [J],H)) (some (.norm [qN],H))) fun vs H=>hd vs fun K vs=>
 bV (pk3 (some E) (some (.bool true)) (some K)) fun M=>
 jn (wnt M false (bV (fAd 3 a) fun N=>
 bV (ld1 N H) fun O=>
 bV (lnSl O) fun P=>
 bV (fAd 1 a) fun Q=>
 bV (ld1 Q H) fun R=>
 bV (lnSl R) fun T=>
 bV (qP .add T (.int .i64 (.ofNat 1))) fun U=>
 bV (qP .neq P U) fun V=>
 some (.norm [V],H)) (some (.norm [qN],H))) fun vs H=>hd vs fun W vs=>
 bV (pk3 (some M) (some (.bool true)) (some W)) fun Y=>
 cnd Y (bV (some (.bool false)) fun Z=>some (.ret Z,H))
 (bV (fAd 3 a) fun a0=>
 bV (ld1 a0 H) fun a1=>
 bV (lnSl a1) fun a2=>
 jb 4 (qV n (UA D n) [a1,a2,(.int .i64 (.ofNat 0))] H) (zFC D n)))
def zAu (D:Dyn)(n:Nat)(vs:List AV)(H:AH):Option (AV×AH):=
 outR (hd vs fun a vs=>nl vs <|
 bA (bxV 133 a) H fun b H=>
 bV (fAd 1 b) fun c=>
 bV (ld1 c H) fun d=>
 bV (lnSl d) fun e=>
 jb 0 (qV n (aN D n) [b,d,e,(.int .i64 (.ofNat 0))] H) (aO D n))
def h107:Hint:=(.s .o (.s (.s .o (.b [1] (.l [1,10,11,12] (.s .o (.s (.cr .o .o) (.s (.b0 (.s .o (.s .o (.cl (.s .o .o) .o)))) .o)))))) (.s (.s .o (.cl (.s (.s .o (.cl (.s .o .o) .o)) (.s (.s .o (.b [] (.l [51,52,53] (.s .o (.s (.cr .o .o) (.s (.b0 (.s .o (.s .o (.cl (.s .o .o) .o)))) .o)))))) (.s .o .o))) .o)) (.s (.s .o (.cl (.s .o .o) .o)) (.s (.s .o (.b [] (.l [82,83,84] (.s .o (.s (.cr .o .o) (.s (.b0 (.s .o (.s .o (.cl (.s .o .o) .o)))) .o)))))) (.s .o .o))))))
theorem QQ {D:Dyn}(hD:DG D)(n:Nat):FI 107 (zAu D n):=qS (n:=n) (h:=h107) X_ok hD (sc (WO hD n) (SOk.nil)) Tryz.func107 (by kernel_rfl) (by kernel_rfl)
def s183 (D:Dyn)(n:Nat):Tb:=⟨X,[(123,zGJ D n)]⟩
def aM (D:Dyn)(n:Nat)(vs:List AV)(H:AH):Rs:=
 hd vs fun a vs=>hd vs fun b vs=>hd vs fun c vs=>hd vs fun d vs=>hd vs fun e vs=>hd vs fun f vs=>hd vs fun g vs=>
 bV (qP .gtr e (.int .i64 (.ofNat 0))) fun h=>
 jn (wnt h true (bV (qP .gtr d b) fun i=>
 some (.norm [i],H)) (some (.norm [qN],H))) fun vs H=>hd vs fun k vs=>
 bV (pk3 (some h) (some k) (some (.bool false))) fun m=>
 cnd m (bV (some e) fun o=>some (.ret o,H))
 (bV (qP .add g (.int .i64 (.ofNat 1))) fun p=>
 some (.norm [a,b,c,d,f,p],H))
def QN (D:Dyn)(n:Nat)(vs:List AV)(H:AH):Rs:=
 hd vs fun a vs=>hd vs fun b vs=>hd vs fun c vs=>hd vs fun d vs=>hd vs fun e vs=>hd vs fun f vs=>
 bV (qP .lss f e) fun g=>
 cnd g (bV (fAd 1 a) fun h=>
 bV (ld1 h H) fun i=>
 bV (yW 1 i f) fun k=>
 bV (ld1 k H) fun m=>
 bV (jV m) fun o=>
 bV (qP .add (.int .i64 (.ofNat 1)) o) fun p=>
 bV (qP .add d p) fun r=>
 bV (fAd 0 a) fun t=>
 bV (ld1 t H) fun u=>
 jn (cnd u (bV (fAd 2 a) fun v=>
 bV (ld1 v H) fun w=>
 bV (yW 1 w f) fun x=>
 bV (ld1 x H) fun y=>
 bV (jV y) fun z=>
 bV (qP .add (.int .i64 (.ofNat 1)) z) fun B=>
 bV (qP .add r B) fun C=>
 some (.norm [a,b,c,C,f,e,f],H))
 (bV (qP .add r (.int .i64 (.ofNat 16))) fun E=>
 some (.norm [a,b,c,E,f,e,f],H))) (aM D n))
 (some (.exit 0 [c],H))
def zFe (D:Dyn)(n:Nat)(vs:List AV)(H:AH):Rs:=
 hd vs fun a vs=>
 bV (some a) fun b=>some (.ret b,H)
def U0 (D:Dyn)(n:Nat)(vs:List AV)(H:AH):Rs:=
 hd vs fun a vs=>hd vs fun b vs=>hd vs fun c vs=>hd vs fun d vs=>
 jb 0 (qV n (QN D n) [a,b,c,d,c,(.int .i64 (.ofNat 0))] H) (zFe D n)
def zHX (D:Dyn)(n:Nat)(vs:List AV)(H:AH):Option (AV×AH):=
 outR (hd vs fun a vs=>nl vs <|
 bA (bxV 133 a) H fun b H=>
 bV (ldN 4 b H) fun c=>
 bR (zGJ D n [c] H) fun d H=>
 bV (qP .sub d (.int .i64 (.ofNat 2))) fun e=>
 bV (qP .quo e (.int .i64 (.ofNat 2))) fun f=>
 bV (fAd 1 b) fun g=>
 bV (ld1 g H) fun h=>
 bV (lnSl h) fun i=>
 bV (qP .sub i (.int .i64 (.ofNat 1))) fun k=>
 bV (fAd 0 b) fun m=>
 bV (ld1 m H) fun o=>
 bV (aun .not o) fun p=>
 jn (cnd p (bV (qP .sub k (.int .i64 (.ofNat 1))) fun r=>
 some (.norm [b,f,r,(.int .i64 (.ofNat 16))],H))
 (some (.norm [b,f,k,(.int .i64 (.ofNat 0))],H))) (U0 D n))
def h183:Hint:=(.s .o (.s .o (.s .o (.s .o (.s (.s .o (.c [1,3,4,5] (.s .o .o) .o)) (.s (.s .o (.b [4] (.l [1,3,4,5,20,21] (.s .o (.s (.cr .o .o) (.s (.b0 (.s .o (.s .o (.s (.s .o (.c [1,3,4,5,6,20,21] .o .o)) (.s .o (.cl (.s .o .o) .o)))))) .o)))))) (.s .o .o)))))))
theorem zFf {D:Dyn}(hD:DG D)(n:Nat):FI 183 (zHX D n):=qS (n:=n) (h:=h183) X_ok hD (sc (WL hD n) (SOk.nil)) Tryz.func183 (by kernel_rfl) (by kernel_rfl)
def s167 (D:Dyn)(n:Nat):Tb:=⟨X,[(107,zAu D n),(183,zHX D n),(109,YD D n),(77,f77 D n)]⟩
def zFm (D:Dyn)(n:Nat)(vs:List AV)(H:AH):Rs:=
 hd vs fun a vs=>hd vs fun b vs=>hd vs fun c vs=>hd vs fun d vs=>
 bV (ldN 4 b H) fun e=>
 bV (fAd 1 a) fun f=>
 bV (ld1 f H) fun g=>
 bV (yW 1 g d) fun h=>
 bV (ld1 h H) fun i=>
 bV (ldN 4 c H) fun k=>
 bR (stN 4 b e H) fun m H=>chk (ld1 f H) g <| chk (ld1 h H) i <| chk (ldN 4 c H) k <|
 bR (stN 4 c k H) fun o H=>
 bV (ldN 4 b H) fun p=>bV (some i) fun r=>bV (ldN 4 c H) fun t=>bV (some (.int .i64 (.ofNat 0))) fun u=>some (.ret (.tuple [p,r,t,u]),H)
def zCx (D:Dyn)(n:Nat)(vs:List AV)(H:AH):Option (AV×AH):=
 outR (hd vs fun a vs=>nl vs <|
 bA (bxV 133 a) H fun b H=>
 bA (bxV 133 (.agg [(.bool false), .nilSlice, .nilSlice, .nilSlice])) H fun c H=>
 bA (bxV 133 (.agg [(.bool false), .nilSlice, .nilSlice, .nilSlice])) H fun d H=>
 bV (ldN 4 b H) fun e=>
 bR (zAu D n [e] H) fun f H=>
 bV (aun .not f) fun g=>
 jn (wnt g false (bV (fAd 1 b) fun h=>
 bV (ld1 h H) fun i=>
 bV (lnSl i) fun k=>
 bV (qP .lss k (.int .i64 (.ofNat 2))) fun m=>
 some (.norm [m],H)) (some (.norm [qN],H))) fun vs H=>hd vs fun o vs=>
 bV (pk3 (some g) (some (.bool true)) (some o)) fun p=>
 jn (wnt p false (bV (fAd 0 b) fun r=>
 bV (ld1 r H) fun t=>
 bV (aun .not t) fun u=>
 some (.norm [u],H)) (some (.norm [qN],H))) fun vs H=>hd vs fun v vs=>
 jn (wnt v true (bV (fAd 1 b) fun w=>
 bV (ld1 w H) fun x=>
 bV (lnSl x) fun y=>
 bV (qP .lss y (.int .i64 (.ofNat 3))) fun z=>
 some (.norm [z],H)) (some (.norm [qN],H))) fun vs H=>hd vs fun B vs=>
 jn (wnt p false (bV (pk3 (some v) (some B) (some (.bool false))) fun C=>
 some (.norm [C],H)) (some (.norm [qN],H))) fun vs H=>hd vs fun E vs=>
 bV (pk3 (some p) (some (.bool true)) (some E)) fun F=>
 cnd F (bV (jE [(0,1),(1,1),(2,1),(3,1)] [(.bool false), .nilSlice, .nilSlice, .nilSlice] []) fun G=>
 bV (jE [(0,1),(1,1),(2,1),(3,1)] [(.bool false), .nilSlice, .nilSlice, .nilSlice] []) fun I=>
 bR (stN 4 c G H) fun J H=>
 bR (stN 4 d I H) fun K H=>
 bV (ldN 4 c H) fun M=>bV (some (.str 0 0)) fun N=>bV (ldN 4 d H) fun O=>bV (some (.int .i64 (.ofNat 1))) fun P=>some (.ret (.tuple [M,N,O,P]),H))
 (bV (ldN 4 b H) fun Q=>
 bR (zHX D n [Q] H) fun R H=>
 bV (fAd 0 b) fun T=>
 bV (ld1 T H) fun U=>
 bV (fAd 0 b) fun V=>
 bV (ld1 V H) fun W=>
 bV (fAd 0 c) fun Y=>
 bR (stN 1 Y U H) fun Z H=>chk (ld1 V H) W <|
 bV (fAd 0 d) fun a0=>
 bR (stN 1 a0 W H) fun a1 H=>
 bV (fAd 1 b) fun a2=>
 bV (ld1 a2 H) fun a3=>
 bV (j9 1 a3 none (some R) (some R) H) fun a4=>
 bR (YD D n [a4] H) fun a5 H=>
 bV (fAd 1 c) fun a6=>
 bR (stN 1 a6 a5 H) fun a7 H=>
 bV (fAd 0 b) fun a8=>
 bV (ld1 a8 H) fun a9=>
 jn (cnd a9 (bV (fAd 1 b) fun b0=>
 bV (ld1 b0 H) fun b1=>
 bV (j9 1 b1 (some R) none none H) fun b2=>
 bR (YD D n [b2] H) fun b3 H=>
 bV (fAd 1 d) fun b4=>
 bR (stN 1 b4 b3 H) fun b5 H=>
 bV (fAd 2 b) fun b6=>
 bV (ld1 b6 H) fun b7=>
 bV (j9 1 b7 none (some R) (some R) H) fun b8=>
 bV (fAd 2 b) fun b9=>
 bV (ld1 b9 H) fun c0=>
 bV (j9 1 c0 (some R) none none H) fun c1=>
 bR (YD D n [b8] H) fun c2 H=>chk (ld1 b9 H) c0 <| chk (j9 1 c0 (some R) none none H) c1 <|
 bV (fAd 2 c) fun c3=>
 bR (YD D n [c1] H) fun c4 H=>
 bR (stN 1 c3 c2 H) fun c5 H=>
 bV (fAd 2 d) fun c6=>
 bR (stN 1 c6 c4 H) fun c7 H=>
 some (.norm [b,c,d,R],H))
 (bV (fAd 1 b) fun c8=>
 bV (ld1 c8 H) fun c9=>
 bV (qP .add R (.int .i64 (.ofNat 1))) fun d0=>
 bV (j9 1 c9 (some d0) none none H) fun d1=>
 bR (YD D n [d1] H) fun d2 H=>
 bV (fAd 1 d) fun d3=>
 bR (stN 1 d3 d2 H) fun d4 H=>
 bV (fAd 3 b) fun d5=>
 bV (ld1 d5 H) fun d6=>
 bV (qP .add R (.int .i64 (.ofNat 1))) fun d7=>
 bV (qP .add R (.int .i64 (.ofNat 1))) fun d8=>
 bV (j9 3 d6 none (some d7) (some d8) H) fun d9=>
 bV (fAd 3 b) fun e0=>
 bV (ld1 e0 H) fun e1=>
 bV (qP .add R (.int .i64 (.ofNat 1))) fun e2=>
 bV (j9 3 e1 (some e2) none none H) fun e3=>
 bR (f77 D n [d9] H) fun e4 H=>chk (ld1 e0 H) e1 <| chk (j9 3 e1 (some e2) none none H) e3 <|
 bV (fAd 3 c) fun e5=>
 bR (f77 D n [e3] H) fun e6 H=>
 bR (stN 1 e5 e4 H) fun e7 H=>
 bV (fAd 3 d) fun e8=>
 bR (stN 1 e8 e6 H) fun e9 H=>
 some (.norm [b,c,d,R],H))) (zFm D n)))
def h167:Hint:=(.s .o (.s (.s .o (.cl (.s .o .o) .o)) (.s .o (.s .o (.s .o (.s (.s .o (.c [1,2,4,6] (.s .o .o) (.s .o .o))) (.s .o .o)))))))
theorem zFn {D:Dyn}(hD:DG D)(n:Nat):FI 167 (zCx D n):=qS (n:=n) (h:=h167) X_ok hD (sc (QQ hD n) (sc (zFf hD n) (sc (WN hD n) (sc (zEX hD n) (SOk.nil))))) Tryz.func167 (by kernel_rfl) (by kernel_rfl)
def s139 (D:Dyn)(n:Nat):Tb:=⟨X,[(123,zGJ D n),(167,zCx D n)]⟩
def zBG (D:Dyn)(n:Nat)(vs:List AV)(H:AH):Rs:=
 hd vs fun a vs=>hd vs fun b vs=>hd vs fun c vs=>
 bV (ldN 4 a H) fun d=>
 bR (zGJ D n [d] H) fun e H=>
 bV (qP .gtr e (.int .i64 (.ofNat 500))) fun f=>
 cnd f (bV (ldN 4 a H) fun g=>
 bR (zCx D n [g] H) fun h H=>
 bV (qM h 0) fun i=>
 bV (qM h 1) fun k=>
 bV (qM h 2) fun m=>
 bV (qM h 3) fun o=>
 bA (bxV 133 (.agg [(.bool false), .nilSlice, .nilSlice, .nilSlice])) H fun p H=>
 bA (bxV 133 (.agg [(.bool false), .nilSlice, .nilSlice, .nilSlice])) H fun r H=>
 bR (stN 4 p i H) fun t H=>
 bR (stN 4 r m H) fun u H=>
 bV (qP .neq o (.int .i64 (.ofNat 0))) fun v=>
 cnd v (bV (some .nilSlice) fun w=>bV (some .nilSlice) fun x=>bV (some (.int .i64 (.ofNat 4))) fun y=>some (.ret (.tuple [w,x,y]),H))
 (bV (ldN 4 p H) fun z=>
 bA (kZ 133 4 1 [(.bool false), .nilSlice, .nilSlice, .nilSlice] [(0,z)]) H fun B H=>
 bR (apP 133 4 80 b B H) fun C H=>
 bA (kZ 9 1 1 [(.str 0 0)] [(0,k)]) H fun E H=>
 bR (apP 9 1 16 c E H) fun F H=>
 bV (ldN 4 r H) fun G=>
 bR (stN 4 a G H) fun I H=>
 some (.norm [a,C,F],H)))
 (some (.exit 0 [a,b,c],H))
def zJk (D:Dyn)(n:Nat)(vs:List AV)(H:AH):Rs:=
 hd vs fun a vs=>hd vs fun b vs=>hd vs fun c vs=>
 bV (ldN 4 a H) fun d=>
 bA (kZ 133 4 1 [(.bool false), .nilSlice, .nilSlice, .nilSlice] [(0,d)]) H fun e H=>
 bR (apP 133 4 80 b e H) fun f H=>
 bV (some f) fun g=>bV (some c) fun h=>bV (some (.int .i64 (.ofNat 0))) fun i=>some (.ret (.tuple [g,h,i]),H)
def zJl (D:Dyn)(n:Nat)(vs:List AV)(H:AH):Option (AV×AH):=
 outR (hd vs fun a vs=>nl vs <|
 bA (bxV 133 a) H fun b H=>
 jb 0 (qV n (zBG D n) [b, .nilSlice, .nilSlice] H) (zJk D n))
def h139:Hint:=(.s .o (.s .o (.s .o (.s (.b [1,5,6] (.l [1,5,6] (.s (.s .o (.cr .o .o)) (.b0 (.s .o (.s (.s .o (.cl (.s .o .o) .o)) (.s .o (.s .o .o)))))))) (.s .o .o)))))
theorem zAq {D:Dyn}(hD:DG D)(n:Nat):FI 139 (zJl D n):=qS (n:=n) (h:=h139) X_ok hD (sc (WL hD n) (sc (zFn hD n) (SOk.nil))) Tryz.func139 (by kernel_rfl) (by kernel_rfl)
def s141 (D:Dyn)(n:Nat):Tb:=⟨X,[(102,zGM D n)]⟩
def U2 (D:Dyn)(n:Nat)(vs:List AV)(H:AH):Rs:=
 hd vs fun a vs=>hd vs fun b vs=>hd vs fun c vs=>hd vs fun d vs=>hd vs fun e vs=>
 bV (qP .lss e d) fun f=>
 cnd f (bV (yW 4 c e) fun g=>
 bV (ldN 4 g H) fun h=>
 bA (bxV 133 (.agg [(.bool false), .nilSlice, .nilSlice, .nilSlice])) H fun i H=>
 bR (stN 4 i h H) fun k H=>
 bV (ldN 4 i H) fun m=>
 bR (zGM D n [a,m] H) fun o H=>
 bA (kZ 72 3 1 [(.int .i64 (.ofNat 0)),(.int .i64 (.ofNat 0)),(.int .u64 (.ofNat 0))] [(0,o)]) H fun p H=>
 bR (apP 72 3 24 b p H) fun r H=>
 bV (qP .add e (.int .i64 (.ofNat 1))) fun t=>
 some (.norm [a,r,c,d,t],H))
 (some (.exit 0 [b],H))
def zJf (D:Dyn)(n:Nat)(vs:List AV)(H:AH):Rs:=
 hd vs fun a vs=>
 bV (some a) fun b=>some (.ret b,H)
def zJg (D:Dyn)(n:Nat)(vs:List AV)(H:AH):Option (AV×AH):=
 outR (hd vs fun a vs=>hd vs fun b vs=>nl vs <|
 bV (lnSl b) fun c=>
 jb 0 (qV n (U2 D n) [a, .nilSlice,b,c,(.int .i64 (.ofNat 0))] H) (zJf D n))
def h141:Hint:=(.s .o (.s .o (.s (.s .o (.b [5] (.l [0,5,8,9,10] (.s .o (.s (.cr .o .o) (.s (.b0 (.s .o .o)) .o)))))) (.s .o .o))))
theorem zAo {D:Dyn}(hD:DG D)(n:Nat):FI 141 (zJg D n):=qS (n:=n) (h:=h141) X_ok hD (sc (WP hD n) (SOk.nil)) Tryz.func141 (by kernel_rfl) (by kernel_rfl)
def s106 (D:Dyn)(n:Nat):Tb:=⟨X,[(101,f101 D n),(139,zJl D n),(141,zJg D n),(102,zGM D n)]⟩
def zFF (D:Dyn)(n:Nat)(vs:List AV)(H:AH):Rs:=
 bV (some (.int .i64 (.ofNat 0))) fun a=>some (.ret a,H)
def zFE (D:Dyn)(n:Nat)(vs:List AV)(H:AH):Rs:=
 bV (some (.int .i64 (.ofNat 0))) fun a=>some (.ret a,H)
def zI0 (D:Dyn)(n:Nat)(vs:List AV)(H:AH):Option (AV×AH):=
 outR (hd vs fun a vs=>hd vs fun b vs=>nl vs <|
 bA (bxV 133 b) H fun c H=>
 bV (fAd 1 c) fun d=>
 bV (ld1 d H) fun e=>
 bV (lnSl e) fun f=>
 bV (qP .eql f (.int .i64 (.ofNat 0))) fun g=>
 cnd g (bV (fAd 0 c) fun h=>
 bV (ld1 h H) fun i=>
 jn (cnd i (bV (jE [(0,1),(1,1),(2,1)] [(.int .i64 (.ofNat 0)),(.int .i64 (.ofNat 0)),(.int .u64 (.ofNat 0))] []) fun k=>
 bR (f101 D n [a,k] H) fun m H=>
 some (.norm [],H))
 (bV (fAd 3 c) fun o=>
 bV (ld1 o H) fun p=>
 bV (yW 3 p (.int .i64 (.ofNat 0))) fun r=>
 bV (ldN 3 r H) fun t=>
 bR (f101 D n [a,t] H) fun u H=>
 some (.norm [],H))) (zFF D n))
 (bV (ldN 4 c H) fun v=>
 bR (zJl D n [v] H) fun w H=>
 bV (qM w 0) fun x=>
 bV (qM w 1) fun y=>
 bV (qM w 2) fun z=>
 bV (qP .neq z (.int .i64 (.ofNat 0))) fun B=>
 cnd B (bV (some z) fun C=>some (.ret C,H))
 (bR (zJg D n [a,x] H) fun E H=>
 bV (lnSl E) fun F=>
 bV (qP .eql F (.int .i64 (.ofNat 1))) fun G=>
 jn (cnd G (bV (yW 3 E (.int .i64 (.ofNat 0))) fun I=>
 bV (ldN 3 I H) fun J=>
 bR (f101 D n [a,J] H) fun K H=>
 some (.norm [],H))
 (bV (jE [(0,1),(1,1),(2,1),(3,1)] [(.bool false), .nilSlice, .nilSlice, .nilSlice] [(1,y),(3,E)]) fun M=>
 bR (zGM D n [a,M] H) fun N H=>
 bR (f101 D n [a,N] H) fun O H=>
 some (.norm [],H))) (zFE D n))))
def h106:Hint:=(.s .o (.s (.s .o (.cl (.s (.s .o (.c [] .o .o)) (.s .o .o)) .o)) (.s .o (.s (.s .o (.cl (.s .o .o) .o)) (.s .o (.s (.s .o (.c [] .o .o)) (.s .o .o)))))))
theorem zFG {D:Dyn}(hD:DG D)(n:Nat):FI 106 (zI0 D n):=qS (n:=n) (h:=h106) X_ok hD (sc (zAw hD n) (sc (zAq hD n) (sc (zAo hD n) (sc (WP hD n) (SOk.nil))))) Tryz.func106 (by kernel_rfl) (by kernel_rfl)
def s68 (D:Dyn)(n:Nat):Tb:=⟨X,[]⟩
def f68 (D:Dyn)(n:Nat)(vs:List AV)(H:AH):Option (AV×AH):=
 outR (hd vs fun a vs=>nl vs <|
 bV (wU a) fun b=>
 bV (fAd 5 b) fun c=>
 bV (ld1 c H) fun d=>
 bV (VL d H) fun e=>
 bV (qP .add (.int .i64 (.ofNat 8192)) e) fun f=>
 bV (some f) fun g=>some (.ret g,H))
def h68:Hint:=(.s .o (.s .o .o))
theorem VZ {D:Dyn}(hD:DG D)(n:Nat):FI 68 (f68 D n):=qS (n:=n) (h:=h68) X_ok hD (SOk.nil) Tryz.func68 (by kernel_rfl) (by kernel_rfl)
def s105 (D:Dyn)(n:Nat):Tb:=⟨X,[]⟩
def zJx (D:Dyn)(n:Nat)(vs:List AV)(H:AH):Option (AV×AH):=
 outR (hd vs fun a vs=>hd vs fun b vs=>nl vs <|
 bA (bxV 72 b) H fun c H=>
 bV (wU a) fun d=>
 bV (fAd 3 d) fun e=>
 bV (ld1 e H) fun f=>
 bV (ldN 3 c H) fun g=>
 bA (kZ 72 3 1 [(.int .i64 (.ofNat 0)),(.int .i64 (.ofNat 0)),(.int .u64 (.ofNat 0))] [(0,g)]) H fun h H=>
 bR (apP 72 3 24 f h H) fun i H=>
 bV (wU a) fun k=>
 bV (fAd 3 k) fun m=>
 bR (stN 1 m i H) fun o H=>
 some (.ret (.tuple []),H))
def h105:Hint:=(.s .o .o)
theorem zAv {D:Dyn}(hD:DG D)(n:Nat):FI 105 (zJx D n):=qS (n:=n) (h:=h105) X_ok hD (SOk.nil) Tryz.func105 (by kernel_rfl) (by kernel_rfl)
def s166 (D:Dyn)(n:Nat):Tb:=⟨X,[(108,zGK D n)]⟩
def zCN (D:Dyn)(n:Nat)(vs:List AV)(H:AH):Option (AV×AH):=
 outR (hd vs fun a vs=>hd vs fun b vs=>hd vs fun c vs=>nl vs <|
 bA (bxV 133 a) H fun d H=>
 bA (bxV 133 c) H fun e H=>
 bR (zGK D n [b] H) fun f H=>
 bV (aun .not f) fun g=>
 jn (wnt g false (bV (fAd 0 d) fun h=>
 bV (ld1 h H) fun i=>
 bV (fAd 0 e) fun k=>
 bV (ld1 k H) fun m=>
 bV (X0 .neq i m) fun o=>
 some (.norm [o],H)) (some (.norm [qN],H))) fun vs H=>hd vs fun p vs=>
 bV (pk3 (some g) (some (.bool true)) (some p)) fun r=>
 cnd r (bV (some (.bool false)) fun t=>some (.ret t,H))
 (bV (fAd 1 d) fun u=>
 bV (ld1 u H) fun v=>
 bV (lnSl v) fun w=>
 bV (qP .gtr w (.int .i64 (.ofNat 0))) fun x=>
 jn (wnt x true (bV (fAd 1 d) fun y=>
 bV (ld1 y H) fun z=>
 bV (qP .sub w (.int .i64 (.ofNat 1))) fun B=>
 bV (yW 1 z B) fun C=>
 bV (ld1 C H) fun E=>
 bV (jY .geq E b) fun F=>
 some (.norm [F],H)) (some (.norm [qN],H))) fun vs H=>hd vs fun G vs=>
 bV (pk3 (some x) (some G) (some (.bool false))) fun I=>
 cnd I (bV (some (.bool false)) fun J=>some (.ret J,H))
 (bV (fAd 1 e) fun K=>
 bV (ld1 K H) fun M=>
 bV (lnSl M) fun N=>
 bV (qP .eql N (.int .i64 (.ofNat 0))) fun O=>
 cnd O (bV (some (.bool true)) fun P=>some (.ret P,H))
 (bV (fAd 1 e) fun Q=>
 bV (ld1 Q H) fun R=>
 bV (yW 1 R (.int .i64 (.ofNat 0))) fun T=>
 bV (ld1 T H) fun U=>
 bV (jY .lss b U) fun V=>
 jn (wnt V false (bV (fAd 0 d) fun W=>
 bV (ld1 W H) fun Y=>
 some (.norm [Y],H)) (some (.norm [qN],H))) fun vs H=>hd vs fun Z vs=>
 jn (wnt Z true (bV (fAd 1 e) fun a0=>
 bV (ld1 a0 H) fun a1=>
 bV (yW 1 a1 (.int .i64 (.ofNat 0))) fun a2=>
 bV (ld1 a2 H) fun a3=>
 bV (jY .eql b a3) fun a4=>
 some (.norm [a4],H)) (some (.norm [qN],H))) fun vs H=>hd vs fun a5 vs=>
 jn (wnt V false (bV (pk3 (some Z) (some a5) (some (.bool false))) fun a6=>
 some (.norm [a6],H)) (some (.norm [qN],H))) fun vs H=>hd vs fun a7 vs=>
 bV (pk3 (some V) (some (.bool true)) (some a7)) fun a8=>
 bV (some a8) fun a9=>some (.ret a9,H)))))
def h166:Hint:=(.s .o (.s (.s .o (.cl (.s .o .o) .o)) (.s (.s .o (.s .o (.cl (.s .o .o) .o))) (.s (.s .o (.cl (.s .o .o) .o)) (.s .o .o)))))
theorem zFo {D:Dyn}(hD:DG D)(n:Nat):FI 166 (zCN D n):=qS (n:=n) (h:=h166) X_ok hD (sc (WO hD n) (SOk.nil)) Tryz.func166 (by kernel_rfl) (by kernel_rfl)
def s144 (D:Dyn)(n:Nat):Tb:=⟨X,[]⟩
def zFt (D:Dyn)(n:Nat)(vs:List AV)(H:AH):Rs:=
 hd vs fun a vs=>
 bV (some a) fun b=>some (.ret b,H)
def zFs (D:Dyn)(n:Nat)(vs:List AV)(H:AH):Rs:=
 hd vs fun a vs=>hd vs fun b vs=>
 bV (zCP X 37 a) fun c=>
 bV (lnSl a) fun d=>
 bV (qP .sub c d) fun e=>
 bV (qP .sub b e) fun f=>
 bV (qP .gtr f (.int .i64 (.ofNat 0))) fun g=>
 jn (cnd g (bV (zCP X 37 a) fun h=>
 bV (j9 1 a none (some h) none H) fun i=>
 bR (apZ 9 1 16 [(.str 0 0)] i f H) fun k H=>
 bV (lnSl a) fun m=>
 bV (j9 1 k none (some m) none H) fun o=>
 some (.norm [o],H))
 (some (.norm [a],H))) (zFt D n)
def zL3 (D:Dyn)(n:Nat)(vs:List AV)(H:AH):Option (AV×AH):=
 outR (hd vs fun a vs=>hd vs fun b vs=>nl vs <|
 bV (qP .lss b (.int .i64 (.ofNat 0))) fun c=>
 jn (cnd c (none)
 (some (.norm [a,b],H))) (zFs D n))
def h144:Hint:=(.s .o (.s (.s .o (.c [0,1] .o .o)) (.s (.s .o (.s .o (.c [0] .o .o))) (.s .o .o))))
theorem zFu {D:Dyn}(hD:DG D)(n:Nat):FI 144 (zL3 D n):=qS (n:=n) (h:=h144) X_ok hD (SOk.nil) Tryz.func144 (by kernel_rfl) (by kernel_rfl)
def s111 (D:Dyn)(n:Nat):Tb:=⟨X,[(144,zL3 D n)]⟩
def zJt (D:Dyn)(n:Nat)(vs:List AV)(H:AH):Rs:=
 hd vs fun a vs=>hd vs fun b vs=>hd vs fun c vs=>hd vs fun d vs=>hd vs fun e vs=>
 bV (qP .add e (.int .i64 (.ofNat 1))) fun f=>
 some (.norm [a,b,c,d,f],H)
def zBI (D:Dyn)(n:Nat)(vs:List AV)(H:AH):Rs:=
 hd vs fun a vs=>hd vs fun b vs=>hd vs fun c vs=>hd vs fun d vs=>hd vs fun e vs=>
 bV (qP .lss e d) fun f=>
 cnd f (bV (yW 1 c e) fun g=>
 bV (ld1 g H) fun h=>
 bV (lnSl h) fun i=>
 bV (qP .add b i) fun k=>
 bV (qP .lss k (.int .i64 (.ofNat 0))) fun m=>
 jn (cnd m (none)
 (some (.norm [a,k,c,d,e],H))) (zJt D n))
 (some (.exit 0 [a,b],H))
def U9 (D:Dyn)(n:Nat)(vs:List AV)(H:AH):Rs:=
 hd vs fun a vs=>hd vs fun b vs=>hd vs fun c vs=>hd vs fun d vs=>
 bV (qP .lss d c) fun e=>
 cnd e (bV (yW 1 b d) fun f=>
 bV (ld1 f H) fun g=>
 bR (apP 9 1 16 a g H) fun h H=>
 bV (qP .add d (.int .i64 (.ofNat 1))) fun i=>
 some (.norm [h,b,c,i],H))
 (some (.exit 2 [a],H))
def zJv (D:Dyn)(n:Nat)(vs:List AV)(H:AH):Rs:=
 hd vs fun a vs=>
 bV (some a) fun b=>some (.ret b,H)
def zJu (D:Dyn)(n:Nat)(vs:List AV)(H:AH):Rs:=
 hd vs fun a vs=>hd vs fun b vs=>
 bR (zL3 D n [.nilSlice,b] H) fun c H=>
 bV (lnSl a) fun d=>
 jb 2 (qV n (U9 D n) [c,a,d,(.int .i64 (.ofNat 0))] H) (zJv D n)
def zAt (D:Dyn)(n:Nat)(vs:List AV)(H:AH):Option (AV×AH):=
 outR (hd vs fun a vs=>nl vs <|
 bV (lnSl a) fun b=>
 jb 0 (qV n (zBI D n) [a,(.int .i64 (.ofNat 0)),a,b,(.int .i64 (.ofNat 0))] H) (zJu D n))
def h111:Hint:=(.s .o (.s .o (.s (.s .o (.b [0,3] (.l [0,3,9,10,11] (.s .o (.s (.cr .o .o) (.s (.b0 (.s .o (.s .o (.s .o (.c [0,3,9,10,11] .o .o))))) .o)))))) (.s .o (.s (.s .o (.b [6] (.l [6,25,26,27] (.s .o (.s (.cr .o .o) (.s (.b0 (.s .o .o)) .o)))))) (.s .o .o))))))
theorem WM {D:Dyn}(hD:DG D)(n:Nat):FI 111 (zAt D n):=qS (n:=n) (h:=h111) X_ok hD (sc (zFu hD n) (SOk.nil)) Tryz.func111 (by kernel_rfl) (by kernel_rfl)
def s168 (D:Dyn)(n:Nat):Tb:=⟨X,[]⟩
def zFk (D:Dyn)(n:Nat)(vs:List AV)(H:AH):Rs:=
 hd vs fun a vs=>
 bV (some a) fun b=>some (.ret b,H)
def zFj (D:Dyn)(n:Nat)(vs:List AV)(H:AH):Rs:=
 hd vs fun a vs=>hd vs fun b vs=>
 bV (zCP X 77 a) fun c=>
 bV (lnSl a) fun d=>
 bV (qP .sub c d) fun e=>
 bV (qP .sub b e) fun f=>
 bV (qP .gtr f (.int .i64 (.ofNat 0))) fun g=>
 jn (cnd g (bV (zCP X 77 a) fun h=>
 bV (j9 3 a none (some h) none H) fun i=>
 bR (apZ 72 3 24 [(.int .i64 (.ofNat 0)),(.int .i64 (.ofNat 0)),(.int .u64 (.ofNat 0))] i f H) fun k H=>
 bV (lnSl a) fun m=>
 bV (j9 3 k none (some m) none H) fun o=>
 some (.norm [o],H))
 (some (.norm [a],H))) (zFk D n)
def zKY (D:Dyn)(n:Nat)(vs:List AV)(H:AH):Option (AV×AH):=
 outR (hd vs fun a vs=>hd vs fun b vs=>nl vs <|
 bV (qP .lss b (.int .i64 (.ofNat 0))) fun c=>
 jn (cnd c (none)
 (some (.norm [a,b],H))) (zFj D n))
def h168:Hint:=(.s .o (.s (.s .o (.c [0,1] .o .o)) (.s (.s .o (.s .o (.c [0] .o .o))) (.s .o .o))))
theorem zFl {D:Dyn}(hD:DG D)(n:Nat):FI 168 (zKY D n):=qS (n:=n) (h:=h168) X_ok hD (SOk.nil) Tryz.func168 (by kernel_rfl) (by kernel_rfl)
def s140 (D:Dyn)(n:Nat):Tb:=⟨X,[(168,zKY D n)]⟩
def zJh (D:Dyn)(n:Nat)(vs:List AV)(H:AH):Rs:=
 hd vs fun a vs=>hd vs fun b vs=>hd vs fun c vs=>hd vs fun d vs=>hd vs fun e vs=>
 bV (qP .add e (.int .i64 (.ofNat 1))) fun f=>
 some (.norm [a,b,c,d,f],H)
def zBE (D:Dyn)(n:Nat)(vs:List AV)(H:AH):Rs:=
 hd vs fun a vs=>hd vs fun b vs=>hd vs fun c vs=>hd vs fun d vs=>hd vs fun e vs=>
 bV (qP .lss e d) fun f=>
 cnd f (bV (yW 1 c e) fun g=>
 bV (ld1 g H) fun h=>
 bV (lnSl h) fun i=>
 bV (qP .add b i) fun k=>
 bV (qP .lss k (.int .i64 (.ofNat 0))) fun m=>
 jn (cnd m (none)
 (some (.norm [a,k,c,d,e],H))) (zJh D n))
 (some (.exit 0 [a,b],H))
def U3 (D:Dyn)(n:Nat)(vs:List AV)(H:AH):Rs:=
 hd vs fun a vs=>hd vs fun b vs=>hd vs fun c vs=>hd vs fun d vs=>
 bV (qP .lss d c) fun e=>
 cnd e (bV (yW 1 b d) fun f=>
 bV (ld1 f H) fun g=>
 bR (apP 72 3 24 a g H) fun h H=>
 bV (qP .add d (.int .i64 (.ofNat 1))) fun i=>
 some (.norm [h,b,c,i],H))
 (some (.exit 2 [a],H))
def zJj (D:Dyn)(n:Nat)(vs:List AV)(H:AH):Rs:=
 hd vs fun a vs=>
 bV (some a) fun b=>some (.ret b,H)
def zJi (D:Dyn)(n:Nat)(vs:List AV)(H:AH):Rs:=
 hd vs fun a vs=>hd vs fun b vs=>
 bR (zKY D n [.nilSlice,b] H) fun c H=>
 bV (lnSl a) fun d=>
 jb 2 (qV n (U3 D n) [c,a,d,(.int .i64 (.ofNat 0))] H) (zJj D n)
def zGI (D:Dyn)(n:Nat)(vs:List AV)(H:AH):Option (AV×AH):=
 outR (hd vs fun a vs=>nl vs <|
 bV (lnSl a) fun b=>
 jb 0 (qV n (zBE D n) [a,(.int .i64 (.ofNat 0)),a,b,(.int .i64 (.ofNat 0))] H) (zJi D n))
def h140:Hint:=(.s .o (.s .o (.s (.s .o (.b [0,3] (.l [0,3,9,10,11] (.s .o (.s (.cr .o .o) (.s (.b0 (.s .o (.s .o (.s .o (.c [0,3,9,10,11] .o .o))))) .o)))))) (.s .o (.s (.s .o (.b [6] (.l [6,25,26,27] (.s .o (.s (.cr .o .o) (.s (.b0 (.s .o .o)) .o)))))) (.s .o .o))))))
theorem zAp {D:Dyn}(hD:DG D)(n:Nat):FI 140 (zGI D n):=qS (n:=n) (h:=h140) X_ok hD (sc (zFl hD n) (SOk.nil)) Tryz.func140 (by kernel_rfl) (by kernel_rfl)
def s138 (D:Dyn)(n:Nat):Tb:=⟨X,[(107,zAu D n),(166,zCN D n),(111,zAt D n),(140,zGI D n)]⟩
def zFw (D:Dyn)(n:Nat)(vs:List AV)(H:AH):Option (AV×AH):=
 outR (hd vs fun a vs=>hd vs fun b vs=>hd vs fun c vs=>nl vs <|
 bA (bxV 133 a) H fun d H=>
 bA (bxV 133 c) H fun e H=>
 bA (bxV 133 (.agg [(.bool false), .nilSlice, .nilSlice, .nilSlice])) H fun f H=>
 bV (ldN 4 d H) fun g=>
 bR (zAu D n [g] H) fun h H=>
 bV (aun .not h) fun i=>
 jn (wnt i false (bV (ldN 4 e H) fun k=>
 bR (zAu D n [k] H) fun m H=>
 bV (aun .not m) fun o=>
 some (.norm [o],H)) (some (.norm [qN],H))) fun vs H=>hd vs fun p vs=>
 bV (pk3 (some i) (some (.bool true)) (some p)) fun r=>
 jn (wnt r false (bV (ldN 4 d H) fun t=>
 bV (ldN 4 e H) fun u=>
 bR (zCN D n [t,b,u] H) fun v H=>
 bV (aun .not v) fun w=>
 some (.norm [w],H)) (some (.norm [qN],H))) fun vs H=>hd vs fun x vs=>
 bV (pk3 (some r) (some (.bool true)) (some x)) fun y=>
 cnd y (bV (jE [(0,1),(1,1),(2,1),(3,1)] [(.bool false), .nilSlice, .nilSlice, .nilSlice] []) fun z=>
 bR (stN 4 f z H) fun B H=>
 bV (ldN 4 f H) fun C=>bV (some (.int .i64 (.ofNat 1))) fun E=>some (.ret (.tuple [C,E]),H))
 (bV (fAd 0 d) fun F=>
 bV (ld1 F H) fun G=>
 cnd G (bV (fAd 1 d) fun I=>
 bV (ld1 I H) fun J=>
 bV (fAd 1 e) fun K=>
 bV (ld1 K H) fun M=>
 bA (kZ 37 1 2 [.nilSlice] [(0,J),(1,M)]) H fun N H=>
 bV (fAd 2 d) fun O=>
 bV (ld1 O H) fun P=>
 bV (fAd 2 e) fun Q=>
 bV (ld1 Q H) fun R=>
 bA (kZ 37 1 2 [.nilSlice] [(0,P),(1,R)]) H fun T H=>
 bR (zAt D n [N] H) fun U H=>chk (ld1 O H) P <| chk (ld1 Q H) R <|
 bR (zAt D n [T] H) fun V H=>
 bV (jE [(0,1),(1,1),(2,1),(3,1)] [(.bool false), .nilSlice, .nilSlice, .nilSlice] [(0,(.bool true)),(1,U),(2,V)]) fun W=>
 bR (stN 4 f W H) fun Y H=>
 bV (ldN 4 f H) fun Z=>bV (some (.int .i64 (.ofNat 0))) fun a0=>some (.ret (.tuple [Z,a0]),H))
 (bV (fAd 1 d) fun a1=>
 bV (ld1 a1 H) fun a2=>
 bA (kZ 9 1 1 [(.str 0 0)] [(0,b)]) H fun a3 H=>
 bV (fAd 1 e) fun a4=>
 bV (ld1 a4 H) fun a5=>
 bA (kZ 37 1 3 [.nilSlice] [(0,a2),(1,a3),(2,a5)]) H fun a6 H=>
 bV (fAd 3 d) fun a7=>
 bV (ld1 a7 H) fun a8=>
 bV (fAd 3 e) fun a9=>
 bV (ld1 a9 H) fun b0=>
 bA (kZ 77 1 2 [.nilSlice] [(0,a8),(1,b0)]) H fun b1 H=>
 bR (zAt D n [a6] H) fun b2 H=>chk (ld1 a7 H) a8 <| chk (ld1 a9 H) b0 <|
 bR (zGI D n [b1] H) fun b3 H=>
 bV (jE [(0,1),(1,1),(2,1),(3,1)] [(.bool false), .nilSlice, .nilSlice, .nilSlice] [(1,b2),(3,b3)]) fun b4=>
 bR (stN 4 f b4 H) fun b5 H=>
 bV (ldN 4 f H) fun b6=>bV (some (.int .i64 (.ofNat 0))) fun b7=>some (.ret (.tuple [b6,b7]),H))))
def h138:Hint:=(.s .o (.s (.s .o (.cl (.s .o .o) .o)) (.s (.s .o (.cl (.s .o .o) .o)) (.s .o .o))))
theorem zFv {D:Dyn}(hD:DG D)(n:Nat):FI 138 (zFw D n):=qS (n:=n) (h:=h138) X_ok hD (sc (QQ hD n) (sc (zFo hD n) (sc (WM hD n) (sc (zAp hD n) (SOk.nil))))) Tryz.func138 (by kernel_rfl) (by kernel_rfl)
def s104 (D:Dyn)(n:Nat):Tb:=⟨X,[(123,zGJ D n),(69,f69 D n),(105,zJx D n),(138,zFw D n),(139,zJl D n),(111,zAt D n),(141,zJg D n),(140,zGI D n)]⟩
def zFI (D:Dyn)(n:Nat)(vs:List AV)(H:AH):Rs:=
 hd vs fun a vs=>hd vs fun b vs=>hd vs fun c vs=>hd vs fun d vs=>hd vs fun e vs=>hd vs fun f vs=>hd vs fun g vs=>
 bV (qP .neq g (.int .i64 (.ofNat 0))) fun h=>
 cnd h (bV (jE [(0,1),(1,1),(2,1),(3,1)] [(.bool false), .nilSlice, .nilSlice, .nilSlice] []) fun i=>
 bR (stN 4 d i H) fun k H=>
 bV (ldN 4 d H) fun m=>bV (some (.int .i64 (.ofNat 4))) fun o=>some (.ret (.tuple [m,o]),H))
 (some (.norm [a,b,c,d,e,f],H))
def zFH (D:Dyn)(n:Nat)(vs:List AV)(H:AH):Rs:=
 hd vs fun a vs=>hd vs fun b vs=>hd vs fun c vs=>hd vs fun d vs=>hd vs fun e vs=>hd vs fun f vs=>
 bV (wU a) fun g=>
 bV (fAd 0 g) fun h=>
 bV (ld1 h H) fun i=>
 bV (fAd 3 c) fun k=>
 bV (ld1 k H) fun m=>
 bV (yW 3 m f) fun o=>
 bV (ldN 3 o H) fun p=>
 bA (bxV 133 (.agg [(.bool false), .nilSlice, .nilSlice, .nilSlice])) H fun r H=>
 bR (f69 D n [i,p] H) fun t H=>
 bV (qM t 0) fun u=>
 bV (qM t 1) fun v=>
 bR (stN 4 r u H) fun w H=>
 bV (qP .neq v (.int .i64 (.ofNat 0))) fun x=>
 cnd x (bV (jE [(0,1),(1,1),(2,1),(3,1)] [(.bool false), .nilSlice, .nilSlice, .nilSlice] []) fun y=>
 bR (stN 4 e y H) fun z H=>
 bV (ldN 4 e H) fun B=>bV (some v) fun C=>some (.ret (.tuple [B,C]),H))
 (bV (fAd 3 c) fun E=>
 bV (ld1 E H) fun F=>
 bV (yW 3 F f) fun G=>
 bV (ldN 3 G H) fun I=>
 bR (zJx D n [a,I] H) fun J H=>
 bV (mn2 b f) fun K=>
 bV (mx2 b f) fun M=>
 bV (qP .add M (.int .i64 (.ofNat 1))) fun N=>
 bV (qP .lss f b) fun O=>
 jn (cnd O (bV (ldN 4 r H) fun P=>
 bV (fAd 1 c) fun Q=>
 bV (ld1 Q H) fun R=>
 bV (yW 1 R K) fun T=>
 bV (ld1 T H) fun U=>
 bV (ldN 4 d H) fun V=>
 bR (zFw D n [P,U,V] H) fun W H=>
 bV (qM W 0) fun Y=>
 bV (qM W 1) fun Z=>
 bR (stN 4 d Y H) fun a0 H=>
 some (.norm [a,c,d,e,K,N,Z],H))
 (bV (ldN 4 d H) fun a1=>
 bV (fAd 1 c) fun a2=>
 bV (ld1 a2 H) fun a3=>
 bV (yW 1 a3 K) fun a4=>
 bV (ld1 a4 H) fun a5=>
 bV (ldN 4 r H) fun a6=>
 bR (zFw D n [a1,a5,a6] H) fun a7 H=>
 bV (qM a7 0) fun a8=>
 bV (qM a7 1) fun a9=>
 bR (stN 4 d a8 H) fun b0 H=>
 some (.norm [a,c,d,e,K,N,a9],H))) (zFI D n))
def UC (D:Dyn)(n:Nat)(vs:List AV)(H:AH):Rs:=
 hd vs fun a vs=>hd vs fun b vs=>hd vs fun c vs=>hd vs fun d vs=>hd vs fun e vs=>hd vs fun f vs=>
 bV (ldN 4 c H) fun g=>
 bR (zJl D n [g] H) fun h H=>
 bV (qM h 0) fun i=>
 bV (qM h 1) fun k=>
 bV (qM h 2) fun m=>
 bV (qP .neq m (.int .i64 (.ofNat 0))) fun o=>
 cnd o (bV (jE [(0,1),(1,1),(2,1),(3,1)] [(.bool false), .nilSlice, .nilSlice, .nilSlice] []) fun p=>
 bR (stN 4 d p H) fun r H=>
 bV (ldN 4 d H) fun t=>bV (some m) fun u=>some (.ret (.tuple [t,u]),H))
 (bV (fAd 1 b) fun v=>
 bV (ld1 v H) fun w=>
 bV (j9 1 w none (some e) (some e) H) fun x=>
 bV (fAd 1 b) fun y=>
 bV (ld1 y H) fun z=>
 bV (qP .sub f (.int .i64 (.ofNat 1))) fun B=>
 bV (j9 1 z (some B) none none H) fun C=>
 bA (kZ 37 1 3 [.nilSlice] [(0,x),(1,k),(2,C)]) H fun E H=>
 bV (fAd 3 b) fun F=>
 bV (ld1 F H) fun G=>
 bV (j9 3 G none (some e) (some e) H) fun I=>
 bV (fAd 3 b) fun J=>
 bV (ld1 J H) fun K=>
 bV (j9 3 K (some f) none none H) fun M=>
 bR (zAt D n [E] H) fun N H=>chk (ld1 F H) G <| chk (j9 3 G none (some e) (some e) H) I <| chk (ld1 J H) K <| chk (j9 3 K (some f) none none H) M <|
 bR (zJg D n [a,i] H) fun O H=>chk (ld1 F H) G <| chk (j9 3 G none (some e) (some e) H) I <| chk (ld1 J H) K <| chk (j9 3 K (some f) none none H) M <|
 bA (kZ 77 1 3 [.nilSlice] [(0,I),(1,O),(2,M)]) H fun P H=>
 bR (zGI D n [P] H) fun Q H=>
 bV (jE [(0,1),(1,1),(2,1),(3,1)] [(.bool false), .nilSlice, .nilSlice, .nilSlice] [(1,N),(3,Q)]) fun R=>
 bR (stN 4 d R H) fun T H=>
 bV (ldN 4 d H) fun U=>bV (some (.int .i64 (.ofNat 0))) fun V=>some (.ret (.tuple [U,V]),H))
def zGL (D:Dyn)(n:Nat)(vs:List AV)(H:AH):Option (AV×AH):=
 outR (hd vs fun a vs=>hd vs fun b vs=>hd vs fun c vs=>hd vs fun d vs=>nl vs <|
 bA (bxV 133 b) H fun e H=>
 bA (bxV 133 d) H fun f H=>
 bA (bxV 133 (.agg [(.bool false), .nilSlice, .nilSlice, .nilSlice])) H fun g H=>
 bV (qP .add c (.int .i64 (.ofNat 1))) fun h=>
 bV (ldN 4 f H) fun i=>
 bR (zGJ D n [i] H) fun k H=>
 bV (qP .lss k (.int .i64 (.ofNat 160))) fun m=>
 jn (cnd m (bV (qP .sub c (.int .i64 (.ofNat 1))) fun o=>
 bV (qP .eql c (.int .i64 (.ofNat 0))) fun p=>
 jn (cnd p (some (.norm [a,c,e,f,g,(.int .i64 (.ofNat 1))],H))
 (some (.norm [a,c,e,f,g,o],H))) (zFH D n))
 (some (.norm [a,e,f,g,c,h],H))) (UC D n))
def h104:Hint:=(.s .o (.s .o (.s (.s .o (.c [0,5,7,8,10,11] (.s .o (.s (.s .o (.c [0,2,5,7,8,12] .o .o)) (.s .o (.s (.s .o (.cl (.s .o .o) .o)) (.s .o (.s .o (.s (.s .o (.c [0,5,7,8,10,11,14] .o .o)) (.s .o (.cl (.s .o .o) .o))))))))) .o)) (.s .o (.s (.s .o (.cl (.s .o .o) .o)) (.s .o .o))))))
theorem zFJ {D:Dyn}(hD:DG D)(n:Nat):FI 104 (zGL D n):=qS (n:=n) (h:=h104) X_ok hD (sc (WL hD n) (sc (QM hD n) (sc (zAv hD n) (sc (zFv hD n) (sc (zAq hD n) (sc (WM hD n) (sc (zAo hD n) (sc (zAp hD n) (SOk.nil))))))))) Tryz.func104 (by kernel_rfl) (by kernel_rfl)
def zLJ (D:Dyn)(n:Nat):Tb:=⟨X,[(68,f68 D n),(69,f69 D n),(70,f70 D n),(104,zGL D n),(105,zJx D n)]⟩
def UD (D:Dyn)(n:Nat)(vs:List AV)(H:AH):Rs:=
 hd vs fun a vs=>hd vs fun b vs=>hd vs fun c vs=>hd vs fun d vs=>hd vs fun e vs=>
 some (.norm [a,b,c,d,e],H)
def aQ (D:Dyn)(n:Nat)(vs:List AV)(H:AH):Rs:=
 hd vs fun a vs=>hd vs fun b vs=>hd vs fun c vs=>hd vs fun d vs=>hd vs fun e vs=>
 bV (qP .neq e (.int .i64 (.ofNat 0))) fun f=>
 cnd f (bV (jE [(0,1),(1,1),(2,1),(3,1)] [(.bool false), .nilSlice, .nilSlice, .nilSlice] []) fun g=>
 bR (stN 4 c g H) fun h H=>
 bV (ldN 4 c H) fun i=>bV (some e) fun k=>some (.ret (.tuple [i,k]),H))
 (bV (ld1 a H) fun m=>
 bV (ldN 3 b H) fun o=>
 bR (zJx D n [m,o] H) fun p H=>
 bV (ldN 4 d H) fun r=>
 bR (stN 4 c r H) fun t H=>
 bV (ldN 4 c H) fun u=>bV (some (.int .i64 (.ofNat 0))) fun v=>some (.ret (.tuple [u,v]),H))
def zJy (D:Dyn)(n:Nat)(vs:List AV)(H:AH):Option (AV×AH):=
 outR (hd vs fun a vs=>hd vs fun b vs=>hd vs fun c vs=>hd vs fun d vs=>hd vs fun e vs=>hd vs fun f vs=>hd vs fun g vs=>nl vs <|
 bA (bxV 72 a) H fun h H=>
 bA (bxV 133 (.agg [(.bool false), .nilSlice, .nilSlice, .nilSlice])) H fun i H=>
 bV (ld1 b H) fun k=>
 bV (qP .add k (.int .i64 (.ofNat 1))) fun m=>
 bR (stN 1 b m H) fun o H=>
 bV (ld1 b H) fun p=>
 bV (ld1 c H) fun r=>
 bR (f68 D n [r] H) fun t H=>chk (ld1 b H) p <|
 bV (qP .gtr p t) fun u=>
 cnd u (bV (jE [(0,1),(1,1),(2,1),(3,1)] [(.bool false), .nilSlice, .nilSlice, .nilSlice] []) fun v=>
 bR (stN 4 i v H) fun w H=>
 bV (ldN 4 i H) fun x=>bV (some (.int .i64 (.ofNat 4))) fun y=>some (.ret (.tuple [x,y]),H))
 (bV (ld1 c H) fun z=>
 bV (ldN 3 h H) fun B=>
 bR (f69 D n [z,B] H) fun C H=>
 bV (qM C 0) fun E=>
 bV (qM C 1) fun F=>
 bA (bxV 133 (.agg [(.bool false), .nilSlice, .nilSlice, .nilSlice])) H fun G H=>
 bR (stN 4 G E H) fun I H=>
 bV (qP .neq F (.int .i64 (.ofNat 0))) fun J=>
 cnd J (bV (jE [(0,1),(1,1),(2,1),(3,1)] [(.bool false), .nilSlice, .nilSlice, .nilSlice] []) fun K=>
 bR (stN 4 i K H) fun M H=>
 bV (ldN 4 i H) fun N=>bV (some F) fun O=>some (.ret (.tuple [N,O]),H))
 (bV (fAd 0 G) fun P=>
 bV (ld1 P H) fun Q=>
 jn (cnd Q (bV (ld1 d H) fun R=>
 bV (ldN 4 G H) fun T=>
 bR (callV (zLJ D n).S D R [T] H) fun U H=>
 bV (qM U 0) fun V=>
 bV (qM U 1) fun W=>
 bR (stN 4 G V H) fun Y H=>
 some (.norm [g,h,i,G,W],H))
 (bV (ldN 4 G H) fun Z=>
 bV (ld1 e H) fun a0=>
 bR (f70 D n [Z,a0] H) fun a1 H=>
 bA (bxV 133 (.agg [(.bool false), .nilSlice, .nilSlice, .nilSlice])) H fun a2 H=>
 bV (ld1 f H) fun a3=>
 bV (fAd 3 G) fun a4=>
 bV (ld1 a4 H) fun a5=>
 bV (yW 3 a5 a1) fun a6=>
 bV (ldN 3 a6 H) fun a7=>
 bR (callV (zLJ D n).S D a3 [a7] H) fun a8 H=>
 bV (qM a8 0) fun a9=>
 bV (qM a8 1) fun b0=>
 bR (stN 4 a2 a9 H) fun b1 H=>
 bV (qP .eql b0 (.int .i64 (.ofNat 0))) fun b2=>
 jn (cnd b2 (bV (ld1 g H) fun b3=>
 bV (ldN 4 G H) fun b4=>
 bV (ldN 4 a2 H) fun b5=>
 bR (zGL D n [b3,b4,a1,b5] H) fun b6 H=>
 bV (qM b6 0) fun b7=>
 bV (qM b6 1) fun b8=>
 bR (stN 4 G b7 H) fun b9 H=>
 some (.norm [g,h,i,G,b8],H))
 (some (.norm [g,h,i,G,b0],H))) (UD D n))) (aQ D n))))
def h103:Hint:=(.s .o (.s (.s .o (.s .o (.cl (.s .o .o) .o))) (.s .o (.s (.s .o (.cl (.s .o .o) .o)) (.s (.s .o (.c [6,7,8,10,11] .o (.s .o (.s .o (.s .o (.s .o (.c [6,7,8,10,11] .o .o))))))) (.s (.s .o (.cl (.s .o .o) .o)) (.s .o (.s .o .o))))))))
theorem zL9 {D:Dyn}(hD:DG D)(n:Nat):FI 103 (zJy D n):=qS (n:=n) (h:=h103) X_ok hD (sc (VZ hD n) (sc (QM hD n) (sc (gI hD n) (sc (zFJ hD n) (sc (zAv hD n) (SOk.nil)))))) Tryz.func103 (by kernel_rfl) (by kernel_rfl)
def s63 (D:Dyn)(n:Nat):Tb:=⟨X,[(102,zGM D n),(101,f101 D n),(106,zI0 D n)]⟩
def f63 (D:Dyn)(n:Nat)(vs:List AV)(H:AH):Option (AV×AH):=
 outR (hd vs fun a vs=>hd vs fun b vs=>hd vs fun c vs=>nl vs <|
 bA (bxV 22 a) H fun d H=>
 bA (bxV 9 b) H fun e H=>
 bA (bxV 136 c) H fun f H=>
 bV (ld1 d H) fun g=>
 bV (ld1 d H) fun h=>
 bV (wU h) fun i=>
 bV (fAd 6 i) fun k=>
 bV (ld1 k H) fun m=>
 bA (mkM [10]) H fun o H=>
 bV (jE [(0,1),(1,1),(2,1),(3,1)] [.nilPtr,(.int .u64 (.ofNat 0)), .nilMap, .nilSlice] [(0,g),(1,m),(2,o)]) fun p=>
 bA (bxV 209 p) H fun r H=>
 bA (bxV 207 .nilPtr) H fun t H=>
 bR (stN 1 t r H) fun u H=>
 bV (ld1 d H) fun v=>
 bV (wU v) fun w=>
 bV (fAd 2 w) fun x=>
 bV (fAd 0 x) fun y=>
 bV (ld1 y H) fun z=>
 bV (qP .eql z (.int .i64 (.ofNat 0))) fun B=>
 cnd B (bV (ld1 f H) fun C=>
 bV (jE [(0,1),(1,1),(2,1),(3,1)] [(.bool false), .nilSlice, .nilSlice, .nilSlice] [(0,(.bool true))]) fun E=>
 bR (callV (s63 D n).S D C [E] H) fun F H=>
 bV (qM F 0) fun G=>
 bV (qM F 1) fun I=>
 bA (bxV 133 (.agg [(.bool false), .nilSlice, .nilSlice, .nilSlice])) H fun J H=>
 bR (stN 4 J G H) fun K H=>
 bV (qP .neq I (.int .i64 (.ofNat 0))) fun M=>
 cnd M (bV (some I) fun N=>some (.ret N,H))
 (bV (ld1 t H) fun O=>
 bV (ld1 t H) fun P=>
 bV (ldN 4 J H) fun Q=>
 bR (zGM D n [P,Q] H) fun R H=>chk (ld1 t H) O <|
 bR (f101 D n [O,R] H) fun T H=>
 bV (some (.int .i64 (.ofNat 0))) fun U=>some (.ret U,H)))
 (bA (bxV 3 (.int .i64 (.ofNat 0))) H fun V H=>
 bR (stN 1 V (.int .i64 (.ofNat 0)) H) fun W H=>
 bA (bxV 142 .nilFunc) H fun Y H=>
 bR (stN 1 Y (.func 103 [] [V,d,f,e,Y,t]) H) fun Z H=>
 bV (ld1 Y H) fun a0=>
 bV (ld1 d H) fun a1=>
 bV (wU a1) fun a2=>
 bV (fAd 2 a2) fun a3=>
 bV (ldN 3 a3 H) fun a4=>
 bA (bxV 133 (.agg [(.bool false), .nilSlice, .nilSlice, .nilSlice])) H fun a5 H=>
 bR (callV (s63 D n).S D a0 [a4] H) fun a6 H=>
 bV (qM a6 0) fun a7=>
 bV (qM a6 1) fun a8=>
 bR (stN 4 a5 a7 H) fun a9 H=>
 bV (qP .neq a8 (.int .i64 (.ofNat 0))) fun b0=>
 cnd b0 (bV (some a8) fun b1=>some (.ret b1,H))
 (bV (ld1 t H) fun b2=>
 bV (ldN 4 a5 H) fun b3=>
 bR (zI0 D n [b2,b3] H) fun b4 H=>
 bV (some b4) fun b5=>some (.ret b5,H))))
def h63:Hint:=(.s .o (.s .o (.s (.s .o (.cl (.s .o (.s (.s .o (.cl (.s .o .o) .o)) (.s .o (.s .o .o)))) .o)) (.s .o (.s .o (.s .o (.s .o (.s (.s .o (.cl (.s .o .o) .o)) (.s .o .o)))))))))
theorem zF0 {D:Dyn}(hD:DG D)(n:Nat):FI 63 (f63 D n):=qS (n:=n) (h:=h63) X_ok hD (sc (WP hD n) (sc (zAw hD n) (sc (zFG hD n) (SOk.nil)))) Tryz.func63 (by kernel_rfl) (by kernel_rfl)
end Go.Eng.Sh
end
end
section
noncomputable section
namespace Go.Eng.Sh
open Go.Proofs
set_option maxRecDepth 100000
def s67 (D:Dyn)(n:Nat):Tb:=⟨X,[(107,zAu D n),(70,f70 D n),(111,zAt D n)]⟩
def f67 (D:Dyn)(n:Nat)(vs:List AV)(H:AH):Option (AV×AH):=
 outR (hd vs fun a vs=>hd vs fun b vs=>nl vs <|
 bA (bxV 133 a) H fun c H=>
 bA (bxV 133 (.agg [(.bool false), .nilSlice, .nilSlice, .nilSlice])) H fun d H=>
 bV (ldN 4 c H) fun e=>
 bR (zAu D n [e] H) fun f H=>
 bV (aun .not f) fun g=>
 jn (wnt g false (bV (fAd 0 c) fun h=>
 bV (ld1 h H) fun i=>
 bV (aun .not i) fun k=>
 some (.norm [k],H)) (some (.norm [qN],H))) fun vs H=>hd vs fun m vs=>
 bV (pk3 (some g) (some (.bool true)) (some m)) fun o=>
 cnd o (bV (jE [(0,1),(1,1),(2,1),(3,1)] [(.bool false), .nilSlice, .nilSlice, .nilSlice] []) fun p=>
 bR (stN 4 d p H) fun r H=>
 bV (ldN 4 d H) fun t=>bV (some (.int .i64 (.ofNat 1))) fun u=>some (.ret (.tuple [t,u]),H))
 (bV (ldN 4 c H) fun v=>
 bR (f70 D n [v,b] H) fun w H=>
 bV (fAd 1 c) fun x=>
 bV (ld1 x H) fun y=>
 bV (lnSl y) fun z=>
 bV (qP .geq w z) fun B=>
 jn (wnt B false (bV (fAd 1 c) fun C=>
 bV (ld1 C H) fun E=>
 bV (yW 1 E w) fun F=>
 bV (ld1 F H) fun G=>
 bV (jY .neq G b) fun I=>
 some (.norm [I],H)) (some (.norm [qN],H))) fun vs H=>hd vs fun J vs=>
 bV (pk3 (some B) (some (.bool true)) (some J)) fun K=>
 cnd K (bV (jE [(0,1),(1,1),(2,1),(3,1)] [(.bool false), .nilSlice, .nilSlice, .nilSlice] []) fun M=>
 bR (stN 4 d M H) fun N H=>
 bV (ldN 4 d H) fun O=>bV (some (.int .i64 (.ofNat 5))) fun P=>some (.ret (.tuple [O,P]),H))
 (bV (fAd 1 c) fun Q=>
 bV (ld1 Q H) fun R=>
 bV (j9 1 R none (some w) (some w) H) fun T=>
 bV (fAd 1 c) fun U=>
 bV (ld1 U H) fun V=>
 bV (qP .add w (.int .i64 (.ofNat 1))) fun W=>
 bV (j9 1 V (some W) none none H) fun Y=>
 bA (kZ 37 1 2 [.nilSlice] [(0,T),(1,Y)]) H fun Z H=>
 bV (fAd 2 c) fun a0=>
 bV (ld1 a0 H) fun a1=>
 bV (j9 1 a1 none (some w) (some w) H) fun a2=>
 bV (fAd 2 c) fun a3=>
 bV (ld1 a3 H) fun a4=>
 bV (qP .add w (.int .i64 (.ofNat 1))) fun a5=>
 bV (j9 1 a4 (some a5) none none H) fun a6=>
 bA (kZ 37 1 2 [.nilSlice] [(0,a2),(1,a6)]) H fun a7 H=>
 bR (zAt D n [Z] H) fun a8 H=>chk (ld1 a0 H) a1 <| chk (j9 1 a1 none (some w) (some w) H) a2 <| chk (ld1 a3 H) a4 <| chk (j9 1 a4 (some a5) none none H) a6 <|
 bR (zAt D n [a7] H) fun a9 H=>
 bV (jE [(0,1),(1,1),(2,1),(3,1)] [(.bool false), .nilSlice, .nilSlice, .nilSlice] [(0,(.bool true)),(1,a8),(2,a9)]) fun b0=>
 bR (stN 4 d b0 H) fun b1 H=>
 bV (ldN 4 d H) fun b2=>bV (some (.int .i64 (.ofNat 0))) fun b3=>some (.ret (.tuple [b2,b3]),H))))
def h67:Hint:=(.s .o (.s (.s .o (.cl (.s .o .o) .o)) (.s .o (.s (.s .o (.cl (.s .o .o) .o)) (.s .o .o)))))
theorem zJ3 {D:Dyn}(hD:DG D)(n:Nat):FI 67 (f67 D n):=qS (n:=n) (h:=h67) X_ok hD (sc (QQ hD n) (sc (gI hD n) (sc (WM hD n) (SOk.nil)))) Tryz.func67 (by kernel_rfl) (by kernel_rfl)
def s66 (D:Dyn)(n:Nat):Tb:=⟨X,[(67,f67 D n)]⟩
def f66 (D:Dyn)(n:Nat)(vs:List AV)(H:AH):Option (AV×AH):=
 outR (hd vs fun a vs=>hd vs fun b vs=>nl vs <|
 bA (bxV 133 a) H fun c H=>
 bA (bxV 133 (.agg [(.bool false), .nilSlice, .nilSlice, .nilSlice])) H fun d H=>
 bV (ldN 4 c H) fun e=>
 bV (ld1 b H) fun f=>
 bR (f67 D n [e,f] H) fun g H=>
 bV (qM g 0) fun h=>
 bV (qM g 1) fun i=>
 bR (stN 4 d h H) fun k H=>
 bV (ldN 4 d H) fun m=>bV (some i) fun o=>some (.ret (.tuple [m,o]),H))
def h66:Hint:=(.s .o (.s .o .o))
theorem zN3 {D:Dyn}(hD:DG D)(n:Nat):FI 66 (f66 D n):=qS (n:=n) (h:=h66) X_ok hD (sc (zJ3 hD n) (SOk.nil)) Tryz.func66 (by kernel_rfl) (by kernel_rfl)
def s23 (D:Dyn)(n:Nat):Tb:=⟨X,[(62,f62 D n),(63,f63 D n)]⟩
def f23 (D:Dyn)(n:Nat)(vs:List AV)(H:AH):Option (AV×AH):=
 outR (hd vs fun a vs=>hd vs fun b vs=>nl vs <|
 bA (bxV 9 b) H fun c H=>
 bR (f62 D n [a] H) fun d H=>
 cnd d (bV (some (.int .i64 (.ofNat 2))) fun e=>some (.ret e,H))
 (bV (ld1 c H) fun f=>
 bV (jV f) fun g=>
 bV (qP .lss g (.int .i64 (.ofNat 1))) fun h=>
 jn (wnt h false (bV (ld1 c H) fun i=>
 bV (jV i) fun k=>
 bV (qP .gtr k (.int .i64 (.ofNat 40))) fun m=>
 some (.norm [m],H)) (some (.norm [qN],H))) fun vs H=>hd vs fun o vs=>
 bV (pk3 (some h) (some (.bool true)) (some o)) fun p=>
 cnd p (bV (some (.int .i64 (.ofNat 1))) fun r=>some (.ret r,H))
 (bV (ld1 c H) fun t=>
 bR (f63 D n [a,t,(.func 66 [] [c])] H) fun u H=>
 bV (some u) fun v=>some (.ret v,H))))
def h23:Hint:=(.s .o (.s (.s .o (.cl (.s .o .o) .o)) (.s (.s .o (.cl (.s .o .o) .o)) (.s .o .o))))
theorem zJe {D:Dyn}(hD:DG D)(n:Nat):FI 23 (f23 D n):=qS (n:=n) (h:=h23) X_ok hD (sc (dG hD n) (sc (zF0 hD n) (SOk.nil))) Tryz.func23 (by kernel_rfl) (by kernel_rfl)
def s110 (D:Dyn)(n:Nat):Tb:=⟨X,[]⟩
def zJw (D:Dyn)(n:Nat)(vs:List AV)(H:AH):Option (AV×AH):=
 outR (hd vs fun a vs=>hd vs fun b vs=>hd vs fun c vs=>nl vs <|
 bV (j9 1 a (some b) none none H) fun d=>
 bV (lnSl c) fun e=>
 bV (qP .eql e (.int .i64 (.ofNat 0))) fun f=>
 cnd f (bV (some a) fun g=>some (.ret g,H))
 (bV (lnSl a) fun h=>
 bV (qP .eql b h) fun i=>
 cnd i (bR (apP 9 1 16 a c H) fun k H=>
 bV (some k) fun m=>some (.ret m,H))
 (bV (qP .add h e) fun o=>
 bV (zCP X 37 a) fun p=>
 bV (qP .gtr o p) fun r=>
 cnd r (bV (j9 1 a none (some b) none H) fun t=>
 bV (qP .add h e) fun u=>
 bV (qP .sub u b) fun v=>
 bR (apZ 9 1 16 [(.str 0 0)] t v H) fun w H=>
 bV (j9 1 w (some b) none none H) fun x=>
 bR (cpy 1 x c H) fun y H=>
 bV (qP .add b e) fun z=>
 bV (j9 1 w (some z) none none H) fun B=>
 bV (j9 1 a (some b) none none H) fun C=>
 bR (cpy 1 B C H) fun E H=>
 bV (some w) fun F=>some (.ret F,H))
 (bV (qP .add h e) fun G=>
 bV (j9 1 a none (some G) none H) fun I=>
 bV (qP .add b e) fun J=>
 bV (j9 1 I (some J) none none H) fun K=>
 bR (D.fn 142 [c,K] H) fun M H=>
 bV (aun .not M) fun N=>
 cnd N (bV (qP .add b e) fun O=>
 bV (j9 1 I (some O) none none H) fun P=>
 bV (j9 1 I (some b) none none H) fun Q=>
 bR (cpy 1 P Q H) fun R H=>
 bV (j9 1 I (some b) none none H) fun T=>
 bR (cpy 1 T c H) fun U H=>
 bV (some I) fun V=>some (.ret V,H))
 (bV (j9 1 I (some h) none none H) fun W=>
 bR (cpy 1 W c H) fun Y H=>
 bV (j9 1 I (some b) none none H) fun Z=>
 bR (D.fn 143 [Z,e] H) fun a0 H=>
 bV (some I) fun a1=>some (.ret a1,H))))))
def h110:Hint:=(.s .o (.s .o (.s .o (.s (.s .o (.cl (.s .o .o) .o)) (.s .o (.s (.s .o (.cl (.s .o .o) .o)) (.s (.s .o (.cl (.s .o (.s .o (.s .o (.s .o .o)))) .o)) (.s .o (.s (.s .o (.cl (.s .o (.s .o (.s .o .o))) .o)) (.s .o (.s .o (.s .o .o))))))))))))
theorem zL8 {D:Dyn}(hD:DG D)(n:Nat):FI 110 (zJw D n):=qS (n:=n) (h:=h110) X_ok hD (SOk.nil) Tryz.func110 (by kernel_rfl) (by kernel_rfl)
def zLN (D:Dyn)(n:Nat)(vs:List AV)(H:AH):Option (AV×AH):=zKK (zJw D n) vs H
theorem zEn {D:Dyn}(hD:DG D)(n:Nat):FI 110 (zLN D n):=zKJ (by kernel_rfl) (zL8 hD n)
def s65 (D:Dyn)(n:Nat):Tb:=⟨X,[(107,zAu D n),(108,zGK D n),(109,YD D n),(70,f70 D n),(110,zLN D n)]⟩
def f65 (D:Dyn)(n:Nat)(vs:List AV)(H:AH):Option (AV×AH):=
 outR (hd vs fun a vs=>hd vs fun b vs=>hd vs fun c vs=>nl vs <|
 bA (bxV 133 a) H fun d H=>
 bA (bxV 133 (.agg [(.bool false), .nilSlice, .nilSlice, .nilSlice])) H fun e H=>
 bV (ldN 4 d H) fun f=>
 bR (zAu D n [f] H) fun g H=>
 bV (aun .not g) fun h=>
 jn (wnt h false (bV (fAd 0 d) fun i=>
 bV (ld1 i H) fun k=>
 bV (aun .not k) fun m=>
 some (.norm [m],H)) (some (.norm [qN],H))) fun vs H=>hd vs fun o vs=>
 bV (pk3 (some h) (some (.bool true)) (some o)) fun p=>
 jn (wnt p false (bR (zGK D n [b] H) fun r H=>
 bV (aun .not r) fun t=>
 some (.norm [t],H)) (some (.norm [qN],H))) fun vs H=>hd vs fun u vs=>
 bV (pk3 (some p) (some (.bool true)) (some u)) fun v=>
 jn (wnt v false (bV (jV c) fun w=>
 bV (qP .gtr w (.int .i64 (.ofNat 200))) fun x=>
 some (.norm [x],H)) (some (.norm [qN],H))) fun vs H=>hd vs fun y vs=>
 bV (pk3 (some v) (some (.bool true)) (some y)) fun z=>
 cnd z (bV (jE [(0,1),(1,1),(2,1),(3,1)] [(.bool false), .nilSlice, .nilSlice, .nilSlice] []) fun B=>
 bR (stN 4 e B H) fun C H=>
 bV (ldN 4 e H) fun E=>bV (some (.int .i64 (.ofNat 1))) fun F=>some (.ret (.tuple [E,F]),H))
 (bV (fAd 1 d) fun G=>
 bV (ld1 G H) fun I=>
 bV (fAd 2 d) fun J=>
 bV (ld1 J H) fun K=>
 bA (bxV 133 (.agg [(.bool false), .nilSlice, .nilSlice, .nilSlice])) H fun M H=>
 bR (YD D n [I] H) fun N H=>chk (ld1 J H) K <|
 bR (YD D n [K] H) fun O H=>
 bV (jE [(0,1),(1,1),(2,1),(3,1)] [(.bool false), .nilSlice, .nilSlice, .nilSlice] [(0,(.bool true)),(1,N),(2,O)]) fun P=>
 bR (stN 4 M P H) fun Q H=>
 bV (ldN 4 d H) fun R=>
 bR (f70 D n [R,b] H) fun T H=>
 bV (fAd 1 d) fun U=>
 bV (ld1 U H) fun V=>
 bV (lnSl V) fun W=>
 bV (qP .lss T W) fun Y=>
 jn (wnt Y true (bV (fAd 1 d) fun Z=>
 bV (ld1 Z H) fun a0=>
 bV (yW 1 a0 T) fun a1=>
 bV (ld1 a1 H) fun a2=>
 bV (jY .eql a2 b) fun a3=>
 some (.norm [a3],H)) (some (.norm [qN],H))) fun vs H=>hd vs fun a4 vs=>
 bV (pk3 (some Y) (some a4) (some (.bool false))) fun a5=>
 cnd a5 (bV (fAd 2 M) fun a6=>
 bV (ld1 a6 H) fun a7=>
 bV (yW 1 a7 T) fun a8=>
 bR (stN 1 a8 c H) fun a9 H=>
 bV (ldN 4 M H) fun b0=>
 bR (stN 4 e b0 H) fun b1 H=>
 bV (ldN 4 e H) fun b2=>bV (some (.int .i64 (.ofNat 0))) fun b3=>some (.ret (.tuple [b2,b3]),H))
 (bV (fAd 1 M) fun b4=>
 bV (ld1 b4 H) fun b5=>
 bA (kZ 9 1 1 [(.str 0 0)] [(0,b)]) H fun b6 H=>
 bR (zLN D n [b5,T,b6] H) fun b7 H=>
 bV (fAd 1 M) fun b8=>
 bR (stN 1 b8 b7 H) fun b9 H=>
 bV (fAd 2 M) fun c0=>
 bV (ld1 c0 H) fun c1=>
 bA (kZ 9 1 1 [(.str 0 0)] [(0,c)]) H fun c2 H=>
 bR (zLN D n [c1,T,c2] H) fun c3 H=>
 bV (fAd 2 M) fun c4=>
 bR (stN 1 c4 c3 H) fun c5 H=>
 bV (ldN 4 M H) fun c6=>
 bR (stN 4 e c6 H) fun c7 H=>
 bV (ldN 4 e H) fun c8=>bV (some (.int .i64 (.ofNat 0))) fun c9=>some (.ret (.tuple [c8,c9]),H))))
def h65:Hint:=(.s .o (.s (.s .o (.cl (.s .o .o) .o)) (.s .o (.s .o (.s (.s .o (.cl (.s .o (.s .o .o)) .o)) (.s .o (.s .o (.s .o .o))))))))
theorem zJ4 {D:Dyn}(hD:DG D)(n:Nat):FI 65 (f65 D n):=qS (n:=n) (h:=h65) X_ok hD (sc (QQ hD n) (sc (WO hD n) (sc (WN hD n) (sc (gI hD n) (sc (zEn hD n) (SOk.nil)))))) Tryz.func65 (by kernel_rfl) (by kernel_rfl)
def s64 (D:Dyn)(n:Nat):Tb:=⟨X,[(65,f65 D n)]⟩
def f64 (D:Dyn)(n:Nat)(vs:List AV)(H:AH):Option (AV×AH):=
 outR (hd vs fun a vs=>hd vs fun b vs=>hd vs fun c vs=>nl vs <|
 bA (bxV 133 a) H fun d H=>
 bA (bxV 133 (.agg [(.bool false), .nilSlice, .nilSlice, .nilSlice])) H fun e H=>
 bV (ldN 4 d H) fun f=>
 bV (ld1 b H) fun g=>
 bV (ld1 c H) fun h=>
 bR (f65 D n [f,g,h] H) fun i H=>
 bV (qM i 0) fun k=>
 bV (qM i 1) fun m=>
 bR (stN 4 e k H) fun o H=>
 bV (ldN 4 e H) fun p=>bV (some m) fun r=>some (.ret (.tuple [p,r]),H))
def h64:Hint:=(.s .o (.s .o .o))
theorem zN4 {D:Dyn}(hD:DG D)(n:Nat):FI 64 (f64 D n):=qS (n:=n) (h:=h64) X_ok hD (sc (zJ4 hD n) (SOk.nil)) Tryz.func64 (by kernel_rfl) (by kernel_rfl)
def s20 (D:Dyn)(n:Nat):Tb:=⟨X,[(62,f62 D n),(63,f63 D n)]⟩
def f20 (D:Dyn)(n:Nat)(vs:List AV)(H:AH):Option (AV×AH):=
 outR (hd vs fun a vs=>hd vs fun b vs=>hd vs fun c vs=>nl vs <|
 bA (bxV 9 b) H fun d H=>
 bA (bxV 9 c) H fun e H=>
 bR (f62 D n [a] H) fun f H=>
 cnd f (bV (some (.int .i64 (.ofNat 2))) fun g=>some (.ret g,H))
 (bV (ld1 d H) fun h=>
 bV (jV h) fun i=>
 bV (qP .lss i (.int .i64 (.ofNat 1))) fun k=>
 jn (wnt k false (bV (ld1 d H) fun m=>
 bV (jV m) fun o=>
 bV (qP .gtr o (.int .i64 (.ofNat 40))) fun p=>
 some (.norm [p],H)) (some (.norm [qN],H))) fun vs H=>hd vs fun r vs=>
 bV (pk3 (some k) (some (.bool true)) (some r)) fun t=>
 jn (wnt t false (bV (ld1 e H) fun u=>
 bV (jV u) fun v=>
 bV (qP .gtr v (.int .i64 (.ofNat 200))) fun w=>
 some (.norm [w],H)) (some (.norm [qN],H))) fun vs H=>hd vs fun x vs=>
 bV (pk3 (some t) (some (.bool true)) (some x)) fun y=>
 cnd y (bV (some (.int .i64 (.ofNat 1))) fun z=>some (.ret z,H))
 (bV (ld1 d H) fun B=>
 bR (f63 D n [a,B,(.func 64 [] [d,e])] H) fun C H=>
 bV (some C) fun E=>some (.ret E,H))))
def h20:Hint:=(.s .o (.s (.s .o (.cl (.s .o .o) .o)) (.s (.s .o (.cl (.s .o .o) .o)) (.s .o .o))))
theorem zBy {D:Dyn}(hD:DG D)(n:Nat):FI 20 (f20 D n):=qS (n:=n) (h:=h20) X_ok hD (sc (dG hD n) (sc (zF0 hD n) (SOk.nil))) Tryz.func20 (by kernel_rfl) (by kernel_rfl)
def s15 (D:Dyn)(n:Nat):Tb:=⟨X,[(53,f53 D n),(54,f54 D n),(55,f55 D n),(23,f23 D n),(56,f56 D n),(20,f20 D n)]⟩
def zL1 (D:Dyn)(n:Nat)(vs:List AV)(H:AH):Rs:=
 hd vs fun a vs=>hd vs fun b vs=>hd vs fun c vs=>hd vs fun d vs=>hd vs fun e vs=>hd vs fun f vs=>hd vs fun g vs=>hd vs fun h vs=>hd vs fun i vs=>hd vs fun k vs=>hd vs fun m vs=>
 bV (qP .add m (.int .i64 (.ofNat 1))) fun o=>
 some (.norm [a,b,c,d,e,f,g,h,i,k,o],H)
def zCy (D:Dyn)(n:Nat)(vs:List AV)(H:AH):Rs:=
 hd vs fun a vs=>hd vs fun b vs=>hd vs fun c vs=>hd vs fun d vs=>hd vs fun e vs=>hd vs fun f vs=>hd vs fun g vs=>hd vs fun h vs=>hd vs fun i vs=>hd vs fun k vs=>hd vs fun m vs=>
 bV (qP .lss m k) fun o=>
 cnd o (bV (yW 4 i m) fun p=>
 bV (ldN 4 p H) fun r=>
 bA (bxV 118 (.agg [(.int .i64 (.ofNat 0)),(.int .u64 (.ofNat 0)),(.str 0 0),(.int .i64 (.ofNat 0))])) H fun t H=>
 bR (stN 4 t r H) fun u H=>
 bV (fAd 0 t) fun v=>
 bV (fAd 0 v) fun w=>
 bV (ld1 w H) fun x=>
 bV (qP .eql x c) fun y=>
 jn (cnd y (bV (ldN 4 t H) fun z=>
 bA (kZ 118 4 1 [(.int .i64 (.ofNat 0)),(.int .u64 (.ofNat 0)),(.str 0 0),(.int .i64 (.ofNat 0))] [(0,z)]) H fun B H=>
 bR (apP 118 4 40 g B H) fun C H=>
 some (.norm [a,b,c,d,e,f,C,h,i,k,m],H))
 (bV (ldN 4 t H) fun E=>
 bA (kZ 118 4 1 [(.int .i64 (.ofNat 0)),(.int .u64 (.ofNat 0)),(.str 0 0),(.int .i64 (.ofNat 0))] [(0,E)]) H fun F H=>
 bR (apP 118 4 40 h F H) fun G H=>
 some (.norm [a,b,c,d,e,f,g,G,i,k,m],H))) (zL1 D n))
 (some (.exit 0 [a,b,c,d,e,f,g,h],H))
def zFp (D:Dyn)(n:Nat)(vs:List AV)(H:AH):Rs:=
 hd vs fun a vs=>hd vs fun b vs=>hd vs fun c vs=>hd vs fun d vs=>hd vs fun e vs=>hd vs fun f vs=>hd vs fun g vs=>hd vs fun h vs=>hd vs fun i vs=>
 bV (qP .lss i h) fun k=>
 cnd k (bV (yW 4 g i) fun m=>
 bV (ldN 4 m H) fun o=>
 bA (bxV 118 (.agg [(.int .i64 (.ofNat 0)),(.int .u64 (.ofNat 0)),(.str 0 0),(.int .i64 (.ofNat 0))])) H fun p H=>
 bR (stN 4 p o H) fun r H=>
 bV (fAd 3 p) fun t=>
 bV (ld1 t H) fun u=>
 bR (f55 D n [b,u] H) fun v H=>
 bR (f23 D n [a,v] H) fun w H=>
 bV (qP .neq w (.int .i64 (.ofNat 0))) fun x=>
 cnd x (bV (some w) fun y=>some (.ret y,H))
 (bV (qP .add i (.int .i64 (.ofNat 1))) fun z=>
 some (.norm [a,b,c,d,e,f,g,h,z],H)))
 (some (.exit 2 [a,b,c,d,e,f],H))
def zNd (D:Dyn)(n:Nat)(vs:List AV)(H:AH):Rs:=
 hd vs fun a vs=>hd vs fun b vs=>hd vs fun c vs=>hd vs fun d vs=>hd vs fun e vs=>hd vs fun f vs=>
 bR (f55 D n [b,f] H) fun g H=>
 bV (cvI .u64 c) fun h=>
 bR (f56 D n [h,(.int .i64 (.ofNat 4))] H) fun i H=>
 bR (f56 D n [d,(.int .i64 (.ofNat 8))] H) fun k H=>
 bV (jY .add i k) fun m=>
 bV (jY .add m e) fun o=>
 bR (f20 D n [a,g,o] H) fun p H=>
 bV (some p) fun r=>some (.ret r,H)
def zL0 (D:Dyn)(n:Nat)(vs:List AV)(H:AH):Rs:=
 hd vs fun a vs=>hd vs fun b vs=>hd vs fun c vs=>hd vs fun d vs=>hd vs fun e vs=>hd vs fun f vs=>hd vs fun g vs=>
 bV (lnSl g) fun h=>
 jb 2 (qV n (zFp D n) [a,b,c,d,e,f,g,h,(.int .i64 (.ofNat 0))] H) (zNd D n)
def zHY (D:Dyn)(n:Nat)(vs:List AV)(H:AH):Rs:=
 hd vs fun a vs=>hd vs fun b vs=>hd vs fun c vs=>hd vs fun d vs=>hd vs fun e vs=>hd vs fun f vs=>hd vs fun g vs=>hd vs fun h vs=>
 bV (lnSl h) fun i=>
 bV (qP .sub i (.int .i64 (.ofNat 7))) fun k=>
 bV (qP .gtr k (.int .i64 (.ofNat 0))) fun m=>
 jn (cnd m (bV (j9 4 h none (some k) none H) fun o=>
 bR (apP 118 4 40 g o H) fun p H=>
 some (.norm [a,b,c,d,e,f,p],H))
 (some (.norm [a,b,c,d,e,f,g],H))) (zL0 D n)
def zKZ (D:Dyn)(n:Nat)(vs:List AV)(H:AH):Rs:=
 hd vs fun a vs=>hd vs fun b vs=>hd vs fun c vs=>hd vs fun d vs=>hd vs fun e vs=>hd vs fun f vs=>hd vs fun g vs=>
 bV (lnSl f) fun h=>
 jb 0 (qV n (zCy D n) [a,b,c,d,e,g, .nilSlice, .nilSlice,f,h,(.int .i64 (.ofNat 0))] H) (zHY D n)
def f15 (D:Dyn)(n:Nat)(vs:List AV)(H:AH):Option (AV×AH):=
 outR (hd vs fun a vs=>hd vs fun b vs=>hd vs fun c vs=>hd vs fun d vs=>hd vs fun e vs=>nl vs <|
 bR (f53 D n [a,b] H) fun f H=>
 bV (qM f 0) fun g=>
 bV (qM f 1) fun h=>
 bV (qP .neq h (.int .i64 (.ofNat 0))) fun i=>
 cnd i (bV (some h) fun k=>some (.ret k,H))
 (bR (f54 D n [c] H) fun m H=>
 bV (aun .not m) fun o=>
 cnd o (bV (some (.int .i64 (.ofNat 1))) fun p=>some (.ret p,H))
 (bV (jV e) fun r=>
 bV (qP .gtr r (.int .i64 (.ofNat 188))) fun t=>
 cnd t (bV (some (.int .i64 (.ofNat 40))) fun u=>some (.ret u,H))
 (bV (lnSl g) fun v=>
 bV (qP .gtr v (.int .i64 (.ofNat 0))) fun w=>
 jn (cnd w (bV (lnSl g) fun x=>
 bV (qP .sub x (.int .i64 (.ofNat 1))) fun y=>
 bV (yW 4 g y) fun z=>
 bV (fAd 3 z) fun B=>
 bV (ld1 B H) fun C=>
 bV (qP .geq C (.int .i64 (.ofNat 2147483647))) fun E=>
 cnd E (bV (some (.int .i64 (.ofNat 3))) fun F=>some (.ret F,H))
 (bV (qP .add C (.int .i64 (.ofNat 1))) fun G=>
 some (.norm [a,b,c,d,e,g,G],H)))
 (some (.norm [a,b,c,d,e,g,(.int .i64 (.ofNat 1))],H))) (zKZ D n)))))
def h15:Hint:=(.s .o (.s .o (.s (.s .o (.cl (.s .o .o) .o)) (.s (.s .o (.cl (.s .o .o) .o)) (.s (.s .o (.cl (.s .o .o) .o)) (.s .o (.s (.s .o (.c [0,1,2,3,4,11,13] (.s .o (.s (.s .o (.cl (.s .o .o) .o)) .o)) .o)) (.s .o (.s (.s .o (.b [0,1,2,3,4,13,15,16] (.l [0,1,2,3,4,13,15,16,52,53,54] (.s .o (.s (.cr .o .o) (.s (.b0 (.s .o (.s .o (.c [0,1,2,3,4,13,15,16,52,53,54] .o .o)))) .o)))))) (.s (.s .o (.s .o (.c [0,1,2,3,4,13,15] .o .o))) (.s (.s .o (.b [0,1,2,3,4,13] (.l [0,1,2,3,4,13,82,83,84] (.s .o (.s (.cr .o .o) (.s (.b0 (.s .o (.s .o (.s .o (.cl (.s .o .o) .o))))) .o)))))) (.s .o .o))))))))))))
theorem zBC {D:Dyn}(hD:DG D)(n:Nat):FI 15 (f15 D n):=qS (n:=n) (h:=h15) X_ok hD (sc (zBx hD n) (sc (zF5 hD n) (sc (zJ6 hD n) (sc (zJe hD n) (sc (zF4 hD n) (sc (zBy hD n) (SOk.nil))))))) Tryz.func15 (by kernel_rfl) (by kernel_rfl)
def s57 (D:Dyn)(n:Nat):Tb:=⟨X,[]⟩
def zAk (D:Dyn)(n:Nat)(vs:List AV)(H:AH):Rs:=
 hd vs fun a vs=>hd vs fun b vs=>hd vs fun c vs=>hd vs fun d vs=>hd vs fun e vs=>
 bV (qP .lss e d) fun f=>
 cnd f (bV (yW 4 c e) fun g=>
 bV (ldN 4 g H) fun h=>
 bA (bxV 118 (.agg [(.int .i64 (.ofNat 0)),(.int .u64 (.ofNat 0)),(.str 0 0),(.int .i64 (.ofNat 0))])) H fun i H=>
 bR (stN 4 i h H) fun k H=>
 bV (ldN 4 i H) fun m=>
 bR (callV (s57 D n).S D a [m] H) fun o H=>
 cnd o (bV (ldN 4 i H) fun p=>
 bR (stN 4 b p H) fun r H=>
 bV (ldN 4 b H) fun t=>bV (some (.bool true)) fun u=>some (.ret (.tuple [t,u]),H))
 (bV (qP .add e (.int .i64 (.ofNat 1))) fun v=>
 some (.norm [a,b,c,d,v],H)))
 (some (.exit 0 [b],H))
def zKU (D:Dyn)(n:Nat)(vs:List AV)(H:AH):Rs:=
 hd vs fun a vs=>
 bV (jE [(0,3),(3,1)] [(.int .i64 (.ofNat 0)),(.int .u64 (.ofNat 0)),(.str 0 0),(.int .i64 (.ofNat 0))] []) fun b=>
 bR (stN 4 a b H) fun c H=>
 bV (ldN 4 a H) fun d=>bV (some (.bool false)) fun e=>some (.ret (.tuple [d,e]),H)
def f57 (D:Dyn)(n:Nat)(vs:List AV)(H:AH):Option (AV×AH):=
 outR (hd vs fun a vs=>hd vs fun b vs=>nl vs <|
 bA (bxV 118 (.agg [(.int .i64 (.ofNat 0)),(.int .u64 (.ofNat 0)),(.str 0 0),(.int .i64 (.ofNat 0))])) H fun c H=>
 bV (lnSl a) fun d=>
 jb 0 (qV n (zAk D n) [b,c,a,d,(.int .i64 (.ofNat 0))] H) (zKU D n))
def h57:Hint:=(.s .o (.s (.s .o (.b [4] (.l [1,4,8,9,10] (.s .o (.s (.cr .o .o) (.s (.b0 (.s .o (.s .o (.cl (.s .o .o) .o)))) .o)))))) (.s .o .o)))
theorem zJ5 {D:Dyn}(hD:DG D)(n:Nat):FI 57 (f57 D n):=qS (n:=n) (h:=h57) X_ok hD (SOk.nil) Tryz.func57 (by kernel_rfl) (by kernel_rfl)
def s58 (D:Dyn)(n:Nat):Tb:=⟨X,[]⟩
def f58 (D:Dyn)(n:Nat)(vs:List AV)(H:AH):Option (AV×AH):=
 outR (hd vs fun a vs=>hd vs fun b vs=>hd vs fun c vs=>nl vs <|
 bA (bxV 118 a) H fun d H=>
 bV (fAd 0 d) fun e=>
 bV (fAd 0 e) fun f=>
 bV (ld1 f H) fun g=>
 bV (ld1 b H) fun h=>
 bV (qP .eql g h) fun i=>
 jn (wnt i true (bV (fAd 0 d) fun k=>
 bV (fAd 1 k) fun m=>
 bV (ld1 m H) fun o=>
 bV (ld1 c H) fun p=>
 bV (qP .eql o p) fun r=>
 some (.norm [r],H)) (some (.norm [qN],H))) fun vs H=>hd vs fun t vs=>
 bV (pk3 (some i) (some t) (some (.bool false))) fun u=>
 bV (some u) fun v=>some (.ret v,H))
def h58:Hint:=(.s .o (.s .o .o))
theorem zN8 {D:Dyn}(hD:DG D)(n:Nat):FI 58 (f58 D n):=qS (n:=n) (h:=h58) X_ok hD (SOk.nil) Tryz.func58 (by kernel_rfl) (by kernel_rfl)
def s17 (D:Dyn)(n:Nat):Tb:=⟨X,[(53,f53 D n),(54,f54 D n),(57,f57 D n)]⟩
def f17 (D:Dyn)(n:Nat)(vs:List AV)(H:AH):Option (AV×AH):=
 outR (hd vs fun a vs=>hd vs fun b vs=>hd vs fun c vs=>hd vs fun d vs=>nl vs <|
 bA (bxV 3 c) H fun e H=>
 bA (bxV 28 d) H fun f H=>
 bR (f53 D n [a,b] H) fun g H=>
 bV (qM g 0) fun h=>
 bV (qM g 1) fun i=>
 bV (qP .neq i (.int .i64 (.ofNat 0))) fun k=>
 cnd k (bV (some (.str 0 0)) fun m=>bV (some i) fun o=>some (.ret (.tuple [m,o]),H))
 (bV (ld1 e H) fun p=>
 bR (f54 D n [p] H) fun r H=>
 bV (aun .not r) fun t=>
 cnd t (bV (some (.str 0 0)) fun u=>bV (some (.int .i64 (.ofNat 1))) fun v=>some (.ret (.tuple [u,v]),H))
 (bR (f57 D n [h,(.func 58 [] [e,f])] H) fun w H=>
 bV (qM w 0) fun x=>
 bV (qM w 1) fun y=>
 bA (bxV 118 (.agg [(.int .i64 (.ofNat 0)),(.int .u64 (.ofNat 0)),(.str 0 0),(.int .i64 (.ofNat 0))])) H fun z H=>
 bR (stN 4 z x H) fun B H=>
 bV (aun .not y) fun C=>
 cnd C (bV (some (.str 0 0)) fun E=>bV (some (.int .i64 (.ofNat 5))) fun F=>some (.ret (.tuple [E,F]),H))
 (bV (fAd 0 z) fun G=>
 bV (fAd 2 G) fun I=>
 bV (ld1 I H) fun J=>
 bV (some J) fun K=>bV (some (.int .i64 (.ofNat 0))) fun M=>some (.ret (.tuple [K,M]),H)))))
def h17:Hint:=(.s .o (.s .o (.s (.s .o (.cl (.s .o .o) .o)) (.s (.s .o (.cl (.s .o .o) .o)) (.s .o (.s (.s .o (.cl (.s .o .o) .o)) (.s .o .o)))))))
theorem zBB {D:Dyn}(hD:DG D)(n:Nat):FI 17 (f17 D n):=qS (n:=n) (h:=h17) X_ok hD (sc (zBx hD n) (sc (zF5 hD n) (sc (zJ5 hD n) (SOk.nil)))) Tryz.func17 (by kernel_rfl) (by kernel_rfl)
def s50 (D:Dyn)(n:Nat):Tb:=⟨X,[(17,f17 D n)]⟩
def f50 (D:Dyn)(n:Nat)(vs:List AV)(H:AH):Option (AV×AH):=
 outR (hd vs fun a vs=>hd vs fun b vs=>hd vs fun c vs=>hd vs fun d vs=>hd vs fun e vs=>nl vs <|
 bR (f17 D n [a,b,c,d] H) fun f H=>
 bV (qM f 0) fun g=>
 bV (qM f 1) fun h=>
 bV (qP .eql h (.int .i64 (.ofNat 0))) fun i=>
 jn (wnt i true (bV (jY .eql g e) fun k=>
 some (.norm [k],H)) (some (.norm [qN],H))) fun vs H=>hd vs fun m vs=>
 bV (pk3 (some i) (some m) (some (.bool false))) fun o=>
 bV (some o) fun p=>some (.ret p,H))
def h50:Hint:=(.s .o (.s .o (.s .o .o)))
theorem zJ9 {D:Dyn}(hD:DG D)(n:Nat):FI 50 (f50 D n):=qS (n:=n) (h:=h50) X_ok hD (sc (zBB hD n) (SOk.nil)) Tryz.func50 (by kernel_rfl) (by kernel_rfl)
def s51 (D:Dyn)(n:Nat):Tb:=⟨X,[(17,f17 D n)]⟩
def f51 (D:Dyn)(n:Nat)(vs:List AV)(H:AH):Option (AV×AH):=
 outR (hd vs fun a vs=>hd vs fun b vs=>hd vs fun c vs=>hd vs fun d vs=>nl vs <|
 bR (f17 D n [a,b,c,d] H) fun e H=>
 bV (qM e 0) fun f=>
 bV (qM e 1) fun g=>
 bV (qP .eql g (.int .i64 (.ofNat 5))) fun h=>
 jn (wnt h true (bV (jY .eql f (.str 0 0)) fun i=>
 some (.norm [i],H)) (some (.norm [qN],H))) fun vs H=>hd vs fun k vs=>
 bV (pk3 (some h) (some k) (some (.bool false))) fun m=>
 bV (some m) fun o=>some (.ret o,H))
def h51:Hint:=(.s .o (.s .o (.s .o .o)))
theorem zJ8 {D:Dyn}(hD:DG D)(n:Nat):FI 51 (f51 D n):=qS (n:=n) (h:=h51) X_ok hD (sc (zBB hD n) (SOk.nil)) Tryz.func51 (by kernel_rfl) (by kernel_rfl)
def s16 (D:Dyn)(n:Nat):Tb:=⟨X,[(53,f53 D n)]⟩
def zFh (D:Dyn)(n:Nat)(vs:List AV)(H:AH):Rs:=
 hd vs fun a vs=>hd vs fun b vs=>hd vs fun c vs=>hd vs fun d vs=>hd vs fun e vs=>
 bV (qP .lss e d) fun f=>
 cnd f (bV (yW 4 c e) fun g=>
 bV (ldN 4 g H) fun h=>
 bA (bxV 118 (.agg [(.int .i64 (.ofNat 0)),(.int .u64 (.ofNat 0)),(.str 0 0),(.int .i64 (.ofNat 0))])) H fun i H=>
 bR (stN 4 i h H) fun k H=>
 bV (fAd 0 i) fun m=>
 bV (ldN 3 m H) fun o=>
 bA (kZ 35 3 1 [(.int .i64 (.ofNat 0)),(.int .u64 (.ofNat 0)),(.str 0 0)] [(0,o)]) H fun p H=>
 bR (apP 35 3 32 b p H) fun r H=>
 bV (qP .add e (.int .i64 (.ofNat 1))) fun t=>
 some (.norm [a,r,c,d,t],H))
 (some (.exit 0 [a,b],H))
def zNc (D:Dyn)(n:Nat)(vs:List AV)(H:AH):Rs:=
 hd vs fun a vs=>hd vs fun b vs=>
 bV (some b) fun c=>bV (some a) fun d=>some (.ret (.tuple [c,d]),H)
def f16 (D:Dyn)(n:Nat)(vs:List AV)(H:AH):Option (AV×AH):=
 outR (hd vs fun a vs=>hd vs fun b vs=>nl vs <|
 bR (f53 D n [a,b] H) fun c H=>
 bV (qM c 0) fun d=>
 bV (qM c 1) fun e=>
 bV (lnSl d) fun f=>
 jb 0 (qV n (zFh D n) [e, .nilSlice,d,f,(.int .i64 (.ofNat 0))] H) (zNc D n))
def h16:Hint:=(.s .o (.s .o (.s .o (.s (.s .o (.b [7,8] (.l [7,8,17,18,19] (.s .o (.s (.cr .o .o) (.s (.b0 (.s .o .o)) .o)))))) (.s .o .o)))))
theorem zFi {D:Dyn}(hD:DG D)(n:Nat):FI 16 (f16 D n):=qS (n:=n) (h:=h16) X_ok hD (sc (zBx hD n) (SOk.nil)) Tryz.func16 (by kernel_rfl) (by kernel_rfl)
def s52 (D:Dyn)(n:Nat):Tb:=⟨X,[(16,f16 D n)]⟩
def f52l0 (D:Dyn)(n:Nat)(vs:List AV)(H:AH):Rs:=
 hd vs fun a vs=>hd vs fun b vs=>hd vs fun c vs=>
 bV (lnSl b) fun d=>
 bV (qP .lss c d) fun e=>
 cnd e (bV (yW 3 b c) fun f=>
 bV (fAd 0 f) fun g=>
 bV (ld1 g H) fun h=>
 bV (yW 1 a c) fun i=>
 bV (ld1 i H) fun k=>
 bV (qP .neq h k) fun m=>
 cnd m (bV (some (.bool false)) fun o=>some (.ret o,H))
 (bV (qP .add c (.int .i64 (.ofNat 1))) fun p=>
 some (.norm [a,b,p],H)))
 (some (.exit 0 [],H))
def f52b1 (D:Dyn)(n:Nat)(vs:List AV)(H:AH):Rs:=
 bV (some (.bool true)) fun a=>some (.ret a,H)
def f52 (D:Dyn)(n:Nat)(vs:List AV)(H:AH):Option (AV×AH):=
 outR (hd vs fun a vs=>hd vs fun b vs=>hd vs fun c vs=>nl vs <|
 bR (f16 D n [a,b] H) fun d H=>
 bV (qM d 0) fun e=>
 bV (qM d 1) fun f=>
 bV (qP .neq f (.int .i64 (.ofNat 0))) fun g=>
 jn (wnt g false (bV (lnSl e) fun h=>
 bV (lnSl c) fun i=>
 bV (qP .neq h i) fun k=>
 some (.norm [k],H)) (some (.norm [qN],H))) fun vs H=>hd vs fun m vs=>
 bV (pk3 (some g) (some (.bool true)) (some m)) fun o=>
 cnd o (bV (some (.bool false)) fun p=>some (.ret p,H))
 (jb 0 (qV n (f52l0 D n) [c,e,(.int .i64 (.ofNat 0))] H) (f52b1 D n)))
def h52:Hint:=(.s .o (.s .o (.s (.s .o (.cl (.s .o .o) .o)) (.s (.s .o (.b [] (.l [2,7,9] (.s (.s .o (.cr .o .o)) (.s (.b0 (.s .o (.cl (.s .o .o) .o))) .o))))) (.s .o .o)))))
theorem zJ7 {D:Dyn}(hD:DG D)(n:Nat):FI 52 (f52 D n):=qS (n:=n) (h:=h52) X_ok hD (sc (zFi hD n) (SOk.nil)) Tryz.func52 (by kernel_rfl) (by kernel_rfl)
def s14 (D:Dyn)(n:Nat):Tb:=⟨X,[(13,f13 D n),(15,f15 D n),(50,f50 D n),(51,f51 D n),(52,f52 D n)]⟩
def f14l0 (D:Dyn)(n:Nat)(vs:List AV)(H:AH):Rs:=
 hd vs fun a vs=>hd vs fun b vs=>
 bV (qP .lss b (.int .i64 (.ofNat 16))) fun c=>
 cnd c (bR (f15 D n [a,(.int .i64 (.ofNat 1)),b,(.int .u64 (.ofNat 5)),(.str 0 0)] H) fun d H=>
 bV (qP .neq d (.int .i64 (.ofNat 0))) fun e=>
 cnd e (bV (some (.bool false)) fun f=>some (.ret f,H))
 (bV (qP .add b (.int .i64 (.ofNat 1))) fun g=>
 some (.norm [a,g],H)))
 (some (.exit 0 [a],H))
def f14b1 (D:Dyn)(n:Nat)(vs:List AV)(H:AH):Rs:=
 hd vs fun a vs=>
 bR (f51 D n [a,(.int .i64 (.ofNat 1)),(.int .i64 (.ofNat 7)),(.int .u64 (.ofNat 5))] H) fun b H=>
 jn (wnt b true (bA (kZ 3 1 8 [(.int .i64 (.ofNat 0))] [(0,(.int .i64 (.ofNat 8))),(1,(.int .i64 (.ofNat 9))),(2,(.int .i64 (.ofNat 10))),(3,(.int .i64 (.ofNat 11))),(4,(.int .i64 (.ofNat 12))),(5,(.int .i64 (.ofNat 13))),(6,(.int .i64 (.ofNat 14))),(7,(.int .i64 (.ofNat 15)))]) H fun c H=>
 bR (f52 D n [a,(.int .i64 (.ofNat 1)),c] H) fun d H=>
 some (.norm [d],H)) (some (.norm [qN],H))) fun vs H=>hd vs fun e vs=>
 bV (pk3 (some b) (some e) (some (.bool false))) fun f=>
 jn (wnt f true (bR (f15 D n [a,(.int .i64 (.ofNat 1)),(.int .i64 (.ofNat 9)),(.int .u64 (.ofNat 1)),(.str 5 474214393697)] H) fun g H=>
 bV (qP .eql g (.int .i64 (.ofNat 0))) fun h=>
 some (.norm [h],H)) (some (.norm [qN],H))) fun vs H=>hd vs fun i vs=>
 bV (pk3 (some f) (some i) (some (.bool false))) fun k=>
 jn (wnt k true (bA (kZ 3 1 8 [(.int .i64 (.ofNat 0))] [(0,(.int .i64 (.ofNat 8))),(1,(.int .i64 (.ofNat 10))),(2,(.int .i64 (.ofNat 11))),(3,(.int .i64 (.ofNat 12))),(4,(.int .i64 (.ofNat 13))),(5,(.int .i64 (.ofNat 14))),(6,(.int .i64 (.ofNat 15))),(7,(.int .i64 (.ofNat 9)))]) H fun m H=>
 bR (f52 D n [a,(.int .i64 (.ofNat 1)),m] H) fun o H=>
 some (.norm [o],H)) (some (.norm [qN],H))) fun vs H=>hd vs fun p vs=>
 bV (pk3 (some k) (some p) (some (.bool false))) fun r=>
 jn (wnt r true (bR (f51 D n [a,(.int .i64 (.ofNat 1)),(.int .i64 (.ofNat 9)),(.int .u64 (.ofNat 5))] H) fun t H=>
 some (.norm [t],H)) (some (.norm [qN],H))) fun vs H=>hd vs fun u vs=>
 bV (pk3 (some r) (some u) (some (.bool false))) fun v=>
 jn (wnt v true (bR (f50 D n [a,(.int .i64 (.ofNat 1)),(.int .i64 (.ofNat 9)),(.int .u64 (.ofNat 1)),(.str 5 474214393697)] H) fun w H=>
 some (.norm [w],H)) (some (.norm [qN],H))) fun vs H=>hd vs fun x vs=>
 bV (pk3 (some v) (some x) (some (.bool false))) fun y=>
 bV (some y) fun z=>some (.ret z,H)
def f14 (D:Dyn)(n:Nat)(vs:List AV)(H:AH):Option (AV×AH):=
 outR (nl vs <|
 bR (f13 D n [] H) fun a H=>
 bV (u9 .eql (eqP a .nilPtr)) fun b=>
 jn (wnt b false (bR (f15 D n [a,(.int .i64 (.ofNat 1)),(.int .i64 (.ofNat 7)),(.int .u64 (.ofNat 5)),(.str 3 7562617)] H) fun c H=>
 bV (qP .neq c (.int .i64 (.ofNat 0))) fun d=>
 some (.norm [d],H)) (some (.norm [qN],H))) fun vs H=>hd vs fun e vs=>
 bV (pk3 (some b) (some (.bool true)) (some e)) fun f=>
 jn (wnt f false (bR (f50 D n [a,(.int .i64 (.ofNat 1)),(.int .i64 (.ofNat 7)),(.int .u64 (.ofNat 5)),(.str 3 7562617)] H) fun g H=>
 bV (aun .not g) fun h=>
 some (.norm [h],H)) (some (.norm [qN],H))) fun vs H=>hd vs fun i vs=>
 bV (pk3 (some f) (some (.bool true)) (some i)) fun k=>
 jn (wnt k false (bR (f51 D n [a,(.int .i64 (.ofNat 1)),(.int .i64 (.ofNat 7)),(.int .u64 (.ofNat 6))] H) fun m H=>
 bV (aun .not m) fun o=>
 some (.norm [o],H)) (some (.norm [qN],H))) fun vs H=>hd vs fun p vs=>
 bV (pk3 (some k) (some (.bool true)) (some p)) fun r=>
 jn (wnt r false (bR (f51 D n [a,(.int .i64 (.ofNat 2)),(.int .i64 (.ofNat 7)),(.int .u64 (.ofNat 5))] H) fun t H=>
 bV (aun .not t) fun u=>
 some (.norm [u],H)) (some (.norm [qN],H))) fun vs H=>hd vs fun v vs=>
 bV (pk3 (some r) (some (.bool true)) (some v)) fun w=>
 cnd w (bV (some (.bool false)) fun x=>some (.ret x,H))
 (jb 0 (qV n (f14l0 D n) [a,(.int .i64 (.ofNat 8))] H) (f14b1 D n)))
def h14:Hint:=(.s .o (.s .o (.s (.s .o (.cl (.s .o .o) .o)) (.s (.s .o (.b [1] (.l [1,2] (.s (.s .o (.cr .o .o)) (.s (.b0 (.s .o (.cl (.s .o .o) .o))) .o))))) (.s .o .o)))))
theorem zBD {D:Dyn}(hD:DG D)(n:Nat):FI 14 (f14 D n):=qS (n:=n) (h:=h14) X_ok hD (sc (zBF hD n) (sc (zBC hD n) (sc (zJ9 hD n) (sc (zJ8 hD n) (sc (zJ7 hD n) (SOk.nil)))))) Tryz.func14 (by kernel_rfl) (by kernel_rfl)
def s24 (D:Dyn)(n:Nat):Tb:=⟨X,[]⟩
def WK (D:Dyn)(n:Nat)(vs:List AV)(H:AH):Rs:=
 hd vs fun a vs=>hd vs fun b vs=>hd vs fun c vs=>
 bV (lnSl a) fun d=>
 bV (qP .lss c d) fun e=>
 jn (wnt e true (bV (qP .lss b (.int .i64 (.ofNat 20000))) fun f=>
 some (.norm [f],H)) (some (.norm [qN],H))) fun vs H=>hd vs fun g vs=>
 bV (pk3 (some e) (some g) (some (.bool false))) fun h=>
 cnd h (bV (yW 6 a c) fun i=>
 bV (fAd 4 i) fun k=>
 bV (ld1 k H) fun m=>
 bV (jV m) fun o=>
 bV (qP .gtr o (.int .i64 (.ofNat 1000))) fun p=>
 jn (wnt p false (bV (yW 6 a c) fun r=>
 bV (fAd 5 r) fun t=>
 bV (ld1 t H) fun u=>
 bV (jV u) fun v=>
 bV (qP .gtr v (.int .i64 (.ofNat 1000))) fun w=>
 some (.norm [w],H)) (some (.norm [qN],H))) fun vs H=>hd vs fun x vs=>
 bV (pk3 (some p) (some (.bool true)) (some x)) fun y=>
 cnd y (bV (some (.bool true)) fun z=>some (.ret z,H))
 (bV (qP .add b (.int .i64 (.ofNat 1))) fun B=>
 bV (yW 6 a c) fun C=>
 bV (fAd 4 C) fun E=>
 bV (ld1 E H) fun F=>
 bV (jV F) fun G=>
 bV (qP .add B G) fun I=>
 bV (yW 6 a c) fun J=>
 bV (fAd 5 J) fun K=>
 bV (ld1 K H) fun M=>
 bV (jV M) fun N=>
 bV (qP .add I N) fun O=>
 bV (qP .add c (.int .i64 (.ofNat 1))) fun P=>
 some (.norm [a,O,P],H)))
 (some (.exit 0 [a,b],H))
def zFc (D:Dyn)(n:Nat)(vs:List AV)(H:AH):Rs:=
 hd vs fun a vs=>hd vs fun b vs=>
 bV (qP .geq b (.int .i64 (.ofNat 20000))) fun c=>
 jn (wnt c false (bV (lnSl a) fun d=>
 bV (qP .gtr d (.int .i64 (.ofNat 120))) fun e=>
 some (.norm [e],H)) (some (.norm [qN],H))) fun vs H=>hd vs fun f vs=>
 bV (pk3 (some c) (some (.bool true)) (some f)) fun g=>
 bV (some g) fun h=>some (.ret h,H)
def f24 (D:Dyn)(n:Nat)(vs:List AV)(H:AH):Option (AV×AH):=
 outR (hd vs fun a vs=>nl vs <|
 jb 0 (qV n (WK D n) [a,(.int .i64 (.ofNat 0)),(.int .i64 (.ofNat 0))] H) (zFc D n))
def h24:Hint:=(.s .o (.s .o (.s (.s .o (.b [0,3] (.l [0,3,4] (.s (.s .o (.cr .o .o)) (.s (.b0 (.s (.s .o (.cl (.s .o .o) .o)) .o)) .o))))) (.s .o .o))))
theorem zFd {D:Dyn}(hD:DG D)(n:Nat):FI 24 (f24 D n):=qS (n:=n) (h:=h24) X_ok hD (SOk.nil) Tryz.func24 (by kernel_rfl) (by kernel_rfl)
def s25 (D:Dyn)(n:Nat):Tb:=⟨X,[(16,f16 D n),(17,f17 D n)]⟩
def zAm (D:Dyn)(n:Nat)(vs:List AV)(H:AH):Rs:=
 hd vs fun a vs=>hd vs fun b vs=>hd vs fun c vs=>hd vs fun d vs=>hd vs fun e vs=>hd vs fun f vs=>hd vs fun g vs=>hd vs fun h vs=>hd vs fun i vs=>hd vs fun k vs=>
 bV (lnSl f) fun m=>
 bV (qP .lss k m) fun o=>
 cnd o (jn (wnt i false (bV (yW 1 f k) fun p=>
 bV (ld1 p H) fun r=>
 bV (fAd 1 h) fun t=>
 bV (ld1 t H) fun u=>
 bV (qP .eql r u) fun v=>
 some (.norm [v],H)) (some (.norm [qN],H))) fun vs H=>hd vs fun w vs=>
 bV (pk3 (some i) (some (.bool true)) (some w)) fun x=>
 bV (qP .add k (.int .i64 (.ofNat 1))) fun y=>
 some (.norm [a,b,c,d,e,f,g,h,x,y],H))
 (some (.exit 2 [a,b,c,d,e,f,g,h,i],H))
def zFa (D:Dyn)(n:Nat)(vs:List AV)(H:AH):Rs:=
 hd vs fun a vs=>hd vs fun b vs=>hd vs fun c vs=>hd vs fun d vs=>hd vs fun e vs=>hd vs fun f vs=>hd vs fun g vs=>hd vs fun h vs=>hd vs fun i vs=>
 cnd i (some (.exit 1 [a,b,c,d,e,f,g],H))
 (bV (fAd 1 h) fun k=>
 bV (ld1 k H) fun m=>
 bA (kZ 3 1 1 [(.int .i64 (.ofNat 0))] [(0,m)]) H fun o H=>
 bR (apP 3 1 8 f o H) fun p H=>
 bV (fAd 1 h) fun r=>
 bV (ld1 r H) fun t=>
 bV (fAd 2 h) fun u=>
 bV (ld1 u H) fun v=>
 bR (f17 D n [a,c,t,v] H) fun w H=>
 bV (qM w 0) fun x=>
 bV (qM w 1) fun y=>
 bV (fAd 1 h) fun z=>
 bV (ld1 z H) fun B=>
 bV (fAd 2 h) fun C=>
 bV (ld1 C H) fun E=>
 bV (qP .add E (.int .u64 (.ofNat 1))) fun F=>
 bR (f17 D n [a,c,B,F] H) fun G H=>
 bV (qM G 0) fun I=>
 bV (qM G 1) fun J=>
 bV (qP .neq J (.int .i64 (.ofNat 5))) fun K=>
 cnd K (bV (some (.bool false)) fun M=>some (.ret M,H))
 (bV (lnSl p) fun N=>
 bV (qP .gtr N (.int .i64 (.ofNat 8))) fun O=>
 cnd O (bV (qP .neq y (.int .i64 (.ofNat 5))) fun P=>
 cnd P (bV (some (.bool false)) fun Q=>some (.ret Q,H))
 (some (.exit 1 [a,b,c,d,e,p,g],H)))
 (bV (qP .sub e (.int .i64 (.ofNat 1))) fun R=>
 bV (qP .neq y (.int .i64 (.ofNat 0))) fun T=>
 jn (wnt T false (bV (fAd 3 h) fun U=>
 bV (ld1 U H) fun V=>
 bV (jY .neq x V) fun W=>
 some (.norm [W],H)) (some (.norm [qN],H))) fun vs H=>hd vs fun Y vs=>
 bV (pk3 (some T) (some (.bool true)) (some Y)) fun Z=>
 jn (wnt Z false (bV (qP .lss R (.int .i64 (.ofNat 0))) fun a0=>
 some (.norm [a0],H)) (some (.norm [qN],H))) fun vs H=>hd vs fun a1 vs=>
 bV (pk3 (some Z) (some (.bool true)) (some a1)) fun a2=>
 jn (wnt a2 false (bV (yW 3 d R) fun a3=>
 bV (fAd 0 a3) fun a4=>
 bV (ld1 a4 H) fun a5=>
 bV (fAd 1 h) fun a6=>
 bV (ld1 a6 H) fun a7=>
 bV (qP .neq a5 a7) fun a8=>
 some (.norm [a8],H)) (some (.norm [qN],H))) fun vs H=>hd vs fun a9 vs=>
 bV (pk3 (some a2) (some (.bool true)) (some a9)) fun b0=>
 jn (wnt b0 false (bV (yW 3 d R) fun b1=>
 bV (fAd 1 b1) fun b2=>
 bV (ld1 b2 H) fun b3=>
 bV (fAd 2 h) fun b4=>
 bV (ld1 b4 H) fun b5=>
 bV (qP .neq b3 b5) fun b6=>
 some (.norm [b6],H)) (some (.norm [qN],H))) fun vs H=>hd vs fun b7 vs=>
 bV (pk3 (some b0) (some (.bool true)) (some b7)) fun b8=>
 jn (wnt b8 false (bV (yW 3 d R) fun b9=>
 bV (fAd 2 b9) fun c0=>
 bV (ld1 c0 H) fun c1=>
 bV (fAd 3 h) fun c2=>
 bV (ld1 c2 H) fun c3=>
 bV (jY .neq c1 c3) fun c4=>
 some (.norm [c4],H)) (some (.norm [qN],H))) fun vs H=>hd vs fun c5 vs=>
 bV (pk3 (some b8) (some (.bool true)) (some c5)) fun c6=>
 cnd c6 (bV (some (.bool false)) fun c7=>some (.ret c7,H))
 (some (.norm [a,b,c,d,R,p,g],H)))))
def zF9 (D:Dyn)(n:Nat)(vs:List AV)(H:AH):Rs:=
 hd vs fun a vs=>hd vs fun b vs=>hd vs fun c vs=>hd vs fun d vs=>hd vs fun e vs=>hd vs fun f vs=>hd vs fun g vs=>
 bV (qP .sub g (.int .i64 (.ofNat 1))) fun h=>
 some (.norm [a,b,c,d,e,f,h],H)
def WJ (D:Dyn)(n:Nat)(vs:List AV)(H:AH):Rs:=
 hd vs fun a vs=>hd vs fun b vs=>hd vs fun c vs=>hd vs fun d vs=>hd vs fun e vs=>hd vs fun f vs=>hd vs fun g vs=>
 bV (qP .geq g (.int .i64 (.ofNat 0))) fun h=>
 cnd h (jb 1 (bV (yW 4 b g) fun i=>
 bV (ldN 4 i H) fun k=>
 bA (bxV 58 (.agg [(.int .i64 (.ofNat 0)),(.int .i64 (.ofNat 0)),(.int .u64 (.ofNat 0)),(.str 0 0)])) H fun m H=>
 bR (stN 4 m k H) fun o H=>
 bV (fAd 0 m) fun p=>
 bV (ld1 p H) fun r=>
 bV (qP .neq r c) fun t=>
 jb 2 (qV n (zAm D n) [a,b,c,d,e,f,g,m,t,(.int .i64 (.ofNat 0))] H) (zFa D n)) (zF9 D n))
 (some (.exit 0 [e],H))
def zNb (D:Dyn)(n:Nat)(vs:List AV)(H:AH):Rs:=
 hd vs fun a vs=>
 bV (qP .eql a (.int .i64 (.ofNat 0))) fun b=>
 bV (some b) fun c=>some (.ret c,H)
def f25 (D:Dyn)(n:Nat)(vs:List AV)(H:AH):Option (AV×AH):=
 outR (hd vs fun a vs=>hd vs fun b vs=>hd vs fun c vs=>nl vs <|
 bR (f16 D n [a,c] H) fun d H=>
 bV (qM d 0) fun e=>
 bV (qM d 1) fun f=>
 bV (qP .neq f (.int .i64 (.ofNat 0))) fun g=>
 jn (wnt g false (bV (lnSl e) fun h=>
 bV (qP .gtr h (.int .i64 (.ofNat 8))) fun i=>
 some (.norm [i],H)) (some (.norm [qN],H))) fun vs H=>hd vs fun k vs=>
 bV (pk3 (some g) (some (.bool true)) (some k)) fun m=>
 cnd m (bV (some (.bool false)) fun o=>some (.ret o,H))
 (bV (lnSl e) fun p=>
 bV (lnSl b) fun r=>
 bV (qP .sub r (.int .i64 (.ofNat 1))) fun t=>
 jb 0 (qV n (WJ D n) [a,b,c,e,p, .nilSlice,t] H) (zNb D n)))
def h25:Hint:=(.s .o (.s .o (.s (.s .o (.cl (.s .o .o) .o)) (.s .o (.s .o (.s (.s .o (.b [9] (.l [0,1,2,7,9,10,11] (.s (.s .o (.cr .o .o)) (.s (.b [0,1,2,7,9,10,11] (.s .o (.s .o (.s (.s .o (.b [0,1,2,7,9,10,11,12,13] (.l [0,1,2,7,9,10,11,12,13,14] (.s (.s .o (.cr .o .o)) (.s (.b0 .o) .o))))) (.s (.s .o (.cl .o .o)) (.s .o (.s .o (.s .o (.s (.s .o (.cl (.s .o .o) .o)) (.s (.s .o (.cl (.s (.s .o (.cl (.s .o .o) .o)) .o) .o)) (.s .o (.s .o (.cl (.s .o .o) .o))))))))))))) .o))))) (.s .o .o)))))))
theorem zFb {D:Dyn}(hD:DG D)(n:Nat):FI 25 (f25 D n):=qS (n:=n) (h:=h25) X_ok hD (sc (zFi hD n) (sc (zBB hD n) (SOk.nil))) Tryz.func25 (by kernel_rfl) (by kernel_rfl)
def s114 (D:Dyn)(n:Nat):Tb:=⟨X,[]⟩
def U8 (D:Dyn)(n:Nat)(vs:List AV)(H:AH):Rs:=
 hd vs fun a vs=>hd vs fun b vs=>hd vs fun c vs=>
 bV (qP .geq c (.int .i64 (.ofNat 0))) fun d=>
 cnd d (bV (ld1 b H) fun e=>
 bV (yW 3 e c) fun f=>
 bV (ldN 3 f H) fun g=>
 bR (callV (s114 D n).S D a [c,g] H) fun h H=>
 bV (aun .not h) fun i=>
 cnd i (some (.ret (.tuple []),H))
 (bV (qP .sub c (.int .i64 (.ofNat 1))) fun k=>
 some (.norm [a,b,k],H)))
 (some (.exit 0 [],H))
def zJs (D:Dyn)(n:Nat)(vs:List AV)(H:AH):Rs:=
 some (.ret (.tuple []),H)
def f114 (D:Dyn)(n:Nat)(vs:List AV)(H:AH):Option (AV×AH):=
 outR (hd vs fun a vs=>hd vs fun b vs=>nl vs <|
 bV (ld1 b H) fun c=>
 bV (lnSl c) fun d=>
 bV (qP .sub d (.int .i64 (.ofNat 1))) fun e=>
 jb 0 (qV n (U8 D n) [a,b,e] H) (zJs D n))
def h114:Hint:=(.s .o (.b [] (.l [0,1,3] (.s (.s .o (.cr .o .o)) (.s (.b0 (.s .o (.cl .o .o))) .o)))))
theorem zL7 {D:Dyn}(hD:DG D)(n:Nat):FI 114 (f114 D n):=qS (n:=n) (h:=h114) X_ok hD (SOk.nil) Tryz.func114 (by kernel_rfl) (by kernel_rfl)
def s71 (D:Dyn)(n:Nat):Tb:=⟨X,[]⟩
def f71 (D:Dyn)(n:Nat)(vs:List AV)(H:AH):Option (AV×AH):=
 outR (hd vs fun a vs=>nl vs <|
 bA (bxV 77 a) H fun b H=>
 bV (some (.func 114 [] [b])) fun c=>some (.ret c,H))
def h71:Hint:=(.s .o (.s .o .o))
theorem zEY {D:Dyn}(hD:DG D)(n:Nat):FI 71 (f71 D n):=qS (n:=n) (h:=h71) X_ok hD (SOk.nil) Tryz.func71 (by kernel_rfl) (by kernel_rfl)
def s26 (D:Dyn)(n:Nat):Tb:=⟨X,[(62,f62 D n),(68,f68 D n),(69,f69 D n),(70,f70 D n),(71,f71 D n)]⟩
def zKV (D:Dyn)(n:Nat)(vs:List AV)(H:AH):Rs:=
 hd vs fun a vs=>hd vs fun b vs=>hd vs fun c vs=>hd vs fun d vs=>hd vs fun e vs=>hd vs fun f vs=>
 bV (qP .add f (.int .i64 (.ofNat 1))) fun g=>
 some (.norm [a,b,c,d,e,g],H)
def zAl (D:Dyn)(n:Nat)(vs:List AV)(H:AH):Rs:=
 hd vs fun a vs=>hd vs fun b vs=>hd vs fun c vs=>hd vs fun d vs=>hd vs fun e vs=>hd vs fun f vs=>
 bV (qP .lss f e) fun g=>
 cnd g (bV (ld1 d H) fun h=>
 bV (lnSl h) fun i=>
 bV (qP .eql i (.int .i64 (.ofNat 0))) fun k=>
 cnd k (bV (jE [(0,1),(1,1)] [(.str 0 0),(.str 0 0)] []) fun m=>
 bR (stN 2 c m H) fun o H=>
 bV (ldN 2 c H) fun p=>bV (some (.int .i64 (.ofNat 5))) fun r=>some (.ret (.tuple [p,r]),H))
 (bV (ld1 d H) fun t=>
 bV (ld1 d H) fun u=>
 bV (lnSl u) fun v=>
 bV (qP .sub v (.int .i64 (.ofNat 1))) fun w=>
 bV (yW 3 t w) fun x=>
 bV (ldN 3 x H) fun y=>
 bR (f69 D n [a,y] H) fun z H=>
 bV (qM z 0) fun B=>
 bV (qM z 1) fun C=>
 bA (bxV 133 (.agg [(.bool false), .nilSlice, .nilSlice, .nilSlice])) H fun E H=>
 bR (stN 4 E B H) fun F H=>
 bV (qP .neq C (.int .i64 (.ofNat 0))) fun G=>
 cnd G (bV (jE [(0,1),(1,1)] [(.str 0 0),(.str 0 0)] []) fun I=>
 bR (stN 2 c I H) fun J H=>
 bV (ldN 2 c H) fun K=>bV (some C) fun M=>some (.ret (.tuple [K,M]),H))
 (bV (ld1 d H) fun N=>
 bV (ld1 d H) fun O=>
 bV (lnSl O) fun P=>
 bV (qP .sub P (.int .i64 (.ofNat 1))) fun Q=>
 bV (j9 3 N none (some Q) none H) fun R=>
 bR (stN 1 d R H) fun T H=>
 bV (ldN 4 E H) fun U=>
 bR (f70 D n [U,b] H) fun V H=>
 bV (fAd 0 E) fun W=>
 bV (ld1 W H) fun Y=>
 jn (wnt Y true (bV (fAd 1 E) fun Z=>
 bV (ld1 Z H) fun a0=>
 bV (lnSl a0) fun a1=>
 bV (qP .lss V a1) fun a2=>
 some (.norm [a2],H)) (some (.norm [qN],H))) fun vs H=>hd vs fun a3 vs=>
 bV (pk3 (some Y) (some a3) (some (.bool false))) fun a4=>
 cnd a4 (bV (fAd 1 E) fun a5=>
 bV (ld1 a5 H) fun a6=>
 bV (yW 1 a6 V) fun a7=>
 bV (ld1 a7 H) fun a8=>
 bV (fAd 2 E) fun a9=>
 bV (ld1 a9 H) fun b0=>
 bV (yW 1 b0 V) fun b1=>
 bV (ld1 b1 H) fun b2=>
 bV (jE [(0,1),(1,1)] [(.str 0 0),(.str 0 0)] [(0,a8),(1,b2)]) fun b3=>
 bR (stN 2 c b3 H) fun b4 H=>
 bV (ldN 2 c H) fun b5=>bV (some (.int .i64 (.ofNat 0))) fun b6=>some (.ret (.tuple [b5,b6]),H))
 (bV (fAd 0 E) fun b7=>
 bV (ld1 b7 H) fun b8=>
 bV (aun .not b8) fun b9=>
 jn (cnd b9 (bV (fAd 3 E) fun c0=>
 bV (ld1 c0 H) fun c1=>
 bV (j9 3 c1 (some V) none none H) fun c2=>
 bR (f71 D n [c2] H) fun c3 H=>
 KQ H (.loop ⟨.ready,none,26,0,[6],[d]⟩) fun A H=>bR (rfC (s26 D n).S D c3 A H) fun _ H=>bW A H fun j H=>zEx j (
 some (.norm [a,b,c,d,e,f],H))
 (fun id=>cond (Nat.beq 0 id) (some (.exit id [c,d],H)) (none)) (bV (ldN 2 c H) fun c4=>none))
 (some (.norm [a,b,c,d,e,f],H))) (zKV D n)))))
 (some (.exit 0 [c,d],H))
def zNa (D:Dyn)(n:Nat)(vs:List AV)(H:AH):Rs:=
 hd vs fun a vs=>hd vs fun b vs=>
 bV (ld1 b H) fun c=>
 bV (lnSl c) fun d=>
 bV (qP .eql d (.int .i64 (.ofNat 0))) fun e=>
 cnd e (bV (jE [(0,1),(1,1)] [(.str 0 0),(.str 0 0)] []) fun f=>
 bR (stN 2 a f H) fun g H=>
 bV (ldN 2 a H) fun h=>bV (some (.int .i64 (.ofNat 5))) fun i=>some (.ret (.tuple [h,i]),H))
 (bV (jE [(0,1),(1,1)] [(.str 0 0),(.str 0 0)] []) fun k=>
 bR (stN 2 a k H) fun m H=>
 bV (ldN 2 a H) fun o=>bV (some (.int .i64 (.ofNat 4))) fun p=>some (.ret (.tuple [o,p]),H))
def f26 (D:Dyn)(n:Nat)(vs:List AV)(H:AH):Option (AV×AH):=
 outR (hd vs fun a vs=>hd vs fun b vs=>nl vs <|
 bA (bxV 48 (.agg [(.str 0 0),(.str 0 0)])) H fun c H=>
 bR (f62 D n [a] H) fun d H=>
 cnd d (bV (jE [(0,1),(1,1)] [(.str 0 0),(.str 0 0)] []) fun e=>
 bR (stN 2 c e H) fun f H=>
 bV (ldN 2 c H) fun g=>bV (some (.int .i64 (.ofNat 2))) fun h=>some (.ret (.tuple [g,h]),H))
 (bV (wU a) fun i=>
 bV (fAd 2 i) fun k=>
 bV (fAd 0 k) fun m=>
 bV (ld1 m H) fun o=>
 bV (qP .eql o (.int .i64 (.ofNat 0))) fun p=>
 cnd p (bV (jE [(0,1),(1,1)] [(.str 0 0),(.str 0 0)] []) fun r=>
 bR (stN 2 c r H) fun t H=>
 bV (ldN 2 c H) fun u=>bV (some (.int .i64 (.ofNat 5))) fun v=>some (.ret (.tuple [u,v]),H))
 (bV (wU a) fun w=>
 bV (fAd 2 w) fun x=>
 bV (ldN 3 x H) fun y=>
 bA (kZ 72 3 1 [(.int .i64 (.ofNat 0)),(.int .i64 (.ofNat 0)),(.int .u64 (.ofNat 0))] [(0,y)]) H fun z H=>
 bA (bxV 77 .nilSlice) H fun B H=>
 bR (stN 1 B z H) fun C H=>
 bR (f68 D n [a] H) fun E H=>
 jb 0 (qV n (zAl D n) [a,b,c,B,E,(.int .i64 (.ofNat 0))] H) (zNa D n))))
def h26:Hint:=(.s .o (.s (.s .o (.cl (.s .o .o) .o)) (.s (.s .o (.cl (.s .o .o) .o)) (.s .o (.s (.s .o (.b [4,6] (.l [0,1,4,6,28,29] (.s .o (.s (.cr .o .o) (.s (.b0 (.s (.s .o (.cl (.s .o .o) .o)) (.s .o (.s (.s .o (.cl (.s .o .o) .o)) (.s .o (.s .o (.s (.s .o (.cl (.s .o .o) .o)) (.s .o (.c [0,1,4,6,28,29] (.s .o (.b0 (.rf 0 [6]))) .o))))))))) .o)))))) (.s (.s .o (.cl (.s .o .o) .o)) (.s .o .o)))))))
theorem zF8 {D:Dyn}(hD:DG D)(n:Nat):FI 26 (f26 D n):=qS (n:=n) (h:=h26) X_ok hD (sc (dG hD n) (sc (VZ hD n) (sc (QM hD n) (sc (gI hD n) (sc (zEY hD n) (SOk.nil)))))) Tryz.func26 (by kernel_rfl) (by kernel_rfl)
def zCg (D:Dyn)(n:Nat)(A:Nat)(l:ALoop)(az:List AV)(H:AH):Option (AV×AH):=
 bif aR [6] l.live then zLd A (hd l.vals fun a vs=>hd az fun b az=>hd az fun c az=>nl az <|
 bA (bxV 72 (.agg [(.int .i64 (.ofNat 0)),(.int .i64 (.ofNat 0)),(.int .u64 (.ofNat 0))])) H fun d H=>
 bR (stN 3 d c H) fun e H=>
 xP A H fun H=>
 bV (ld1 a H) fun f=>
 bV (ldN 3 d H) fun g=>
 bA (kZ 72 3 1 [(.int .i64 (.ofNat 0)),(.int .i64 (.ofNat 0)),(.int .u64 (.ofNat 0))] [(0,g)]) H fun h H=>
 bR (apP 72 3 24 f h H) fun i H=>
 bR (stN 1 a i H) fun k H=>
 some (.norm [],H))else none
def zMt:Hint:= .o
def zMs:Hint:=(.b0 .o)
theorem zHd (D:Dyn)(n:Nat):zCg D n=zKc (s26 D n) D n 26 0 [6] [0] zMt zMs:=by kernel_rfl
theorem zHc {D:Dyn}(hD:DG D)(n:Nat):RS 26 0 (zCg D n):=Z1 X_ok hD (sc (dG hD n) (sc (VZ hD n) (sc (QM hD n) (sc (gI hD n) (sc (zEY hD n) (SOk.nil)))))) (by kernel_rfl) (zHd D n)
def s115 (D:Dyn)(n:Nat):Tb:=⟨X,[]⟩
def QP (D:Dyn)(n:Nat)(vs:List AV)(H:AH):Rs:=
 hd vs fun a vs=>hd vs fun b vs=>hd vs fun c vs=>hd vs fun d vs=>
 bV (qP .lss d c) fun e=>
 cnd e (bV (yW 1 a d) fun f=>
 bV (ld1 f H) fun g=>
 bV (jY .eql b g) fun h=>
 cnd h (bV (some d) fun i=>some (.ret i,H))
 (bV (qP .add d (.int .i64 (.ofNat 1))) fun k=>
 some (.norm [a,b,c,k],H)))
 (some (.exit 0 [],H))
def zJr (D:Dyn)(n:Nat)(vs:List AV)(H:AH):Rs:=
 bV (some (.int .i64 (.negSucc 0))) fun a=>some (.ret a,H)
def zL6 (D:Dyn)(n:Nat)(vs:List AV)(H:AH):Option (AV×AH):=
 outR (hd vs fun a vs=>hd vs fun b vs=>nl vs <|
 bV (lnSl a) fun c=>
 jb 0 (qV n (QP D n) [a,b,c,(.int .i64 (.ofNat 0))] H) (zJr D n))
def h115:Hint:=(.s .o (.s (.s .o (.b [] (.l [0,1,7,8] (.s .o (.s (.cr .o .o) (.s (.b0 (.s .o (.s .o (.cl (.s .o .o) .o)))) .o)))))) (.s .o .o)))
theorem zFB {D:Dyn}(hD:DG D)(n:Nat):FI 115 (zL6 D n):=qS (n:=n) (h:=h115) X_ok hD (SOk.nil) Tryz.func115 (by kernel_rfl) (by kernel_rfl)
end Go.Eng.Sh
end
end
section
noncomputable section
namespace Go.Eng.Sh
open Go.Proofs
set_option maxRecDepth 100000
def s72 (D:Dyn)(n:Nat):Tb:=⟨X,[(115,zL6 D n)]⟩
def f72 (D:Dyn)(n:Nat)(vs:List AV)(H:AH):Option (AV×AH):=
 outR (hd vs fun a vs=>hd vs fun b vs=>nl vs <|
 bA (bxV 133 a) H fun c H=>
 bV (fAd 0 c) fun d=>
 bV (ld1 d H) fun e=>
 bV (aun .not e) fun f=>
 cnd f (bV (some (.str 0 0)) fun g=>bV (some (.bool false)) fun h=>some (.ret (.tuple [g,h]),H))
 (bV (fAd 1 c) fun i=>
 bV (ld1 i H) fun k=>
 bR (zL6 D n [k,b] H) fun m H=>
 bV (qP .lss m (.int .i64 (.ofNat 0))) fun o=>
 jn (wnt o false (bV (fAd 2 c) fun p=>
 bV (ld1 p H) fun r=>
 bV (lnSl r) fun t=>
 bV (qP .geq m t) fun u=>
 some (.norm [u],H)) (some (.norm [qN],H))) fun vs H=>hd vs fun v vs=>
 bV (pk3 (some o) (some (.bool true)) (some v)) fun w=>
 cnd w (bV (some (.str 0 0)) fun x=>bV (some (.bool false)) fun y=>some (.ret (.tuple [x,y]),H))
 (bV (fAd 2 c) fun z=>
 bV (ld1 z H) fun B=>
 bV (yW 1 B m) fun C=>
 bV (ld1 C H) fun E=>
 bV (some E) fun F=>bV (some (.bool true)) fun G=>some (.ret (.tuple [F,G]),H))))
def h72:Hint:=(.s .o (.s (.s .o (.cl (.s .o .o) .o)) (.s .o (.s (.s .o (.cl (.s .o .o) .o)) (.s .o .o)))))
theorem zJ2 {D:Dyn}(hD:DG D)(n:Nat):FI 72 (f72 D n):=qS (n:=n) (h:=h72) X_ok hD (sc (zFB hD n) (SOk.nil)) Tryz.func72 (by kernel_rfl) (by kernel_rfl)
def s27 (D:Dyn)(n:Nat):Tb:=⟨X,[(62,f62 D n),(68,f68 D n),(69,f69 D n),(72,f72 D n),(70,f70 D n)]⟩
def zF6 (D:Dyn)(n:Nat)(vs:List AV)(H:AH):Rs:=
 hd vs fun a vs=>hd vs fun b vs=>hd vs fun c vs=>hd vs fun d vs=>hd vs fun e vs=>
 bV (qP .lss e d) fun f=>
 cnd f (bV (ldN 3 c H) fun g=>
 bR (f69 D n [a,g] H) fun h H=>
 bV (qM h 0) fun i=>
 bV (qM h 1) fun k=>
 bA (bxV 133 (.agg [(.bool false), .nilSlice, .nilSlice, .nilSlice])) H fun m H=>
 bR (stN 4 m i H) fun o H=>
 bV (qP .neq k (.int .i64 (.ofNat 0))) fun p=>
 cnd p (bV (some (.str 0 0)) fun r=>bV (some k) fun t=>some (.ret (.tuple [r,t]),H))
 (bV (fAd 0 m) fun u=>
 bV (ld1 u H) fun v=>
 cnd v (bV (ldN 4 m H) fun w=>
 bR (f72 D n [w,b] H) fun x H=>
 bV (qM x 0) fun y=>
 bV (qM x 1) fun z=>
 bV (aun .not z) fun B=>
 cnd B (bV (some (.str 0 0)) fun C=>bV (some (.int .i64 (.ofNat 5))) fun E=>some (.ret (.tuple [C,E]),H))
 (bV (some y) fun F=>bV (some (.int .i64 (.ofNat 0))) fun G=>some (.ret (.tuple [F,G]),H)))
 (bV (fAd 3 m) fun I=>
 bV (ld1 I H) fun J=>
 bV (ldN 4 m H) fun K=>
 bR (f70 D n [K,b] H) fun M H=>chk (ld1 I H) J <|
 bV (yW 3 J M) fun N=>
 bV (ldN 3 N H) fun O=>
 bR (stN 3 c O H) fun P H=>
 bV (qP .add e (.int .i64 (.ofNat 1))) fun Q=>
 some (.norm [a,b,c,d,Q],H))))
 (some (.exit 0 [],H))
def f27b1 (D:Dyn)(n:Nat)(vs:List AV)(H:AH):Rs:=
 bV (some (.str 0 0)) fun a=>bV (some (.int .i64 (.ofNat 4))) fun b=>some (.ret (.tuple [a,b]),H)
def f27 (D:Dyn)(n:Nat)(vs:List AV)(H:AH):Option (AV×AH):=
 outR (hd vs fun a vs=>hd vs fun b vs=>nl vs <|
 bR (f62 D n [a] H) fun c H=>
 cnd c (bV (some (.str 0 0)) fun d=>bV (some (.int .i64 (.ofNat 2))) fun e=>some (.ret (.tuple [d,e]),H))
 (bV (jV b) fun f=>
 bV (qP .lss f (.int .i64 (.ofNat 1))) fun g=>
 jn (wnt g false (bV (jV b) fun h=>
 bV (qP .gtr h (.int .i64 (.ofNat 40))) fun i=>
 some (.norm [i],H)) (some (.norm [qN],H))) fun vs H=>hd vs fun k vs=>
 bV (pk3 (some g) (some (.bool true)) (some k)) fun m=>
 cnd m (bV (some (.str 0 0)) fun o=>bV (some (.int .i64 (.ofNat 1))) fun p=>some (.ret (.tuple [o,p]),H))
 (bV (wU a) fun r=>
 bV (fAd 2 r) fun t=>
 bV (fAd 0 t) fun u=>
 bV (ld1 u H) fun v=>
 bV (qP .eql v (.int .i64 (.ofNat 0))) fun w=>
 cnd w (bV (some (.str 0 0)) fun x=>bV (some (.int .i64 (.ofNat 5))) fun y=>some (.ret (.tuple [x,y]),H))
 (bV (wU a) fun z=>
 bV (fAd 2 z) fun B=>
 bV (ldN 3 B H) fun C=>
 bA (bxV 72 (.agg [(.int .i64 (.ofNat 0)),(.int .i64 (.ofNat 0)),(.int .u64 (.ofNat 0))])) H fun E H=>
 bR (stN 3 E C H) fun F H=>
 bR (f68 D n [a] H) fun G H=>
 jb 0 (qV n (zF6 D n) [a,b,E,G,(.int .i64 (.ofNat 0))] H) (f27b1 D n)))))
def h27:Hint:=(.s .o (.s (.s .o (.cl (.s .o .o) .o)) (.s (.s .o (.cl (.s .o .o) .o)) (.s (.s .o (.cl (.s .o .o) .o)) (.s .o (.s (.s .o (.b [] (.l [0,1,6,32,33] (.s .o (.s (.cr .o .o) (.s (.b0 (.s .o (.s (.s .o (.cl (.s .o .o) .o)) (.s (.s .o (.cl (.s .o (.s (.s .o (.cl (.s .o .o) .o)) (.s .o .o))) .o)) .o)))) .o)))))) (.s .o .o)))))))
theorem zF7 {D:Dyn}(hD:DG D)(n:Nat):FI 27 (f27 D n):=qS (n:=n) (h:=h27) X_ok hD (sc (dG hD n) (sc (VZ hD n) (sc (QM hD n) (sc (zJ2 hD n) (sc (gI hD n) (SOk.nil)))))) Tryz.func27 (by kernel_rfl) (by kernel_rfl)
def s5 (D:Dyn)(n:Nat):Tb:=⟨X,[(14,f14 D n),(24,f24 D n),(13,f13 D n),(20,f20 D n),(15,f15 D n),(25,f25 D n),(26,f26 D n),(27,f27 D n)]⟩
def f5l0 (D:Dyn)(n:Nat)(vs:List AV)(H:AH):Rs:=
 hd vs fun a vs=>hd vs fun b vs=>hd vs fun c vs=>hd vs fun d vs=>hd vs fun e vs=>
 bV (qP .leq e (.int .i64 (.ofNat 3))) fun f=>
 cnd f (bR (f25 D n [b,c,e] H) fun g H=>
 bV (aun .not g) fun h=>
 cnd h (bV (some (.bool false)) fun i=>some (.ret i,H))
 (bV (qP .add e (.int .i64 (.ofNat 1))) fun k=>
 some (.norm [a,b,c,d,k],H)))
 (some (.exit 2 [a,b,c,d],H))
def f5b1 (D:Dyn)(n:Nat)(vs:List AV)(H:AH):Rs:=
 hd vs fun a vs=>hd vs fun b vs=>hd vs fun c vs=>hd vs fun d vs=>
 bV (qP .add d (.int .i64 (.ofNat 1))) fun e=>
 some (.norm [a,b,c,e],H)
def f5j2 (D:Dyn)(n:Nat)(vs:List AV)(H:AH):Rs:=
 hd vs fun a vs=>hd vs fun b vs=>hd vs fun c vs=>hd vs fun d vs=>hd vs fun e vs=>
 bV (fAd 0 e) fun f=>
 bV (ld1 f H) fun g=>
 bV (fAd 1 e) fun h=>
 bV (ld1 h H) fun i=>
 bV (fAd 2 e) fun k=>
 bV (ld1 k H) fun m=>
 bV (fAd 3 e) fun o=>
 bV (ld1 o H) fun p=>
 bR (f15 D n [b,g,i,m,p] H) fun r H=>
 bV (qP .neq r (.int .i64 (.ofNat 0))) fun t=>
 cnd t (bV (some (.bool false)) fun u=>some (.ret u,H))
 (bV (ldN 4 e H) fun v=>
 bA (kZ 58 4 1 [(.int .i64 (.ofNat 0)),(.int .i64 (.ofNat 0)),(.int .u64 (.ofNat 0)),(.str 0 0)] [(0,v)]) H fun w H=>
 bR (apP 58 4 40 c w H) fun x H=>
 jb 2 (qV n (f5l0 D n) [a,b,x,d,(.int .i64 (.ofNat 1))] H) (f5b1 D n))
def f5l3 (D:Dyn)(n:Nat)(vs:List AV)(H:AH):Rs:=
 hd vs fun a vs=>hd vs fun b vs=>hd vs fun c vs=>hd vs fun d vs=>
 bV (lnSl a) fun e=>
 bV (qP .lss d e) fun f=>
 cnd f (bV (yW 6 a d) fun g=>
 bV (fAd 1 g) fun h=>
 bV (ld1 h H) fun i=>
 bV (cvI .u64 i) fun k=>
 bV (qP .rem k (.int .u64 (.ofNat 3))) fun m=>
 bV (cvI .i64 m) fun o=>
 bV (qP .add (.int .i64 (.ofNat 1)) o) fun p=>
 bV (yW 6 a d) fun r=>
 bV (fAd 2 r) fun t=>
 bV (ld1 t H) fun u=>
 bV (cvI .u64 u) fun v=>
 bV (qP .rem v (.int .u64 (.ofNat 20))) fun w=>
 bV (cvI .i64 w) fun x=>
 bV (yW 6 a d) fun y=>
 bV (fAd 3 y) fun z=>
 bV (ld1 z H) fun B=>
 bV (yW 6 a d) fun C=>
 bV (fAd 4 C) fun E=>
 bV (ld1 E H) fun F=>
 bV (jE [(0,1),(1,1),(2,1),(3,1)] [(.int .i64 (.ofNat 0)),(.int .i64 (.ofNat 0)),(.int .u64 (.ofNat 0)),(.str 0 0)] [(0,p),(1,x),(2,B),(3,F)]) fun G=>
 bA (bxV 58 (.agg [(.int .i64 (.ofNat 0)),(.int .i64 (.ofNat 0)),(.int .u64 (.ofNat 0)),(.str 0 0)])) H fun I H=>
 bR (stN 4 I G H) fun J H=>
 bV (fAd 3 I) fun K=>
 bV (ld1 K H) fun M=>
 bV (jV M) fun N=>
 bV (qP .gtr N (.int .i64 (.ofNat 188))) fun O=>
 jn (cnd O (bV (fAd 3 I) fun P=>
 bR (stN 1 P (.str 0 0) H) fun Q H=>
 some (.norm [a,b,c,d,I],H))
 (some (.norm [a,b,c,d,I],H))) (f5j2 D n))
 (some (.exit 0 [b],H))
def f5l4 (D:Dyn)(n:Nat)(vs:List AV)(H:AH):Rs:=
 hd vs fun a vs=>hd vs fun b vs=>hd vs fun c vs=>hd vs fun d vs=>
 bV (qP .lss d (.int .i64 (.ofNat 100))) fun e=>
 cnd e (bR (f26 D n [a,c] H) fun f H=>
 bV (qM f 0) fun g=>
 bV (qM f 1) fun h=>
 bA (bxV 48 (.agg [(.str 0 0),(.str 0 0)])) H fun i H=>
 bR (stN 2 i g H) fun k H=>
 bV (qP .neq h (.int .i64 (.ofNat 0))) fun m=>
 cnd m (some (.exit 4 [a,b],H))
 (bV (qP .add b (.int .i64 (.ofNat 1))) fun o=>
 bV (fAd 0 i) fun p=>
 bV (ld1 p H) fun r=>
 bV (jY .add r (.str 1 0)) fun t=>
 bV (qP .add d (.int .i64 (.ofNat 1))) fun u=>
 some (.norm [a,o,t,u],H)))
 (some (.exit 4 [a,b],H))
def f5l5 (D:Dyn)(n:Nat)(vs:List AV)(H:AH):Rs:=
 hd vs fun a vs=>hd vs fun b vs=>hd vs fun c vs=>hd vs fun d vs=>hd vs fun e vs=>
 bV (qP .lss e d) fun f=>
 cnd f (bV (yW 2 c e) fun g=>
 bV (ldN 2 g H) fun h=>
 bA (bxV 48 (.agg [(.str 0 0),(.str 0 0)])) H fun i H=>
 bR (stN 2 i h H) fun k H=>
 bV (fAd 0 i) fun m=>
 bV (ld1 m H) fun o=>
 bR (f27 D n [a,o] H) fun p H=>
 bV (qM p 0) fun r=>
 bV (qM p 1) fun t=>
 bV (qP .neq t (.int .i64 (.ofNat 0))) fun u=>
 jn (wnt u false (bV (fAd 1 i) fun v=>
 bV (ld1 v H) fun w=>
 bV (jY .neq r w) fun x=>
 some (.norm [x],H)) (some (.norm [qN],H))) fun vs H=>hd vs fun y vs=>
 bV (pk3 (some u) (some (.bool true)) (some y)) fun z=>
 cnd z (bV (some (.bool false)) fun B=>some (.ret B,H))
 (bV (qP .add e (.int .i64 (.ofNat 1))) fun C=>
 some (.norm [a,b,c,d,C],H)))
 (some (.exit 6 [b],H))
def f5b6 (D:Dyn)(n:Nat)(vs:List AV)(H:AH):Rs:=
 hd vs fun a vs=>
 bV (qP .leq a (.int .i64 (.ofNat 29))) fun b=>
 bV (some b) fun c=>some (.ret c,H)
def f5b7 (D:Dyn)(n:Nat)(vs:List AV)(H:AH):Rs:=
 hd vs fun a vs=>hd vs fun b vs=>
 bV (jE [(0,1),(1,1)] [(.str 0 0),(.str 0 0)] [(0,(.str 1 113)),(1,(.str 1 49))]) fun c=>
 bV (jE [(0,1),(1,1)] [(.str 0 0),(.str 0 0)] [(0,(.str 1 115)),(1,(.str 1 50))]) fun d=>
 bV (jE [(0,1),(1,1)] [(.str 0 0),(.str 0 0)] [(0,(.str 1 114)),(1,(.str 1 51))]) fun e=>
 bV (jE [(0,1),(1,1)] [(.str 0 0),(.str 0 0)] [(0,(.str 2 114)),(1,(.str 1 52))]) fun f=>
 bV (jE [(0,1),(1,1)] [(.str 0 0),(.str 0 0)] [(0,(.str 2 4466)),(1,(.str 1 53))]) fun g=>
 bA (kZ 48 2 5 [(.str 0 0),(.str 0 0)] [(0,c),(1,d),(2,e),(3,f),(4,g)]) H fun h H=>
 bV (lnSl h) fun i=>
 jb 6 (qV n (f5l5 D n) [a,b,h,i,(.int .i64 (.ofNat 0))] H) (f5b6 D n)
def f5b8 (D:Dyn)(n:Nat)(vs:List AV)(H:AH):Rs:=
 hd vs fun a vs=>
 jb 4 (qV n (f5l4 D n) [a,(.int .i64 (.ofNat 0)),(.str 0 0),(.int .i64 (.ofNat 0))] H) (f5b7 D n)
def f5 (D:Dyn)(n:Nat)(vs:List AV)(H:AH):Option (AV×AH):=
 outR (hd vs fun a vs=>nl vs <|
 bR (f14 D n [] H) fun b H=>
 bV (aun .not b) fun c=>
 jn (wnt c false (bR (f24 D n [a] H) fun d H=>
 some (.norm [d],H)) (some (.norm [qN],H))) fun vs H=>hd vs fun e vs=>
 bV (pk3 (some c) (some (.bool true)) (some e)) fun f=>
 cnd f (bR (f14 D n [] H) fun g H=>
 bV (some g) fun h=>some (.ret h,H))
 (bR (f13 D n [] H) fun i H=>
 bV (u9 .eql (eqP i .nilPtr)) fun k=>
 jn (wnt k false (bR (f20 D n [i,(.str 1 113),(.str 1 49)] H) fun m H=>
 bV (qP .neq m (.int .i64 (.ofNat 0))) fun o=>
 some (.norm [o],H)) (some (.norm [qN],H))) fun vs H=>hd vs fun p vs=>
 bV (pk3 (some k) (some (.bool true)) (some p)) fun r=>
 jn (wnt r false (bR (f20 D n [i,(.str 1 115),(.str 1 50)] H) fun t H=>
 bV (qP .neq t (.int .i64 (.ofNat 0))) fun u=>
 some (.norm [u],H)) (some (.norm [qN],H))) fun vs H=>hd vs fun v vs=>
 bV (pk3 (some r) (some (.bool true)) (some v)) fun w=>
 jn (wnt w false (bR (f20 D n [i,(.str 1 114),(.str 1 51)] H) fun x H=>
 bV (qP .neq x (.int .i64 (.ofNat 0))) fun y=>
 some (.norm [y],H)) (some (.norm [qN],H))) fun vs H=>hd vs fun z vs=>
 bV (pk3 (some w) (some (.bool true)) (some z)) fun B=>
 jn (wnt B false (bR (f20 D n [i,(.str 2 114),(.str 1 52)] H) fun C H=>
 bV (qP .neq C (.int .i64 (.ofNat 0))) fun E=>
 some (.norm [E],H)) (some (.norm [qN],H))) fun vs H=>hd vs fun F vs=>
 bV (pk3 (some B) (some (.bool true)) (some F)) fun G=>
 jn (wnt G false (bR (f20 D n [i,(.str 2 4466),(.str 1 53)] H) fun I H=>
 bV (qP .neq I (.int .i64 (.ofNat 0))) fun J=>
 some (.norm [J],H)) (some (.norm [qN],H))) fun vs H=>hd vs fun K vs=>
 bV (pk3 (some G) (some (.bool true)) (some K)) fun M=>
 cnd M (bV (some (.bool false)) fun N=>some (.ret N,H))
 (jb 0 (qV n (f5l3 D n) [a,i, .nilSlice,(.int .i64 (.ofNat 0))] H) (f5b8 D n))))
def h5:Hint:=(.s .o (.s (.s .o (.cl (.s .o .o) .o)) (.s .o (.s (.s .o (.cl (.s .o .o) .o)) (.s .o (.s (.s .o (.b [3] (.l [0,3,4,5] (.s (.s .o (.cr .o .o)) (.s (.b0 (.s .o (.s (.s .o (.c [0,3,4,5,6] .o .o)) (.s (.s .o (.cl (.s .o .o) .o)) (.s .o (.s .o (.b [0,3,4,5] (.l [0,3,4,5,7] (.s (.s .o (.cr .o .o)) (.s (.b0 (.s .o (.cl (.s .o .o) .o))) .o)))))))))) .o))))) (.s .o (.s .o (.s (.s .o (.b [3,8] (.l [3,8,9,10] (.s (.s .o (.cr .o .o)) (.s (.b0 (.s .o (.s (.s .o (.cl .o .o)) (.s .o .o)))) .o))))) (.s (.s .o (.b [8] (.l [3,8,137,138,139] (.s .o (.s (.cr .o .o) (.s (.b0 (.s .o (.s .o (.s .o (.cl (.s .o .o) .o))))) .o)))))) (.s .o .o)))))))))))
theorem f5_ok {D:Dyn}(hD:DG D)(n:Nat):FI 5 (f5 D n):=qS (n:=n) (h:=h5) X_ok hD (sc (zBD hD n) (sc (zFd hD n) (sc (zBF hD n) (sc (zBy hD n) (sc (zBC hD n) (sc (zFb hD n) (sc (zF8 hD n) (sc (zF7 hD n) (SOk.nil))))))))) Tryz.func5 (by kernel_rfl) (by kernel_rfl)
end Go.Eng.Sh
end
end
section
noncomputable section
namespace Go.Eng.Sh
open Go.Proofs
set_option maxRecDepth 100000
def tab (D:Dyn)(n:Nat):List (Nat×(List AV→AH→Option (AV×AH))):=[(5,f5 D n),(13,f13 D n),(14,f14 D n),(15,f15 D n),(16,f16 D n),(17,f17 D n),(20,f20 D n),(23,f23 D n),(24,f24 D n),(25,f25 D n),(26,f26 D n),(27,f27 D n),(31,f31 D n),(32,f32 D n),(36,f36 D n),(49,f49 D n),(50,f50 D n),(51,f51 D n),(52,f52 D n),(53,f53 D n),(54,f54 D n),(55,f55 D n),(56,f56 D n),(57,f57 D n),(58,f58 D n),(62,f62 D n),(63,f63 D n),(64,f64 D n),(65,f65 D n),(66,f66 D n),(67,f67 D n),(68,f68 D n),(69,f69 D n),(70,f70 D n),(71,f71 D n),(72,f72 D n),(75,f75 D n),(77,f77 D n),(80,f80 D n),(90,f90 D n),(91,f91 D n),(94,f94 D n),(95,f95 D n),(96,f96 D n),(97,f97 D n),(101,f101 D n),(102,zGM D n),(103,zJy D n),(104,zGL D n),(105,zJx D n),(106,zI0 D n),(107,zAu D n),(108,zGK D n),(109,YD D n),(110,zLN D n),(111,zAt D n),(114,f114 D n),(115,zL6 D n),(118,zLS D n),(119,zHZ D n),(123,zGJ D n),(126,zLR D n),(127,zLQ D n),(128,f128 D n),(131,f131 D n),(132,zFy D n),(138,zFw D n),(139,zJl D n),(140,zGI D n),(141,zJg D n),(144,zL3 D n),(155,f155 D n),(156,zLP D n),(166,zCN D n),(167,zCx D n),(168,zKY D n),(179,zKX D n),(180,zCM D n),(183,zHX D n)]
def tabR (D:Dyn)(n:Nat):List ((Nat×Nat)×(Nat→ALoop→List AV→AH→Option (AV×AH))):=[((26,0),zCg D n),((53,0),zDU D n),((90,0),zCf D n),((155,0),ZZ D n)]
theorem zM6 (D:Dyn)(n:Nat)(hD:DG D):SOk (tab D n):=sc (f5_ok hD n) (sc (zBF hD n) (sc (zBD hD n) (sc (zBC hD n) (sc (zFi hD n) (sc (zBB hD n) (sc (zBy hD n) (sc (zJe hD n) (sc (zFd hD n) (sc (zFb hD n) (sc (zF8 hD n) (sc (zF7 hD n) (sc (zJd hD n) (sc (zJc hD n) (sc (zJb hD n) (sc (zJa hD n) (sc (zJ9 hD n) (sc (zJ8 hD n) (sc (zJ7 hD n) (sc (zBx hD n) (sc (zF5 hD n) (sc (zJ6 hD n) (sc (zF4 hD n) (sc (zJ5 hD n) (sc (zN8 hD n) (sc (dG hD n) (sc (zF0 hD n) (sc (zN4 hD n) (sc (zJ4 hD n) (sc (zN3 hD n) (sc (zJ3 hD n) (sc (VZ hD n) (sc (QM hD n) (sc (gI hD n) (sc (zEY hD n) (sc (zJ2 hD n) (sc (zJ1 hD n) (sc (zEX hD n) (sc (zJ0 hD n) (sc (zIZ hD n) (sc (zIY hD n) (sc (zIX hD n) (sc (zEW hD n) (sc (zEV hD n) (sc (zEU hD n) (sc (zAw hD n) (sc (WP hD n) (sc (zL9 hD n) (sc (zFJ hD n) (sc (zAv hD n) (sc (zFG hD n) (sc (QQ hD n) (sc (WO hD n) (sc (WN hD n) (sc (zEn hD n) (sc (WM hD n) (sc (zL7 hD n) (sc (zFB hD n) (sc (zFA hD n) (sc (zFz hD n) (sc (WL hD n) (sc (zAs hD n) (sc (zAr hD n) (sc (zL5 hD n) (sc (zL4 hD n) (sc (zFx hD n) (sc (zFv hD n) (sc (zAq hD n) (sc (zAp hD n) (sc (zAo hD n) (sc (zFu hD n) (sc (zL2 hD n) (sc (zAn hD n) (sc (zFo hD n) (sc (zFn hD n) (sc (zFl hD n) (sc (zKW hD n) (sc (zFg hD n) (sc (zFf hD n) (SOk.nil)))))))))))))))))))))))))))))))))))))))))))))))))))))))))))))))))))))))))))))))
theorem zJQ (D:Dyn)(n:Nat)(hD:DG D):ROk (tabR D n):=ROk.cons (zHc hD n) (ROk.cons (zHa hD n) (ROk.cons (zH8 hD n) (ROk.cons (zDV hD n) (ROk.nil))))
def dy (n:Nat):Dyn:=dyOf tab tabR n
theorem dy_ok (n:Nat):DG (dy n):=zFS zM6 zJQ n
end Go.Eng.Sh
end
end
section
noncomputable section
namespace Go.Eng.Sh
open Go.Proofs
set_option maxRecDepth 1000000
theorem c14_r:zK8 (f14 (dy 100000) 100000 [] ⟨.leaf,0⟩)=true:=by kernel_rfl
theorem c14 (w:World):Calls PP 14 #[] w fun e w'=>e= .returned (.bool true)∧RowKit.Below w.heap.size w w':=zIi (zBD (dy_ok 100000) 100000) c14_r w
end Go.Eng.Sh
end
end
section
noncomputable section
namespace Go.Eng.Sh
open Go.Proofs
set_option maxRecDepth 1000000
def z14 (D:Dyn)(n:Nat)(vs:List AV)(H:AH):Option (AV×AH):=cloK (f14 D n) vs H
theorem zLZ {D:Dyn}(hD:DG D)(n:Nat):FI 14 (z14 D n):=zLp ⟨_,Tryz.func14,rfl⟩ c14 (zBD hD n)
def s5z (D:Dyn)(n:Nat):Tb:=⟨X,[(14,z14 D n),(24,f24 D n),(13,f13 D n),(20,f20 D n),(15,f15 D n),(25,f25 D n),(26,f26 D n),(27,f27 D n)]⟩
def zCw (D:Dyn)(n:Nat)(vs:List AV)(H:AH):Rs:=
 hd vs fun a vs=>hd vs fun b vs=>hd vs fun c vs=>hd vs fun d vs=>hd vs fun e vs=>
 bV (qP .leq e (.int .i64 (.ofNat 3))) fun f=>
 cnd f (bR (f25 D n [b,c,e] H) fun g H=>
 bV (aun .not g) fun h=>
 cnd h (bV (some (.bool false)) fun i=>some (.ret i,H))
 (bV (qP .add e (.int .i64 (.ofNat 1))) fun k=>
 some (.norm [a,b,c,d,k],H)))
 (some (.exit 2 [a,b,c,d],H))
def zN7 (D:Dyn)(n:Nat)(vs:List AV)(H:AH):Rs:=
 hd vs fun a vs=>hd vs fun b vs=>hd vs fun c vs=>hd vs fun d vs=>
 bV (qP .add d (.int .i64 (.ofNat 1))) fun e=>
 some (.norm [a,b,c,e],H)
def zKS (D:Dyn)(n:Nat)(vs:List AV)(H:AH):Rs:=
 hd vs fun a vs=>hd vs fun b vs=>hd vs fun c vs=>hd vs fun d vs=>hd vs fun e vs=>
 bV (fAd 0 e) fun f=>
 bV (ld1 f H) fun g=>
 bV (fAd 1 e) fun h=>
 bV (ld1 h H) fun i=>
 bV (fAd 2 e) fun k=>
 bV (ld1 k H) fun m=>
 bV (fAd 3 e) fun o=>
 bV (ld1 o H) fun p=>
 bR (f15 D n [b,g,i,m,p] H) fun r H=>
 bV (qP .neq r (.int .i64 (.ofNat 0))) fun t=>
 cnd t (bV (some (.bool false)) fun u=>some (.ret u,H))
 (bV (ldN 4 e H) fun v=>
 bA (kZ 58 4 1 [(.int .i64 (.ofNat 0)),(.int .i64 (.ofNat 0)),(.int .u64 (.ofNat 0)),(.str 0 0)] [(0,v)]) H fun w H=>
 bR (apP 58 4 40 c w H) fun x H=>
 jb 2 (qV n (zCw D n) [a,b,x,d,(.int .i64 (.ofNat 1))] H) (zN7 D n))
def zAj (D:Dyn)(n:Nat)(vs:List AV)(H:AH):Rs:=
 hd vs fun a vs=>hd vs fun b vs=>hd vs fun c vs=>hd vs fun d vs=>
 bV (lnSl a) fun e=>
 bV (qP .lss d e) fun f=>
 cnd f (bV (yW 6 a d) fun g=>
 bV (fAd 1 g) fun h=>
 bV (ld1 h H) fun i=>
 bV (cvI .u64 i) fun k=>
 bV (qP .rem k (.int .u64 (.ofNat 3))) fun m=>
 bV (cvI .i64 m) fun o=>
 bV (qP .add (.int .i64 (.ofNat 1)) o) fun p=>
 bV (yW 6 a d) fun r=>
 bV (fAd 2 r) fun t=>
 bV (ld1 t H) fun u=>
 bV (cvI .u64 u) fun v=>
 bV (qP .rem v (.int .u64 (.ofNat 20))) fun w=>
 bV (cvI .i64 w) fun x=>
 bV (yW 6 a d) fun y=>
 bV (fAd 3 y) fun z=>
 bV (ld1 z H) fun B=>
 bV (yW 6 a d) fun C=>
 bV (fAd 4 C) fun E=>
 bV (ld1 E H) fun F=>
 bV (jE [(0,1),(1,1),(2,1),(3,1)] [(.int .i64 (.ofNat 0)),(.int .i64 (.ofNat 0)),(.int .u64 (.ofNat 0)),(.str 0 0)] [(0,p),(1,x),(2,B),(3,F)]) fun G=>
 bA (bxV 58 (.agg [(.int .i64 (.ofNat 0)),(.int .i64 (.ofNat 0)),(.int .u64 (.ofNat 0)),(.str 0 0)])) H fun I H=>
 bR (stN 4 I G H) fun J H=>
 bV (fAd 3 I) fun K=>
 bV (ld1 K H) fun M=>
 bV (jV M) fun N=>
 bV (qP .gtr N (.int .i64 (.ofNat 188))) fun O=>
 jn (cnd O (bV (fAd 3 I) fun P=>
 bR (stN 1 P (.str 0 0) H) fun Q H=>
 some (.norm [a,b,c,d,I],H))
 (some (.norm [a,b,c,d,I],H))) (zKS D n))
 (some (.exit 0 [b],H))
def zF2 (D:Dyn)(n:Nat)(vs:List AV)(H:AH):Rs:=
 hd vs fun a vs=>hd vs fun b vs=>hd vs fun c vs=>hd vs fun d vs=>
 bV (qP .lss d (.int .i64 (.ofNat 100))) fun e=>
 cnd e (bR (f26 D n [a,c] H) fun f H=>
 bV (qM f 0) fun g=>
 bV (qM f 1) fun h=>
 bA (bxV 48 (.agg [(.str 0 0),(.str 0 0)])) H fun i H=>
 bR (stN 2 i g H) fun k H=>
 bV (qP .neq h (.int .i64 (.ofNat 0))) fun m=>
 cnd m (some (.exit 4 [a,b],H))
 (bV (qP .add b (.int .i64 (.ofNat 1))) fun o=>
 bV (fAd 0 i) fun p=>
 bV (ld1 p H) fun r=>
 bV (jY .add r (.str 1 0)) fun t=>
 bV (qP .add d (.int .i64 (.ofNat 1))) fun u=>
 some (.norm [a,o,t,u],H)))
 (some (.exit 4 [a,b],H))
def zF1 (D:Dyn)(n:Nat)(vs:List AV)(H:AH):Rs:=
 hd vs fun a vs=>hd vs fun b vs=>hd vs fun c vs=>hd vs fun d vs=>hd vs fun e vs=>
 bV (qP .lss e d) fun f=>
 cnd f (bV (yW 2 c e) fun g=>
 bV (ldN 2 g H) fun h=>
 bA (bxV 48 (.agg [(.str 0 0),(.str 0 0)])) H fun i H=>
 bR (stN 2 i h H) fun k H=>
 bV (fAd 0 i) fun m=>
 bV (ld1 m H) fun o=>
 bR (f27 D n [a,o] H) fun p H=>
 bV (qM p 0) fun r=>
 bV (qM p 1) fun t=>
 bV (qP .neq t (.int .i64 (.ofNat 0))) fun u=>
 jn (wnt u false (bV (fAd 1 i) fun v=>
 bV (ld1 v H) fun w=>
 bV (jY .neq r w) fun x=>
 some (.norm [x],H)) (some (.norm [qN],H))) fun vs H=>hd vs fun y vs=>
 bV (pk3 (some u) (some (.bool true)) (some y)) fun z=>
 cnd z (bV (some (.bool false)) fun B=>some (.ret B,H))
 (bV (qP .add e (.int .i64 (.ofNat 1))) fun C=>
 some (.norm [a,b,c,d,C],H)))
 (some (.exit 6 [b],H))
def zN6 (D:Dyn)(n:Nat)(vs:List AV)(H:AH):Rs:=
 hd vs fun a vs=>
 bV (qP .leq a (.int .i64 (.ofNat 29))) fun b=>
 bV (some b) fun c=>some (.ret c,H)
def zN5 (D:Dyn)(n:Nat)(vs:List AV)(H:AH):Rs:=
 hd vs fun a vs=>hd vs fun b vs=>
 bV (jE [(0,1),(1,1)] [(.str 0 0),(.str 0 0)] [(0,(.str 1 113)),(1,(.str 1 49))]) fun c=>
 bV (jE [(0,1),(1,1)] [(.str 0 0),(.str 0 0)] [(0,(.str 1 115)),(1,(.str 1 50))]) fun d=>
 bV (jE [(0,1),(1,1)] [(.str 0 0),(.str 0 0)] [(0,(.str 1 114)),(1,(.str 1 51))]) fun e=>
 bV (jE [(0,1),(1,1)] [(.str 0 0),(.str 0 0)] [(0,(.str 2 114)),(1,(.str 1 52))]) fun f=>
 bV (jE [(0,1),(1,1)] [(.str 0 0),(.str 0 0)] [(0,(.str 2 4466)),(1,(.str 1 53))]) fun g=>
 bA (kZ 48 2 5 [(.str 0 0),(.str 0 0)] [(0,c),(1,d),(2,e),(3,f),(4,g)]) H fun h H=>
 bV (lnSl h) fun i=>
 jb 6 (qV n (zF1 D n) [a,b,h,i,(.int .i64 (.ofNat 0))] H) (zN6 D n)
def zKT (D:Dyn)(n:Nat)(vs:List AV)(H:AH):Rs:=
 hd vs fun a vs=>
 jb 4 (qV n (zF2 D n) [a,(.int .i64 (.ofNat 0)),(.str 0 0),(.int .i64 (.ofNat 0))] H) (zN5 D n)
def f5z (D:Dyn)(n:Nat)(vs:List AV)(H:AH):Option (AV×AH):=
 outR (hd vs fun a vs=>nl vs <|
 bR (z14 D n [] H) fun b H=>
 bV (aun .not b) fun c=>
 jn (wnt c false (bR (f24 D n [a] H) fun d H=>
 some (.norm [d],H)) (some (.norm [qN],H))) fun vs H=>hd vs fun e vs=>
 bV (pk3 (some c) (some (.bool true)) (some e)) fun f=>
 cnd f (bR (z14 D n [] H) fun g H=>
 bV (some g) fun h=>some (.ret h,H))
 (bR (f13 D n [] H) fun i H=>
 bV (u9 .eql (eqP i .nilPtr)) fun k=>
 jn (wnt k false (bR (f20 D n [i,(.str 1 113),(.str 1 49)] H) fun m H=>
 bV (qP .neq m (.int .i64 (.ofNat 0))) fun o=>
 some (.norm [o],H)) (some (.norm [qN],H))) fun vs H=>hd vs fun p vs=>
 bV (pk3 (some k) (some (.bool true)) (some p)) fun r=>
 jn (wnt r false (bR (f20 D n [i,(.str 1 115),(.str 1 50)] H) fun t H=>
 bV (qP .neq t (.int .i64 (.ofNat 0))) fun u=>
 some (.norm [u],H)) (some (.norm [qN],H))) fun vs H=>hd vs fun v vs=>
 bV (pk3 (some r) (some (.bool true)) (some v)) fun w=>
 jn (wnt w false (bR (f20 D n [i,(.str 1 114),(.str 1 51)] H) fun x H=>
 bV (qP .neq x (.int .i64 (.ofNat 0))) fun y=>
 some (.norm [y],H)) (some (.norm [qN],H))) fun vs H=>hd vs fun z vs=>
 bV (pk3 (some w) (some (.bool true)) (some z)) fun B=>
 jn (wnt B false (bR (f20 D n [i,(.str 2 114),(.str 1 52)] H) fun C H=>
 bV (qP .neq C (.int .i64 (.ofNat 0))) fun E=>
 some (.norm [E],H)) (some (.norm [qN],H))) fun vs H=>hd vs fun F vs=>
 bV (pk3 (some B) (some (.bool true)) (some F)) fun G=>
 jn (wnt G false (bR (f20 D n [i,(.str 2 4466),(.str 1 53)] H) fun I H=>
 bV (qP .neq I (.int .i64 (.ofNat 0))) fun J=>
 some (.norm [J],H)) (some (.norm [qN],H))) fun vs H=>hd vs fun K vs=>
 bV (pk3 (some G) (some (.bool true)) (some K)) fun M=>
 cnd M (bV (some (.bool false)) fun N=>some (.ret N,H))
 (jb 0 (qV n (zAj D n) [a,i, .nilSlice,(.int .i64 (.ofNat 0))] H) (zKT D n))))
def h5z:Hint:=(.s .o (.s (.s .o (.cl (.s .o .o) .o)) (.s .o (.s (.s .o (.cl (.s .o .o) .o)) (.s .o (.s (.s .o (.b [3] (.l [0,3,4,5] (.s (.s .o (.cr .o .o)) (.s (.b0 (.s .o (.s (.s .o (.c [0,3,4,5,6] .o .o)) (.s (.s .o (.cl (.s .o .o) .o)) (.s .o (.s .o (.b [0,3,4,5] (.l [0,3,4,5,7] (.s (.s .o (.cr .o .o)) (.s (.b0 (.s .o (.cl (.s .o .o) .o))) .o)))))))))) .o))))) (.s .o (.s .o (.s (.s .o (.b [3,8] (.l [3,8,9,10] (.s (.s .o (.cr .o .o)) (.s (.b0 (.s .o (.s (.s .o (.cl .o .o)) (.s .o .o)))) .o))))) (.s (.s .o (.b [8] (.l [3,8,137,138,139] (.s .o (.s (.cr .o .o) (.s (.b0 (.s .o (.s .o (.s .o (.cl (.s .o .o) .o))))) .o)))))) (.s .o .o)))))))))))
theorem f5z_ok {D:Dyn}(hD:DG D)(n:Nat):FI 5 (f5z D n):=qS (n:=n) (h:=h5z) X_ok hD (sc (zLZ hD n) (sc (zFd hD n) (sc (zBF hD n) (sc (zBy hD n) (sc (zBC hD n) (sc (zFb hD n) (sc (zF8 hD n) (sc (zF7 hD n) (SOk.nil))))))))) Tryz.func5 (by kernel_rfl) (by kernel_rfl)
end Go.Eng.Sh
end
end
section
namespace Go.Nd
abbrev Str:=List UInt8
structure Ptr where
 at_:Int
 birth:Int
 sum:Int
 deriving DecidableEq
structure Node where
 leaf:Bool
 keys:List Str
 vals:List Str
 kids:List Ptr
 deriving DecidableEq
def be:Nat→Nat→Str
 | 0,_=>[]
 | k+1,n=>be k (n / 256)++[UInt8.ofNat n]
theorem be_length: ∀k n,(be k n).length=k
 | 0,_=>rfl
 | k+1,n=>by simp[be,be_length k]
def zKu (p:Ptr):Bool:=if p.at_=0 then decide (p.birth=0)&&decide (p.sum=0)else decide (0<p.at_)&&decide (p.at_<8192)&&decide (0≤p.birth)&&decide (p.birth≤2147483647)
def encP (p:Ptr):Str:=be 4 p.at_.toNat++(be 4 p.birth.toNat++be 8 p.sum.toNat)
theorem encP_length (p:Ptr):(encP p).length=16:=by simp[encP,be_length]
def sumOk (p:Ptr):Prop:=0≤p.sum∧p.sum<18446744073709551616
def encT (s:Str):Str:=UInt8.ofNat s.length::s
def mayK (k:Str):Bool:=decide (1≤k.length)&&decide (k.length≤40)
def rising (lt:Str→Str→Bool):List Str→Bool
 | []=>true
 | [_]=>true
 | a::b::l=>lt a b&&rising lt (b::l)
def kidOk (p:Ptr):Bool:=decide (1≤p.at_)&&decide (p.at_<8192)&&decide (0≤p.birth)&&decide (p.birth≤2147483647)
def shaped (lt:Str→Str→Bool)(n:Node):Bool:=
 n.keys.all mayK&&rising lt n.keys&&
 (if n.leaf then decide (n.vals.length=n.keys.length)&&decide (n.kids=[])&&n.vals.all (fun v=>decide (v.length≤200))
  else decide (n.keys≠[])&&decide (n.vals=[])&&decide (n.kids.length=n.keys.length+1)&&n.kids.all kidOk)
def yJ (l:List Str):Nat:=l.foldl (fun n s=>n+(1+s.length)) 0
theorem XO (l:List Str)(a:Nat):l.foldl (fun n s=>n+(1+s.length)) a=a+yJ l:=by
 induction l generalizing a with
 | nil=>simp[yJ]
 | cons s l ih=>simp only[List.foldl_cons,yJ];rw[ih,ih];omega
theorem sumL_cons (s:Str)(l:List Str):yJ (s::l)=1+s.length+yJ l:=by
 simp only[yJ,List.foldl_cons];rw[XO,XO];simp[yJ]
theorem sumL_append (l m:List Str):yJ (l++m)=yJ l+yJ m:=by
 induction l with
 | nil=>simp[yJ]
 | cons s l ih=>rw[List.cons_append,sumL_cons,sumL_cons,ih];omega
def size (n:Node):Nat:=2+16*n.kids.length+yJ n.keys+yJ n.vals
def may (lt:Str→Str→Bool)(n:Node):Bool:=shaped lt n&&decide (size n≤500)
def encL:List Str→List Str→Str
 | k::ks,v::vs=>encT k++(encT v++encL ks vs)
 | _,_=>[]
def encI:List Str→List Ptr→Str
 | k::ks,p::ps=>encT k++(encP p++encI ks ps)
 | _,_=>[]
def encB (n:Node):Str:=if n.leaf then encL n.keys n.vals else match n.kids with
 | p::ps=>encP p++encI n.keys ps
 | []=>[]
def encN (n:Node):Str:=be 2 n.keys.length++encB n
theorem sumL_ge (l:List Str):l.length≤yJ l:=by
 induction l with
 | nil=>simp
 | cons s l ih=>rw[sumL_cons,zG];omega
end Go.Nd
end
section
namespace Go.Eng
theorem vW {b:List AV→AH→Rs}{H:AH}{r:Rs}(st:Nat→List AV)(N:Nat)(step: ∀i,i<N→b (st i) H=some (.norm (st (i+1)),H))(last: ∀n,qV (n+1) b (st N) H=r): ∀n,N<n→qV n b (st 0) H=r:=by
 suffices h: ∀(m i n:Nat),i+m=N→m<n→qV n b (st i) H=r from fun n hn=>h N 0 n (by omega) hn
 intro m
 induction m with
 | zero=>
  intro i n hi hn
  obtain⟨n,rfl⟩: ∃k,n=k+1:=⟨n - 1,by omega⟩
  rw[show i=N by omega];exact last n
 | succ m ih=>
  intro i n hi hn
  obtain⟨n,rfl⟩: ∃k,n=k+1:=⟨n - 1,by omega⟩
  rw[xK (step i (by omega))]
  exact ih (i+1) n (by omega) (by omega)
theorem fR {α:Type}(l:List α)(i:Nat)(h:i<l.length):l.take (i+1)=l.take i++[l[i]]:=by
 rw[zI h]
theorem Z4 (H:AH)(l:List AV)(e sz o:Nat)(g:Bool):ld1 (.ptr H.next o) (H.push (.cells l e sz g))=l[o]? :=by simp only[ld1,AH.push_get_eq,fY]
theorem zHA (H:AH)(l:List AV)(e sz o n:Nat)(g:Bool):ldN n (.ptr H.next o) (H.push (.cells l e sz g))=(vN l o n).map .agg:=by
 simp only[ldN,AH.push_get_eq];cases vN l o n<;>rfl
theorem zEs {H:AH}{A:Nat}(o:Nat)(x:AObj)(h:A<H.next):ld1 (.ptr A o) (H.push x)=ld1 (.ptr A o) H:=by simp only[ld1,AH.push_get_ne _ _ h]
theorem zKA {H:AH}{A:Nat}(o n:Nat)(x:AObj)(h:A<H.next):ldN n (.ptr A o) (H.push x)=ldN n (.ptr A o) H:=by simp only[ldN,AH.push_get_ne _ _ h]
theorem jB {b:List AV→AH→Rs}(N:Nat)(I:Nat→List AV→AH→Prop)(step: ∀i vs H,i<N→I i vs H→ ∃vs' H',b vs H=some (.norm vs',H')∧I (i+1) vs' H'):
  ∀(n:Nat) (vs:List AV) (H:AH),I 0 vs H→N<n→ ∃m vs' H',qV n b vs H=qV (m+1) b vs' H'∧I N vs' H':=by
 suffices h: ∀(m i n:Nat) (vs:List AV) (H:AH),i+m=N→m<n→I i vs H→ ∃m vs' H',qV n b vs H=qV (m+1) b vs' H'∧I N vs' H' from fun n vs H h0 hn=>h N 0 n vs H (by omega) hn h0
 intro m
 induction m with
 | zero=>
  intro i n vs H hi hn hI
  obtain⟨n,rfl⟩: ∃k,n=k+1:=⟨n - 1,by omega⟩
  exact⟨n,vs,H,rfl,by rw[show N=i by omega];exact hI⟩
 | succ m ih=>
  intro i n vs H hi hn hI
  obtain⟨n,rfl⟩: ∃k,n=k+1:=⟨n - 1,by omega⟩
  obtain⟨vs',H',h1,h2⟩:=step i vs H (by omega) hI
  rw[xK h1]
  exact ih (i+1) n vs' H' (by omega) (by omega) h2
def notN:Ex→Bool
 | .norm _=>false
 | _=>true
theorem zEw {e:Ex}{H:AH}{K:List AV→AH→Rs}(h:notN e=true):jn (some (e,H)) K=some (e,H):=by cases e<;>first | rfl | (simp[notN]at h)
theorem KT {b:List AV→AH→Rs}(N:Nat)(good:Nat→Bool)(I:Nat→List AV→AH→Prop)(Good Bad:Ex→AH→Prop)
  (step: ∀i vs H,i<N→I i vs H→good i=true→ ∃vs' H',b vs H=some (.norm vs',H')∧I (i+1) vs' H')
  (bad: ∀i vs H,i<N→I i vs H→good i=false→ ∃e H',b vs H=some (e,H')∧notN e=true∧Bad e H')
  (last: ∀vs H,I N vs H→ ∃e H',b vs H=some (e,H')∧notN e=true∧Good e H'):
  ∀(n:Nat) (vs:List AV) (H:AH),I 0 vs H→N<n→ ∃e H',qV n b vs H=some (e,H')∧if(List.range N).all good then Good e H' else Bad e H':=by
 suffices h: ∀(m i n:Nat) (vs:List AV) (H:AH),i+m=N→m<n→I i vs H→(∀j,j<i→good j=true)→ ∃e H',qV n b vs H=some (e,H')∧if(List.range N).all good then Good e H' else Bad e H' from
  fun n vs H h0 hn=>h N 0 n vs H (by omega) hn h0 (fun j hj=>by omega)
 intro m
 induction m with
 | zero=>
  intro i n vs H hi hn hI hg
  obtain⟨n,rfl⟩: ∃k,n=k+1:=⟨n - 1,by omega⟩
  rw[show i=N by omega]at hI hg
  obtain⟨e,H',h1,h2,h3⟩:=last vs H hI
  refine⟨e,H', ?_, ?_⟩
  ·show jn (b vs H) _=_
   rw[h1,zEw h2]
  ·rw[if_pos (by simpa[List.all_eq_true]using hg)];exact h3
 | succ m ih=>
  intro i n vs H hi hn hI hg
  obtain⟨n,rfl⟩: ∃k,n=k+1:=⟨n - 1,by omega⟩
  cases hgi:good i with
  | true=>
   obtain⟨vs',H',h1,h2⟩:=step i vs H (by omega) hI hgi
   rw[xK h1]
   exact ih (i+1) n vs' H' (by omega) (by omega) h2 (fun j hj=>by
    rcases Nat.lt_succ_iff_lt_or_eq.1 hj with h | rfl
    ·exact hg j h
    ·exact hgi)
  | false=>
   obtain⟨e,H',h1,h2,h3⟩:=bad i vs H (by omega) hI hgi
   refine⟨e,H', ?_, ?_⟩
   ·show jn (b vs H) _=_
    rw[h1,zEw h2]
   ·rw[if_neg (by
     simp only[List.all_eq_true,List.mem_range];intro h
     have:=h i (by omega)
     rw[hgi]at this;cases this)];exact h3
theorem zCQ (want:Bool)(x y:Rs):wnt qN want x y=y:=by cases want<;>rfl
theorem zBS (k k':IntKind){a:Int}{s:Nat}(ha:0≤a)(hs:s≤k.bits):qP .shr (.int k a) (.int k' (s:Int))=some (.int k (a / 2 ^ s)):=by
 show fI (a.fdiv ((2 ^ (Nat.min s k.bits):Nat):Int)) (fun r=>some (AV.int k r))=_
 rw[zCv,show Nat.min s k.bits=s from Nat.min_eq_left hs,Int.fdiv_eq_ediv_of_nonneg _ (Int.natCast_nonneg _)]
 simp
theorem zIr (k k':IntKind)(a:Int){s:Nat}(hs:s≤k.bits):qP .shl (.int k a) (.int k' (s:Int))=some (.int k (k.wrap (a*2 ^ s))):=by
 show mkI k (a*(2 ^ (Nat.min s k.bits):Nat))=_
 rw[wJ,show Nat.min s k.bits=s from Nat.min_eq_left hs];simp
theorem yE {v:AV}(h:isCell v=true):qU v=[v]:=by cases v<;>first | rfl | (simp[isCell]at h)
theorem Rw.isCell {k n:Nat}{H:AH}{v:AV}{l:List AV}(h:Rw k H v n l):Eng.isCell v=true:=by
 obtain⟨_,⟨rfl,_⟩ | ⟨rfl,_⟩ | ⟨A,off,cc,c,e,sz,g,rfl,_⟩⟩:=h<;>rfl
theorem JW (k:IntKind)(a b:Int):UT (dD k) (.int k a) (.int k b)=some (decide (a=b)):=by
 have:keq k k=true:=by rw[kH];simp
 simp only[UT,Nat.beq_refl,this,Bool.and_self,cond_true,kI]
 congr 1
theorem yI {k n:Nat}{H:AH}{v:AV}{l:List AV}(h:Rw k H v n l):aveq v v=true:=by
 obtain⟨_,⟨rfl,_⟩ | ⟨rfl,_⟩ | ⟨A,off,cc,c,e,sz,g,rfl,_⟩⟩:=h
 ·rfl
 ·rfl
 ·simp[aveq]
theorem yZ {x:Option AV}{v:AV}{K:Rs}(h:x=some v)(hv:aveq v v=true):chk x v K=K:=by subst h;simp[chk,hv]
theorem qL {H:AH}{A:Nat}{l:List AV}{e:TypeId}{sz:Nat}{g:Bool}(h:H.h.get A=some (.cells l e sz g))(o:Nat):ld1 (.ptr A o) H=l[o]? :=by simp only[ld1,h,fY]
theorem qR {H:AH}{A:Nat}{l:List AV}{e:TypeId}{sz:Nat}{g:Bool}(h:H.h.get A=some (.cells l e sz g))(o n:Nat):ldN n (.ptr A o) H=(vN l o n).map .agg:=by simp only[ldN,h];cases vN l o n<;>rfl
theorem zMO (b c:Bool)(H:AH)(K:AV→AH→Rs):
  jn (if b=false then some (.norm [.bool c],H)else some (.norm [qN],H)) (fun vs H=>hd vs fun y _=>bV (if b=true then some (.bool true)else some y) fun x=>K x H)=K (.bool (b||c)) H:=by
 cases b<;>simp[jn,hd,bV]
theorem zMN (p:Prop)[Decidable p](b:Bool)(H:AH)(K:AV→AH→Rs):
  jn (if ¬p then some (.norm [.bool b],H)else some (.norm [qN],H)) (fun vs H=>hd vs fun y _=>bV (if p then some (.bool true)else some y) fun x=>K x H)=K (.bool (decide p||b)) H:=by
 by_cases h:p<;>simp[h,jn,hd,bV]
theorem lg:(∀(p:Prop) [Decidable p] (b:Bool) (H:AH) (K:AV→AH→Rs),jn (if ¬p then some (.norm [.bool b],H)else some (.norm [qN],H)) (fun vs H=>hd vs fun y _=>bV (if p then some (.bool true)else some y) fun x=>K x H)=K (.bool (decide p||b)) H)∧
  (∀(p:Prop) [Decidable p] (b:Bool) (H:AH) (K:AV→AH→Rs),jn (if p then some (.norm [.bool b],H)else some (.norm [qN],H)) (fun vs H=>hd vs fun y _=>bV (if p then some y else some (.bool false)) fun x=>K x H)=K (.bool (decide p&&b)) H)∧
  (∀(p:Prop) [Decidable p] (b:Bool) (H:AH) (K:AV→AH→Rs),jn (if p then some (.norm [qN],H)else some (.norm [.bool b],H)) (fun vs H=>hd vs fun y _=>bV (if p then some (.bool true)else some y) fun x=>K x H)=K (.bool (decide p||b)) H)∧
  (∀(b c:Bool) (H:AH) (K:AV→AH→Rs),jn (if b=false then some (.norm [.bool c],H)else some (.norm [qN],H)) (fun vs H=>hd vs fun y _=>bV (if b=true then some (.bool true)else some y) fun x=>K x H)=K (.bool (b||c)) H)∧
  (∀(p:Prop) [Decidable p],(decide p=true)=p)∧(∀(p:Prop) [Decidable p],(decide p=false)= ¬p)∧(∀(b:Bool),decide (b=true)=b):=
 ⟨fun p _ b H K=>zMN p b H K,fun p _ b H K=>zMQ p b H K,fun p _ b H K=>jn_or p b H K,zMO,fun p _=>zC,fun p _=>by simp,fun b=>by simp⟩
theorem ev:(∀(v:AV) (vs:List AV) (K:AV→List AV→Rs),hd (v::vs) K=K v vs)∧
 (∀(K:Rs),nl [] K=K)∧
 (∀(v:AV) (K:AV→Rs),bV (some v) K=K v)∧
 (∀(v:AV) (H:AH) (K:AV→AH→Rs),bR (some (v,H)) K=K v H)∧
 (∀(vs:List AV) (H:AH) (K:List AV→AH→Rs),jn (some (.norm vs,H)) K=K vs H)∧
 (∀(v:AV) (H:AH) (K:List AV→AH→Rs),jn (some (.ret v,H)) K=some (.ret v,H))∧
 (∀(i:Nat) (vs:List AV) (H:AH) (K:List AV→AH→Rs),jn (some (.exit i vs,H)) K=some (.exit i vs,H))∧
 (∀(id:Nat) (vs:List AV) (H:AH) (K:List AV→AH→Rs),jb id (some (.norm vs,H)) K=K vs H)∧
 (∀(id:Nat) (v:AV) (H:AH) (K:List AV→AH→Rs),jb id (some (.ret v,H)) K=some (.ret v,H))∧
 (∀(id:Nat) (vs:List AV) (H:AH) (K:List AV→AH→Rs),jb id (some (.exit id vs,H)) K=K vs H)∧
 (∀(v:AV) (H:AH),outR (some (.ret v,H))=some (v,H))∧
 (∀(b:Bool) (x y:Rs),cnd (.bool b) x y=if b then x else y)∧
 (∀(b want:Bool) (x y:Rs),wnt (.bool b) want x y=if b=want then x else y)∧
 (∀(b:Bool) (x y:Option AV),pk3 (some (.bool b)) x y=if b then x else y)∧
 (∀(k:IntKind) (a b:Int),qP .add (.int k a) (.int k b)=some (.int k (k.wrap (a+b))))∧
 (∀(k:IntKind) (a b:Int),qP .sub (.int k a) (.int k b)=some (.int k (k.wrap (a - b))))∧
 (∀(k:IntKind) (a b:Int),qP .mul (.int k a) (.int k b)=some (.int k (k.wrap (a*b))))∧
 (∀(k:IntKind) (a b:Int),qP .eql (.int k a) (.int k b)=some (.bool (decide (a=b))))∧
 (∀(k:IntKind) (a b:Int),qP .neq (.int k a) (.int k b)=some (.bool (decide (a≠b))))∧
 (∀(k:IntKind) (a b:Int),qP .lss (.int k a) (.int k b)=some (.bool (decide (a<b))))∧
 (∀(k:IntKind) (a b:Int),qP .leq (.int k a) (.int k b)=some (.bool (decide (a≤b))))∧
 (∀(k:IntKind) (a b:Int),qP .gtr (.int k a) (.int k b)=some (.bool (decide (b<a))))∧
 (∀(k:IntKind) (a b:Int),qP .geq (.int k a) (.int k b)=some (.bool (decide (b≤a))))∧
 (∀(k k':IntKind) (z:Int),cvI k (.int k' z)=some (.int k (k.wrap z)))∧
 (∀(a b:Bool),X0 .eql (.bool a) (.bool b)=some (.bool (a==b)))∧
 (∀(a b:Bool),X0 .neq (.bool a) (.bool b)=some (.bool (!(a==b))))∧
 (∀(b:Bool),aun .not (.bool b)=some (.bool !b))∧
 (∀(l:Str),jV (S l)=some (.int .i64 (l.length:Nat)))∧
 (∀(l m:Str),jY .eql (S l) (S m)=some (.bool (decide (l=m))))∧
 (∀(l m:Str),jY .neq (S l) (S m)=some (.bool (decide (l≠m))))∧
 (∀(l m:Str),jY .lss (S l) (S m)=some (.bool (ltS l m)))∧
 (∀(l m:Str),jY .geq (S l) (S m)=some (.bool (!ltS l m)))∧
 (∀(A o:Nat),wU (.ptr A o)=some (.ptr A o))∧
 (∀(f A o:Nat),fAd f (.ptr A o)=some (.ptr A (o+f)))∧
 (∀(e:TypeId) (x:AV),bxV e x=some (.cells (qU x) e 1 false,fun A=> .ptr A 0))∧
 (∀(l:List AV),qU (.agg l)=l)∧
 (∀(H:AH) (l:List AV) (e sz o:Nat) (g:Bool),ld1 (.ptr H.next o) (H.push (.cells l e sz g))=l[o]?)∧
 (∀(H:AH) (l:List AV) (e sz o n:Nat) (g:Bool),ldN n (.ptr H.next o) (H.push (.cells l e sz g))=(vN l o n).map .agg)∧
 (∀(a:AV) (l:List AV),(a::l)[0]? =some a)∧
 (∀(a:AV) (l:List AV) (i:Nat),(a::l)[i+1]? =l[i]?)∧
 (∀(n:Nat),0+n=n)∧
 (∀(n:Nat),Int.ofNat n=(n:Int))∧
 (∀(z:Int), -9223372036854775808≤z→z≤9223372036854775807→IntKind.wrap .i64 z=z):=
 ⟨uV,zBd,bVs,bRs,KZ,zMM,zKE,zKF,zMR,zKG,zB5,zCD,zM1,zMw,dV,zIq,zIu,zIv,zBT,dU,zBU,zBV,zBW,zLm,zGj,zGi,zLv,wM,ZD,wZ,WZ,dS,zHi,zKQ,fun _ _=>rfl,fun _=>rfl,Z4,zHA,fun _ _=>List.getElem?_cons_zero,fun _ _ _=>List.getElem?_cons_succ,Nat.zero_add,fun _=>rfl,fun _ h1 h2=>wrap_i64 h1 h2⟩
def eZ:=And.intro zCQ (And.intro ev (And.intro lg ew))
def yF (k e:Nat)(H:AH)(v:AV)(n:Nat)(l:List AV):Prop:=
 Own k e H v n l∨(l.length=n*k∧ ∃A e' g,v= .slice A 0 n (2*n)∧A<H.next∧H.h.get A=some (.cells l e' k g))
theorem yF.len {k e n:Nat}{H:AH}{v:AV}{l:List AV}(h:yF k e H v n l):l.length=n*k:=by
 rcases h with h | h
 ·exact h.1
 ·exact h.1
theorem yF.row {k e n:Nat}{H:AH}{v:AV}{l:List AV}(h:yF k e H v n l):Rw k H v n l:=by
 rcases h with h | ⟨h0,A,e',g,rfl,hA,hg⟩
 ·exact h.row
 ·exact⟨h0, .inr (.inr ⟨A,0,2*n,l,e',k,g,rfl,hg,hA,by omega,by rw[List.drop_zero,zJ (by omega)]⟩)⟩
theorem yF.mono {k e n:Nat}{S:Nat→Prop}{H H':AH}{v:AV}{l:List AV}(h:yF k e H v n l)(s:Stp S H H')(hS: ∀A,Blk v A→ ¬S A):yF k e H' v n l:=by
 rcases h with h | ⟨h0,A,e',g,rfl,hA,hg⟩
 ·exact .inl (h.mono s hS)
 ·exact .inr ⟨h0,A,e',g,rfl,zT hA s.next,by rw[s.keep A hA (hS A (Blk.slice.2 rfl))];exact hg⟩
theorem yF.lt {k e n:Nat}{H:AH}{v:AV}{l:List AV}(h:yF k e H v n l){B:Nat}(hB:Blk v B):B<H.next:=by
 rcases h with⟨_,⟨rfl,_⟩ | ⟨A,rfl,hA,_⟩⟩ | ⟨_,A,e',g,rfl,hA,_⟩
 ·exact(Blk.nil.1 hB).elim
 ·rw[Blk.slice.1 hB];exact hA
 ·rw[Blk.slice.1 hB];exact hA
theorem yF.app1 {k e bytes n m:Nat}{H:AH}{v:AV}{l new:List AV}(hk:H.ok)(hpos:0<k)(h:yF k e H v n l)(hm:new.length=m*k)(hn:n+m≤1000000000)(hb:bytes≤1000):
  ∃v' H',Eng.app1 e k bytes m new v H=some (v',H')∧yF k e H' v' (n+m) (l++new)∧Stp (Blk v) H H'∧(∀B,Blk v' B→Blk v B∨H.next≤B):=by
 by_cases h0:m=0
 ·subst h0
  have:new=[]:=zF (by simpa using hm)
  subst this
  rcases h with h | ⟨h0,A,e',g,rfl,hA,hg⟩
  ·obtain⟨H',h1,h2,h3,h4⟩:=BC (bytes:=bytes) hk hpos h
   exact⟨v,H',h1, .inl (by simpa using h2),h3.mono (fun _ _ x=>x.elim),fun B hB=> .inl hB⟩
  ·have hroom:yK l g k 0 (2*n) k=n:=by
    simp only[yK,show((2*n) % 2).beq 0=true by rw[Nat.mul_mod_right];rfl,cond_true,Nat.mul_div_cancel_left n (show 0<2 by omega)]
   have hz:Nat.blt 0 k=true:=by rw[zL];exact hpos
   have hset:setAt l (0+n*k) []=some l:=by rw[vF (by simp;omega)];simp
   have hg':(H.put A (.cells l e' k g)).h.get A=some (.cells l e' k g):=by rw[AH.put_get,if_pos rfl]
   refine⟨.slice A 0 n (2*n),H.put A (.cells l e' k g), ?_, .inr ⟨by simpa using h0,A,e',g,rfl,hA,by simpa using hg'⟩,(Stp.refl hk).put hA _ (.inr (Blk.slice.2 rfl)),fun B hB=> .inl hB⟩
   simp only[Eng.app1,hg,zGm,hroom,Nat.add_zero,Nat.ble_eq_true_of_le (Nat.le_refl n),cond_true,hz,hset,zAF,yQ,yB]
 ·rcases h with h | ⟨hl,A,e',g,rfl,hA,hg⟩
  ·obtain⟨H',h1,h2,h3,h4⟩:=X2 (bytes:=bytes) hk hpos h hm (by omega) hn hb
   exact⟨_,H',h1, .inl h2,h3,fun B hB=> .inr (by rw[Blk.slice.1 hB];exact Nat.le_refl _)⟩
  ·have h1:=BE (k:=k) (e:=e) (bytes:=bytes) (n:=n) (m:=m) (off:=0) (new:=new) hk hg (by omega) (by omega) hn hb
   rw[List.drop_zero,zJ (by omega)]at h1
   refine⟨_,_,h1, .inl ⟨by simp[hl,hm,Nat.add_mul], .inr ⟨H.next,rfl,Nat.lt_succ_self _,AH.push_get_eq _ _⟩⟩,(Stp.refl hk).push _,fun B hB=> .inr (by rw[Blk.slice.1 hB];exact Nat.le_refl _)⟩
theorem yF.app {k e bytes n m:Nat}{H:AH}{v s:AV}{l new:List AV}(hk:H.ok)(hpos:0<k)(h:yF k e H v n l)(hs:srcOf k s H=some (m,new))(hm:new.length=m*k)(hc:qO new=true)(hn:n+m≤1000000000)(hb:bytes≤1000):
  ∃v' H',apP e k bytes v s H=some (v',H')∧yF k e H' v' (n+m) (l++new)∧Stp (Blk v) H H'∧(∀B,Blk v' B→Blk v B∨H.next≤B):=by
 obtain⟨v',H',h1,h2⟩:=h.app1 (bytes:=bytes) (e:=e) hk hpos hm hn hb
 exact⟨v',H',by simp only[apP,hs,hc,cond_true,h1],h2⟩
theorem yF.isCell {k e n:Nat}{H:AH}{v:AV}{l:List AV}(h:yF k e H v n l):isCell v=true:=h.row.isCell
def Box (H:AH)(A:Nat)(v:AV):Prop:= ∃e,H.h.get A=some (.cells [v] e 1 false)
theorem Box.ld {H:AH}{A:Nat}{v:AV}(h:Box H A v):ld1 (.ptr A 0) H=some v:=by
 obtain⟨e,h⟩:=h;rw[qL h];rfl
theorem Box.st {H:AH}{A:Nat}{v x:AV}(h:Box H A v)(hk:H.ok)(hx:Eng.isCell x=true): ∃H',stN 1 (.ptr A 0) x H=some (qN,H')∧Box H' A x∧Stp (fun B=>B=A) H H':=by
 obtain⟨e,h⟩:=h
 exact⟨_,YT h (by decide) hx (by simp),⟨e,by rw[AH.put_get,if_pos rfl];rfl⟩,(Stp.refl hk).put (hk.lt h) _ (.inr rfl)⟩
theorem Box.mono {S:Nat→Prop}{H H':AH}{A:Nat}{v:AV}(h:Box H A v)(hk:H.ok)(s:Stp S H H')(hA: ¬S A):Box H' A v:=by
 obtain⟨e,h⟩:=h;exact⟨e,by rw[s.keep A (hk.lt h) hA];exact h⟩
theorem Box.lt {H:AH}{A:Nat}{v:AV}(h:Box H A v)(hk:H.ok):A<H.next:=by obtain⟨e,h⟩:=h;exact hk.lt h
end Go.Eng
end
section
namespace Go.Nd
theorem rising_ix (lt:Str→Str→Bool): ∀l:List Str,rising lt l=true↔ ∀i (h:i+1<l.length),lt l[i] l[i+1]=true
 | []=>by simp[rising]
 | [a]=>by simp[rising]
 | a::b::l=>by
  have ih:=rising_ix lt (b::l)
  simp only[rising,z7,ih]
  constructor
  ·rintro⟨h1,h2⟩ i h
   cases i with
   | zero=>exact h1
   | succ i=>exact h2 i (by simpa using h)
  ·intro h
   exact⟨h 0 (by simp),fun i hi=>h (i+1) (by simpa using hi)⟩
theorem rising_take {lt:Str→Str→Bool}{l:List Str}(h:rising lt l=true)(k:Nat):rising lt (l.take k)=true:=by
 rw[rising_ix]at h⊢
 intro i hi
 simp only[zH]at hi
 simp only[List.getElem_take]
 exact h i (by omega)
theorem rising_drop {lt:Str→Str→Bool}{l:List Str}(h:rising lt l=true)(k:Nat):rising lt (l.drop k)=true:=by
 rw[rising_ix]at h⊢
 intro i hi
 simp only[zO]at hi
 simp only[List.getElem_drop]
 exact h (k+i) (by omega)
theorem ZE {α:Type}{f:α→Bool}{l:List α}(h:l.all f=true)(k:Nat):(l.take k).all f=true:=by
 simp only[List.all_eq_true]at h⊢
 exact fun x hx=>h x (List.mem_of_mem_take hx)
theorem ZF {α:Type}{f:α→Bool}{l:List α}(h:l.all f=true)(k:Nat):(l.drop k).all f=true:=by
 simp only[List.all_eq_true]at h⊢
 exact fun x hx=>h x (List.mem_of_mem_drop hx)
def cutA (n:Node)(k:Nat):Node:=if n.leaf then⟨true,n.keys.take k,n.vals.take k,[]⟩else⟨false,n.keys.take k,[],n.kids.take (k+1)⟩
def fJ (n:Node)(k:Nat):Node:=if n.leaf then⟨true,n.keys.drop k,n.vals.drop k,[]⟩else⟨false,n.keys.drop (k+1),[],n.kids.drop (k+1)⟩
def bU (a:Node)(sep:Str)(b:Node):Node:=if a.leaf then⟨true,a.keys++b.keys,a.vals++b.vals,[]⟩else⟨false,a.keys++([sep]++b.keys),[],a.kids++b.kids⟩
def cutOk (n:Node)(k:Nat):Prop:=1≤k∧k+(if n.leaf then 1 else 2)≤n.keys.length
theorem cut_shaped {lt:Str→Str→Bool}{n:Node}{k:Nat}(h:shaped lt n=true)(hk:cutOk n k):shaped lt (cutA n k)=true∧shaped lt (fJ n k)=true:=by
 obtain⟨leaf,keys,vals,kids⟩:=n
 obtain⟨k1,k2⟩:=hk
 cases leaf with
 | true=>
  simp only[shaped,if_true,z7,zC]at h k2
  obtain⟨⟨h1,h2⟩,⟨h3,h4⟩,h5⟩:=h
  simp only[shaped,cutA,fJ,if_true,z7,zC]
  exact⟨⟨⟨ZE h1 k,rising_take h2 k⟩,⟨by simp[h3],trivial⟩,ZE h5 k⟩,⟨ZF h1 k,rising_drop h2 k⟩,⟨by simp[h3],trivial⟩,ZF h5 k⟩
 | false=>
  simp only[shaped,Bool.false_eq_true,if_false,z7,zC]at h k2
  obtain⟨⟨h1,h2⟩,⟨⟨h3,h4⟩,h5⟩,h6⟩:=h
  simp only[shaped,cutA,fJ,Bool.false_eq_true,if_false,z7,zC]
  refine⟨⟨⟨ZE h1 k,rising_take h2 k⟩,⟨⟨?_,trivial⟩, ?_⟩,ZE h6 _⟩,⟨ZF h1 _,rising_drop h2 _⟩,⟨⟨?_,trivial⟩, ?_⟩,ZF h6 _⟩
  ·intro e;have:=congrArg List.length e;rw[zH]at this;simp only[qA]at this;omega
  ·rw[zH,zH];omega
  ·intro e;have:=congrArg List.length e;rw[zO]at this;simp only[qA]at this;omega
  ·rw[zO,zO];omega
theorem sumL_drop_le (l:List Str)(k:Nat):yJ (l.drop k)≤yJ l:=by
 have:yJ l=yJ (l.take k)+yJ (l.drop k):=by rw[← sumL_append,List.take_append_drop]
 omega
theorem sumL_take_le (l:List Str)(k:Nat):yJ (l.take k)≤yJ l:=by
 have:yJ l=yJ (l.take k)+yJ (l.drop k):=by rw[← sumL_append,List.take_append_drop]
 omega
theorem cH (l:List Str)(k:Nat):yJ l=yJ (l.take k)+yJ (l.drop k):=by rw[← sumL_append,List.take_append_drop]
theorem cut_size {lt:Str→Str→Bool}{n:Node}{k:Nat}(h:shaped lt n=true)(hk:cutOk n k):size (cutA n k)<size n∧size (fJ n k)<size n:=by
 obtain⟨leaf,keys,vals,kids⟩:=n
 obtain⟨k1,k2⟩:=hk
 have p1:=cH keys k
 have g1:=sumL_ge (keys.take k)
 have g2:=sumL_ge (keys.drop k)
 simp only[zH,zO]at g1 g2
 cases leaf with
 | true=>
  simp only[if_true]at k2
  simp only[shaped,if_true,z7,zC]at h
  have p2:=cH vals k
  simp only[cutA,fJ,if_true,size,qA,h.2.1.2]
  omega
 | false=>
  simp only[Bool.false_eq_true,if_false]at k2
  simp only[shaped,Bool.false_eq_true,if_false,z7,zC]at h
  have h5:=h.2.1.2
  have p3:=cH keys (k+1)
  have g3:=sumL_ge (keys.take (k+1))
  simp only[zH]at g3
  simp only[cutA,fJ,Bool.false_eq_true,if_false,size,h.2.1.1.2,zH,zO]
  have:yJ []=0:=rfl
  omega
end Go.Nd
end
section
section
namespace Go.Eng.Sh
open Go.Nd (Ptr yJ)
theorem yS (D:Dyn)(n:Nat)(s:Str)(H:AH):zGK D n [S s] H=some (.bool (Nd.mayK s),H):=by
 simp only[zGK,uV,zBd,wM,bVs,zBW,zBU,zM1,zMP,KZ,zMw,zHj,zB5]
 have h1:(Int.ofNat 1≤((s.length:Nat):Int))=(1≤s.length):=by simp;omega
 have h2:(((s.length:Nat):Int)≤Int.ofNat 40)=(s.length≤40):=by simp;omega
 simp only[h1,h2,Nd.mayK]
 by_cases h:1≤s.length<;>simp[h,bVs,outR]
theorem sumL_nil:yJ []=0:=rfl
theorem zDo (l:List Str)(i:Nat)(hi:i<l.length):yJ (l.take (i+1))=yJ (l.take i)+(1+l[i].length)∧yJ (l.take i)+(1+l[i].length)≤yJ l:=by
 have hs:yJ l=yJ (l.take i)+(1+l[i].length+yJ (l.drop (i+1))):=by
  rw[← Nd.sumL_cons, ← zM hi, ← Nd.sumL_append,List.take_append_drop]
 refine⟨?_,by omega⟩
 rw[fR l i hi,Nd.sumL_append,Nd.sumL_cons];simp[yJ]
theorem size0 (D:Dyn)(n0:Nat){H:AH}{ks:AV}{l:List Str}(h:Strs H ks l)(x:AV)(a:Int)(n:Nat)(ha:0≤a)(hn:l.length<n)(hb:a+yJ l≤1000000000000):
  qV n (U6 D n0) [x, .int .i64 a,ks, .int .i64 (l.length:Nat), .int .i64 (0:Nat)] H=some (.exit 0 [x, .int .i64 (a+yJ l)],H):=by
 have key:=vW (b:=U6 D n0) (H:=H) (r:=some (.exit 0 [x, .int .i64 (a+yJ l)],H)) (fun i=>[x, .int .i64 (a+yJ (l.take i)),ks, .int .i64 (l.length:Nat), .int .i64 (i:Nat)]) l.length (fun i hi=>by
  obtain⟨p,h1,h2⟩:=h.at hi
  obtain⟨hs1,hs⟩:=zDo l i hi
  have hge:=Nd.sumL_ge l
  simp(disch:=omega) [U6,uV,bVs,dU,zCD,hi,h1,h2,wM,dV,wrap_i64,hs1,Int.add_assoc]) (fun n=>qZ (by
  simp[U6,uV,bVs,dU,zCD])) n hn
 simpa[sumL_nil]using key
theorem size1 (D:Dyn)(n0:Nat){H:AH}{ks:AV}{l:List Str}(h:Strs H ks l)(a:Int)(n:Nat)(ha:0≤a)(hn:l.length<n)(hb:a+yJ l≤1000000000000):
  qV n (U5 D n0) [.int .i64 a,ks, .int .i64 (l.length:Nat), .int .i64 (0:Nat)] H=some (.exit 2 [.int .i64 (a+yJ l)],H):=by
 have key:=vW (b:=U5 D n0) (H:=H) (r:=some (.exit 2 [.int .i64 (a+yJ l)],H)) (fun i=>[.int .i64 (a+yJ (l.take i)),ks, .int .i64 (l.length:Nat), .int .i64 (i:Nat)]) l.length (fun i hi=>by
  obtain⟨p,h1,h2⟩:=h.at hi
  obtain⟨hs1,hs⟩:=zDo l i hi
  have hge:=Nd.sumL_ge l
  simp(disch:=omega) [U5,uV,bVs,dU,zCD,hi,h1,h2,wM,dV,wrap_i64,hs1,Int.add_assoc]) (fun n=>qZ (by
  simp[U5,uV,bVs,dU,zCD])) n hn
 simpa[sumL_nil]using key
def qW (p:Ptr):List AV:=[.int .i64 p.at_, .int .i64 p.birth, .int .u64 p.sum]
def vM (H:AH)(v:AV)(l:List Ptr):Prop:=Rw 3 H v l.length (l.flatMap qW)
def bZ (H:AH)(v:AV)(n:Nd.Node):Prop:= ∃ks vs ps,v= .agg [.bool n.leaf,ks,vs,ps]∧Strs H ks n.keys∧Strs H vs n.vals∧vM H ps n.kids
theorem vM.lnSl {H:AH}{v:AV}{l:List Ptr}(h:vM H v l):Eng.lnSl v=some (.int .i64 (l.length:Int)):=Rw.lnSl h
theorem vM.prs {H H':AH}{v:AV}{l:List Ptr}(h:vM H v l)(s:Prs H H'):vM H' v l:=Rw.prs h s
theorem zN0: ∀(l:List Ptr) (i:Nat) (hi:i<l.length),((l.flatMap qW).drop (i*3)).take 3=qW l[i]
 | [],i,hi=>by simp at hi
 | p::l,0,_=>rfl
 | p::l,i+1,hi=>by
  have:=zN0 l i (by simpa using hi)
  rw[show(i+1)*3=i*3+3 from by omega]
  exact this
theorem vM.at {H:AH}{v:AV}{l:List Ptr}(h:vM H v l){i:Nat}(hi:i<l.length): ∃p,(∀κ (z:Int),z=(i:Int)→yW 3 v (.int κ z)=some p)∧Eng.ldN 3 p H=some (.agg (qW l[i])):=by
 obtain⟨p,h1,h2⟩:=Rw.ldN h hi
 rw[zN0 l i hi]at h2
 exact⟨p,h1,h2⟩
theorem bZ.prs {H H':AH}{v:AV}{n:Nd.Node}(h:bZ H v n)(s:Prs H H'):bZ H' v n:=by
 obtain⟨ks,vs,ps,rfl,h1,h2,h3⟩:=h;exact⟨ks,vs,ps,rfl,h1.prs s,h2.prs s,h3.prs s⟩
def small (n:Nd.Node):Prop:=n.kids.length≤100000∧yJ n.keys≤100000000∧yJ n.vals≤100000000
theorem BV (D:Dyn)(n:Nat){H:AH}(hk:H.ok){v:AV}{nd:Nd.Node}(h:bZ H v nd)(hs:small nd)(hn:200000000≤n):
  Ret (zGJ D n [v] H) fun r H'=>r= .int .i64 (Nd.size nd:Nat)∧Prs H H':=by
 obtain⟨ks,vs,ps,rfl,h1,h2,h3⟩:=h
 obtain⟨s1,s2,s3⟩:=hs
 have hP:Prs H (H.push (.cells [.bool nd.leaf,ks,vs,ps] 133 1 false)):=(Stp.refl hk).push _
 have hkl:=Nd.sumL_ge nd.keys
 have hvl:=Nd.sumL_ge nd.vals
 simp(disch:=omega) only[zGJ,ev,vZ hk,h1.lnSl,h2.lnSl,h3.lnSl,size0 D n (h1.prs hP),zJo,size1 D n (h2.prs hP),zJp]
 apply Ret.pure;refine⟨?_,hP⟩
 simp only[Nd.size,AV.int.injEq,true_and];omega
open Go.Nd (be zKu encP)
theorem YV (lt:Str→Str→Bool): ∀l:List Str,Nd.rising lt l=true↔ ∀i (h:i+1<l.length),lt l[i] l[i+1]=true
 | []=>by simp[Nd.rising]
 | [a]=>by simp[Nd.rising]
 | a::b::l=>by
  have ih:=YV lt (b::l)
  simp only[Nd.rising,z7,ih]
  constructor
  ·rintro⟨h1,h2⟩ i h
   cases i with
   | zero=>exact h1
   | succ i=>exact h2 i (by simpa using h)
  ·intro h
   exact⟨h 0 (by simp),fun i hi=>h (i+1) (by simpa using hi)⟩
def zCt (l:List Str)(i:Nat):Bool:=Nd.mayK (l.getD i [])&&(decide (i=0)||ltS (l.getD (i - 1) []) (l.getD i []))
theorem zEL (l:List Str):(List.range l.length).all (zCt l)=(l.all Nd.mayK&&Nd.rising ltS l):=by
 rw[Bool.eq_iff_iff,z7,YV]
 simp only[List.all_eq_true,List.mem_range,zCt,z7,Bool.or_eq_true,zC]
 constructor
 ·intro h
  refine⟨fun x hx=> ?_,fun i hi=> ?_⟩
  ·obtain⟨i,hi,rfl⟩:=List.mem_iff_getElem.1 hx
   have:=(h i hi).1
   rwa[zK,zA hi]at this
  ·have:=(h (i+1) hi).2
   simp only[Nat.add_eq_zero_iff,Nat.one_ne_zero,and_false,false_or,Nat.add_sub_cancel]at this
   rwa[zK,zA (by omega),zK,zA hi]at this
 ·rintro⟨h1,h2⟩ i hi
  refine⟨?_, ?_⟩
  ·rw[zK,zA hi];exact h1 _ (zQ hi)
  ·by_cases h0:i=0
   ·exact .inl h0
   ·right
    have:=h2 (i - 1) (by omega)
    rw[zK,zA (show i - 1<l.length by omega),zK,zA hi]
    simpa[show i - 1+1=i by omega]using this
theorem BF {α:Type}(l:List α)(d:α)(f:α→Bool):(List.range l.length).all (fun i=>f (l.getD i d))=l.all f:=by
 rw[Bool.eq_iff_iff]
 simp only[List.all_eq_true,List.mem_range]
 constructor
 ·intro h x hx
  obtain⟨i,hi,rfl⟩:=List.mem_iff_getElem.1 hx
  have:=h i hi
  rwa[zK,zA hi]at this
 ·intro h i hi
  rw[zK,zA hi];exact h _ (zQ hi)
theorem kD {α:Type}{l:List α}{i:Nat}{d:α}(h:i<l.length):l.getD i d=l[i]:=by rw[zK,zA h];rfl
theorem zK5 (D:Dyn)(n:Nat){H:AH}{ks:AV}{l:List Str}(h:Strs H ks l){A e:Nat}{c:List AV}(hA:H.h.get A=some (.cells c e 1 false))(hc:c[1]? =some ks)(hl:l.length≤1000000000)(n':Nat)(hn:l.length<n'):
  ∃e H',qV n' (aN D n) [.ptr A 0,ks, .int .i64 (l.length:Nat), .int .i64 (0:Nat)] H=some (e,H')∧if(List.range l.length).all (zCt l)then(e= .exit 0 [.ptr A 0]∧H'=H)else(e= .ret (.bool false)∧H'=H):=by
 refine KT l.length (zCt l) (fun i vs H'=>H'=H∧vs=[.ptr A 0,ks, .int .i64 (l.length:Nat), .int .i64 (i:Nat)]) (fun e H'=>e= .exit 0 [.ptr A 0]∧H'=H) (fun e H'=>e= .ret (.bool false)∧H'=H) ?_ ?_ ?_ n' _ H ⟨rfl,rfl⟩ hn
 ·rintro i vs H' hi ⟨rfl,rfl⟩ hg
  obtain⟨p,h1,h2⟩:=h.at hi
  simp only[zCt,kD hi,z7,Bool.or_eq_true,zC]at hg
  refine⟨_,H', ?_,rfl,rfl⟩
  have hiI:((i:Nat):Int)< ((l.length:Nat):Int):=by omega
  by_cases h0:i=0
  ·subst h0
   simp(disch:=omega) only[aN,eZ,hiI,h1,h2,yS,hg.1,zX,show((0:Nat):Int)+((1:Nat):Int)=((0+1:Nat):Int)from rfl]
  ·have hlt:i - 1<l.length:=by omega
   obtain⟨q,q1,q2⟩:=h.at hlt
   have hg2:=hg.2.resolve_left h0
   rw[kD hlt]at hg2
   have hsub:((i:Nat):Int) - ((1:Nat):Int)=((i - 1:Nat):Int):=by omega
   have hpos:((0:Nat):Int)< (i:Int):=by omega
   simp(disch:=omega) only[aN,eZ,hiI,hpos,h1,h2,yS,hg.1,qL hA,hc,hsub,q1,q2,hg2,Int.natCast_add]
 ·rintro i vs H' hi ⟨rfl,rfl⟩ hg
  obtain⟨p,h1,h2⟩:=h.at hi
  have hiI:((i:Nat):Int)< ((l.length:Nat):Int):=by omega
  refine⟨.ret (.bool false),H', ?_,rfl,rfl,rfl⟩
  simp only[zCt,kD hi]at hg
  cases hm:Nd.mayK l[i]with
  | false=>simp(disch:=omega) only[aN,eZ,hiI,h1,h2,yS,hm]
  | true=>
   simp only[hm,Bool.true_and,Bool.or_eq_false_iff,decide_eq_false_iff_not]at hg
   have hlt:i - 1<l.length:=by omega
   obtain⟨q,q1,q2⟩:=h.at hlt
   have hg2:=hg.2
   rw[kD hlt]at hg2
   have hsub:((i:Nat):Int) - ((1:Nat):Int)=((i - 1:Nat):Int):=by omega
   have hpos:((0:Nat):Int)< (i:Int):=by omega
   simp(disch:=omega) only[aN,eZ,hiI,hpos,h1,h2,yS,hm,qL hA,hc,hsub,q1,q2,hg2]
 ·rintro vs H' ⟨rfl,rfl⟩
  refine⟨.exit 0 [.ptr A 0],H', ?_,rfl,rfl,rfl⟩
  simp only[aN,eZ,zX]
theorem zK4 (D:Dyn)(n:Nat){H:AH}{vs:AV}{l:List Str}(h:Strs H vs l)(hl:l.length≤1000000000)(n':Nat)(hn:l.length<n'):
  ∃e H',qV n' (UB D n) [vs, .int .i64 (l.length:Nat), .int .i64 (0:Nat)] H=some (e,H')∧if(List.range l.length).all (fun i=>decide ((l.getD i []).length≤200))then(e= .exit 2 []∧H'=H)else(e= .ret (.bool false)∧H'=H):=by
 refine KT l.length _ (fun i us H'=>H'=H∧us=[vs, .int .i64 (l.length:Nat), .int .i64 (i:Nat)]) (fun e H'=>e= .exit 2 []∧H'=H) (fun e H'=>e= .ret (.bool false)∧H'=H) ?_ ?_ ?_ n' _ H ⟨rfl,rfl⟩ hn
 ·rintro i us H' hi ⟨rfl,rfl⟩ hg
  obtain⟨p,h1,h2⟩:=h.at hi
  simp only[kD hi,zC]at hg
  refine⟨_,H', ?_,rfl,rfl⟩
  have hiI:((i:Nat):Int)< ((l.length:Nat):Int):=by omega
  have hg': ¬((200:Nat):Int)< ((l[i].length:Nat):Int):=by omega
  simp(disch:=omega) only[UB,eZ,hiI,h1,h2,hg',Int.natCast_add]
 ·rintro i us H' hi ⟨rfl,rfl⟩ hg
  obtain⟨p,h1,h2⟩:=h.at hi
  simp only[kD hi,decide_eq_false_iff_not]at hg
  refine⟨.ret (.bool false),H', ?_,rfl,rfl,rfl⟩
  have hiI:((i:Nat):Int)< ((l.length:Nat):Int):=by omega
  have hg':((200:Nat):Int)< ((l[i].length:Nat):Int):=by omega
  simp(disch:=omega) only[UB,eZ,hiI,h1,h2,hg',Int.natCast_add]
 ·rintro us H' ⟨rfl,rfl⟩
  refine⟨.exit 2 [],H', ?_,rfl,rfl,rfl⟩
  simp only[UB,eZ,zX]
def pz:Ptr:=⟨0,0,0⟩
theorem zMK (x:Ptr):(((decide (x.at_< ((1:Nat):Int))||decide (((8192:Nat):Int)≤x.at_))||decide (x.birth< ((0:Nat):Int)))||decide (((2147483647:Nat):Int)<x.birth))= !(Nd.kidOk x):=by
 rw[Bool.eq_iff_iff];simp only[Nd.kidOk,Bool.or_eq_true,zC,Bool.not_eq_true',Bool.and_eq_false_iff,decide_eq_false_iff_not];omega
theorem zGd {H':AH}(hk:H'.ok)(x:Ptr): ∃H2,stN 3 (.ptr H'.next 0) (.agg (qW x)) (H'.push (.cells [.int .i64 (0:Nat), .int .i64 (0:Nat), .int .u64 (0:Nat)] 72 1 false))=some (qN,H2)∧Prs H' H2∧H2.next=H'.next+1∧H2.h.get H'.next=some (.cells (qW x) 72 1 false):=by
 refine⟨_,XT (AH.push_get_eq _ _) (by decide) rfl rfl (by decide), ?_,rfl,by rw[AH.put_get,if_pos rfl];rfl⟩
 exact((Stp.refl hk).push _).fresh ((Stp.refl (hk.push _)).put (by rw[AH.push_next];omega) _ (.inr rfl)) (fun A hA=>by omega)
theorem zK3 (D:Dyn)(n:Nat){H:AH}(hk:H.ok){vs:AV}{l:List Ptr}(h:vM H vs l)(hl:l.length≤1000000000)(n':Nat)(hn:l.length<n'):
  ∃e H',qV n' (UA D n) [vs, .int .i64 (l.length:Nat), .int .i64 (0:Nat)] H=some (e,H')∧if(List.range l.length).all (fun i=>Nd.kidOk (l.getD i pz))then(e= .exit 4 []∧Prs H H')else(e= .ret (.bool false)∧Prs H H'):=by
 refine KT l.length _ (fun i us H'=>Prs H H'∧us=[vs, .int .i64 (l.length:Nat), .int .i64 (i:Nat)]) (fun e H'=>e= .exit 4 []∧Prs H H') (fun e H'=>e= .ret (.bool false)∧Prs H H') ?_ ?_ ?_ n' _ H ⟨Stp.refl hk,rfl⟩ hn
 ·rintro i us H' hi ⟨hP,rfl⟩ hg
  obtain⟨p,h1,h2⟩:=(h.prs hP).at hi
  simp only[kD hi]at hg
  generalize l[i]=x at hg h2
  obtain⟨H2,hH2,hP2,n2,g2⟩:=zGd hP.ok x
  have hiI:((i:Nat):Int)< ((l.length:Nat):Int):=by omega
  have hb:=zMK x
  rw[hg]at hb
  simp only[qW]at g2 hH2 h2
  refine⟨_,H2, ?_,hP.trans hP2,rfl⟩
  simp(disch:=omega) only[UA,eZ,hiI,h1,h2,vZ hP.ok,hH2,qL g2,hb,Int.natCast_add]
 ·rintro i us H' hi ⟨hP,rfl⟩ hg
  obtain⟨p,h1,h2⟩:=(h.prs hP).at hi
  simp only[kD hi]at hg
  generalize l[i]=x at hg h2
  obtain⟨H2,hH2,hP2,n2,g2⟩:=zGd hP.ok x
  have hiI:((i:Nat):Int)< ((l.length:Nat):Int):=by omega
  have hb:=zMK x
  rw[hg]at hb
  simp only[qW]at g2 hH2 h2
  refine⟨.ret (.bool false),H2, ?_,rfl,rfl,hP.trans hP2⟩
  simp(disch:=omega) only[UA,eZ,hiI,h1,h2,vZ hP.ok,hH2,qL g2,hb]
 ·rintro us H' ⟨hP,rfl⟩
  refine⟨.exit 4 [],H', ?_,rfl,rfl,hP⟩
  simp only[UA,eZ,zX]
theorem uL (D:Dyn)(n:Nat){H:AH}(hk:H.ok){v:AV}{nd:Nd.Node}(h:bZ H v nd)(hs:small nd)(hn:200000000≤n):
  ∃H',zAu D n [v] H=some (.bool (Nd.shaped ltS nd),H')∧Prs H H':=by
 obtain⟨ks,vs,ps,rfl,h1,h2,h3⟩:=h
 obtain⟨s1,s2,s3⟩:=hs
 have hP:Prs H (H.push (.cells [.bool nd.leaf,ks,vs,ps] 133 1 false)):=(Stp.refl hk).push _
 have hg:(H.push (.cells [.bool nd.leaf,ks,vs,ps] 133 1 false)).h.get H.next=some (.cells [.bool nd.leaf,ks,vs,ps] 133 1 false):=AH.push_get_eq _ _
 have hkl:=Nd.sumL_ge nd.keys
 have hvl:=Nd.sumL_ge nd.vals
 have hf:zAu D n [.agg [.bool nd.leaf,ks,vs,ps]] H=outR (jb 0 (qV n (aN D n) [.ptr H.next 0,ks, .int .i64 (nd.keys.length:Nat), .int .i64 (0:Nat)] (H.push (.cells [.bool nd.leaf,ks,vs,ps] 133 1 false))) (aO D n)):=by
  simp only[zAu,eZ,vZ hk,h1.lnSl]
 rw[hf]
 generalize H.push (.cells [.bool nd.leaf,ks,vs,ps] 133 1 false)=H1 at hP hg
 obtain⟨e0,H2,e1,e2⟩:=zK5 D n (h1.prs hP) hg (by rfl) (by omega) n (by omega)
 rw[e1]
 rw[zEL]at e2
 split at e2
 ·rename_i hgood
  obtain⟨rfl,rfl⟩:=e2
  simp only[Nd.shaped,hgood,Bool.true_and]
  obtain⟨leaf,keys,vals,kids⟩:=nd
  simp only at h1 h2 h3 hg hkl hvl s1 s2 s3 hgood⊢
  cases leaf with
  | true=>
   by_cases hc:vals.length=keys.length∧kids.length=0
   ·obtain⟨hc1,hc2⟩:=hc
    obtain⟨e3,H3,e4,e5⟩:=zK4 D n (h2.prs hP) (by omega) n (by omega)
    have hz: ¬(((vals.length:Nat):Int)≠((keys.length:Nat):Int)):=by omega
    have hz2: ¬(((kids.length:Nat):Int)≠((0:Nat):Int)):=by omega
    have hkn:kids=[]:=zF hc2
    rw[BF vals ([]:Str) (fun v=>decide (v.length≤200))]at e5
    split at e5
    ·rename_i hv
     obtain⟨rfl,rfl⟩:=e5
     refine⟨H3, ?_,hP⟩
     have hr:(decide (vals.length=keys.length)&&decide (kids=[])&&vals.all fun v=>decide (v.length≤200))=true:=by simp only[hc1,hkn,hv,decide_true,Bool.and_self]
     simp only[aO,eZ,qL hg,h1.lnSl,h2.lnSl,h3.lnSl,hz,hz2,e4,zFD,hr]
    ·rename_i hv
     obtain⟨rfl,rfl⟩:=e5
     refine⟨H3, ?_,hP⟩
     have hr:(decide (vals.length=keys.length)&&decide (kids=[])&&vals.all fun v=>decide (v.length≤200))=false:=by simp only[Bool.eq_false_iff.2 hv,Bool.and_false]
     simp only[aO,eZ,qL hg,h1.lnSl,h2.lnSl,h3.lnSl,hz,hz2,e4,zFD,hr]
   ·refine⟨H2, ?_,hP⟩
    have hr:(decide (vals.length=keys.length)&&decide (kids=[]))=false:=by
     rw[Bool.and_eq_false_iff,decide_eq_false_iff_not,decide_eq_false_iff_not]
     by_cases ha:vals.length=keys.length
     ·right;intro hb;exact hc ⟨ha,by rw[hb];rfl⟩
     ·exact .inl ha
    simp only[aO,eZ,qL hg,h1.lnSl,h2.lnSl,h3.lnSl,hr]
    rw[if_pos (by simp only[Bool.or_eq_true,zC];omega)]
    simp only[eZ]
  | false=>
   by_cases hc:keys.length≠0∧vals.length=0∧kids.length=keys.length+1
   ·obtain⟨hc1,hc2,hc3⟩:=hc
    obtain⟨e3,H3,e4,e5⟩:=zK3 D n hP.ok (h3.prs hP) (by omega) n (by omega)
    have hz: ¬(((keys.length:Nat):Int)=((0:Nat):Int)):=by omega
    have hz2: ¬(((vals.length:Nat):Int)≠((0:Nat):Int)):=by omega
    have hz3: ¬(((kids.length:Nat):Int)≠((keys.length:Nat):Int)+((1:Nat):Int)):=by omega
    have hvn:vals=[]:=zF hc2
    have hkn:keys≠[]:=fun e=>hc1 (by rw[e];rfl)
    rw[BF kids pz Nd.kidOk]at e5
    split at e5
    ·rename_i hv
     obtain⟨rfl,hP3⟩:=e5
     refine⟨H3, ?_,hP.trans hP3⟩
     have hr:(decide (keys≠[])&&decide (vals=[])&&decide (kids.length=keys.length+1)&&kids.all Nd.kidOk)=true:=by simp only[hc3,hvn,hv,decide_eq_true hkn,decide_true,Bool.and_self]
     simp(disch:=omega) only[aO,eZ,qL hg,h1.lnSl,h2.lnSl,h3.lnSl,hz,hz2,hz3,e4,zFC,hr]
    ·rename_i hv
     obtain⟨rfl,hP3⟩:=e5
     refine⟨H3, ?_,hP.trans hP3⟩
     have hr:(decide (keys≠[])&&decide (vals=[])&&decide (kids.length=keys.length+1)&&kids.all Nd.kidOk)=false:=by simp only[Bool.eq_false_iff.2 hv,Bool.and_false]
     simp(disch:=omega) only[aO,eZ,qL hg,h1.lnSl,h2.lnSl,h3.lnSl,hz,hz2,hz3,e4,zFC,hr]
   ·refine⟨H2, ?_,hP⟩
    have hr:(decide (keys≠[])&&decide (vals=[])&&decide (kids.length=keys.length+1))=false:=by
     rw[Bool.eq_false_iff];intro hh
     simp only[z7,zC]at hh
     exact hc ⟨fun e=>hh.1.1 (zF e),by rw[hh.1.2];rfl,hh.2⟩
    simp(disch:=omega) only[aO,eZ,qL hg,h1.lnSl,h2.lnSl,h3.lnSl,hr]
    rw[if_pos (by simp only[Bool.or_eq_true,zC];omega)]
    simp only[eZ]
 ·rename_i hbad
  obtain⟨rfl,rfl⟩:=e2
  refine⟨H2, ?_,hP⟩
  simp only[Nd.shaped,Bool.eq_false_iff.2 hbad,eZ]
open Go.Nd (encT)
def zNq (P:Nat→Prop)(H:AH)(A:Nat)(l:Str):Prop:= ∃v,Box H A v∧yF 1 5 H v l.length (yP l)∧(∀B,Blk v B→ ¬P B∧B≠A)∧ ¬P A
theorem zNq.app {P:Nat→Prop}{H:AH}{A:Nat}{l m:Str}(h:zNq P H A l)(hk:H.ok)(hP: ∀B,P B→B<H.next){s:AV}(hs:srcOf 1 s H=some (m.length,yP m))(hn:l.length+m.length≤1000000000):
  ∃v v' H' H'',ld1 (.ptr A 0) H=some v∧apP 5 1 1 v s H=some (v',H')∧stN 1 (.ptr A 0) v' H'=some (qN,H'')∧zNq P H'' A (l++m)∧Stp (fun B=> ¬P B) H H'':=by
 obtain⟨v,hb,hg,hv,hA⟩:=h
 obtain⟨v',H',e1,g1,s1,n1⟩:=hg.app (bytes:=1) hk (by decide) hs (by simp[yP]) (UY m) hn (by decide)
 have hb':Box H' A v:=hb.mono hk s1 (fun x=>(hv A x).2 rfl)
 obtain⟨H'',e2,b2,s2⟩:=hb'.st s1.ok g1.isCell
 have hlt:=hb.lt hk
 have hne: ∀B,Blk v' B→B≠A:=fun B hB e=>by
  rcases n1 B hB with h | h
  ·exact(hv B h).2 e
  ·omega
 refine⟨v,v',H',H'',hb.ld,e1,e2,⟨v',b2, ?_,fun B hB=>⟨fun hp=> ?_,hne B hB⟩,hA⟩, ?_⟩
 ·have:=g1.mono s2 (fun B hB=>hne B hB)
  simpa[yP]using this
 ·rcases n1 B hB with h | h
  ·exact(hv B h).1 hp
  ·have:=hP B hp;omega
 ·exact(s1.mono (fun B _ hB=>(hv B hB).1)).trans (s2.mono (fun B _ hB=>by rw[hB];exact hA))
structure EncI (N E:Nat)(A:Nat)(H0 H:AH)(l:Str):Prop where
 prs:Prs H0 H
 n:H0.next=N
 out:zNq (fun B=>B<N∨B=E) H A l
 err:Box H E (.int .i64 (0:Nat))
theorem EncI.step {N E A:Nat}{H0 H H':AH}{l l':Str}(h:EncI N E A H0 H l)(h1:zNq (fun B=>B<N∨B=E) H' A l')(h2:Stp (fun B=> ¬(B<N∨B=E)) H H'):EncI N E A H0 H' l':=
 ⟨h.prs.fresh h2 (fun B hB=>by rw[h.n];omega),h.n,h1,h.err.mono h.prs.ok h2 (fun hh=>hh (.inr rfl))⟩
theorem EncI.lt {N E A:Nat}{H0 H:AH}{l:Str}(h:EncI N E A H0 H l): ∀B,(B<N∨B=E)→B<H.next:=by
 rintro B (hB | rfl)
 ·have:=h.prs.next;rw[h.n]at this;omega
 ·exact h.err.lt h.prs.ok
theorem Box.new (H:AH)(v:AV)(e:TypeId):Box (H.push (.cells [v] e 1 false)) H.next v:=⟨e,AH.push_get_eq _ _⟩
theorem cJ (a b c d:AV):vN [a,b,c,d] 0 4=some [a,b,c,d]:=rfl
theorem qY {H:AH}(hk:H.ok){A:Nat}{l l':List AV}{e:TypeId}(h:H.h.get A=some (.cells l e 1 false))(hl:l'.length=l.length)(hc:qO l'=true):
  ∃H',stN l.length (.ptr A 0) (.agg l') H=some (qN,H')∧H'.h.get A=some (.cells l' e 1 false)∧Stp (fun B=>B=A) H H'∧H'.next=H.next:=by
 refine⟨_,XT h (by decide) hl hc (by omega), ?_,(Stp.refl hk).put (hk.lt h) _ (.inr rfl),rfl⟩
 rw[AH.put_get,if_pos rfl]
 simp[qU]
structure RdI (R:Nat)(H0 H:AH)(rest:Str)(bad leaf:Bool)(kv vv pv:AV)(ks vs:List Str)(ps:List Ptr):Prop where
 prs:Stp (fun B=>B=R) H0 H
 get: ∃e,H.h.get R=some (.cells [S rest, .bool bad, .bool leaf,kv,vv,pv] e 1 false)
 k:Own 1 9 H kv ks.length (ks.map S)
 v:Own 1 9 H vv vs.length (vs.map S)
 p:Own 3 72 H pv ps.length (ps.flatMap qW)
 kb: ∀B,Blk kv B→H0.next≤B∧B≠R∧ ¬Blk vv B∧ ¬Blk pv B
 vb: ∀B,Blk vv B→H0.next≤B∧B≠R∧ ¬Blk pv B
 pb: ∀B,Blk pv B→H0.next≤B∧B≠R
 small:rest.length≤10000∧ks.length≤1000000∧vs.length≤1000000∧ps.length≤1000000
theorem RdI.put {R:Nat}{H0 H:AH}{rest:Str}{bad leaf:Bool}{kv vv pv:AV}{ks vs:List Str}{ps:List Ptr}(h:RdI R H0 H rest bad leaf kv vv pv ks vs ps){o:Nat}{x:AV}(hx:isCell x=true)(ho:o<6){rest':Str}{bad':Bool}(hr:rest'.length≤10000)
  (hl:[S rest, .bool bad, .bool leaf,kv,vv,pv].set o x=[S rest', .bool bad', .bool leaf,kv,vv,pv]): ∃H',stN 1 (.ptr R o) x H=some (qN,H')∧RdI R H0 H' rest' bad' leaf kv vv pv ks vs ps:=by
 obtain⟨e,hg⟩:=h.get
 have hlt:=h.prs.ok.lt hg
 have hst:Stp (fun B=>B=R) H (H.put R (.cells ([S rest, .bool bad, .bool leaf,kv,vv,pv].set o x) e 1 false)):=(Stp.refl h.prs.ok).put hlt _ (.inr rfl)
 refine⟨_,YT hg (by decide) hx ho,⟨h.prs.trans hst,⟨e,by rw[AH.put_get,if_pos rfl,hl]⟩,h.k.mono hst (fun B hB=>(h.kb B hB).2.1),h.v.mono hst (fun B hB=>(h.vb B hB).2.1),h.p.mono hst (fun B hB=>(h.pb B hB).2),h.kb,h.vb,h.pb,hr,h.small.2⟩⟩
theorem RdI.lt {R:Nat}{H0 H:AH}{rest:Str}{bad leaf:Bool}{kv vv pv:AV}{ks vs:List Str}{ps:List Ptr}(h:RdI R H0 H rest bad leaf kv vv pv ks vs ps):R<H.next:=by
 obtain⟨e,hg⟩:=h.get;exact h.prs.ok.lt hg
theorem Own.lt {k e n:Nat}{H:AH}{v:AV}{l:List AV}(h:Own k e H v n l){B:Nat}(hB:Blk v B):B<H.next:=(yF.lt (.inl h) hB)
def Y7 (H0 H:AH)(v:AV)(nd:Nd.Node):Prop:= ∃ks vs ps,v= .agg [.bool nd.leaf,ks,vs,ps]∧Own 1 9 H ks nd.keys.length (nd.keys.map S)∧Own 1 9 H vs nd.vals.length (nd.vals.map S)∧Own 3 72 H ps nd.kids.length (nd.kids.flatMap qW)∧(∀B,Blk ks B∨Blk vs B∨Blk ps B→H0.next≤B)∧(∀B,Blk ks B→ ¬Blk vs B∧ ¬Blk ps B)∧ ∀B,Blk vs B→ ¬Blk ps B
theorem Y7.node {H0 H:AH}{v:AV}{nd:Nd.Node}(h:Y7 H0 H v nd):bZ H v nd:=by
 obtain⟨ks,vs,ps,e,h1,h2,h3,_⟩:=h;exact⟨ks,vs,ps,e,h1.row,h2.row,h3.row⟩
theorem dY (x:Bool)(a b c:AV)(ha:isCell a=true)(hb:isCell b=true)(hc:isCell c=true):qO [.bool x,a,b,c]=true:=by
 simp only[qO,ha,hb,hc];rfl
theorem yF.zero (k e:Nat){H:AH}{A:Nat}{e':TypeId}{g:Bool}(h:H.h.get A=some (.cells [] e' k g))(hk:H.ok):yF k e H (.slice A 0 0 0) 0 []:= .inr ⟨by simp,A,e',g,rfl,hk.lt h,h⟩
theorem B0 (b:Bool):aveq (.bool b) (.bool b)=true:=by cases b<;>rfl
theorem kR (l:List Str):qO (l.map S)=true:=by
 rw[jR];intro x hx;obtain⟨s,_,rfl⟩:=List.mem_map.1 hx;rfl
theorem xC (l:List Ptr):qO (l.flatMap qW)=true:=by
 rw[jR];intro x hx
 obtain⟨p,_,hp⟩:=List.mem_flatMap.1 hx
 simp only[qW,List.mem_cons,List.not_mem_nil,or_false]at hp
 rcases hp with rfl | rfl | rfl<;>rfl
theorem Rw.blk {k n:Nat}{H:AH}{v:AV}{l:List AV}(h:Rw k H v n l){B:Nat}(hB:Blk v B):B<H.next:=by
 obtain⟨_,⟨rfl,_⟩ | ⟨rfl,_⟩ | ⟨A,off,cc,c,e,sz,g,rfl,_,hlt,_⟩⟩:=h
 ·exact(Blk.nil.1 hB).elim
 ·obtain⟨_,_,_,h⟩:=hB;cases h
 ·rw[Blk.slice.1 hB];exact hlt
def y8 (H:AH)(v:AV)(nd:Nd.Node):Prop:= ∃ks vs ps,v= .agg [.bool nd.leaf,ks,vs,ps]∧yF 1 9 H ks nd.keys.length (nd.keys.map S)∧yF 1 9 H vs nd.vals.length (nd.vals.map S)∧yF 3 72 H ps nd.kids.length (nd.kids.flatMap qW)
theorem y8.node {H:AH}{v:AV}{nd:Nd.Node}(h:y8 H v nd):bZ H v nd:=by
 obtain⟨ks,vs,ps,e,h1,h2,h3⟩:=h;exact⟨ks,vs,ps,e,h1.row,h2.row,h3.row⟩
theorem y8.prs {H H':AH}{v:AV}{nd:Nd.Node}(h:y8 H v nd)(s:Prs H H'):y8 H' v nd:=by
 obtain⟨ks,vs,ps,e,h1,h2,h3⟩:=h;exact⟨ks,vs,ps,e,h1.mono s (fun _ _ x=>x),h2.mono s (fun _ _ x=>x),h3.mono s (fun _ _ x=>x)⟩
theorem Own.st {k e n:Nat}{H:AH}{v:AV}{l:List AV}(h:Own k e H v n l)(hk:H.ok)(hpos:0<k){i:Nat}(hi:i<n){x:AV}(hx:(qU x).length=k)(hc:qO (qU x)=true):
  ∃p H' l',(∀κ (z:Int),z=(i:Int)→yW k v (.int κ z)=some p)∧stN k p x H=some (qN,H')∧Own k e H' v n l'∧Stp (Blk v) H H':=by
 obtain⟨h0,⟨_,rfl⟩ | ⟨A,rfl,hA,hg⟩⟩:=h
 ·omega
 ·have hik:i*k+k≤n*k:=by rw[← Nat.succ_mul];exact zV _ hi
  have hb:Nat.blt i n=true:=by rw[zL];exact hi
  refine⟨.ptr A (0+i*k),_,_,fun κ z hz=> ?_,XT hg hpos hx hc (by omega),⟨?_, .inr ⟨A,rfl,hA,by rw[AH.put_get,if_pos rfl]⟩⟩,(Stp.refl hk).put hA _ (.inr (Blk.slice.2 rfl))⟩
  ·subst hz
   simp only[yW,yL κ (show(0:Int)≤(i:Int)by omega),zY,hb,cond_true,yB]
  ·simp only[zE,zH,zO,hx];omega
theorem zNk (x:Nat):Nat.ble 0 x=true:=by rw[zS];omega
theorem KD {k e n:Nat}{H:AH}{v:AV}{l:List AV}(h:yF k e H v n l)(hpos:0<k){i:Nat}(hi:i≤n)(κ κ':IntKind):
  ∃r,j9 k v none (some (.int κ (i:Nat))) (some (.int κ' (i:Nat))) H=some r∧Rw k H r i (l.take (i*k))∧(0<i→r≠ .nilSlice∧r≠ .emptySl):=by
 have n1:=yL κ (z:=((i:Nat):Int)) (by omega)
 have n2:=yL κ' (z:=((i:Nat):Int)) (by omega)
 simp only[zY]at n1 n2
 have hb:Nat.blt 0 k=true:=by rw[zL];exact hpos
 have hz:Nat.beq i 0=decide (i=0):=by rw[Bool.eq_iff_iff];simp
 have hmul:i*k≤n*k:=zV _ hi
 have b1:Nat.ble i n=true:=by rw[zS];exact hi
 have b2:Nat.ble i i=true:=by rw[zS];exact Nat.le_refl _
 have b3:Nat.ble 0 i=true:=by rw[zS];omega
 rcases h with⟨h0,⟨rfl,rfl⟩ | ⟨A,rfl,hA,hg⟩⟩ | ⟨h0,A,e',g,rfl,hA,hg⟩
 ·obtain rfl:i=0:=by omega
  exact⟨.nilSlice,by simp only[j9,yN,n1,n2];simp,⟨by simp, .inl ⟨rfl,rfl⟩⟩,fun h=>absurd h (by omega)⟩
 ·have hroom:yK l true k 0 1 k=n:=by
   simp only[yK,show((1 % 2).beq 0)=false from rfl,cond_false,Nat.beq_refl,show Nat.beq 0 (1 / 2*k)=true from by simp,Bool.and_self,cond_true,y7,h0,Nat.sub_zero]
   exact Nat.mul_div_cancel _ hpos
  by_cases hi0:i=0
  ·subst hi0
   refine⟨.slice A 0 0 0, ?_,⟨by simp, .inr (.inr ⟨A,0,0,l,e,k,true,rfl,hg,hA,by simp,by simp⟩)⟩,fun h=>absurd h (by omega)⟩
   simp only[j9,yN,n1,n2,hg,hb,cond_true];simp[ZG,hroom,yB,zNk]
  ·have hz0:Nat.beq i 0=false:=by rw[hz];simpa using hi0
   refine⟨.slice A 0 i (2*i), ?_,⟨by rw[zH,h0,Nat.min_eq_left hmul], .inr (.inr ⟨A,0,2*i,l,e,k,true,rfl,hg,hA,by omega,by simp⟩)⟩,fun _=>⟨by simp,by simp⟩⟩
   simp only[j9,yN,n1,n2,hg,hb,cond_true];simp[ZG,hroom,b1,b2,hz0,yB,zNk]
 ·have hroom:yK l g k 0 (2*n) k=n:=by
   simp only[yK,show((2*n) % 2).beq 0=true by rw[Nat.mul_mod_right];rfl,cond_true,Nat.mul_div_cancel_left n (show 0<2 by omega)]
  by_cases hi0:i=0
  ·subst hi0
   refine⟨.slice A 0 0 0, ?_,⟨by simp, .inr (.inr ⟨A,0,0,l,e',k,g,rfl,hg,hA,by simp,by simp⟩)⟩,fun h=>absurd h (by omega)⟩
   simp only[j9,yN,n1,n2,hg,hb,cond_true];simp[ZG,hroom,yB,zNk]
  ·have hz0:Nat.beq i 0=false:=by rw[hz];simpa using hi0
   refine⟨.slice A 0 i (2*i), ?_,⟨by rw[zH,h0,Nat.min_eq_left hmul], .inr (.inr ⟨A,0,2*i,l,e',k,g,rfl,hg,hA,by omega,by simp⟩)⟩,fun _=>⟨by simp,by simp⟩⟩
   simp only[j9,yN,n1,n2,hg,hb,cond_true];simp[ZG,hroom,b1,b2,hz0,yB,zNk]
theorem ZT {k e n:Nat}{H:AH}{v:AV}{l:List AV}(h:yF k e H v n l)(hpos:0<k){i:Nat}(hi:i<n)(κ:IntKind):
  ∃r,j9 k v (some (.int κ (i:Nat))) none none H=some r∧Rw k H r (n - i) (l.drop (i*k))∧r≠ .nilSlice∧r≠ .emptySl:=by
 have n1:=yL κ (z:=((i:Nat):Int)) (by omega)
 simp only[zY]at n1
 have hb:Nat.blt 0 k=true:=by rw[zL];exact hpos
 have hmul:i*k≤n*k:=zV _ (by omega)
 have hsub:(n - i)*k=n*k - i*k:=Nat.sub_mul _ _ _
 have b1:Nat.ble n n=true:=by rw[zS];exact Nat.le_refl _
 have b2:Nat.ble i n=true:=by rw[zS];omega
 have b3:Nat.blt i n=true:=by rw[zL];exact hi
 have b4:Nat.beq n i=false:=by rw[Bool.eq_false_iff];intro h;have:=Nat.eq_of_beq_eq_true h;omega
 rcases h with⟨h0,⟨rfl,rfl⟩ | ⟨A,rfl,hA,hg⟩⟩ | ⟨h0,A,e',g,rfl,hA,hg⟩
 ·omega
 ·have hroom:yK l true k 0 1 k=n:=by
   simp only[yK,show((1 % 2).beq 0)=false from rfl,cond_false,Nat.beq_refl,show Nat.beq 0 (1 / 2*k)=true from by simp,Bool.and_self,cond_true,y7,h0,Nat.sub_zero]
   exact Nat.mul_div_cancel _ hpos
  by_cases hi0:i=0
  ·subst hi0
   refine⟨.slice A 0 n 1, ?_,⟨by simp[h0], .inr (.inr ⟨A,0,1,l,e,k,true,by simp,hg,hA,by simp[h0],by rw[Nat.sub_zero,Nat.zero_mul,List.drop_zero,zJ (by omega)]⟩)⟩,by simp,by simp⟩
   simp only[j9,yN,n1,hg,hb,cond_true];simp[ZG,hroom,b1,yB,zNk,show Nat.beq 1 0=false from rfl]
  ·have hz0:Nat.beq i 0=false:=by rw[Bool.eq_false_iff];intro h;exact hi0 (Nat.eq_of_beq_eq_true h)
   refine⟨.slice A (0+i*k) (n - i) (1+2*i), ?_,⟨by simp[h0,hsub], .inr (.inr ⟨A,0+i*k,1+2*i,l,e,k,true,rfl,hg,hA,by omega,by rw[Nat.zero_add,zJ (by simp[h0,hsub])]⟩)⟩,by simp,by simp⟩
   simp only[j9,yN,n1,hg,hb,cond_true];simp[ZG,hroom,b1,b2,b3,hz0,yB,show Nat.beq 1 0=false from rfl]
 ·have hroom:yK l g k 0 (2*n) k=n:=by
   simp only[yK,show((2*n) % 2).beq 0=true by rw[Nat.mul_mod_right];rfl,cond_true,Nat.mul_div_cancel_left n (show 0<2 by omega)]
  have b4':Nat.beq (2*n / 2) i=false:=by rw[Nat.mul_div_cancel_left n (show 0<2 by omega)];exact b4
  refine⟨.slice A (0+i*k) (n - i) (2*(2*n / 2 - i)), ?_,⟨by simp[h0,hsub], .inr (.inr ⟨A,0+i*k,2*(2*n / 2 - i),l,e',k,g,rfl,hg,hA,by omega,by rw[Nat.zero_add,zJ (by simp[h0,hsub])]⟩)⟩,by simp,by simp⟩
  simp only[j9,yN,n1,hg,hb,cond_true];simp[ZG,hroom,b1,b2,b4',yB,b4]
theorem dL (D:Dyn)(n:Nat){H:AH}(hk:H.ok){v:AV}{l:List Str}(h:Strs H v l)(hn:v≠ .nilSlice)(he:v≠ .emptySl)(hl:l.length≤1000000000):
  ∃v' H',YD D n [v] H=some (v',H')∧Prs H H'∧yF 1 9 H' v' l.length (l.map S)∧ ∀B,Blk v' B→H.next≤B:=by
 have p1:Prs H (H.push (.cells [] 9 1 false)):=(Stp.refl hk).push _
 have g1:(H.push (.cells [] 9 1 false)).h.get H.next=some (.cells [] 9 1 false):=AH.push_get_eq _ _
 have n1:(H.push (.cells [] 9 1 false)).next=H.next+1:=rfl
 generalize hH1:H.push (.cells [] 9 1 false)=H1 at p1 g1 n1
 obtain⟨v',H2,e2,w2,s2,f2⟩:=(yF.zero 1 9 g1 p1.ok).app (bytes:=16) p1.ok (by decide) (Rw.srcOf (h.prs p1)) (by simp) (kR _) (by omega) (by decide)
 have hz1:kZ 9 1 0 [.str 0 0] []=some (.cells [] 9 1 false,fun A=> .slice A 0 0 0):=rfl
 have heq:u9 .eql (eqS v .nilSlice)=some (.bool false):=by
  obtain⟨_,⟨rfl,_⟩ | ⟨rfl,_⟩ | ⟨A,off,cc,c,e,sz,g,rfl,_⟩⟩:=h
  ·exact absurd rfl hn
  ·exact absurd rfl he
  ·rfl
 refine⟨v',H2, ?_,p1.fresh s2 (fun B hB=>by rw[Blk.slice.1 hB];exact Nat.le_refl _),by simpa using w2,fun B hB=> ?_⟩
 ·simp only[YD,eZ,heq,hz1,vZ hk,hH1,e2]
 ·rcases f2 B hB with h | h
  ·rw[Blk.slice.1 h];exact Nat.le_refl _
  ·omega
theorem QV (D:Dyn)(n:Nat){H:AH}(hk:H.ok){v:AV}{l:List Ptr}(h:vM H v l)(hn:v≠ .nilSlice)(he:v≠ .emptySl)(hl:l.length≤1000000000):
  ∃v' H',f77 D n [v] H=some (v',H')∧Prs H H'∧yF 3 72 H' v' l.length (l.flatMap qW)∧ ∀B,Blk v' B→H.next≤B:=by
 have p1:Prs H (H.push (.cells [] 72 3 false)):=(Stp.refl hk).push _
 have g1:(H.push (.cells [] 72 3 false)).h.get H.next=some (.cells [] 72 3 false):=AH.push_get_eq _ _
 have n1:(H.push (.cells [] 72 3 false)).next=H.next+1:=rfl
 generalize hH1:H.push (.cells [] 72 3 false)=H1 at p1 g1 n1
 obtain⟨v',H2,e2,w2,s2,f2⟩:=(yF.zero 3 72 g1 p1.ok).app (bytes:=24) p1.ok (by decide) (Rw.srcOf (h.prs p1)) h.1 (xC _) (by omega) (by decide)
 have hz1: ∀a b c:AV,kZ 72 3 0 [a,b,c] []=some (.cells [] 72 3 false,fun A=> .slice A 0 0 0):=fun _ _ _=>rfl
 have heq:u9 .eql (eqS v .nilSlice)=some (.bool false):=by
  obtain⟨_,⟨rfl,_⟩ | ⟨rfl,_⟩ | ⟨A,off,cc,c,e,sz,g,rfl,_⟩⟩:=h
  ·exact absurd rfl hn
  ·exact absurd rfl he
  ·rfl
 refine⟨v',H2, ?_,p1.fresh s2 (fun B hB=>by rw[Blk.slice.1 hB];exact Nat.le_refl _),by simpa using w2,fun B hB=> ?_⟩
 ·simp only[f77,eZ,heq,hz1,vZ hk,hH1,e2]
 ·rcases f2 B hB with h | h
  ·rw[Blk.slice.1 h];exact Nat.le_refl _
  ·omega
end Go.Eng.Sh
end
end
section
namespace Go.Eng.Sh
open Go.Nd (Ptr yJ cutOk)
def xY (nd:Nd.Node):Prop:=2≤nd.keys.length∧(nd.leaf=true∨3≤nd.keys.length)
def hbnd (nd:Nd.Node)(k:Nat):Prop:=
 (k=1∨Nd.size (Nd.cutA nd k)≤(Nd.size nd - 2) / 2+2)∧(k+(if nd.leaf then 1 else 2)=nd.keys.length∨(Nd.size nd - 2) / 2+2<Nd.size (Nd.cutA nd (k+1)))
theorem ZP (l:List Str){i:Nat}(h:i<l.length):yJ (l.take (i+1))=yJ (l.take i)+(1+(l[i]).length):=by
 rw[zI h,Nd.sumL_append,Nd.sumL_cons];rfl
theorem size_leaf {nd:Nd.Node}(hl:nd.leaf=true)(hv:nd.vals.length=nd.keys.length){i:Nat}(h:i<nd.keys.length):Nd.size (Nd.cutA nd (i+1))=Nd.size (Nd.cutA nd i)+(1+(nd.keys[i]).length)+(1+(nd.vals[i]'(by omega)).length):=by
 simp only[Nd.cutA,hl,if_true,Nd.size,ZP nd.keys h,ZP nd.vals (i:=i) (by omega)];omega
theorem size_inner {nd:Nd.Node}(hl:nd.leaf=false)(hv:nd.kids.length=nd.keys.length+1){i:Nat}(h:i<nd.keys.length):Nd.size (Nd.cutA nd (i+1))=Nd.size (Nd.cutA nd i)+(1+(nd.keys[i]).length)+16:=by
 simp only[Nd.cutA,hl,Bool.false_eq_true,if_false,Nd.size,ZP nd.keys h,zH];omega
theorem KG (nd:Nd.Node):2≤Nd.size nd:=by simp only[Nd.size];omega
theorem zBp (D:Dyn)(n:Nat){H:AH}{ks vs ps:AV}{nd:Nd.Node}(h1:Strs H ks nd.keys)(h2:Strs H vs nd.vals)(hv:nd.leaf=true→nd.vals.length=nd.keys.length)(hp:nd.leaf=false→nd.kids.length=nd.keys.length+1){A:Nat}{e:TypeId}(hA:H.h.get A=some (.cells [.bool nd.leaf,ks,vs,ps] e 1 false))
  (most:Nat) (L:Nat) (hL:L≤nd.keys.length) (hb:nd.keys.length≤1000000000) (hz:Nd.size nd≤1000000000) (n':Nat) (hn:L<n'):
  Fin (qV n' (QN D n) [.ptr A 0, .int .i64 (most:Nat), .int .i64 (L:Nat), .int .i64 ((Nd.size (Nd.cutA nd 0) - 2:Nat):Int), .int .i64 (L:Nat), .int .i64 (0:Nat)] H) fun x H'=>H'=H∧((∃j:Nat,0<j∧j<L∧x= .ret (.int .i64 (j:Nat))∧(j=1∨Nd.size (Nd.cutA nd j)≤most+2)∧most+2<Nd.size (Nd.cutA nd (j+1)))∨(x= .exit 0 [.int .i64 (L:Nat)]∧(L≤1∨Nd.size (Nd.cutA nd L)≤most+2))):=by
 refine Fin.loop (fun k us H'=>H'=H∧ ∃(i:Nat),us=[.ptr A 0, .int .i64 (most:Nat), .int .i64 (L:Nat), .int .i64 ((Nd.size (Nd.cutA nd i) - 2:Nat):Int), .int .i64 (L:Nat), .int .i64 (i:Nat)]∧i≤L∧k=L - i∧(i≤1∨Nd.size (Nd.cutA nd i)≤most+2)) ?_ n' L _ H ⟨rfl,0,rfl,by omega,by omega, .inl (by omega)⟩ hn
 rintro k us H' ⟨rfl,i,rfl,hi,rfl,hpre⟩
 by_cases hlt:i<L
 ·have hik:i<nd.keys.length:=by omega
  obtain⟨p,p1,p2⟩:=h1.at hik
  have hiI:((i:Nat):Int)< ((L:Nat):Int):=by omega
  have z2:=KG (Nd.cutA nd i)
  have z2':=KG (Nd.cutA nd (i+1))
  have tail:Fin (aM D n [.ptr A 0, .int .i64 (most:Nat), .int .i64 (L:Nat), .int .i64 ((Nd.size (Nd.cutA nd (i+1)) - 2:Nat):Int), .int .i64 (i:Nat), .int .i64 (L:Nat), .int .i64 (i:Nat)] H')
    (orN (fun us' H''=> ∃k',k'<L - i∧H''=H'∧ ∃(i:Nat),us'=[.ptr A 0, .int .i64 (most:Nat), .int .i64 (L:Nat), .int .i64 ((Nd.size (Nd.cutA nd i) - 2:Nat):Int), .int .i64 (L:Nat), .int .i64 (i:Nat)]∧i≤L∧k'=L - i∧(i≤1∨Nd.size (Nd.cutA nd i)≤most+2))
     (fun x H''=>H''=H'∧((∃j:Nat,0<j∧j<L∧x= .ret (.int .i64 (j:Nat))∧(j=1∨Nd.size (Nd.cutA nd j)≤most+2)∧most+2<Nd.size (Nd.cutA nd (j+1)))∨(x= .exit 0 [.int .i64 (L:Nat)]∧(L≤1∨Nd.size (Nd.cutA nd L)≤most+2))))):=by
   by_cases hc:0<i∧most<Nd.size (Nd.cutA nd (i+1)) - 2
   ·have c1:((0:Nat):Int)< (i:Int):=by omega
    have c2:((most:Nat):Int)< ((Nd.size (Nd.cutA nd (i+1)) - 2:Nat):Int):=by omega
    have:aM D n [.ptr A 0, .int .i64 (most:Nat), .int .i64 (L:Nat), .int .i64 ((Nd.size (Nd.cutA nd (i+1)) - 2:Nat):Int), .int .i64 (i:Nat), .int .i64 (L:Nat), .int .i64 (i:Nat)] H'=some (.ret (.int .i64 (i:Nat)),H'):=by
     simp(disch:=omega) only[aM,eZ,c1,c2]
    rw[this]
    exact⟨_,_,rfl,rfl, .inl ⟨i,hc.1,hlt,rfl,by omega,by omega⟩⟩
   ·have hcb:(decide (((0:Nat):Int)< (i:Int))&&decide (((most:Nat):Int)< ((Nd.size (Nd.cutA nd (i+1)) - 2:Nat):Int)))=false:=by
     rw[Bool.eq_false_iff];intro hh
     simp only[z7,zC]at hh
     exact hc ⟨by omega,by omega⟩
    have:aM D n [.ptr A 0, .int .i64 (most:Nat), .int .i64 (L:Nat), .int .i64 ((Nd.size (Nd.cutA nd (i+1)) - 2:Nat):Int), .int .i64 (i:Nat), .int .i64 (L:Nat), .int .i64 (i:Nat)] H'=some (.norm [.ptr A 0, .int .i64 (most:Nat), .int .i64 (L:Nat), .int .i64 ((Nd.size (Nd.cutA nd (i+1)) - 2:Nat):Int), .int .i64 (L:Nat), .int .i64 ((i+1:Nat):Int)],H'):=by
     simp(disch:=omega) only[aM,eZ,hcb,Int.natCast_add]
    rw[this]
    exact⟨_,_,rfl,L - (i+1),by omega,rfl,i+1,rfl,by omega,rfl,by omega⟩
  have hsz:Nd.size (Nd.cutA nd i)≤1000000002:=by
   have t1:=Nd.sumL_take_le nd.keys i;have t2:=Nd.sumL_take_le nd.vals i
   have:Nd.size nd=2+16*nd.kids.length+yJ nd.keys+yJ nd.vals:=rfl
   have z0:yJ []=0:=rfl
   simp only[Nd.cutA]
   split<;>simp only[Nd.size,qA,zH,z0]<;>omega
  have hkl:(nd.keys[i]).length≤1000000000:=by
   have:=Nd.sumL_drop_le nd.keys i
   rw[zM hik,Nd.sumL_cons]at this
   have:Nd.size nd=2+16*nd.kids.length+yJ nd.keys+yJ nd.vals:=rfl
   omega
  cases hl:nd.leaf with
  | true=>
   rw[hl]at hA
   obtain⟨q,q1,q2⟩:=h2.at (i:=i) (by rw[hv hl];exact hik)
   have hs:=size_leaf hl (hv hl) hik
   have hvl:(nd.vals[i]'(by rw[hv hl];exact hik)).length≤1000000000:=by
    have:=Nd.sumL_drop_le nd.vals i
    rw[zM (by rw[hv hl];exact hik),Nd.sumL_cons]at this
    have:Nd.size nd=2+16*nd.kids.length+yJ nd.keys+yJ nd.vals:=rfl
    omega
   have hz:((Nd.size (Nd.cutA nd (i+1)) - 2:Nat):Int)=((Nd.size (Nd.cutA nd i) - 2:Nat):Int)+(((1:Nat):Int)+(((nd.keys[i]).length:Nat):Int))+(((1:Nat):Int)+(((nd.vals[i]'(by rw[hv hl];exact hik)).length:Nat):Int)):=by omega
   have:QN D n [.ptr A 0, .int .i64 (most:Nat), .int .i64 (L:Nat), .int .i64 ((Nd.size (Nd.cutA nd i) - 2:Nat):Int), .int .i64 (L:Nat), .int .i64 (i:Nat)] H'=jn (some (.norm [.ptr A 0, .int .i64 (most:Nat), .int .i64 (L:Nat), .int .i64 ((Nd.size (Nd.cutA nd (i+1)) - 2:Nat):Int), .int .i64 (i:Nat), .int .i64 (L:Nat), .int .i64 (i:Nat)],H')) (aM D n):=by
    rw[hz]
    simp(disch:=omega) only[QN,eZ,hiI,qL hA,p1,p2,q1,q2]
   rw[this,KZ];exact tail
  | false=>
   rw[hl]at hA
   have hs:=size_inner hl (hp hl) hik
   have hz:((Nd.size (Nd.cutA nd (i+1)) - 2:Nat):Int)=((Nd.size (Nd.cutA nd i) - 2:Nat):Int)+(((1:Nat):Int)+(((nd.keys[i]).length:Nat):Int))+((16:Nat):Int):=by omega
   have:QN D n [.ptr A 0, .int .i64 (most:Nat), .int .i64 (L:Nat), .int .i64 ((Nd.size (Nd.cutA nd i) - 2:Nat):Int), .int .i64 (L:Nat), .int .i64 (i:Nat)] H'=jn (some (.norm [.ptr A 0, .int .i64 (most:Nat), .int .i64 (L:Nat), .int .i64 ((Nd.size (Nd.cutA nd (i+1)) - 2:Nat):Int), .int .i64 (i:Nat), .int .i64 (L:Nat), .int .i64 (i:Nat)],H')) (aM D n):=by
    rw[hz]
    simp(disch:=omega) only[QN,eZ,hiI,qL hA,p1,p2]
   rw[this,KZ];exact tail
 ·have hiI: ¬((i:Nat):Int)< ((L:Nat):Int):=by omega
  have hiL:i=L:=by omega
  subst hiL
  refine⟨.exit 0 [.int .i64 (i:Nat)],H', ?_,rfl, .inr ⟨rfl,hpre⟩⟩
  simp only[QN,eZ,hiI]
theorem zEJ (D:Dyn)(n:Nat)(hn:200000000≤n){H:AH}(hk:H.ok){v:AV}{nd:Nd.Node}(h:bZ H v nd)(hs:small nd)(hsh:Nd.shaped ltS nd=true)(hc:xY nd):
  ∃(k:Nat) (H':AH),zHX D n [v] H=some (.int .i64 (k:Nat),H')∧Prs H H'∧cutOk nd k∧hbnd nd k:=by
 have h0:=h
 obtain⟨ks,vs,ps,rfl,h1,h2,h3⟩:=h
 have hkl:=Nd.sumL_ge nd.keys
 obtain⟨s1,s2,s3⟩:=id hs
 obtain⟨c1,c2⟩:=hc
 have hv:nd.leaf=true→nd.vals.length=nd.keys.length:=by
  intro hl
  simp only[Nd.shaped,hl,if_true,z7,zC]at hsh
  exact hsh.2.1.1
 have hp:nd.leaf=false→nd.kids.length=nd.keys.length+1:=by
  intro hl
  simp only[Nd.shaped,hl,Bool.false_eq_true,if_false,z7,zC]at hsh
  exact hsh.2.1.2
 have p1:Prs H (H.push (.cells [.bool nd.leaf,ks,vs,ps] 133 1 false)):=(Stp.refl hk).push _
 have g1:(H.push (.cells [.bool nd.leaf,ks,vs,ps] 133 1 false)).h.get H.next=some (.cells [.bool nd.leaf,ks,vs,ps] 133 1 false):=AH.push_get_eq _ _
 generalize hH1:H.push (.cells [.bool nd.leaf,ks,vs,ps] 133 1 false)=H1 at p1 g1
 obtain⟨z,H2,e2,rfl,p2⟩:=BV D n p1.ok (h0.prs p1) hs hn
 have g2:=p2.get p1.ok g1
 have P:Prs H H2:=p1.trans p2
 have hq:=zIt .i64 (((Nd.size nd:Nat):Int) - ((2:Nat):Int)) ((2:Nat):Int) (by omega)
 have hsz:Nd.size nd≤1000000000:=by simp only[Nd.size];omega
 have hz2:=KG nd
 have hmost:IntKind.wrap .i64 ((((Nd.size nd:Nat):Int) - ((2:Nat):Int)).tdiv ((2:Nat):Int))=(((Nd.size nd - 2) / 2:Nat):Int):=by
  rw[show((Nd.size nd:Nat):Int) - ((2:Nat):Int)=((Nd.size nd - 2:Nat):Int)by omega,Int.tdiv_eq_ediv_of_nonneg (by omega)]
  rw[wrap_i64 (by omega) (by omega)];omega
 rw[hmost]at hq
 cases hl:nd.leaf with
 | true=>
  obtain⟨x,H3,e3,rfl,hx⟩:=zBp D n (h1.prs P) (h2.prs P) hv hp g2 ((Nd.size nd - 2) / 2) (nd.keys.length - 1) (by omega) (by omega) hsz n (by omega)
  have hL:((nd.keys.length:Nat):Int) - ((1:Nat):Int)=((nd.keys.length - 1:Nat):Int):=by omega
  rw[hl]at g2 hH1 e2
  rw[show Nd.size (Nd.cutA nd 0) - 2=0 by simp[Nd.cutA,hl,Nd.size,yJ]]at e3
  rcases hx with⟨j,j1,j2,rfl,j3,j4⟩ | ⟨rfl,j3⟩
  ·refine⟨j,H3, ?_,P,⟨j1,by rw[hl];simp only[if_true];omega⟩,j3, .inr j4⟩
   simp(disch:=omega) only[zHX,eZ,vZ hk,hH1,cJ,Option.map_some,hl,e2,hq,qL g2,h1.lnSl,hL,U0,e3]
  ·refine⟨nd.keys.length - 1,H3, ?_,P,⟨by omega,by rw[hl];simp only[if_true];omega⟩,by omega, .inl (by rw[hl];simp only[if_true];omega)⟩
   simp(disch:=omega) only[zHX,eZ,vZ hk,hH1,cJ,Option.map_some,hl,e2,hq,qL g2,h1.lnSl,hL,U0,e3,zFe]
 | false=>
  have c3:3≤nd.keys.length:=by rcases c2 with h | h;rw[hl]at h;cases h;exact h
  obtain⟨x,H3,e3,rfl,hx⟩:=zBp D n (h1.prs P) (h2.prs P) hv hp g2 ((Nd.size nd - 2) / 2) (nd.keys.length - 2) (by omega) (by omega) hsz n (by omega)
  have hL:((nd.keys.length:Nat):Int) - ((1:Nat):Int) - ((1:Nat):Int)=((nd.keys.length - 2:Nat):Int):=by omega
  rw[hl]at g2 hH1 e2
  rw[show Nd.size (Nd.cutA nd 0) - 2=16 by have hpl:=hp hl;simp only[Nd.cutA,hl,Bool.false_eq_true,if_false,Nd.size,List.take_zero,zH,Nat.zero_add,show yJ []=0 from rfl];omega]at e3
  rcases hx with⟨j,j1,j2,rfl,j3,j4⟩ | ⟨rfl,j3⟩
  ·refine⟨j,H3, ?_,P,⟨j1,by rw[hl];simp only[Bool.false_eq_true,if_false];omega⟩,j3, .inr j4⟩
   simp(disch:=omega) only[zHX,eZ,vZ hk,hH1,cJ,Option.map_some,hl,e2,hq,qL g2,h1.lnSl,hL,U0,e3]
  ·refine⟨nd.keys.length - 2,H3, ?_,P,⟨by omega,by rw[hl];simp only[Bool.false_eq_true,if_false];omega⟩,by omega, .inl (by rw[hl];simp only[Bool.false_eq_true,if_false];omega)⟩
   simp(disch:=omega) only[zHX,eZ,vZ hk,hH1,cJ,Option.map_some,hl,e2,hq,qL g2,h1.lnSl,hL,U0,e3,zFe]
open Go.Nd (cutA fJ)
theorem vE {k e n:Nat}{H H':AH}{v:AV}{l l':List AV}(h:yF k e H v n l)(h':yF k e H' v n l')(hpos:0<k)(lo hi mx:Option AV):j9 k v lo hi mx H'=j9 k v lo hi mx H:=by
 have room1: ∀l:List AV,l.length=n*k→yK l true k 0 1 k=n:=fun l h0=>by
  simp only[yK,show((1 % 2).beq 0)=false from rfl,cond_false,Nat.beq_refl,show Nat.beq 0 (1 / 2*k)=true from by simp,Bool.and_self,cond_true,y7,h0,Nat.sub_zero]
  exact Nat.mul_div_cancel _ hpos
 have room2: ∀(l:List AV) (g:Bool),yK l g k 0 (2*n) k=n:=fun l g=>by
  simp only[yK,show((2*n) % 2).beq 0=true by rw[Nat.mul_mod_right];rfl,cond_true,Nat.mul_div_cancel_left n (show 0<2 by omega)]
 rcases h with⟨h0,⟨rfl,_⟩ | ⟨A,rfl,hA,hg⟩⟩ | ⟨h0,A,e',g,rfl,hA,hg⟩
 ·rfl
 ·rcases h' with⟨h0',⟨hv,_⟩ | ⟨A',hv,hA',hg'⟩⟩ | ⟨h0',A',e'',g',hv,hA',hg'⟩
  ·cases hv
  ·simp only[AV.slice.injEq]at hv;obtain⟨rfl,_⟩:=hv
   simp only[j9,hg,hg',room1 l h0,room1 l' h0']
  ·simp only[AV.slice.injEq]at hv;omega
 ·rcases h' with⟨h0',⟨hv,_⟩ | ⟨A',hv,hA',hg'⟩⟩ | ⟨h0',A',e'',g',hv,hA',hg'⟩
  ·cases hv
  ·simp only[AV.slice.injEq]at hv;omega
  ·simp only[AV.slice.injEq]at hv;obtain⟨rfl,_⟩:=hv
   simp only[j9,hg,hg',room2]
theorem ZS {H:AH}(hk:H.ok){A o:Nat}{l:List AV}{e:TypeId}{x:AV}(h:H.h.get A=some (.cells l e 1 false))(hx:isCell x=true)(ho:o<l.length):
  ∃H',stN 1 (.ptr A o) x H=some (qN,H')∧H'.h.get A=some (.cells (l.set o x) e 1 false)∧Stp (fun B=>B=A) H H'∧H'.next=H.next:=
 ⟨_,YT h (by decide) hx ho,by rw[AH.put_get,if_pos rfl],(Stp.refl hk).put (hk.lt h) _ (.inr rfl),rfl⟩
theorem map_take (l:List Str)(k:Nat):(l.map S).take (k*1)=(l.take k).map S:=by simp
theorem map_drop (l:List Str)(k:Nat):(l.map S).drop (k*1)=(l.drop k).map S:=by simp
theorem QJ: ∀(l:List Ptr) (k:Nat),(l.flatMap qW).take (k*3)=(l.take k).flatMap qW
 | _,0=>by simp
 | [],k+1=>by simp
 | p::l,k+1=>by
  have ih:=QJ l k
  rw[show(k+1)*3=k*3+3 from by omega]
  show((qW p)++l.flatMap qW).take (k*3+3)=qW p++(l.take k).flatMap qW
  rw[← ih];rfl
theorem QK: ∀(l:List Ptr) (k:Nat),(l.flatMap qW).drop (k*3)=(l.drop k).flatMap qW
 | _,0=>by simp
 | [],k+1=>by simp
 | p::l,k+1=>by
  have ih:=QK l k
  rw[show(k+1)*3=k*3+3 from by omega]
  show((qW p)++l.flatMap qW).drop (k*3+3)=(l.drop k).flatMap qW
  rw[← ih];rfl
structure CutI (H0:AH)(A1 A2 A4:Nat)(H:AH)(l1 l2 l4:List AV):Prop where
 prs:Prs H0 H
 a1:H.h.get A1=some (.cells l1 133 1 false)
 a2:H.h.get A2=some (.cells l2 133 1 false)
 a4:H.h.get A4=some (.cells l4 133 1 false)
 o1:H0.next≤A1
 o2:A1<A2
 o4:A2<A4
theorem CutI.lt {H0 H:AH}{A1 A2 A4:Nat}{l1 l2 l4:List AV}(h:CutI H0 A1 A2 A4 H l1 l2 l4):A4<H.next:=h.prs.ok.lt h.a4
theorem CutI.step {H0 H H':AH}{A1 A2 A4:Nat}{l1 l2 l4:List AV}(h:CutI H0 A1 A2 A4 H l1 l2 l4)(s:Prs H H'):CutI H0 A1 A2 A4 H' l1 l2 l4:=
 ⟨h.prs.trans s,s.get h.prs.ok h.a1,s.get h.prs.ok h.a2,s.get h.prs.ok h.a4,h.o1,h.o2,h.o4⟩
theorem CutI.st2 {H0 H:AH}{A1 A2 A4:Nat}{l1 l2 l4:List AV}(h:CutI H0 A1 A2 A4 H l1 l2 l4){o:Nat}{x:AV}(hx:isCell x=true)(ho:o<l2.length):
  ∃H',stN 1 (.ptr A2 o) x H=some (qN,H')∧CutI H0 A1 A2 A4 H' l1 (l2.set o x) l4∧Stp (fun B=>B=A2) H H':=by
 obtain⟨H',e,g,s,n⟩:=ZS h.prs.ok h.a2 hx ho
 have:=h.o1;have:=h.o2;have:=h.o4;have l4:=h.lt
 exact⟨H',e,⟨h.prs.fresh s (fun B hB=>by omega),by rw[s.keep _ (by omega) (by omega)];exact h.a1,g,by rw[s.keep _ l4 (by omega)];exact h.a4,h.o1,h.o2,h.o4⟩,s⟩
theorem CutI.st4 {H0 H:AH}{A1 A2 A4:Nat}{l1 l2 l4:List AV}(h:CutI H0 A1 A2 A4 H l1 l2 l4){o:Nat}{x:AV}(hx:isCell x=true)(ho:o<l4.length):
  ∃H',stN 1 (.ptr A4 o) x H=some (qN,H')∧CutI H0 A1 A2 A4 H' l1 l2 (l4.set o x)∧Stp (fun B=>B=A4) H H':=by
 obtain⟨H',e,g,s,n⟩:=ZS h.prs.ok h.a4 hx ho
 have:=h.o1;have:=h.o2;have:=h.o4;have l4:=h.lt
 exact⟨H',e,⟨h.prs.fresh s (fun B hB=>by omega),by rw[s.keep _ (by omega) (by omega)];exact h.a1,by rw[s.keep _ (by omega) (by omega)];exact h.a2,g,h.o1,h.o2,h.o4⟩,s⟩
theorem CutI.all2 {H0 H:AH}{A1 A2 A4:Nat}{l1 l2 l4 l':List AV}(h:CutI H0 A1 A2 A4 H l1 l2 l4)(hl:l'.length=l2.length)(hc:qO l'=true):
  ∃H',stN l2.length (.ptr A2 0) (.agg l') H=some (qN,H')∧CutI H0 A1 A2 A4 H' l1 l' l4∧Stp (fun B=>B=A2) H H':=by
 obtain⟨H',e,g,s,n⟩:=qY h.prs.ok h.a2 hl hc
 have:=h.o1;have:=h.o2;have:=h.o4;have l4:=h.lt
 exact⟨H',e,⟨h.prs.fresh s (fun B hB=>by omega),by rw[s.keep _ (by omega) (by omega)];exact h.a1,g,by rw[s.keep _ l4 (by omega)];exact h.a4,h.o1,h.o2,h.o4⟩,s⟩
theorem CutI.all4 {H0 H:AH}{A1 A2 A4:Nat}{l1 l2 l4 l':List AV}(h:CutI H0 A1 A2 A4 H l1 l2 l4)(hl:l'.length=l4.length)(hc:qO l'=true):
  ∃H',stN l4.length (.ptr A4 0) (.agg l') H=some (qN,H')∧CutI H0 A1 A2 A4 H' l1 l2 l'∧Stp (fun B=>B=A4) H H':=by
 obtain⟨H',e,g,s,n⟩:=qY h.prs.ok h.a4 hl hc
 have:=h.o1;have:=h.o2;have:=h.o4;have l4:=h.lt
 exact⟨H',e,⟨h.prs.fresh s (fun B hB=>by omega),by rw[s.keep _ (by omega) (by omega)];exact h.a1,by rw[s.keep _ (by omega) (by omega)];exact h.a2,g,h.o1,h.o2,h.o4⟩,s⟩
def xD (u:AV)(B:Nat):Prop:= ∃x ks vs ps,u= .agg [x,ks,vs,ps]∧(Blk ks B∨Blk vs B∨Blk ps B)
theorem jQ {x ks vs ps:AV}{B:Nat} :xD (.agg [x,ks,vs,ps]) B↔(Blk ks B∨Blk vs B∨Blk ps B):=
 ⟨fun⟨_,_,_,_,e,h⟩=>by simp only[AV.agg.injEq,List.cons.injEq,and_true]at e;obtain⟨rfl,rfl,rfl,rfl⟩:=e;exact h,fun h=>⟨_,_,_,_,rfl,h⟩⟩
def kW (N:Nat)(H:AH)(v:AV)(nd:Nd.Node):Prop:=y8 H v nd∧ ∀B,xD v B→N≤B
structure FrG (A k e:Nat)(H:AH)(v:AV)(n:Nat)(l:List AV):Prop where
 g:yF k e H v n l
 f: ∀B,Blk v B→A<B
theorem FrG.prs {A k e n:Nat}{H H':AH}{v:AV}{l:List AV}(h:FrG A k e H v n l)(s:Prs H H'):FrG A k e H' v n l:=⟨h.g.mono s (fun _ _ x=>x),h.f⟩
theorem FrG.stp {A A' k e n:Nat}{H H':AH}{v:AV}{l:List AV}(h:FrG A k e H v n l)(s:Stp (fun B=>B=A') H H')(hA:A'≤A):FrG A k e H' v n l:=
 ⟨h.g.mono s (fun B hB e=>by have:=h.f B hB;omega),h.f⟩
theorem zNm (l:Str):aveq (S l) (S l)=true:=by simp[S,aveq]
theorem FrG.nil (A k e:Nat)(H:AH):FrG A k e H .nilSlice 0 []:=⟨.inl ⟨by simp, .inl ⟨rfl,rfl⟩⟩,fun B hB=>(Blk.nil.1 hB).elim⟩
theorem FrG.isCell {A k e n:Nat}{H:AH}{v:AV}{l:List AV}(h:FrG A k e H v n l):isCell v=true:=h.g.isCell
theorem FrG.aveq {A k e n:Nat}{H:AH}{v:AV}{l:List AV}(h:FrG A k e H v n l):aveq v v=true:=yI h.g.row
structure FrN (A:Nat)(H:AH)(a b c:AV)(nd:Nd.Node):Prop where
 k:FrG A 1 9 H a nd.keys.length (nd.keys.map S)
 v:FrG A 1 9 H b nd.vals.length (nd.vals.map S)
 p:FrG A 3 72 H c nd.kids.length (nd.kids.flatMap qW)
theorem FrN.stp {A A':Nat}{H H':AH}{a b c:AV}{nd:Nd.Node}(h:FrN A H a b c nd)(s:Stp (fun B=>B=A') H H')(hA:A'≤A):FrN A H' a b c nd:=⟨h.k.stp s hA,h.v.stp s hA,h.p.stp s hA⟩
theorem FrN.fresh {A N:Nat}{H:AH}{x a b c:AV}{nd:Nd.Node}(h:FrN A H a b c nd)(hN:N≤A): ∀B,xD (.agg [x,a,b,c]) B→N≤B:=fun B hB=>by
 rcases jQ.1 hB with k | k | k
 ·have:=h.k.f B k;omega
 ·have:=h.v.f B k;omega
 ·have:=h.p.f B k;omega
theorem zG2 (D:Dyn)(n:Nat){H0 H:AH}{A1 A2 A4 k:Nat}{b:Bool}{ks vs ps k2 v2 p2 k4 v4 p4:AV}{keys:List Str}{na nb:Nd.Node}
  (h:CutI H0 A1 A2 A4 H [.bool b,ks,vs,ps] [.bool b,k2,v2,p2] [.bool b,k4,v4,p4]) (hks:Strs H ks keys) (hR: ∀B,Blk ks B→B<H0.next) (hk:k<keys.length) (ha:FrN A4 H k2 v2 p2 na) (hb:FrN A4 H k4 v4 p4 nb):
  ∃H',zFm D n [.ptr A1 0, .ptr A2 0, .ptr A4 0, .int .i64 (k:Nat)] H=some (.ret (.tuple [.agg [.bool b,k2,v2,p2],S (keys.getD k []), .agg [.bool b,k4,v4,p4], .int .i64 ((0:Nat):Int)]),H')∧Prs H0 H'∧FrN A4 H' k2 v2 p2 na∧FrN A4 H' k4 v4 p4 nb:=by
 have o1:=h.o1;have o2:=h.o2;have o4:=h.o4
 obtain⟨q,q1,q2⟩:=hks.at hk
 obtain⟨H1,e1,h1,s1⟩:=h.all2 (l':=[.bool b,k2,v2,p2]) rfl (dY _ _ _ _ ha.k.isCell ha.v.isCell ha.p.isCell)
 have hks1:Strs H1 ks keys:=Rw.stp hks s1 (fun B hB e=>by have:=hR B hB;omega)
 obtain⟨q',q1',q2'⟩:=hks1.at hk
 obtain rfl:q=q':=by have:=q1 .i64 k rfl;rw[q1' .i64 k rfl]at this;cases this;rfl
 obtain⟨H2,e2,h2,s2⟩:=h1.all4 (l':=[.bool b,k4,v4,p4]) rfl (dY _ _ _ _ hb.k.isCell hb.v.isCell hb.p.isCell)
 have e1':stN 4 (.ptr A2 0) (.agg [.bool b,k2,v2,p2]) H=some (qN,H1):=e1
 have e2':stN 4 (.ptr A4 0) (.agg [.bool b,k4,v4,p4]) H1=some (qN,H2):=e2
 have hagg:aveq (.agg [.bool b,k4,v4,p4]) (.agg [.bool b,k4,v4,p4])=true:=by simp[Eng.aveq,aF,hb.k.aveq,hb.v.aveq,hb.p.aveq]
 have hg:keys.getD k []=keys[k]:=by rw[zK,zA hk];rfl
 have l4:ldN 4 (.ptr A4 0) H1=some (.agg [.bool b,k4,v4,p4]):=by rw[qR h1.a4];rfl
 refine⟨H2, ?_,h2.prs,(ha.stp s1 (by omega)).stp s2 (by omega),(hb.stp s1 (by omega)).stp s2 (by omega)⟩
 rw[hg]
 simp(disch:=omega) only[zFm,eZ,qR h.a2,qR h.a4,qL h.a1,q1,q2,e1',e2',yZ (qL h1.a1 1) (yI hks),yZ q2' (zNm _),yZ l4 hagg,qR h2.a2,qR h2.a4,cJ,Option.map_some]
theorem zEH (D:Dyn)(n:Nat){H:AH}(hk:H.ok){v:AV}{l:List Str}(h:yF 1 9 H v l.length (l.map S))(hl:l.length≤1000000000){i:Nat}(h0:0<i)(hi:i≤l.length)(A:Nat)(hA:A<H.next):
  ∃r v' H',j9 1 v none (some (.int .i64 (i:Nat))) (some (.int .i64 (i:Nat))) H=some r∧YD D n [r] H=some (v',H')∧Prs H H'∧FrG A 1 9 H' v' (l.take i).length ((l.take i).map S):=by
 obtain⟨r,e1,w,hz⟩:=KD h (by decide) hi .i64 .i64
 rw[map_take]at w
 have hlen:(l.take i).length=i:=by rw[zH];omega
 have w':Strs H r (l.take i):=by rw[Strs,hlen];exact w
 obtain⟨v',H',e2,p,g,f⟩:=dL D n hk w' (hz h0).1 (hz h0).2 (by omega)
 exact⟨r,v',H',e1,e2,p,g,fun B hB=>by have:=f B hB;omega⟩
theorem zEq (D:Dyn)(n:Nat){H:AH}(hk:H.ok){v:AV}{l:List Str}(h:yF 1 9 H v l.length (l.map S))(hl:l.length≤1000000000){i:Nat}(hi:i<l.length)(A:Nat)(hA:A<H.next):
  ∃r v' H',aveq r r=true∧j9 1 v (some (.int .i64 (i:Nat))) none none H=some r∧YD D n [r] H=some (v',H')∧Prs H H'∧FrG A 1 9 H' v' (l.drop i).length ((l.drop i).map S):=by
 obtain⟨r,e1,w,z1,z2⟩:=ZT h (by decide) hi .i64
 rw[map_drop]at w
 have hlen:(l.drop i).length=l.length - i:=by rw[zO]
 have w':Strs H r (l.drop i):=by rw[Strs,hlen];exact w
 obtain⟨v',H',e2,p,g,f⟩:=dL D n hk w' z1 z2 (by omega)
 exact⟨r,v',H',yI w,e1,e2,p,g,fun B hB=>by have:=f B hB;omega⟩
theorem zMX (D:Dyn)(n:Nat){H:AH}(hk:H.ok){v:AV}{l:List Ptr}(h:yF 3 72 H v l.length (l.flatMap qW))(hl:l.length≤1000000000){i:Nat}(h0:0<i)(hi:i≤l.length)(A:Nat)(hA:A<H.next):
  ∃r v' H',j9 3 v none (some (.int .i64 (i:Nat))) (some (.int .i64 (i:Nat))) H=some r∧f77 D n [r] H=some (v',H')∧Prs H H'∧FrG A 3 72 H' v' (l.take i).length ((l.take i).flatMap qW):=by
 obtain⟨r,e1,w,hz⟩:=KD h (by decide) hi .i64 .i64
 rw[QJ]at w
 have hlen:(l.take i).length=i:=by rw[zH];omega
 have w':vM H r (l.take i):=by rw[vM,hlen];exact w
 obtain⟨v',H',e2,p,g,f⟩:=QV D n hk w' (hz h0).1 (hz h0).2 (by omega)
 exact⟨r,v',H',e1,e2,p,g,fun B hB=>by have:=f B hB;omega⟩
theorem zMF (D:Dyn)(n:Nat){H:AH}(hk:H.ok){v:AV}{l:List Ptr}(h:yF 3 72 H v l.length (l.flatMap qW))(hl:l.length≤1000000000){i:Nat}(hi:i<l.length)(A:Nat)(hA:A<H.next):
  ∃r v' H',aveq r r=true∧j9 3 v (some (.int .i64 (i:Nat))) none none H=some r∧f77 D n [r] H=some (v',H')∧Prs H H'∧FrG A 3 72 H' v' (l.drop i).length ((l.drop i).flatMap qW):=by
 obtain⟨r,e1,w,z1,z2⟩:=ZT h (by decide) hi .i64
 rw[QK]at w
 have hlen:(l.drop i).length=l.length - i:=by rw[zO]
 have w':vM H r (l.drop i):=by rw[vM,hlen];exact w
 obtain⟨v',H',e2,p,g,f⟩:=QV D n hk w' z1 z2 (by omega)
 exact⟨r,v',H',yI w,e1,e2,p,g,fun B hB=>by have:=f B hB;omega⟩
theorem zAy (D:Dyn)(n:Nat)(hn:200000000≤n){H:AH}(hk:H.ok){b:Bool}{ks vs ps:AV}{nd:Nd.Node}(hb:nd.leaf=b)(h:bZ H (.agg [.bool b,ks,vs,ps]) nd)(hs:small nd):
  ∃H1 H2 H3 H4 A1 A2 A4,(∀K,bA (some (AObj.cells [.bool b,ks,vs,ps] 133 1 false,fun A=>AV.ptr A 0)) H K=K (.ptr A1 0) H1)∧(∀K,bA (some (AObj.cells [.bool false, .nilSlice, .nilSlice, .nilSlice] 133 1 false,fun A=>AV.ptr A 0)) H1 K=K (.ptr A2 0) H2)∧
   (∀K,bA (some (AObj.cells [.bool false, .nilSlice, .nilSlice, .nilSlice] 133 1 false,fun A=>AV.ptr A 0)) H2 K=K (.ptr A4 0) H3)∧zAu D n [.agg [.bool b,ks,vs,ps]] H3=some (.bool (Nd.shaped ltS nd),H4)∧
   CutI H A1 A2 A4 H3 [.bool b,ks,vs,ps] [.bool false, .nilSlice, .nilSlice, .nilSlice] [.bool false, .nilSlice, .nilSlice, .nilSlice]∧CutI H A1 A2 A4 H4 [.bool b,ks,vs,ps] [.bool false, .nilSlice, .nilSlice, .nilSlice] [.bool false, .nilSlice, .nilSlice, .nilSlice]:=by
 have p1:Prs H (H.push (.cells [.bool b,ks,vs,ps] 133 1 false)):=(Stp.refl hk).push _
 have g1:(H.push (.cells [.bool b,ks,vs,ps] 133 1 false)).h.get H.next=some (.cells [.bool b,ks,vs,ps] 133 1 false):=AH.push_get_eq _ _
 have n1:(H.push (.cells [.bool b,ks,vs,ps] 133 1 false)).next=H.next+1:=rfl
 generalize hH1:H.push (.cells [.bool b,ks,vs,ps] 133 1 false)=H1 at p1 g1 n1
 have p2:Prs H1 (H1.push (.cells [.bool false, .nilSlice, .nilSlice, .nilSlice] 133 1 false)):=(Stp.refl p1.ok).push _
 have g2:(H1.push (.cells [.bool false, .nilSlice, .nilSlice, .nilSlice] 133 1 false)).h.get H1.next=some (.cells [.bool false, .nilSlice, .nilSlice, .nilSlice] 133 1 false):=AH.push_get_eq _ _
 have n2:(H1.push (.cells [.bool false, .nilSlice, .nilSlice, .nilSlice] 133 1 false)).next=H1.next+1:=rfl
 have g12:=p2.get p1.ok g1
 generalize hH2:H1.push (.cells [.bool false, .nilSlice, .nilSlice, .nilSlice] 133 1 false)=H2 at p2 g2 n2 g12
 have p3:Prs H2 (H2.push (.cells [.bool false, .nilSlice, .nilSlice, .nilSlice] 133 1 false)):=(Stp.refl p2.ok).push _
 have g3:(H2.push (.cells [.bool false, .nilSlice, .nilSlice, .nilSlice] 133 1 false)).h.get H2.next=some (.cells [.bool false, .nilSlice, .nilSlice, .nilSlice] 133 1 false):=AH.push_get_eq _ _
 have g13:=p3.get p2.ok g12
 have g23:=p3.get p2.ok g2
 generalize hH3:H2.push (.cells [.bool false, .nilSlice, .nilSlice, .nilSlice] 133 1 false)=H3 at p3 g3 g13 g23
 have P3:Prs H H3:=(p1.trans p2).trans p3
 obtain⟨H4,e4,p4⟩:=uL D n p3.ok (h.prs P3) hs hn
 have c3:CutI H H.next H1.next H2.next H3 [.bool b,ks,vs,ps] [.bool false, .nilSlice, .nilSlice, .nilSlice] [.bool false, .nilSlice, .nilSlice, .nilSlice]:=⟨P3,g13,g23,g3,by omega,by omega,by omega⟩
 refine⟨H1,H2,H3,H4,H.next,H1.next,H2.next,fun K=> ?_,fun K=> ?_,fun K=> ?_,e4,c3,c3.step p4⟩
 ·simp only[eZ,vZ hk,hH1]
 ·simp only[eZ,vZ p1.ok,hH2]
 ·simp only[eZ,vZ p2.ok,hH3]
theorem zLn (D:Dyn)(n:Nat)(hn:200000000≤n){H:AH}(hk:H.ok){v:AV}{nd:Nd.Node}(h:y8 H v nd)(hs:small nd)(hsh:Nd.shaped ltS nd=true)(hc:xY nd)(hl:nd.leaf=true):
  ∃k va vb H',zCx D n [v] H=some (.tuple [va,S (nd.keys.getD k []),vb, .int .i64 ((0:Nat):Int)],H')∧Prs H H'∧kW H.next H' va (cutA nd k)∧kW H.next H' vb (fJ nd k)∧cutOk nd k∧hbnd nd k:=by
 have h0:=h.node
 obtain⟨ks,vs,ps,rfl,h1,h2,h3⟩:=h
 rw[hl]at h0
 have hkl:=Nd.sumL_ge nd.keys
 have hvl:nd.vals.length=nd.keys.length:=by
  simp only[Nd.shaped,hl,if_true,z7,zC]at hsh
  exact hsh.2.1.1
 obtain⟨s1,s2,s3⟩:=id hs
 obtain⟨c1,c2⟩:=id hc
 obtain⟨H1,H2,H3,H4,A1,A2,A4,b1,b2,b3,e4,i3,i4⟩:=zAy D n hn hk hl h0 hs
 obtain⟨k,H5,e5,p5,⟨k1,k2⟩,kb⟩:=zEJ D n hn i4.prs.ok (h0.prs i4.prs) hs hsh hc
 simp only[hl,if_true]at k2
 have i5:=i4.step p5
 obtain⟨H6,e6,i6,t6⟩:=i5.st2 (o:=0) (x:= .bool true) rfl (by simp)
 obtain⟨H7,e7,i7,t7⟩:=i6.st4 (o:=0) (x:= .bool true) rfl (by simp)
 have m {H':AH} (p:Prs H H'):=h1.mono p (fun _ _ x=>x)
 have m2 {H':AH} (p:Prs H H'):=h2.mono p (fun _ _ x=>x)
 obtain⟨r8,k8,H8,c8,e8,p8,f8⟩:=zEH D n i7.prs.ok (m i7.prs) (by omega) k1 (by omega) A4 i7.lt
 have i8:=i7.step p8
 obtain⟨H9,e9,i9,t9⟩:=i8.st2 (o:=1) (x:=k8) f8.isCell (by simp)
 have f9:=f8.stp t9 (by have:=i8.o4;omega)
 obtain⟨r10,k10,H10,_,c10,e10,p10,f10⟩:=zEq D n i9.prs.ok (m i9.prs) (by omega) (show k< _ by omega) A4 i9.lt
 have i10:=i9.step p10
 obtain⟨H11,e11,i11,t11⟩:=i10.st4 (o:=1) (x:=k10) f10.isCell (by simp)
 have f11:=f10.stp t11 (by omega)
 obtain⟨r12,k12,H12,c12,e12,p12,f12⟩:=zEH D n i11.prs.ok (m2 i11.prs) (by omega) k1 (by omega) A4 i11.lt
 have i12:=i11.step p12
 obtain⟨r13,k13,H13,q13,c13,e13,p13,f13⟩:=zEq D n i12.prs.ok (m2 i12.prs) (by omega) (show k< _ by omega) A4 i12.lt
 have c13':j9 1 vs (some (.int .i64 (k:Nat))) none none H11=some r13:=by rw[vE (m2 i12.prs) (m2 i11.prs) (by decide)];exact c13
 have i13:=i12.step p13
 obtain⟨H14,e14,i14,t14⟩:=i13.st2 (o:=2) (x:=k12) f12.isCell (by simp)
 obtain⟨H15,e15,i15,t15⟩:=i14.st4 (o:=2) (x:=k13) f13.isCell (by simp)
 have o4:=i15.o4
 have h24:=i15.o1
 have h12:=i15.o2
 have F8:FrG A4 1 9 H15 k8 _ _:=(((((f9.prs p10).stp t11 (by omega)).prs p12).prs p13).stp t14 (by omega)).stp t15 (by omega)
 have F10:FrG A4 1 9 H15 k10 _ _:=(((f11.prs p12).prs p13).stp t14 (by omega)).stp t15 (by omega)
 have F12:FrG A4 1 9 H15 k12 _ _:=((f12.prs p13).stp t14 (by omega)).stp t15 (by omega)
 have F13:FrG A4 1 9 H15 k13 _ _:=(f13.stp t14 (by omega)).stp t15 (by omega)
 have na:FrN A4 H15 k8 k12 .nilSlice (cutA nd k):=by
  simp only[cutA,hl,if_true];exact⟨F8,F12,FrG.nil ..⟩
 have nb:FrN A4 H15 k10 k13 .nilSlice (fJ nd k):=by
  simp only[fJ,hl,if_true];exact⟨F10,F13,FrG.nil ..⟩
 obtain⟨H16,e16,P,fa,fb⟩:=zG2 D n i15 ((m i15.prs).row) (fun B hB=>h1.lt hB) (show k<nd.keys.length by omega) na nb
 refine⟨k, .agg [.bool true,k8,k12, .nilSlice], .agg [.bool true,k10,k13, .nilSlice],H16, ?_,P, ?_, ?_,⟨k1,by rw[hl];simp only[if_true];omega⟩,kb⟩
 ·have t2: ¬((nd.keys.length:Nat):Int)< ((2:Nat):Int):=by omega
  simp(maxSteps:=999999)(disch:=omega) only[zCx,eZ,hl,b1,b2,b3,qR i3.a1,qR i4.a1,cJ,Option.map_some,e4,hsh,qL i4.a1,h1.row.lnSl,t2,e5,qL i5.a1,e6,yZ (qL i6.a1 0) (B0 _),e7,qL i7.a1,c8,e8,e9,qL i9.a1,c10,e10,e11,qL i11.a1,c12,c13',e12,yZ (qL i12.a1 2) (yI h2.row),yZ c13 q13,e13,e14,e15,e16]
 ·exact⟨⟨k8,k12, .nilSlice,by simp only[cutA,hl,if_true],fa.k.g,fa.v.g,fa.p.g⟩,fa.fresh (by omega)⟩
 ·exact⟨⟨k10,k13, .nilSlice,by simp only[fJ,hl,if_true],fb.k.g,fb.v.g,fb.p.g⟩,fb.fresh (by omega)⟩
theorem zIa (D:Dyn)(n:Nat)(hn:200000000≤n){H:AH}(hk:H.ok){v:AV}{nd:Nd.Node}(h:y8 H v nd)(hs:small nd)(hsh:Nd.shaped ltS nd=true)(hc:xY nd)(hl:nd.leaf=false):
  ∃k va vb H',zCx D n [v] H=some (.tuple [va,S (nd.keys.getD k []),vb, .int .i64 ((0:Nat):Int)],H')∧Prs H H'∧kW H.next H' va (cutA nd k)∧kW H.next H' vb (fJ nd k)∧cutOk nd k∧hbnd nd k:=by
 have h0:=h.node
 obtain⟨ks,vs,ps,rfl,h1,h2,h3⟩:=h
 rw[hl]at h0
 have hkl:=Nd.sumL_ge nd.keys
 have hpl:nd.kids.length=nd.keys.length+1:=by
  simp only[Nd.shaped,hl,Bool.false_eq_true,if_false,z7,zC]at hsh
  exact hsh.2.1.2
 obtain⟨s1,s2,s3⟩:=id hs
 obtain⟨c1,c2⟩:=id hc
 obtain⟨H1,H2,H3,H4,A1,A2,A4,b1,b2,b3,e4,i3,i4⟩:=zAy D n hn hk hl h0 hs
 obtain⟨k,H5,e5,p5,⟨k1,k2⟩,kb⟩:=zEJ D n hn i4.prs.ok (h0.prs i4.prs) hs hsh hc
 simp only[hl,Bool.false_eq_true,if_false]at k2
 have i5:=i4.step p5
 obtain⟨H6,e6,i6,t6⟩:=i5.st2 (o:=0) (x:= .bool false) rfl (by simp)
 obtain⟨H7,e7,i7,t7⟩:=i6.st4 (o:=0) (x:= .bool false) rfl (by simp)
 have m {H':AH} (p:Prs H H'):=h1.mono p (fun _ _ x=>x)
 have m2 {H':AH} (p:Prs H H'):=h3.mono p (fun _ _ x=>x)
 obtain⟨r8,k8,H8,c8,e8,p8,f8⟩:=zEH D n i7.prs.ok (m i7.prs) (by omega) k1 (by omega) A4 i7.lt
 have i8:=i7.step p8
 obtain⟨H9,e9,i9,t9⟩:=i8.st2 (o:=1) (x:=k8) f8.isCell (by simp)
 have f9:=f8.stp t9 (by have:=i8.o4;omega)
 obtain⟨r10,k10,H10,_,c10,e10,p10,f10⟩:=zEq D n i9.prs.ok (m i9.prs) (by omega) (show k+1< _ by omega) A4 i9.lt
 have i10:=i9.step p10
 obtain⟨H11,e11,i11,t11⟩:=i10.st4 (o:=1) (x:=k10) f10.isCell (by simp)
 have f11:=f10.stp t11 (by omega)
 obtain⟨r12,k12,H12,c12,e12,p12,f12⟩:=zMX D n i11.prs.ok (m2 i11.prs) (by omega) (show 0<k+1 by omega) (by omega) A4 i11.lt
 have i12:=i11.step p12
 obtain⟨r13,k13,H13,q13,c13,e13,p13,f13⟩:=zMF D n i12.prs.ok (m2 i12.prs) (by omega) (show k+1< _ by omega) A4 i12.lt
 have c13':j9 3 ps (some (.int .i64 ((k+1:Nat):Int))) none none H11=some r13:=by rw[vE (m2 i12.prs) (m2 i11.prs) (by decide)];exact c13
 have i13:=i12.step p13
 obtain⟨H14,e14,i14,t14⟩:=i13.st2 (o:=3) (x:=k12) f12.isCell (by simp)
 obtain⟨H15,e15,i15,t15⟩:=i14.st4 (o:=3) (x:=k13) f13.isCell (by simp)
 simp only[Int.natCast_add]at c10 c12 c13 c13'
 have o4:=i15.o4
 have h24:=i15.o1
 have h12:=i15.o2
 have F8:FrG A4 1 9 H15 k8 _ _:=(((((f9.prs p10).stp t11 (by omega)).prs p12).prs p13).stp t14 (by omega)).stp t15 (by omega)
 have F10:FrG A4 1 9 H15 k10 _ _:=(((f11.prs p12).prs p13).stp t14 (by omega)).stp t15 (by omega)
 have F12:FrG A4 3 72 H15 k12 _ _:=((f12.prs p13).stp t14 (by omega)).stp t15 (by omega)
 have F13:FrG A4 3 72 H15 k13 _ _:=(f13.stp t14 (by omega)).stp t15 (by omega)
 have na:FrN A4 H15 k8 .nilSlice k12 (cutA nd k):=by
  simp only[cutA,hl,Bool.false_eq_true,if_false];exact⟨F8,FrG.nil ..,F12⟩
 have nb:FrN A4 H15 k10 .nilSlice k13 (fJ nd k):=by
  simp only[fJ,hl,Bool.false_eq_true,if_false];exact⟨F10,FrG.nil ..,F13⟩
 obtain⟨H16,e16,P,fa,fb⟩:=zG2 D n i15 ((m i15.prs).row) (fun B hB=>h1.lt hB) (show k<nd.keys.length by omega) na nb
 refine⟨k, .agg [.bool false,k8, .nilSlice,k12], .agg [.bool false,k10, .nilSlice,k13],H16, ?_,P, ?_, ?_,⟨k1,by rw[hl];simp only[Bool.false_eq_true,if_false];omega⟩,kb⟩
 ·have t2: ¬((nd.keys.length:Nat):Int)< ((2:Nat):Int):=by omega
  have t3: ¬((nd.keys.length:Nat):Int)< ((3:Nat):Int):=by omega
  simp(maxSteps:=999999)(disch:=omega) only[zCx,eZ,hl,b1,b2,b3,qR i3.a1,qR i4.a1,cJ,Option.map_some,e4,hsh,qL i4.a1,h1.row.lnSl,t2,t3,e5,qL i5.a1,e6,yZ (qL i6.a1 0) (B0 _),e7,qL i7.a1,c8,e8,e9,qL i9.a1,c10,e10,e11,qL i11.a1,c12,c13',e12,yZ (qL i12.a1 3) (yI h3.row),yZ c13 q13,e13,e14,e15,e16]
 ·exact⟨⟨k8, .nilSlice,k12,by simp only[cutA,hl,Bool.false_eq_true,if_false],fa.k.g,fa.v.g,fa.p.g⟩,fa.fresh (by omega)⟩
 ·exact⟨⟨k10, .nilSlice,k13,by simp only[fJ,hl,Bool.false_eq_true,if_false],fb.k.g,fb.v.g,fb.p.g⟩,fb.fresh (by omega)⟩
end Go.Eng.Sh
end
section
namespace Go.Eng
namespace T
variable {α:Type}
noncomputable def st (t:T α)(n:Nat)(a:α):T α:=(T.set 40 t n a).getD .leaf
end T
theorem Stp.ld1 {S:Nat→Prop}{H H':AH}(s:Stp S H H'){A:Nat}(o:Nat)(h:A<H.next)(hS: ¬S A):Eng.ld1 (.ptr A o) H'=Eng.ld1 (.ptr A o) H:=by simp only[Eng.ld1,s.keep A h hS]
theorem Stp.ldN {S:Nat→Prop}{H H':AH}(s:Stp S H H'){A:Nat}(o n:Nat)(h:A<H.next)(hS: ¬S A):Eng.ldN n (.ptr A o) H'=Eng.ldN n (.ptr A o) H:=by simp only[Eng.ldN,s.keep A h hS]
theorem Prs.l1 {H H':AH}(s:Prs H H')(A:Nat)(o:Nat)(h:A<H.next):Eng.ld1 (.ptr A o) H'=Eng.ld1 (.ptr A o) H:=s.ld1 o h (fun x=>x)
theorem Prs.b1 {H H':AH}{l:List AV}{e sz:Nat}{g:Bool}(s:Prs (H.push (.cells l e sz g)) H')(o:Nat):Eng.ld1 (.ptr H.next o) H'=l[o]? :=by
 rw[s.l1 _ _ (by rw[AH.push_next];omega),Z4]
theorem Prs.refl {H:AH}(h:H.ok):Prs H H:=Stp.refl h
theorem Prs.pushed {H:AH}(h:H.ok)(o:AObj):Prs H (H.push o):=(Stp.refl h).push o
def Rws (k:Nat)(H:AH):List AV→List (Nat×List AV)→Prop
 | [],[]=>True
 | v::vs,r::rs=>(Rw k H v r.1 r.2∧qO r.2=true)∧Rws k H vs rs
 | _,_=>False
theorem Rws.len {k:Nat}{H:AH} : ∀ {vs:List AV} {rs:List (Nat×List AV)},Rws k H vs rs→vs.length=rs.length
 | [],[],_=>rfl
 | _::vs,_::rs,h=>by simp only[zG,Rws.len h.2]
 | [],_::_,h=>h.elim
 | _::_,[],h=>h.elim
theorem Rws.at {k:Nat}{H:AH} : ∀ {vs:List AV} {rs:List (Nat×List AV)} {i:Nat} {x:AV},Rws k H vs rs→vs[i]? =some x→ ∃r,rs[i]? =some r∧Rw k H x r.1 r.2∧qO r.2=true
 | [],[],_,_,_,h=>by simp at h
 | _::vs,r::rs,0,x,h,hx=>by simp only[List.getElem?_cons_zero,z6]at hx;subst hx;exact⟨r,rfl,h.1⟩
 | _::vs,_::rs,i+1,x,h,hx=>by simp only[List.getElem?_cons_succ]at hx⊢;exact Rws.at h.2 hx
 | [],_::_,_,_,h,_=>h.elim
 | _::_,[],_,_,h,_=>h.elim
theorem Rws.prs {k:Nat}{H H':AH}(s:Prs H H'): ∀ {vs:List AV} {rs:List (Nat×List AV)},Rws k H vs rs→Rws k H' vs rs
 | [],[],_=>trivial
 | _::vs,_::rs,h=>⟨⟨h.1.1.prs s,h.1.2⟩,Rws.prs s h.2⟩
 | [],_::_,h=>h.elim
 | _::_,[],h=>h.elim
def vC (rs:List (Nat×List AV)):Nat:=(rs.map Prod.fst).sum
def zCE (rs:List (Nat×List AV)):List AV:=rs.flatMap Prod.snd
theorem fS {rs:List (Nat×List AV)}{i:Nat}{r:Nat×List AV}(h:rs[i]? =some r):vC (rs.take (i+1))=vC (rs.take i)+r.1:=by
 obtain⟨hi,rfl⟩:=List.getElem?_eq_some_iff.1 h
 rw[zI hi];simp only[vC,List.map_append,List.sum_append,List.map_cons,List.map_nil,List.sum_cons,List.sum_nil,Nat.add_zero]
theorem UV {rs:List (Nat×List AV)}{i:Nat}{r:Nat×List AV}(h:rs[i]? =some r):zCE (rs.take (i+1))=zCE (rs.take i)++r.2:=by
 obtain⟨hi,rfl⟩:=List.getElem?_eq_some_iff.1 h
 rw[zI hi];simp only[zCE,zR,zN,List.flatMap_nil,List.append_nil]
theorem cG (rs:List (Nat×List AV))(i:Nat):vC (rs.take i)≤vC rs:=by
 have:rs=rs.take i++rs.drop i:=(List.take_append_drop i rs).symm
 conv=>rhs;rw[this]
 simp only[vC,List.map_append,List.sum_append];omega
def Part (k e:Nat)(H:AH)(v:AV)(n:Nat)(l:List AV)(tot:Nat):Prop:=
 (tot=0∧v= .nilSlice∧n=0∧l=[])∨ ∃A rest,v= .slice A 0 n 1∧A<H.next∧H.h.get A=some (.cells (l++rest) e k true)∧l.length=n*k∧rest.length=(tot - n)*k∧n≤tot
theorem Part.own {k e:Nat}{H:AH}{v:AV}{n:Nat}{l:List AV}(h:Part k e H v n l n):Own k e H v n l:=by
 rcases h with⟨rfl,rfl,_,rfl⟩ | ⟨A,rest,rfl,hA,hg,hl,hr,_⟩
 ·exact Own.nil _ _ _
 ·have:rest=[]:=zF (by rw[hr,Nat.sub_self,Nat.zero_mul])
  subst this;rw[List.append_nil]at hg
  exact⟨hl, .inr ⟨A,rfl,hA,hg⟩⟩
theorem Part.app {k e bytes:Nat}{H:AH}{v s:AV}{n m tot:Nat}{l new:List AV}(hk:H.ok)(hpos:0<k)(h:Part k e H v n l tot)(hs:srcOf k s H=some (m,new))(hm:new.length=m*k)(hc:qO new=true)(hle:n+m≤tot):
  ∃v' H',apP e k bytes v s H=some (v',H')∧Part k e H' v' (n+m) (l++new) tot∧Stp (Blk v) H H'∧H'.next=H.next∧ ∀B,Blk v' B→Blk v B:=by
 rcases h with⟨rfl,rfl,rfl,rfl⟩ | ⟨A,rest,rfl,hA,hg,hl,hr,hn⟩
 ·obtain rfl:m=0:=by omega
  have:new=[]:=zF (by simpa using hm)
  subst this
  exact⟨.nilSlice,H,by simp[apP,hs,hc,app1], .inl ⟨rfl,rfl,rfl,rfl⟩,Stp.refl hk,rfl,fun _ x=>x⟩
 ·have hlen:(l++rest).length=tot*k:=by rw[zE,hl,hr, ← Nat.add_mul];congr 1;omega
  have hroom:yK (l++rest) true k 0 1 k=tot:=by
   simp only[yK,show((1 % 2).beq 0)=false from rfl,cond_false,Nat.beq_refl,show Nat.beq 0 (1 / 2*k)=true from by simp,Bool.and_self,cond_true,y7,hlen,Nat.sub_zero]
   exact Nat.mul_div_cancel _ hpos
  have b1:Nat.ble (n+m) tot=true:=by rw[zS];exact hle
  have hz:Nat.blt 0 k=true:=by rw[zL];exact hpos
  have hmr:m*k≤rest.length:=by rw[hr];exact zV _ (by omega)
  have hset:setAt (l++rest) (0+n*k) new=some (l++new++rest.drop (m*k)):=by
   rw[vF (by rw[hlen,hm,Nat.zero_add, ← Nat.add_mul];exact zV _ hle),Nat.zero_add,hm]
   congr 1
   rw[List.take_append_of_le_length (by omega),zJ (by omega),List.drop_append, ← hl,List.drop_of_length_le (by omega),List.nil_append]
   congr 2;omega
  refine⟨.slice A 0 (n+m) 1,H.put A (.cells (l++new++rest.drop (m*k)) e k true), ?_, .inr ⟨A,rest.drop (m*k),rfl,hA,by rw[AH.put_get,if_pos rfl],by rw[zE,hl,hm,Nat.add_mul],by rw[zO,hr, ← Nat.sub_mul];congr 1;omega,hle⟩,(Stp.refl hk).put hA _ (.inr (Blk.slice.2 rfl)),rfl,fun B hB=>Blk.slice.2 (Blk.slice.1 hB)⟩
  simp only[apP,hs,hc,cond_true,app1,hg,zGm,hroom,b1,hz,hset,zAF,yQ,yB]
theorem Part.stp {k e:Nat}{S:Nat→Prop}{H H':AH}{v:AV}{n tot:Nat}{l:List AV}(h:Part k e H v n l tot)(s:Stp S H H')(hS: ∀A,Blk v A→ ¬S A):Part k e H' v n l tot:=by
 rcases h with h | ⟨A,rest,rfl,hA,hg,hr⟩
 ·exact .inl h
 ·exact .inr ⟨A,rest,rfl,zT hA s.next,by rw[s.keep A hA (hS A (Blk.slice.2 rfl))];exact hg,hr⟩
theorem zDM (z:AV): ∀m:Nat,(rep m [z]).length=m
 | 0=>rfl
 | m+1=>by simp[rep,zDM z m]
theorem zB1 (a b c:AV): ∀m:Nat,(rep m [a,b,c]).length=m*3
 | 0=>rfl
 | m+1=>by simp only[rep,zE,zB1 a b c m,zG,qA];omega
theorem zIW {k e bytes m:Nat}{H:AH}{z:List AV}(hk:H.ok)(hpos:0<k)(hz:(rep m z).length=m*k)(hm0:0<m)(hm:m≤1000000000)(hb:bytes≤1000):
  apZ e k bytes z .nilSlice (.int .i64 ((m:Nat):Int)) H=some (.slice H.next 0 m 1,H.push (.cells (rep m z) e k true))∧
  j9 k (.slice H.next 0 m 1) none (some (.int .i64 ((0:Nat):Int))) none (H.push (.cells (rep m z) e k true))=some (.slice H.next 0 0 1)∧
  Part k e (H.push (.cells (rep m z) e k true)) (.slice H.next 0 0 1) 0 [] m:=by
 have b1:Nat.ble (m*bytes) 281474976710656=true:=by
  rw[zS];exact Nat.le_trans (Nat.mul_le_mul hm hb) (by decide)
 have b2:Nat.blt m 4611686018427387904=true:=by rw[zL];omega
 have b3:Nat.beq m 0=false:=by rw[Bool.eq_false_iff];intro h;have:=Nat.eq_of_beq_eq_true h;omega
 have hroom:yK (rep m z) true k 0 1 k=m:=by
  simp only[yK,show((1 % 2).beq 0)=false from rfl,cond_false,Nat.beq_refl,show Nat.beq 0 (1 / 2*k)=true from by simp,Bool.and_self,cond_true,y7,hz,Nat.sub_zero]
  exact Nat.mul_div_cancel _ hpos
 have hb':Nat.blt 0 k=true:=by rw[zL];exact hpos
 refine⟨?_, ?_, .inr ⟨H.next,rep m z,rfl,Nat.lt_succ_self _,AH.push_get_eq _ _,by simp,by simpa using hz,by omega⟩⟩
 ·show apZ e k bytes z .nilSlice (.int .i64 (Int.ofNat m)) H=_
  simp only[apZ,b1,b2,Bool.and_self,cond_true,app1,show m.beq 0=false from b3,cond_false,kT,bF hm hb,bY,List.nil_append,gW hk,yB]
 ·have n0:=yL .i64 (z:=((0:Nat):Int)) (by omega)
  simp only[j9,yN,n0,AH.push_get_eq,hb',cond_true]
  simp[ZG,hroom,yB,show Nat.ble 0 m=true from by rw[zS];omega,show Nat.ble 0 0=true from rfl,show Nat.beq 1 0=false from rfl]
end Go.Eng
namespace Go.Eng.Sh
open Go.Nd (Ptr yJ cutOk cutA fJ)
theorem zHM (D:Dyn)(n m:Nat)(hm:m≤1000000000){H:AH}(hk:H.ok):
  ∃v H',zL3 D n [.nilSlice, .int .i64 (m:Nat)] H=some (v,H')∧Prs H H'∧Part 1 9 H' v 0 [] m∧ ∀B,Blk v B→H.next≤B:=by
 have hcap:zCP X 37 .nilSlice=some (.int .i64 ((0:Nat):Int)):=rfl
 have hln:lnSl .nilSlice=some (.int .i64 ((0:Nat):Int)):=rfl
 have hs:j9 1 .nilSlice none (some (.int .i64 ((0:Nat):Int))) none H=some .nilSlice:=rfl
 have h0: ¬((m:Nat):Int)< ((0:Nat):Int):=by omega
 by_cases hp:m=0
 ·subst hp
  refine⟨.nilSlice,H, ?_,Stp.refl hk, .inl ⟨rfl,rfl,rfl,rfl⟩,fun B hB=>(Blk.nil.1 hB).elim⟩
  simp(disch:=omega) only[zL3,zFs,zFt,eZ,h0,hcap,hln,Int.sub_zero,zX,Int.sub_self]
 ·obtain⟨e1,e2,p⟩:=zIW (k:=1) (e:=9) (bytes:=16) (m:=m) (z:=[.str 0 0]) hk (by decide) (by rw[zDM];omega) (by omega) hm (by decide)
  have hsub:((m:Nat):Int) - (((0:Nat):Int) - ((0:Nat):Int))=((m:Nat):Int):=by omega
  have hpI:((0:Nat):Int)< ((m:Nat):Int):=by omega
  refine⟨_,_, ?_,(Stp.refl hk).push _,p,fun B hB=>by rw[Blk.slice.1 hB];exact Nat.le_refl _⟩
  simp(disch:=omega) only[zL3,zFs,zFt,eZ,h0,hcap,hln,hs,hsub,hpI,e1,e2]
theorem zHN (D:Dyn)(n m:Nat)(hm:m≤1000000000){H:AH}(hk:H.ok):
  ∃v H',zKY D n [.nilSlice, .int .i64 (m:Nat)] H=some (v,H')∧Prs H H'∧Part 3 72 H' v 0 [] m∧ ∀B,Blk v B→H.next≤B:=by
 have hcap:zCP X 77 .nilSlice=some (.int .i64 ((0:Nat):Int)):=rfl
 have hln:lnSl .nilSlice=some (.int .i64 ((0:Nat):Int)):=rfl
 have hs:j9 3 .nilSlice none (some (.int .i64 ((0:Nat):Int))) none H=some .nilSlice:=rfl
 have h0: ¬((m:Nat):Int)< ((0:Nat):Int):=by omega
 by_cases hp:m=0
 ·subst hp
  refine⟨.nilSlice,H, ?_,Stp.refl hk, .inl ⟨rfl,rfl,rfl,rfl⟩,fun B hB=>(Blk.nil.1 hB).elim⟩
  simp(disch:=omega) only[zKY,zFj,zFk,eZ,h0,hcap,hln,Int.sub_zero,zX,Int.sub_self]
 ·obtain⟨e1,e2,p⟩:=zIW (k:=3) (e:=72) (bytes:=24) (m:=m) (z:=[.int .i64 (.ofNat 0), .int .i64 (.ofNat 0), .int .u64 (.ofNat 0)]) hk (by decide) (by rw[zB1]) (by omega) hm (by decide)
  have hsub:((m:Nat):Int) - (((0:Nat):Int) - ((0:Nat):Int))=((m:Nat):Int):=by omega
  have hpI:((0:Nat):Int)< ((m:Nat):Int):=by omega
  refine⟨_,_, ?_,(Stp.refl hk).push _,p,fun B hB=>by rw[Blk.slice.1 hB];exact Nat.le_refl _⟩
  simp only[Int.ofNat_eq_natCast]at e1 e2
  simp(disch:=omega) only[zKY,zFj,zFk,eZ,h0,hcap,hln,hs,hsub,hpI,e1,e2]
theorem catS1 (D:Dyn)(n:Nat){H:AH}{v:AV}{vs:List AV}{rs:List (Nat×List AV)}(hv:Rw 1 H v vs.length vs)(h:Rws 1 H vs rs)(hb:vC rs≤1000000000)(hl:vs.length≤1000000000)(n':Nat)(hn:vs.length<n'):
  qV n' (zBI D n) [v, .int .i64 ((0:Nat):Int),v, .int .i64 (vs.length:Nat), .int .i64 ((0:Nat):Int)] H=some (.exit 0 [v, .int .i64 (vC rs:Nat)],H):=by
 have hlen:=h.len
 refine vW (fun i=>[v, .int .i64 (vC (rs.take i):Nat),v, .int .i64 (vs.length:Nat), .int .i64 (i:Nat)]) vs.length ?_ ?_ n' hn
 ·intro i hi
  obtain⟨p,x,p1,p2,p3⟩:=hv.ld1 hi
  obtain⟨r,r1,r2,r3⟩:=h.at p3
  have hiI:((i:Nat):Int)< ((vs.length:Nat):Int):=by omega
  have hs:=fS r1
  have hs2:=cG rs i
  have hs3:=cG rs (i+1)
  have hneg: ¬((vC (rs.take i):Nat):Int)+((r.1:Nat):Int)< ((0:Nat):Int):=by omega
  have hc:((vC (rs.take (i+1)):Nat):Int)=((vC (rs.take i):Nat):Int)+((r.1:Nat):Int):=by omega
  rw[hc]
  simp(disch:=omega) only[zBI,zJt,eZ,hiI,p1,p2,r2.lnSl,hneg,Int.natCast_add]
 ·intro m
  refine qZ ?_
  have:rs.take vs.length=rs:=by rw[hlen];exact zZ
  simp only[zBI,eZ,zX,this]
theorem catS2 (D:Dyn)(n:Nat){H:AH}(hk:H.ok){v:AV}{vs:List AV}{rs:List (Nat×List AV)}(hv:Rw 1 H v vs.length vs)(h:Rws 1 H vs rs)(hl:vs.length≤1000000000)
  {w:AV} (hw:Part 1 9 H w 0 [] (vC rs)) (hd1: ∀B,Blk w B→ ¬Blk v B) (hd2: ∀B,Blk w B→ ∀x∈vs,¬Blk x B) (n':Nat) (hn:vs.length<n'):
  ∃w' H',qV n' (U9 D n) [w,v, .int .i64 (vs.length:Nat), .int .i64 ((0:Nat):Int)] H=some (.exit 2 [w'],H')∧Stp (Blk w) H H'∧Part 1 9 H' w' (vC rs) (zCE rs) (vC rs)∧ ∀B,Blk w' B→Blk w B:=by
 have hlen:=h.len
 obtain⟨m,us,H',k1,w',rfl,k3,k4,k5⟩:=jB (b:=U9 D n) vs.length (fun i us H'=> ∃w',us=[w',v, .int .i64 (vs.length:Nat), .int .i64 (i:Nat)]∧Stp (Blk w) H H'∧Part 1 9 H' w' (vC (rs.take i)) (zCE (rs.take i)) (vC rs)∧ ∀B,Blk w' B→Blk w B) (fun i us H1 hi ⟨w1,hus,hs,hp,hB⟩=>by
  subst hus
  obtain⟨p,x,p1,p2,p3⟩:=(hv.stp hs (fun A hA hh=>hd1 A hh hA)).ld1 hi
  obtain⟨r,r1,r2,r3⟩:=h.at p3
  have hx:x∈vs:=List.mem_of_getElem? p3
  have r2':=r2.stp hs (fun A hA hh=>hd2 A hh x hx hA)
  have hiI:((i:Nat):Int)< ((vs.length:Nat):Int):=by omega
  have hs3:=cG rs (i+1)
  have hst:=fS r1
  obtain⟨w2,H2,e2,q2,s2,n2,b2⟩:=hp.app (bytes:=16) hs.ok (by decide) r2'.srcOf r2.1 r3 (by omega)
  rw[← hst, ← UV r1]at q2
  refine⟨_,H2, ?_,w2,rfl,hs.trans (s2.mono fun A _ hA=>hB A hA),q2,fun B hb=>hB B (b2 B hb)⟩
  simp(disch:=omega) only[U9,eZ,hiI,p1,p2,e2,Int.natCast_add]) n' _ H ⟨w,rfl,Stp.refl hk,hw,fun _ x=>x⟩ hn
 rw[hlen,zZ]at k4
 exact⟨w',H',k1.trans (qZ (by simp only[U9,eZ,zX])),k3,k4,k5⟩
theorem zG8 (D:Dyn)(n:Nat){H:AH}(hk:H.ok){v:AV}{vs:List AV}{rs:List (Nat×List AV)}(hv:Rw 1 H v vs.length vs)(h:Rws 1 H vs rs)(hb:vC rs≤1000000000)(hl:vs.length≤1000000000)(hn:vs.length<n)
  (hv0: ∀B,Blk v B→B<H.next) (hx0: ∀x∈vs,∀B,Blk x B→B<H.next):
  ∃w H',zAt D n [v] H=some (w,H')∧Prs H H'∧Own 1 9 H' w (vC rs) (zCE rs)∧ ∀B,Blk w B→H.next≤B:=by
 obtain⟨w1,H1,e1,p1,q1,f1⟩:=zHM D n (vC rs) hb hk
 obtain⟨w2,H2,e2,s2,q2,f2⟩:=catS2 D n p1.ok (hv.prs p1) (h.prs p1) hl q1 (fun B hB hh=>by have:=f1 B hB;have:=hv0 B hh;omega) (fun B hB x hx hh=>by have:=f1 B hB;have:=hx0 x hx B hh;omega) n hn
 have l1:=catS1 D n hv h hb hl n hn
 refine⟨w2,H2, ?_,p1.fresh s2 f1,q2.own,fun B hB=>f1 B (f2 B hB)⟩
 simp only[zAt,eZ,hv.lnSl,l1,zJu,e1,e2,zJv]
theorem catP1 (D:Dyn)(n:Nat){H:AH}{v:AV}{vs:List AV}{rs:List (Nat×List AV)}(hv:Rw 1 H v vs.length vs)(h:Rws 3 H vs rs)(hb:vC rs≤1000000000)(hl:vs.length≤1000000000)(n':Nat)(hn:vs.length<n'):
  qV n' (zBE D n) [v, .int .i64 ((0:Nat):Int),v, .int .i64 (vs.length:Nat), .int .i64 ((0:Nat):Int)] H=some (.exit 0 [v, .int .i64 (vC rs:Nat)],H):=by
 have hlen:=h.len
 refine vW (fun i=>[v, .int .i64 (vC (rs.take i):Nat),v, .int .i64 (vs.length:Nat), .int .i64 (i:Nat)]) vs.length ?_ ?_ n' hn
 ·intro i hi
  obtain⟨p,x,p1,p2,p3⟩:=hv.ld1 hi
  obtain⟨r,r1,r2,r3⟩:=h.at p3
  have hiI:((i:Nat):Int)< ((vs.length:Nat):Int):=by omega
  have hs:=fS r1
  have hs2:=cG rs i
  have hs3:=cG rs (i+1)
  have hneg: ¬((vC (rs.take i):Nat):Int)+((r.1:Nat):Int)< ((0:Nat):Int):=by omega
  have hc:((vC (rs.take (i+1)):Nat):Int)=((vC (rs.take i):Nat):Int)+((r.1:Nat):Int):=by omega
  rw[hc]
  simp(disch:=omega) only[zBE,zJh,eZ,hiI,p1,p2,r2.lnSl,hneg,Int.natCast_add]
 ·intro m
  refine qZ ?_
  have:rs.take vs.length=rs:=by rw[hlen];exact zZ
  simp only[zBE,eZ,zX,this]
theorem catP2 (D:Dyn)(n:Nat){H:AH}(hk:H.ok){v:AV}{vs:List AV}{rs:List (Nat×List AV)}(hv:Rw 1 H v vs.length vs)(h:Rws 3 H vs rs)(hl:vs.length≤1000000000)
  {w:AV} (hw:Part 3 72 H w 0 [] (vC rs)) (hd1: ∀B,Blk w B→ ¬Blk v B) (hd2: ∀B,Blk w B→ ∀x∈vs,¬Blk x B) (n':Nat) (hn:vs.length<n'):
  ∃w' H',qV n' (U3 D n) [w,v, .int .i64 (vs.length:Nat), .int .i64 ((0:Nat):Int)] H=some (.exit 2 [w'],H')∧Stp (Blk w) H H'∧Part 3 72 H' w' (vC rs) (zCE rs) (vC rs)∧ ∀B,Blk w' B→Blk w B:=by
 have hlen:=h.len
 obtain⟨m,us,H',k1,w',rfl,k3,k4,k5⟩:=jB (b:=U3 D n) vs.length (fun i us H'=> ∃w',us=[w',v, .int .i64 (vs.length:Nat), .int .i64 (i:Nat)]∧Stp (Blk w) H H'∧Part 3 72 H' w' (vC (rs.take i)) (zCE (rs.take i)) (vC rs)∧ ∀B,Blk w' B→Blk w B) (fun i us H1 hi ⟨w1,hus,hs,hp,hB⟩=>by
  subst hus
  obtain⟨p,x,p1,p2,p3⟩:=(hv.stp hs (fun A hA hh=>hd1 A hh hA)).ld1 hi
  obtain⟨r,r1,r2,r3⟩:=h.at p3
  have hx:x∈vs:=List.mem_of_getElem? p3
  have r2':=r2.stp hs (fun A hA hh=>hd2 A hh x hx hA)
  have hiI:((i:Nat):Int)< ((vs.length:Nat):Int):=by omega
  have hs3:=cG rs (i+1)
  have hst:=fS r1
  obtain⟨w2,H2,e2,q2,s2,n2,b2⟩:=hp.app (bytes:=24) hs.ok (by decide) r2'.srcOf r2.1 r3 (by omega)
  rw[← hst, ← UV r1]at q2
  refine⟨_,H2, ?_,w2,rfl,hs.trans (s2.mono fun A _ hA=>hB A hA),q2,fun B hb=>hB B (b2 B hb)⟩
  simp(disch:=omega) only[U3,eZ,hiI,p1,p2,e2,Int.natCast_add]) n' _ H ⟨w,rfl,Stp.refl hk,hw,fun _ x=>x⟩ hn
 rw[hlen,zZ]at k4
 exact⟨w',H',k1.trans (qZ (by simp only[U3,eZ,zX])),k3,k4,k5⟩
theorem zG9 (D:Dyn)(n:Nat){H:AH}(hk:H.ok){v:AV}{vs:List AV}{rs:List (Nat×List AV)}(hv:Rw 1 H v vs.length vs)(h:Rws 3 H vs rs)(hb:vC rs≤1000000000)(hl:vs.length≤1000000000)(hn:vs.length<n)
  (hv0: ∀B,Blk v B→B<H.next) (hx0: ∀x∈vs,∀B,Blk x B→B<H.next):
  ∃w H',zGI D n [v] H=some (w,H')∧Prs H H'∧Own 3 72 H' w (vC rs) (zCE rs)∧ ∀B,Blk w B→H.next≤B:=by
 obtain⟨w1,H1,e1,p1,q1,f1⟩:=zHN D n (vC rs) hb hk
 obtain⟨w2,H2,e2,s2,q2,f2⟩:=catP2 D n p1.ok (hv.prs p1) (h.prs p1) hl q1 (fun B hB hh=>by have:=f1 B hB;have:=hv0 B hh;omega) (fun B hB x hx hh=>by have:=f1 B hB;have:=hx0 x hx B hh;omega) n hn
 have l1:=catP1 D n hv h hb hl n hn
 refine⟨w2,H2, ?_,p1.fresh s2 f1,q2.own,fun B hB=>f1 B (f2 B hB)⟩
 simp only[zGI,eZ,hv.lnSl,l1,zJi,e1,e2,zJj]
end Go.Eng.Sh
end
section
namespace Go.Eng
theorem hp:(∀(o:AObj) (mk:Nat→AV) (H:AH) (K:AV→AH→Rs),H.ok→bA (some (o,mk)) H K=K (mk H.next) (H.push o))∧
  (∀(H:AH) (A o:Nat) (x:AObj),A<H.next→ld1 (.ptr A o) (H.push x)=ld1 (.ptr A o) H)∧
  (∀(H:AH) (A o n:Nat) (x:AObj),A<H.next→ldN n (.ptr A o) (H.push x)=ldN n (.ptr A o) H)∧
  (∀(l:List AV) (o n:Nat) (a:AV),o=0→n=l.length→(vN l o n).map AV.agg=some (.agg l))∧
  (∀(a b c d:AV),vN [a,b,c,d] 0 4=some [a,b,c,d])∧
  (∀(l:List AV),(some l).map AV.agg=some (.agg l))∧
  (∀(vs:List AV) (i:Nat),qM (.tuple vs) i=vs[i]?):=
 ⟨fun o mk H K h=>vZ h o mk K,fun H A o x h=>zEs o x h,fun H A o n x h=>zKA o n x h,fun l o n _ h1 h2=>by subst h1;subst h2;rw[jC _ _ _ (.inr (by omega)),List.drop_zero,zZ];rfl,fun _ _ _ _=>rfl,fun _=>rfl,fun vs i=>by simp only[qM,fY]⟩
end Go.Eng
end
section
namespace Go.Nd
def partedN (lt:Str→Str→Bool)(a:Node)(sep:Str)(b:Node):Bool:=
 mayK sep&&(a.leaf==b.leaf)&&(decide (a.keys.length=0)||lt (a.keys.getD (a.keys.length - 1) []) sep)&&(decide (b.keys.length=0)||lt sep (b.keys.getD 0 [])||(a.leaf&&decide (sep=b.keys.getD 0 [])))
end Go.Nd
namespace Go.Eng.Sh
open Go.Nd (Ptr yJ cutOk cutA fJ partedN)
theorem zE0 (D:Dyn)(n:Nat){H:AH}(hk:H.ok){v w:AV}{a b:Nd.Node}{sep:Str}(h:bZ H v a)(h':bZ H w b)(hs:small a)(hs':small b):
  ∃H',zCN D n [v,S sep,w] H=some (.bool (partedN ltS a sep b),H')∧Prs H H':=by
 obtain⟨ks,vs,ps,rfl,h1,h2,h3⟩:=h
 obtain⟨ks',vs',ps',rfl,k1,k2,k3⟩:=h'
 have hkl:=Nd.sumL_ge a.keys
 have hkl':=Nd.sumL_ge b.keys
 obtain⟨s1,s2,s3⟩:=hs
 obtain⟨s1',s2',s3'⟩:=hs'
 have P:Prs H ((H.push (.cells [.bool a.leaf,ks,vs,ps] 133 1 false)).push (.cells [.bool b.leaf,ks',vs',ps'] 133 1 false)):=((Stp.refl hk).push _).push _
 have l1:=h1.lnSl
 have l2:=k1.lnSl
 have q1:=h1.prs P
 have q2:=k1.prs P
 generalize hH2:(H.push (.cells [.bool a.leaf,ks,vs,ps] 133 1 false)).push (.cells [.bool b.leaf,ks',vs',ps'] 133 1 false)=H2 at P q1 q2
 have r1: ∀o,ld1 (.ptr H.next o) H2=[.bool a.leaf,ks,vs,ps][o]? :=fun o=>by rw[← hH2,zEs _ _ (by rw[AH.push_next];omega),Z4]
 have r2: ∀o,ld1 (.ptr (H.push (.cells [.bool a.leaf,ks,vs,ps] 133 1 false)).next o) H2=[.bool b.leaf,ks',vs',ps'][o]? :=fun o=>by rw[← hH2,Z4]
 refine⟨H2, ?_,P⟩
 have hne: ∀x y:Bool,(!(x==y))=false→x=y:=fun x y=>by cases x<;>cases y<;>simp
 cases hm:Nd.mayK sep with
 | false=>simp(disch:=first | assumption | omega | (simp only[AH.push_next,AH.put_next];omega) | (repeat(first | assumption | apply AH.ok.push))) only[zCN,eZ,hp,hH2,yS,hm,partedN]
 | true=>
  cases hl:(a.leaf==b.leaf)with
  | false=>simp(disch:=first | assumption | omega | (simp only[AH.push_next,AH.put_next];omega) | (repeat(first | assumption | apply AH.ok.push))) only[zCN,eZ,hp,hH2,yS,hm,partedN,r1,r2,hl]
  | true=>
   have e:b.leaf=a.leaf:=by revert hl;cases a.leaf<;>cases b.leaf<;>simp
   rw[e]at r2 hH2
   simp only[partedN,hm,hl,Bool.true_and]
   rw[e]
   clear hl e hne
   generalize a.leaf=la at*
   have hll:(la==la)=true:=by simp
   have tail:
     (∃q0,b.keys.length≠0→(∀κ (z:Int),z=((0:Nat):Int)→yW 1 ks' (.int κ z)=some q0)∧Eng.ld1 q0 H2=some (S (b.keys.getD 0 []))):=by
    by_cases h0:b.keys.length=0
    ·exact⟨.nilPtr,fun h=>absurd h0 h⟩
    ·obtain⟨q,i1,i2⟩:=q2.at (i:=0) (by omega)
     refine⟨q,fun _=>⟨i1, ?_⟩⟩
     rw[kD (by omega)];exact i2
   obtain⟨q0,hq0⟩:=tail
   by_cases ha:a.keys.length=0
   ·have ga: ¬((0:Nat):Int)< ((a.keys.length:Nat):Int):=by omega
    simp only[ha,decide_true,Bool.true_or,Bool.true_and]
    by_cases hb:b.keys.length=0
    ·have gb:((b.keys.length:Nat):Int)=((0:Nat):Int):=by omega
     simp only[hb,decide_true,Bool.true_or]
     simp(disch:=first | assumption | omega | (simp only[AH.push_next,AH.put_next];omega) | (repeat(first | assumption | apply AH.ok.push))) only[zCN,eZ,hp,hH2,yS,hm,r1,r2,hll,l1,l2,ga,gb]
    ·have gb: ¬((b.keys.length:Nat):Int)=((0:Nat):Int):=by omega
     obtain⟨i1,i2⟩:=hq0 hb
     simp only[hb,decide_false,Bool.false_or]
     cases h1':ltS sep (b.keys.getD 0 [])<;>cases la<;>simp(disch:=first | assumption | omega | (simp only[AH.push_next,AH.put_next];omega) | (repeat(first | assumption | apply AH.ok.push))) only[zCN,eZ,hp,hH2,yS,hm,r1,r2,hll,l1,l2,ga,gb,i1,i2,h1']
   ·have ga:((0:Nat):Int)< ((a.keys.length:Nat):Int):=by omega
    obtain⟨q,j1,j2⟩:=q1.at (i:=a.keys.length - 1) (by omega)
    rw[← kD (d:=[])]at j2
    have hsub:((a.keys.length:Nat):Int) - ((1:Nat):Int)=((a.keys.length - 1:Nat):Int):=by omega
    simp only[ha,decide_false,Bool.false_or]
    cases h0':ltS (a.keys.getD (a.keys.length - 1) []) sep with
    | false=>simp(disch:=first | assumption | omega | (simp only[AH.push_next,AH.put_next];omega) | (repeat(first | assumption | apply AH.ok.push))) only[zCN,eZ,hp,hH2,yS,hm,r1,r2,hll,l1,l2,ga,hsub,j1,j2,h0']
    | true=>
     by_cases hb:b.keys.length=0
     ·have gb:((b.keys.length:Nat):Int)=((0:Nat):Int):=by omega
      simp only[hb,decide_true,Bool.true_or]
      simp(disch:=first | assumption | omega | (simp only[AH.push_next,AH.put_next];omega) | (repeat(first | assumption | apply AH.ok.push))) only[zCN,eZ,hp,hH2,yS,hm,r1,r2,hll,l1,l2,ga,gb,hsub,j1,j2,h0']
     ·have gb: ¬((b.keys.length:Nat):Int)=((0:Nat):Int):=by omega
      obtain⟨i1,i2⟩:=hq0 hb
      simp only[hb,decide_false,Bool.false_or]
      cases h1':ltS sep (b.keys.getD 0 [])<;>cases la<;>simp(disch:=first | assumption | omega | (simp only[AH.push_next,AH.put_next];omega) | (repeat(first | assumption | apply AH.ok.push))) only[zCN,eZ,hp,hH2,yS,hm,r1,r2,hll,l1,l2,ga,gb,hsub,j1,j2,h0',i1,i2,h1']
end Go.Eng.Sh
end
