/- A checked evaluator for the program, and what it tells, part 4: no condition. -/
import Derived.Test.YtaaflpnhdkoaeaaGreatO3
import Derived.Test.YtaaflpnhdkoaeaaGreatProg
import Derived.KernelRfl
set_option linter.all false
set_option linter.unusedVariables false
set_option linter.unusedSimpArgs false
set_option maxHeartbeats 8000000
set_option maxRecDepth 20000
section
noncomputable section
namespace Go.Eng.Sh
open Go.Proofs
set_option maxRecDepth 100000
set_option maxHeartbeats 4000000
variable (D:Dyn)(n:Nat)
attribute [local irreducible] bV bR hd cnd jn jb yF wnt chk XA bA jM bO YP bW eqP eqS eqM eqF eqA zOA ldN ld1 stN cvI zOE zBx zMd YI wR jY uI hU uW zBa zEY fd1 fdN fAd cP lnSl aZ apP apZ cpy wY zKZ pk3 s2a bxV d7 zH1 lkM upM dlM mkM callV nl gP tld zMa xN YB uO zDJ rfC mn2 mx2 aun qV xR qX isW aveq vE
def h85:Hint:=(.s .o Hr)
def f85:=(⟨_,by conv=>rhs;reduce⟩:FD ⟨X,[]⟩ D n 85 Tryz.f85 h85 []).1
theorem zLN {D:Dyn}(a:DG D)(n:Nat):FI 85 (f85 D n):=fk n (ms h85) a sn Tryz.func85
attribute [local irreducible] f85
def s32:Tb:=⟨X,[(85,f85 D n)]⟩
def h32:Hint:=(.s .o (.s Hq Hr))
def f32:=(⟨_,by conv=>rhs;reduce⟩:FD (s32 D n) D n 32 Tryz.f32 h32 []).1
theorem zM1 {D:Dyn}(a:DG D)(n:Nat):FI 32 (f32 D n):=fk n (ms h32) a (sc (zLN a n) sn) Tryz.func32
attribute [local irreducible] f32
def h86:Hint:=(.s (.b [15,32767] .o) (.s (.b [10,1023] .o) .o))
def f86:=(⟨_,by conv=>rhs;reduce⟩:FD ⟨X,[]⟩ D n 86 Tryz.f86 h86 []).1
theorem zDR {D:Dyn}(a:DG D)(n:Nat):FI 86 (f86 D n):=fk n (ms h86) a sn Tryz.func86
attribute [local irreducible] f86
def s34:Tb:=⟨X,[(86,f86 D n)]⟩
def YM (D:Dyn)(n:Nat)(vs:List AV)(H:AH):Rs:=
 hd vs fun x4 vs=>hd vs fun a vs=>
 bV (jM .lss a (.int .i64 (.ofNat 2))) fun f=>
 cnd f (bR (f86 D n [x4,a,(.int .u8 (.ofNat 1))] H) fun i H=>
 bV (jM .add a (.int .i64 (.ofNat 1))) fun h=>
 some (.norm [x4,h],H))
 (some (.exit 0 [x4],H))
def zF7 (D:Dyn)(n:Nat)(vs:List AV)(H:AH):Rs:=
 hd vs fun a vs=>
 bV (some a) fun f=>bV (some (.int .i64 (.ofNat 0))) fun h=>some (.ret (.tuple [f,h]),H)
def f34 (D:Dyn)(n:Nat)(vs:List AV)(H:AH):Option (AV×AH):=
 gP (hd vs fun a vs=>nl vs <|
 bV (jM .lss a (.int .i64 (.ofNat 64))) fun h=>
 jn (wnt h false (bV (jM .gtr a (.int .i64 (.ofNat 8192))) fun j=>
 some (.norm [j],H)) (some (.norm [qX],H))) fun vs H=>hd vs fun i vs=>
 bV (pk3 (some h) (some (.bool true)) (some i)) fun m=>
 cnd m (bV (some .nilPtr) fun x2=>bV (some (.int .i64 (.ofNat 1))) fun t=>some (.ret (.tuple [x2,t]),H))
 (bV (wY [(0,1),(1,1),(2,8192),(8194,4)] ([(.int .i64 (.ofNat 0)),(.int .i64 (.ofNat 0))]++rep 8192 [(.int .u8 (.ofNat 0))]++[(.int .i64 (.ofNat 0)),(.int .i64 (.ofNat 0)),(.int .i64 (.ofNat 0)),(.int .i64 (.ofNat 0))]) [(0,a)]) fun o=>
 bA (bxV 145 o) H fun f H=>
 bV (xR f) fun p=>
 bV (fAd 8194 p) fun q=>
 bV (uI 4 1 q (.int .u8 (.ofNat 0))) fun s=>
 bR (stN 1 s a H) fun u H=>
 jb 0 (yF n (YM D n) [f,(.int .i64 (.ofNat 0))] H) (zF7 D n)))
def h34:Hint:=(.s .o (.s Hq (.s .o (.s .o (.s (.s .o (.b [4] (.l [4,20] (.s .o (.s (.cr .o .o) (.s (.b0 Hr) .o)))))) Hr)))))
theorem zM0 {D:Dyn}(a:DG D)(n:Nat):FI 34 (f34 D n):=fk n h34 a (sc (zDR a n) sn) Tryz.func34
attribute [local irreducible] YM zF7 f34
def h118:Hint:=(.s .o (.s Hq Hr))
def f118:=(⟨_,by conv=>rhs;reduce⟩:FD ⟨X,[]⟩ D n 118 Tryz.f118 h118 []).1
theorem zCJ {D:Dyn}(a:DG D)(n:Nat):FI 118 (f118 D n):=fk n (ms h118) a sn Tryz.func118
attribute [local irreducible] f118
def h119:Hint:=(.s .o (.b [1] (.l [0,0,1,6,7] (.s .o (.s (.cr .o .o) (.s (.b0 Hr) .o))))))
def dW:=(⟨_,by conv=>rhs;reduce⟩:PD ⟨X,[]⟩ D n 119 Tryz.f119 h119 [] 0).1
attribute [local irreducible] dW
def VQ:=(⟨_,by conv=>rhs;reduce⟩:PD ⟨X,[]⟩ D n 119 Tryz.f119 h119 [dW D n] 1).1
attribute [local irreducible] VQ
def f119:=(⟨_,by conv=>rhs;reduce⟩:FD ⟨X,[]⟩ D n 119 Tryz.f119 h119 [dW D n,VQ D n]).1
theorem zCI {D:Dyn}(a:DG D)(n:Nat):FI 119 (f119 D n):=fk n (ms h119) a sn Tryz.func119
attribute [local irreducible] f119
def s72:Tb:=⟨X,[(118,f118 D n),(119,f119 D n)]⟩
def f72 (D:Dyn)(n:Nat)(vs:List AV)(H:AH):Option (AV×AH):=
 gP (hd vs fun x vs=>nl vs <|
 bA (bxV 42 x) H fun x1 H=>
 bV (ldN 3 x1 H) fun y=>
 bR (f118 D n [y] H) fun x6 H=>
 bV (aun .not x6) fun z=>
 cnd z (bV (some (.str 0 0)) fun x2=>bV (some (.int .i64 (.ofNat 4))) fun C=>some (.ret (.tuple [x2,C]),H))
 (bA (bxV 232 (.agg (rep 16 [(.int .u8 (.ofNat 0))]))) H fun x4 H=>
 bV (jY 16 1 x4 none (some (.int .i64 (.ofNat 4))) none) fun F=>
 bV (fAd 0 x1) fun J=>
 bV (ld1 J H) fun h=>
 bV (cvI .u64 h) fun i=>
 bR (f119 D n [F,i] H) fun K H=>
 bV (jY 16 1 x4 (some (.int .i64 (.ofNat 4))) (some (.int .i64 (.ofNat 8))) none) fun j=>
 bV (fAd 1 x1) fun m=>
 bV (ld1 m H) fun o=>
 bV (cvI .u64 o) fun p=>
 bR (f119 D n [j,p] H) fun L H=>
 bV (jY 16 1 x4 (some (.int .i64 (.ofNat 8))) none none) fun q=>
 bV (fAd 2 x1) fun s=>
 bV (ld1 s H) fun t=>
 bR (f119 D n [q,t] H) fun N H=>
 bV (jY 16 1 x4 none none none) fun u=>
 bV (zBx u H) fun v=>
 bV (some v) fun a=>bV (some (.int .i64 (.ofNat 0))) fun f=>some (.ret (.tuple [a,f]),H)))
def h72:Hint:=(.s .o (.s Hq (.s .o (.s .o (.s .o (.s .o Hr))))))
theorem zHy {D:Dyn}(a:DG D)(n:Nat):FI 72 (f72 D n):=fk n h72 a (sc (zCJ a n) (sc (zCI a n) sn)) Tryz.func72
attribute [local irreducible] f72
def s18:Tb:=⟨X,[(72,f72 D n)]⟩
def h18:Hint:=(.s .o (.s Hq (.s (.s .o Hq) Hr)))
def f18:=(⟨_,by conv=>rhs;reduce⟩:FD (s18 D n) D n 18 Tryz.f18 h18 []).1
theorem zHV {D:Dyn}(a:DG D)(n:Nat):FI 18 (f18 D n):=fk n (ms h18) a (sc (zHy a n) sn) Tryz.func18
attribute [local irreducible] f18
def h73:Hint:=(.s .o Hr)
def f73:=(⟨_,by conv=>rhs;reduce⟩:FD ⟨X,[]⟩ D n 73 Tryz.f73 h73 []).1
theorem KM {D:Dyn}(a:DG D)(n:Nat):FI 73 (f73 D n):=fk n (ms h73) a sn Tryz.func73
attribute [local irreducible] f73
def h127:Hint:=(.s .o (.s .o (.s (.b [9,511] .o) Hr)))
def f127:=(⟨_,by conv=>rhs;reduce⟩:FD ⟨X,[]⟩ D n 127 Tryz.f127 h127 []).1
theorem BR {D:Dyn}(a:DG D)(n:Nat):FI 127 (f127 D n):=fk n (ms h127) a sn Tryz.func127
attribute [local irreducible] f127
def zNw:Hint:=(.s .o (.s .o (.s (.s .o (.b [2,0,3,4] (.l [1,0,3,4,16,17,18] (.s .o (.s (.cr .o .o) (.s (.b0 (.s .o (.s .o (.c [0,0,3,4,16,17,18] (.b [6,63] .o) (.b [7,126,10,1023] .o))))) .o)))))) (.s (.t [0,3,4] vE) Hr))))
def ZG:=(⟨_,by conv=>rhs;reduce⟩:PD ⟨X,[]⟩ D n 126 Tryz.f126 zNw [] 0).1
attribute [local irreducible] ZG
def fL:=(⟨_,by conv=>rhs;reduce⟩:PD ⟨X,[]⟩ D n 126 Tryz.f126 zNw [ZG D n] 1).1
attribute [local irreducible] fL
def VN:=(⟨_,by conv=>rhs;reduce⟩:PD ⟨X,[]⟩ D n 126 Tryz.f126 zNw [ZG D n,fL D n] 2).1
attribute [local irreducible] VN
def f126:=(⟨_,by conv=>rhs;reduce⟩:FD ⟨X,[]⟩ D n 126 Tryz.f126 zNw [ZG D n,fL D n,VN D n]).1
theorem zNL (D:Dyn)(n:Nat):f126 D n=zOy ⟨X,[]⟩ D n 126 Tryz.f126 (ms zNw):=by kernel_rfl
theorem zF8:zD8 Tryz.f126 (ms zNw)=[(V0.code,[0,3,4],vE)]:=by kernel_rfl
theorem zI6: ∀x∈zD8 Tryz.f126 (ms zNw),X1 PP Tryz.f126.ntmps 126 x.1 x.2.1 x.2.2:=by
 rw[zF8];intro x a;simp only[List.mem_cons,List.not_mem_nil,or_false]at a;subst a;exact zFE
theorem zCH {D:Dyn}(a:DG D)(n:Nat):FI 126 (f126 D n):=zNy X_ok a sn Tryz.func126 (zG8 (by kernel_rfl) zI6) (zNL D n)
attribute [local irreducible] f126
def zOx:Hint:=(.s .o (.s .o (.s (.s .o (.b [3,1,3] (.l [0,1,3,14,15,16] (.s .o (.s (.cr .o .o) (.s (.b0 Hr) .o)))))) (.s (.s .o (.b [2,3] (.l [1,3,27,28,29] (.s .o (.s (.cr .o .o) (.s (.b0 Hr) .o)))))) Hr))))
def bL:=(⟨_,by conv=>rhs;reduce⟩:PD ⟨X,[]⟩ D n 110 Tryz.f110 zOx [] 0).1
attribute [local irreducible] bL
def fM:=(⟨_,by conv=>rhs;reduce⟩:PD ⟨X,[]⟩ D n 110 Tryz.f110 zOx [bL D n] 1).1
attribute [local irreducible] fM
def WD:=(⟨_,by conv=>rhs;reduce⟩:PD ⟨X,[]⟩ D n 110 Tryz.f110 zOx [bL D n,fM D n] 2).1
attribute [local irreducible] WD
def VT:=(⟨_,by conv=>rhs;reduce⟩:PD ⟨X,[]⟩ D n 110 Tryz.f110 zOx [bL D n,fM D n,WD D n] 3).1
attribute [local irreducible] VT
def f110:=(⟨_,by conv=>rhs;reduce⟩:FD ⟨X,[]⟩ D n 110 Tryz.f110 zOx [bL D n,fM D n,WD D n,VT D n]).1
theorem QH {D:Dyn}(a:DG D)(n:Nat):FI 110 (f110 D n):=fk n (ms zOx) a sn Tryz.func110
attribute [local irreducible] f110
def h137:Hint:=(.s .o Hr)
def f137:=(⟨_,by conv=>rhs;reduce⟩:FD ⟨X,[]⟩ D n 137 Tryz.f137 h137 []).1
theorem BP {D:Dyn}(a:DG D)(n:Nat):FI 137 (f137 D n):=fk n (ms h137) a sn Tryz.func137
attribute [local irreducible] f137
def zMQ:Tb:=⟨X,[(137,f137 D n)]⟩
def zLJ:Hint:=(.s .o (.s (.s .o (.b [5,1] (.l [0,1,10,11,12] (.s .o (.s (.cr .o .o) (.s (.b0 (.s .o Hq)) .o)))))) (.s (.s .o (.cl (.s Hq (.s (.s .o (.b [2] (.l [1,51,52,53] (.s .o (.s (.cr .o .o) (.s (.b0 (.s .o Hq)) .o)))))) Hr)) .o)) (.s Hq (.s (.s .o (.b [4] (.l [3,82,83,84] (.s .o (.s (.cr .o .o) (.s (.b0 (.s .o Hq)) .o)))))) Hr)))))
def xE:=(⟨_,by conv=>rhs;reduce⟩:PD (zMQ D n) D n 109 Tryz.f109 zLJ [] 0).1
attribute [local irreducible] xE
def uN:=(⟨_,by conv=>rhs;reduce⟩:PD (zMQ D n) D n 109 Tryz.f109 zLJ [xE D n] 1).1
attribute [local irreducible] uN
def dZ:=(⟨_,by conv=>rhs;reduce⟩:PD (zMQ D n) D n 109 Tryz.f109 zLJ [xE D n,uN D n] 2).1
attribute [local irreducible] dZ
def fO:=(⟨_,by conv=>rhs;reduce⟩:PD (zMQ D n) D n 109 Tryz.f109 zLJ [xE D n,uN D n,dZ D n] 3).1
attribute [local irreducible] fO
def Y9:=(⟨_,by conv=>rhs;reduce⟩:PD (zMQ D n) D n 109 Tryz.f109 zLJ [xE D n,uN D n,dZ D n,fO D n] 4).1
attribute [local irreducible] Y9
def bN:=(⟨_,by conv=>rhs;reduce⟩:PD (zMQ D n) D n 109 Tryz.f109 zLJ [xE D n,uN D n,dZ D n,fO D n,Y9 D n] 5).1
attribute [local irreducible] bN
def f109:=(⟨_,by conv=>rhs;reduce⟩:FD (zMQ D n) D n 109 Tryz.f109 zLJ [xE D n,uN D n,dZ D n,fO D n,Y9 D n,bN D n]).1
theorem cS {D:Dyn}(a:DG D)(n:Nat):FI 109 (f109 D n):=fk n (ms zLJ) a (sc (BP a n) sn) Tryz.func109
attribute [local irreducible] f109
def zP0:Tb:=⟨X,[(110,f110 D n)]⟩
def zOv:Hint:=(.s .o (.s .o (.s .o (.s .o (.s (.s .o (.c [3,1,3,4,5] Hr .o)) (.s (.s .o (.b [2,4] (.l [1,1,3,4,5,20,21] (.s .o (.s (.cr .o .o) (.s (.b0 (.s .o (.s .o (.s (.s .o (.c [0,1,3,4,5,6,20,21] .o .o)) Hq)))) .o)))))) Hr))))))
def vN:=(⟨_,by conv=>rhs;reduce⟩:PD (zP0 D n) D n 227 Tryz.f227 zOv [] 0).1
attribute [local irreducible] vN
def uK:=(⟨_,by conv=>rhs;reduce⟩:PD (zP0 D n) D n 227 Tryz.f227 zOv [vN D n] 1).1
attribute [local irreducible] uK
def Y0:=(⟨_,by conv=>rhs;reduce⟩:PD (zP0 D n) D n 227 Tryz.f227 zOv [vN D n,uK D n] 2).1
attribute [local irreducible] Y0
def ZB:=(⟨_,by conv=>rhs;reduce⟩:PD (zP0 D n) D n 227 Tryz.f227 zOv [vN D n,uK D n,Y0 D n] 3).1
attribute [local irreducible] ZB
def f227:=(⟨_,by conv=>rhs;reduce⟩:FD (zP0 D n) D n 227 Tryz.f227 zOv [vN D n,uK D n,Y0 D n,ZB D n]).1
theorem zHM {D:Dyn}(a:DG D)(n:Nat):FI 227 (f227 D n):=fk n (ms zOv) a (sc (QH a n) sn) Tryz.func227
attribute [local irreducible] f227
def h108:Hint:=(.s .o (.s Hq Hr))
def f108:=(⟨_,by conv=>rhs;reduce⟩:FD ⟨X,[]⟩ D n 108 Tryz.f108 h108 []).1
theorem BS {D:Dyn}(a:DG D)(n:Nat):FI 108 (f108 D n):=fk n (ms h108) a sn Tryz.func108
attribute [local irreducible] f108
def h81:Hint:=(.s .o (.s Hq Hr))
def f81:=(⟨_,by conv=>rhs;reduce⟩:FD ⟨X,[]⟩ D n 81 Tryz.f81 h81 []).1
theorem zHw {D:Dyn}(a:DG D)(n:Nat):FI 81 (f81 D n):=fk n (ms h81) a sn Tryz.func81
attribute [local irreducible] f81
def s213:Tb:=⟨X,[(109,f109 D n),(227,f227 D n),(108,f108 D n),(81,f81 D n)]⟩
def h213:Hint:=(.s .o (.s Hq (.s .o (.s (.b [5,19,7,127] .o) (.s .o (.s (.s .o (.c [0,1,2,4,6] (.s .o (.c [5,31,10,1023,12,4095,14,16383] (.l [0,1,2,3,4,6,7,8,9,5,11,10,12,13,14] .o) .o)) (.s .o (.c [7,127,13,8191,15,32767,17,131071] (.l [0,1,2,3,4,5,6,8,9,10,11,12,7,14,13,15,16,17] .o) .o)))) (.s (.b [7,1,9,511] .o) .o)))))))
def KU:=(⟨_,by conv=>rhs;reduce⟩:PD (s213 D n) D n 213 Tryz.f213 h213 [] 0).1
attribute [local irreducible] KU
def f213:=(⟨_,by conv=>rhs;reduce⟩:FD (s213 D n) D n 213 Tryz.f213 h213 [KU D n]).1
theorem zHP {D:Dyn}(a:DG D)(n:Nat):FI 213 (f213 D n):=fk n (ms h213) a (sc (cS a n) (sc (zHM a n) (sc (BS a n) (sc (zHw a n) sn)))) Tryz.func213
attribute [local irreducible] f213
def s177:Tb:=⟨X,[(110,f110 D n),(213,f213 D n)]⟩
def h177:Hint:=(.s .o (.s .o (.s .o (.s (.b [1,1,5,6] (.l [0,1,5,6] (.s (.s .o (.cr .o .o)) (.b0 (.s .o (.s Hq (.s .o Hr))))))) Hr))))
def ZC:=(⟨_,by conv=>rhs;reduce⟩:PD (s177 D n) D n 177 Tryz.f177 h177 [] 0).1
attribute [local irreducible] ZC
def VJ:=(⟨_,by conv=>rhs;reduce⟩:PD (s177 D n) D n 177 Tryz.f177 h177 [ZC D n] 1).1
attribute [local irreducible] VJ
def f177:=(⟨_,by conv=>rhs;reduce⟩:FD (s177 D n) D n 177 Tryz.f177 h177 [ZC D n,VJ D n]).1
theorem zCD {D:Dyn}(a:DG D)(n:Nat):FI 177 (f177 D n):=fk n (ms h177) a (sc (QH a n) (sc (zHP a n) sn)) Tryz.func177
attribute [local irreducible] f177
def s179:Tb:=⟨X,[(127,f127 D n)]⟩
def h179:Hint:=(.s .o (.s .o (.s (.s .o (.b [1,5] (.l [0,0,5,8,9,10] (.s .o (.s (.cr .o .o) (.s (.b0 Hr) .o)))))) Hr)))
def dS:=(⟨_,by conv=>rhs;reduce⟩:PD (s179 D n) D n 179 Tryz.f179 h179 [] 0).1
attribute [local irreducible] dS
def VH:=(⟨_,by conv=>rhs;reduce⟩:PD (s179 D n) D n 179 Tryz.f179 h179 [dS D n] 1).1
attribute [local irreducible] VH
def f179:=(⟨_,by conv=>rhs;reduce⟩:FD (s179 D n) D n 179 Tryz.f179 h179 [dS D n,VH D n]).1
theorem zCB {D:Dyn}(a:DG D)(n:Nat):FI 179 (f179 D n):=fk n (ms h179) a (sc (BR a n) sn) Tryz.func179
attribute [local irreducible] f179
def s131:Tb:=⟨X,[(126,f126 D n),(177,f177 D n),(179,f179 D n),(127,f127 D n)]⟩
def h131:Hint:=(.s .o (.s (.s .o (.cl (.s (.s .o (.c [0] .o .o)) Hr) .o)) (.s .o (.s Hq (.s .o (.s (.s .o (.c [1] .o .o)) Hr))))))
def Y5:=(⟨_,by conv=>rhs;reduce⟩:PD (s131 D n) D n 131 Tryz.f131 h131 [] 0).1
attribute [local irreducible] Y5
def WB:=(⟨_,by conv=>rhs;reduce⟩:PD (s131 D n) D n 131 Tryz.f131 h131 [Y5 D n] 1).1
attribute [local irreducible] WB
def f131:=(⟨_,by conv=>rhs;reduce⟩:FD (s131 D n) D n 131 Tryz.f131 h131 [Y5 D n,WB D n]).1
theorem zI4 {D:Dyn}(a:DG D)(n:Nat):FI 131 (f131 D n):=fk n (ms h131) a (sc (zCH a n) (sc (zCD a n) (sc (zCB a n) (sc (BR a n) sn)))) Tryz.func131
attribute [local irreducible] f131
def h76:Hint:=(.s .o Hr)
def f76:=(⟨_,by conv=>rhs;reduce⟩:FD ⟨X,[]⟩ D n 76 Tryz.f76 h76 []).1
theorem zLP {D:Dyn}(a:DG D)(n:Nat):FI 76 (f76 D n):=fk n (ms h76) a sn Tryz.func76
attribute [local irreducible] f76
def h230:Hint:=(.s .o (.s (.s .o (.b [1,0] (.l [0,0,1,7,8] (.s .o (.s (.cr .o .o) (.s (.b0 Hr) .o)))))) Hr))
def ZA:=(⟨_,by conv=>rhs;reduce⟩:PD ⟨X,[]⟩ D n 230 Tryz.f230 h230 [] 0).1
attribute [local irreducible] ZA
def VG:=(⟨_,by conv=>rhs;reduce⟩:PD ⟨X,[]⟩ D n 230 Tryz.f230 h230 [ZA D n] 1).1
attribute [local irreducible] VG
def f230:=(⟨_,by conv=>rhs;reduce⟩:FD ⟨X,[]⟩ D n 230 Tryz.f230 h230 [ZA D n,VG D n]).1
theorem zHL {D:Dyn}(a:DG D)(n:Nat):FI 230 (f230 D n):=fk n (ms h230) a sn Tryz.func230
attribute [local irreducible] f230
def s225:Tb:=⟨X,[(230,f230 D n)]⟩
def h225:Hint:=(.s .o Hr)
def f225:=(⟨_,by conv=>rhs;reduce⟩:FD (s225 D n) D n 225 Tryz.f225 h225 []).1
theorem zHN {D:Dyn}(a:DG D)(n:Nat):FI 225 (f225 D n):=fk n (ms h225) a (sc (zHL a n) sn) Tryz.func225
attribute [local irreducible] f225
def s208:Tb:=⟨X,[(225,f225 D n)]⟩
def h208:Hint:=(.s .o Hr)
def f208:=(⟨_,by conv=>rhs;reduce⟩:FD (s208 D n) D n 208 Tryz.f208 h208 []).1
theorem zCA {D:Dyn}(a:DG D)(n:Nat):FI 208 (f208 D n):=fk n (ms h208) a (sc (zHN a n) sn) Tryz.func208
attribute [local irreducible] f208
def h226:Hint:=(.s .o (.s .o (.s (.s .o (.b [1,3] (.l [0,3,6,7,8] (.s .o (.s (.cr .o .o) (.s (.b0 Hr) .o)))))) Hr)))
def dQ:=(⟨_,by conv=>rhs;reduce⟩:PD ⟨X,[]⟩ D n 226 Tryz.f226 h226 [] 0).1
attribute [local irreducible] dQ
def KS:=(⟨_,by conv=>rhs;reduce⟩:PD ⟨X,[]⟩ D n 226 Tryz.f226 h226 [dQ D n] 1).1
attribute [local irreducible] KS
def f226:=(⟨_,by conv=>rhs;reduce⟩:FD ⟨X,[]⟩ D n 226 Tryz.f226 h226 [dQ D n,KS D n]).1
theorem zCx {D:Dyn}(a:DG D)(n:Nat):FI 226 (f226 D n):=fk n (ms h226) a sn Tryz.func226
attribute [local irreducible] f226
def s150:Tb:=⟨X,[(119,f119 D n)]⟩
def zFo (D:Dyn)(n:Nat)(vs:List AV)(H:AH):Option (AV×AH):=
 gP (hd vs fun S vs=>hd vs fun x1 vs=>hd vs fun x2 vs=>nl vs <|
 bA (bxV 55 (.agg (rep 512 [(.int .u8 (.ofNat 0))]))) H fun x6 H=>
 bV (jM .lss x1 (.int .i64 (.ofNat 0))) fun f=>
 jn (wnt f false (bV (jM .gtr x1 (.int .i64 (.ofNat 2147483647))) fun q=>
 some (.norm [q],H)) (some (.norm [qX],H))) fun vs H=>hd vs fun j vs=>
 bV (pk3 (some f) (some (.bool true)) (some j)) fun s=>
 cnd s (bV (zKZ 1 (rep 512 [(.int .u8 (.ofNat 0))]) []) fun t=>
 bR (stN 512 x6 t H) fun Y H=>
 bV (ldN 512 x6 H) fun m=>bV (some (.int .i64 (.ofNat 1))) fun T=>some (.ret (.tuple [m,T]),H))
 (bV (cP x2) fun u=>
 bV (jM .gtr u (.int .i64 (.ofNat 500))) fun v=>
 cnd v (bV (zKZ 1 (rep 512 [(.int .u8 (.ofNat 0))]) []) fun x=>
 bR (stN 512 x6 x H) fun U H=>
 bV (ldN 512 x6 H) fun h=>bV (some (.int .i64 (.ofNat 40))) fun o=>some (.ret (.tuple [h,o]),H))
 (bA (bxV 55 (.agg (rep 512 [(.int .u8 (.ofNat 0))]))) H fun a H=>
 bV (jY 512 1 a none none none) fun y=>
 bR (cpy 1 y (.str 4 2037675114) H) fun Z H=>
 bV (uI 512 1 a (.int .i64 (.ofNat 4))) fun z=>
 bR (stN 1 z S H) fun V H=>
 bV (jY 512 1 a (some (.int .i64 (.ofNat 6))) (some (.int .i64 (.ofNat 8))) none) fun C=>
 bV (cP x2) fun F=>
 bV (cvI .u64 F) fun J=>
 bR (f119 D n [C,J] H) fun a0 H=>
 bV (jY 512 1 a (some (.int .i64 (.ofNat 8))) (some (.int .i64 (.ofNat 12))) none) fun K=>
 bV (cvI .u64 x1) fun L=>
 bR (f119 D n [K,L] H) fun a1 H=>
 bV (jY 512 1 a (some (.int .i64 (.ofNat 12))) none none) fun N=>
 bR (cpy 1 N x2 H) fun a2 H=>
 bV (ldN 512 a H) fun O=>
 bR (stN 512 x6 O H) fun W H=>
 bV (ldN 512 x6 H) fun i=>bV (some (.int .i64 (.ofNat 0))) fun p=>some (.ret (.tuple [i,p]),H))))
def h150:Hint:=(.s .o (.s Hq (.s Hq (.s .o (.s .o (.s .o (.s .o (.s .o (.s .o Hr)))))))))
theorem zCF {D:Dyn}(a:DG D)(n:Nat):FI 150 (zFo D n):=fk n h150 a (sc (zCI a n) sn) Tryz.func150
attribute [local irreducible] zFo
def s209:Tb:=⟨X,[(226,f226 D n),(150,zFo D n)]⟩
def zJk (D:Dyn)(n:Nat)(vs:List AV)(H:AH):Option (AV×AH):=
 gP (hd vs fun Y vs=>nl vs <|
 bA (bxV 55 Y) H fun x1 H=>
 bV (jY 512 1 x1 (some (.int .i64 (.ofNat 6))) (some (.int .i64 (.ofNat 8))) none) fun Z=>
 bR (f226 D n [Z] H) fun m H=>
 bV (jM .gtr m (.int .u64 (.ofNat 500))) fun C=>
 cnd C (bV (some (.int .u8 (.ofNat 0))) fun x2=>bV (some (.int .i64 (.ofNat 0))) fun x3=>bV (some (.str 0 0)) fun x4=>bV (some (.int .i64 (.ofNat 4))) fun x5=>some (.ret (.tuple [x2,x3,x4,x5]),H))
 (bV (uI 512 1 x1 (.int .i64 (.ofNat 4))) fun F=>
 bV (ld1 F H) fun a=>
 bV (jY 512 1 x1 (some (.int .i64 (.ofNat 8))) (some (.int .i64 (.ofNat 12))) none) fun J=>
 bR (f226 D n [J] H) fun K H=>
 bV (cvI .i64 K) fun f=>
 bV (jM .add (.int .u64 (.ofNat 12)) m) fun L=>
 bV (jY 512 1 x1 (some (.int .i64 (.ofNat 12))) (some L) none) fun N=>
 bV (zBx N H) fun h=>
 bR (zFo D n [a,f,h] H) fun i H=>
 bV (qV i 0) fun O=>
 bV (qV i 1) fun S=>
 bA (bxV 55 (.agg (rep 512 [(.int .u8 (.ofNat 0))]))) H fun o H=>
 bR (stN 512 o O H) fun a0 H=>
 bV (jM .neq S (.int .i64 (.ofNat 0))) fun j=>
 jn (wnt j false (bV (ldN 512 o H) fun T=>
 bV (ldN 512 x1 H) fun U=>
 bV (bW .neq (eqA (List.replicate 512 7) T U)) fun V=>
 some (.norm [V],H)) (some (.norm [qX],H))) fun vs H=>hd vs fun p vs=>
 bV (pk3 (some j) (some (.bool true)) (some p)) fun W=>
 cnd W (bV (some (.int .u8 (.ofNat 0))) fun q=>bV (some (.int .i64 (.ofNat 0))) fun s=>bV (some (.str 0 0)) fun t=>bV (some (.int .i64 (.ofNat 4))) fun u=>some (.ret (.tuple [q,s,t,u]),H))
 (bV (some a) fun v=>bV (some f) fun x=>bV (some h) fun y=>bV (some (.int .i64 (.ofNat 0))) fun z=>some (.ret (.tuple [v,x,y,z]),H))))
def h209:Hint:=(.s .o (.s .o (.s Hq (.s .o (.s .o (.s .o (.s .o (.s Hq Hr))))))))
theorem zCz {D:Dyn}(a:DG D)(n:Nat):FI 209 (zJk D n):=fk n h209 a (sc (zCx a n) (sc (zCF a n) sn)) Tryz.func209
attribute [local irreducible] zJk
def s171:Tb:=⟨X,[(208,f208 D n),(209,zJk D n)]⟩
def h171:Hint:=(.s .o (.s (.s (.c [5,31] (.l [0,1,2,3,4,6,7,5,8,9] .o) .o) (.cl Hr .o)) (.s .o (.s Hq (.s Hq Hr)))))
def f171:=(⟨_,by conv=>rhs;reduce⟩:FD (s171 D n) D n 171 Tryz.f171 h171 []).1
theorem zHZ {D:Dyn}(a:DG D)(n:Nat):FI 171 (f171 D n):=fk n (ms h171) a (sc (zCA a n) (sc (zCz a n) sn)) Tryz.func171
attribute [local irreducible] f171
def h120:Hint:=(.s .o (.s Hq (.s Hq Hr)))
def f120:=(⟨_,by conv=>rhs;reduce⟩:FD ⟨X,[]⟩ D n 120 Tryz.f120 h120 []).1
theorem zI9 {D:Dyn}(a:DG D)(n:Nat):FI 120 (f120 D n):=fk n (ms h120) a sn Tryz.func120
attribute [local irreducible] f120
def s74:Tb:=⟨X,[(120,f120 D n)]⟩
def h74:Hint:=(.s .o (.s (.s .o Hq) (.s Hq Hr)))
def f74:=(⟨_,by conv=>rhs;reduce⟩:FD (s74 D n) D n 74 Tryz.f74 h74 []).1
theorem zHx {D:Dyn}(a:DG D)(n:Nat):FI 74 (f74 D n):=fk n (ms h74) a (sc (zI9 a n) sn) Tryz.func74
attribute [local irreducible] f74
def s25:Tb:=⟨X,[(74,f74 D n)]⟩
def f25 (D:Dyn)(n:Nat)(vs:List AV)(H:AH):Option (AV×AH):=
 gP (hd vs fun a vs=>hd vs fun x1 vs=>nl vs <|
 bA (bxV 55 (.agg (rep 512 [(.int .u8 (.ofNat 0))]))) H fun x4 H=>
 bR (f74 D n [a,x1] H) fun f H=>
 bV (jM .neq f (.int .i64 (.ofNat 0))) fun q=>
 cnd q (bV (zKZ 1 (rep 512 [(.int .u8 (.ofNat 0))]) []) fun s=>
 bR (stN 512 x4 s H) fun Y H=>
 bV (ldN 512 x4 H) fun m=>bV (some f) fun U=>some (.ret (.tuple [m,U]),H))
 (bV (xR a) fun t=>
 bV (fAd 3 t) fun u=>
 bV (ld1 u H) fun v=>
 bV (lkM [6] (.int .i64 (.ofNat 0)) true v x1 H) fun h=>
 bV (qV h 0) fun x=>
 bV (qV h 1) fun y=>
 cnd y (bV (xR a) fun z=>
 bV (fAd 2 z) fun C=>
 bV (ld1 C H) fun F=>
 bV (hU 513 F x) fun J=>
 bV (fAd 1 J) fun K=>
 bV (ldN 512 K H) fun L=>
 bR (stN 512 x4 L H) fun V H=>
 bV (ldN 512 x4 H) fun i=>bV (some (.int .i64 (.ofNat 0))) fun o=>some (.ret (.tuple [i,o]),H))
 (bV (xR a) fun N=>
 bV (fAd 1 N) fun O=>
 bV (ld1 O H) fun S=>
 bV (lkM [6] (.agg (rep 512 [(.int .u8 (.ofNat 0))])) false S x1 H) fun T=>
 bR (stN 512 x4 T H) fun W H=>
 bV (ldN 512 x4 H) fun j=>bV (some (.int .i64 (.ofNat 0))) fun p=>some (.ret (.tuple [j,p]),H))))
def h25:Hint:=(.s .o (.s (.s .o Hq) (.s (.s .o Hq) Hr)))
theorem zM4 {D:Dyn}(a:DG D)(n:Nat):FI 25 (f25 D n):=fk n h25 a (sc (zHx a n) sn) Tryz.func25
attribute [local irreducible] f25
def s122:Tb:=⟨X,[(171,f171 D n),(25,f25 D n)]⟩
def zBp (D:Dyn)(n:Nat)(vs:List AV)(H:AH):Rs:=
 hd vs fun a vs=>hd vs fun f vs=>
 some (.norm [a,f],H)
def VP (D:Dyn)(n:Nat)(vs:List AV)(H:AH):Rs:=
 hd vs fun i vs=>hd vs fun j vs=>
 bV (some i) fun a=>bV (some j) fun f=>bV (some (.int .i64 (.ofNat 0))) fun h=>some (.ret (.tuple [a,f,h]),H)
def VO (D:Dyn)(n:Nat)(vs:List AV)(H:AH):Rs:=
 hd vs fun a vs=>hd vs fun f vs=>
 bV (xR a) fun z=>
 bV (fAd 0 z) fun C=>
 bV (ld1 C H) fun F=>
 bV (fAd 0 f) fun J=>
 bV (ld1 J H) fun K=>
 bA (bxV 55 (.agg (rep 512 [(.int .u8 (.ofNat 0))]))) H fun h H=>
 bR (f25 D n [F,K] H) fun j H=>
 bV (qV j 0) fun L=>
 bV (qV j 1) fun m=>
 bR (stN 512 h L H) fun a5 H=>
 bV (jM .neq m (.int .i64 (.ofNat 0))) fun N=>
 cnd N (bV (some (.int .u8 (.ofNat 0))) fun s=>bV (some (.str 0 0)) fun t=>bV (some m) fun u=>some (.ret (.tuple [s,t,u]),H))
 (bV (ldN 3 f H) fun O=>
 bV (ldN 512 h H) fun S=>
 bR (f171 D n [O,S] H) fun i H=>
 bV (qV i 0) fun o=>
 bV (qV i 1) fun p=>
 bV (qV i 2) fun q=>
 bV (jM .neq q (.int .i64 (.ofNat 0))) fun T=>
 cnd T (bV (some (.int .u8 (.ofNat 0))) fun v=>bV (some (.str 0 0)) fun x=>bV (some q) fun y=>some (.ret (.tuple [v,x,y]),H))
 (bV (xR a) fun U=>
 bV (fAd 1 U) fun V=>
 bV (ld1 V H) fun W=>
 bV (bW .neq (eqP W .nilPtr)) fun Y=>
 jn (cnd Y (bV (xR a) fun Z=>
 bV (fAd 1 Z) fun a0=>
 bV (ld1 a0 H) fun a1=>
 bV (fAd 0 f) fun a2=>
 bV (ld1 a2 H) fun a3=>
 bV (ldN 512 h H) fun a4=>
 bR (D.fn 97 [a1,a3,a4] H) fun a6 H=>
 some (.norm [o,p],H))
 (some (.norm [o,p],H))) (VP D n)))
def zKz (D:Dyn)(n:Nat)(vs:List AV)(H:AH):Option (AV×AH):=
 gP (hd vs fun a vs=>hd vs fun x1 vs=>nl vs <|
 bA (bxV 42 x1) H fun f H=>
 bV (xR a) fun m=>
 bV (fAd 1 m) fun o=>
 bV (ld1 o H) fun p=>
 bV (bW .neq (eqP p .nilPtr)) fun q=>
 jn (cnd q (bV (xR a) fun s=>
 bV (fAd 1 s) fun t=>
 bV (ld1 t H) fun u=>
 bV (fAd 0 f) fun v=>
 bV (ld1 v H) fun x=>
 bA (bxV 55 (.agg (rep 512 [(.int .u8 (.ofNat 0))]))) H fun j H=>
 bR (D.fn 170 [u,x] H) fun i H=>
 bV (qV i 0) fun y=>
 bV (qV i 1) fun z=>
 bR (stN 512 j y H) fun T H=>
 bV (jM .eql z (.int .i64 (.ofNat 0))) fun C=>
 jn (cnd C (bV (ldN 3 f H) fun F=>
 bV (ldN 512 j H) fun J=>
 bR (f171 D n [F,J] H) fun h H=>
 bV (qV h 0) fun K=>
 bV (qV h 1) fun L=>
 bV (qV h 2) fun N=>
 bV (jM .eql N (.int .i64 (.ofNat 0))) fun O=>
 cnd O (bV (some K) fun x4=>bV (some L) fun S=>bV (some (.int .i64 (.ofNat 0))) fun x6=>some (.ret (.tuple [x4,S,x6]),H))
 (some (.norm [a,f],H)))
 (some (.norm [a,f],H))) (zBp D n))
 (some (.norm [a,f],H))) (VO D n))
def h122:Hint:=(.s .o (.s (.s .o (.c [0,3] (.s .o (.s .o (.c [0,3] (.s .o Hq) .o))) .o)) (.s .o (.s Hq (.s .o (.s Hq (.s (.s .o (.c [14,15] .o .o)) Hr)))))))
theorem zI8 {D:Dyn}(a:DG D)(n:Nat):FI 122 (zKz D n):=fk n h122 a (sc (zHZ a n) (sc (zM4 a n) sn)) Tryz.func122
attribute [local irreducible] zBp VP VO zKz
def h172:Hint:=(.s .o (.s (.s .o (.cl (.s .o Hr) .o)) (.s .o (.s .o Hr))))
def f172:=(⟨_,by conv=>rhs;reduce⟩:FD ⟨X,[]⟩ D n 172 Tryz.f172 h172 []).1
theorem BO {D:Dyn}(a:DG D)(n:Nat):FI 172 (f172 D n):=fk n (ms h172) a sn Tryz.func172
attribute [local irreducible] f172
def s211:Tb:=⟨X,[(226,f226 D n),(118,f118 D n)]⟩
def zJj (D:Dyn)(n:Nat)(vs:List AV)(H:AH):Option (AV×AH):=
 gP (hd vs fun f vs=>nl vs <|
 bA (bxV 42 (.agg [(.int .i64 (.ofNat 0)),(.int .i64 (.ofNat 0)),(.int .u64 (.ofNat 0))])) H fun x2 H=>
 bV (cP f) fun T=>
 bV (jM .neq T (.int .i64 (.ofNat 16))) fun U=>
 cnd U (bV (wY [(0,1),(1,1),(2,1)] [(.int .i64 (.ofNat 0)),(.int .i64 (.ofNat 0)),(.int .u64 (.ofNat 0))] []) fun V=>
 bR (stN 3 x2 V H) fun a2 H=>
 bV (ldN 3 x2 H) fun j=>bV (some (.int .i64 (.ofNat 4))) fun W=>some (.ret (.tuple [j,W]),H))
 (bA (zMd 5 f) H fun p H=>
 bV (s2a 16 p) fun q=>
 bV (ldN 16 q H) fun s=>
 bA (bxV 232 (.agg (rep 16 [(.int .u8 (.ofNat 0))]))) H fun x4 H=>
 bR (stN 16 x4 s H) fun Y H=>
 bV (jY 16 1 x4 none (some (.int .i64 (.ofNat 4))) none) fun t=>
 bV (jY 16 1 x4 (some (.int .i64 (.ofNat 4))) (some (.int .i64 (.ofNat 8))) none) fun u=>
 bV (jY 16 1 x4 (some (.int .i64 (.ofNat 8))) none none) fun v=>
 bA (bxV 42 (.agg [(.int .i64 (.ofNat 0)),(.int .i64 (.ofNat 0)),(.int .u64 (.ofNat 0))])) H fun a H=>
 bR (f226 D n [t] H) fun x H=>
 bV (cvI .i64 x) fun y=>
 bR (f226 D n [u] H) fun z H=>
 bV (cvI .i64 z) fun C=>
 bR (f226 D n [v] H) fun F H=>
 bV (wY [(0,1),(1,1),(2,1)] [(.int .i64 (.ofNat 0)),(.int .i64 (.ofNat 0)),(.int .u64 (.ofNat 0))] [(0,y),(1,C),(2,F)]) fun J=>
 bR (stN 3 a J H) fun Z H=>
 bV (ldN 3 a H) fun K=>
 bR (f118 D n [K] H) fun L H=>
 bV (aun .not L) fun N=>
 cnd N (bV (wY [(0,1),(1,1),(2,1)] [(.int .i64 (.ofNat 0)),(.int .i64 (.ofNat 0)),(.int .u64 (.ofNat 0))] []) fun O=>
 bR (stN 3 x2 O H) fun a0 H=>
 bV (ldN 3 x2 H) fun h=>bV (some (.int .i64 (.ofNat 4))) fun m=>some (.ret (.tuple [h,m]),H))
 (bV (ldN 3 a H) fun S=>
 bR (stN 3 x2 S H) fun a1 H=>
 bV (ldN 3 x2 H) fun i=>bV (some (.int .i64 (.ofNat 0))) fun o=>some (.ret (.tuple [i,o]),H))))
def h211:Hint:=(.s .o (.s Hq (.s .o (.s .o (.s Hq Hr)))))
theorem zHR {D:Dyn}(a:DG D)(n:Nat):FI 211 (zJj D n):=fk n h211 a (sc (zCx a n) (sc (zCJ a n) sn)) Tryz.func211
attribute [local irreducible] zJj
def s174:Tb:=⟨X,[(172,f172 D n),(211,zJj D n)]⟩
def h174:Hint:=(.s .o (.s (.s .o (.cl .o .o)) (.s .o (.s Hq (.b [8,254,12,4095] .o)))))
def f174:=(⟨_,by conv=>rhs;reduce⟩:FD (s174 D n) D n 174 Tryz.f174 h174 []).1
theorem zHY {D:Dyn}(a:DG D)(n:Nat):FI 174 (f174 D n):=fk n (ms h174) a (sc (BO a n) (sc (zHR a n) sn)) Tryz.func174
attribute [local irreducible] f174
def s62:Tb:=⟨X,[(109,f109 D n),(110,f110 D n)]⟩
def h62:Hint:=(.s .o Hr)
def f62:=(⟨_,by conv=>rhs;reduce⟩:FD (s62 D n) D n 62 Tryz.f62 h62 []).1
theorem zLV {D:Dyn}(a:DG D)(n:Nat):FI 62 (f62 D n):=fk n (ms h62) a (sc (cS a n) (sc (QH a n) sn)) Tryz.func62
attribute [local irreducible] f62
def s210:Tb:=⟨X,[(172,f172 D n)]⟩
def h210:Hint:=(.s .o (.s .o (.s Hq Hr)))
def f210:=(⟨_,by conv=>rhs;reduce⟩:FD (s210 D n) D n 210 Tryz.f210 h210 []).1
theorem zCy {D:Dyn}(a:DG D)(n:Nat):FI 210 (f210 D n):=fk n (ms h210) a (sc (BO a n) sn) Tryz.func210
attribute [local irreducible] f210
def s173:Tb:=⟨X,[(210,f210 D n)]⟩
def h173:Hint:=(.b [7,64,9,510,13,8191] .o)
def f173:=(⟨_,by conv=>rhs;reduce⟩:FD (s173 D n) D n 173 Tryz.f173 h173 []).1
theorem zNG {D:Dyn}(a:DG D)(n:Nat):FI 173 (f173 D n):=fk n (ms h173) a (sc (zCy a n) sn) Tryz.func173
attribute [local irreducible] f173
def s175:Tb:=⟨X,[(210,f210 D n)]⟩
def h175:Hint:=(.b [7,64,9,510,13,8191] .o)
def f175:=(⟨_,by conv=>rhs;reduce⟩:FD (s175 D n) D n 175 Tryz.f175 h175 []).1
theorem zNF {D:Dyn}(a:DG D)(n:Nat):FI 175 (f175 D n):=fk n (ms h175) a (sc (zCy a n) sn) Tryz.func175
attribute [local irreducible] f175
def zOr:Tb:=⟨X,[(172,f172 D n),(174,f174 D n),(62,f62 D n)]⟩
def zNx:Hint:=(.s .o (.s Hq (.s .o (.s .o (.s Hq (.s .o (.s (.s .o (.c [4,4,6,7,8] .o .o)) (.s (.s (.b [] .o) (.b [3,4,6] (.l [2,4,6,8,47,48] (.s .o (.s (.cr .o .o) (.s (.b0 (.s (.s .o (.b [1,4,6,8,47,48] (.l [0,4,6,8,47,48,50,51,52] (.s .o (.s (.cr .o .o) (.s (.b0 Hr) .o)))))) (.s .o (.cl .o .o)))) .o)))))) (.s Hq Hr)))))))))
def uL:=(⟨_,by conv=>rhs;reduce⟩:PD (zOr D n) D n 123 Tryz.f123 zNx [] 0).1
attribute [local irreducible] uL
def uM:=(⟨_,by conv=>rhs;reduce⟩:PD (zOr D n) D n 123 Tryz.f123 zNx [uL D n] 1).1
attribute [local irreducible] uM
def kZ:=(⟨_,by conv=>rhs;reduce⟩:PD (zOr D n) D n 123 Tryz.f123 zNx [uL D n,uM D n] 2).1
attribute [local irreducible] kZ
def vP:=(⟨_,by conv=>rhs;reduce⟩:PD (zOr D n) D n 123 Tryz.f123 zNx [uL D n,uM D n,kZ D n] 3).1
attribute [local irreducible] vP
def Y7:=(⟨_,by conv=>rhs;reduce⟩:PD (zOr D n) D n 123 Tryz.f123 zNx [uL D n,uM D n,kZ D n,vP D n] 4).1
attribute [local irreducible] Y7
def f123:=(⟨_,by conv=>rhs;reduce⟩:FD (zOr D n) D n 123 Tryz.f123 zNx [uL D n,uM D n,kZ D n,vP D n,Y7 D n]).1
theorem zI7 {D:Dyn}(a:DG D)(n:Nat):FI 123 (f123 D n):=fk n (ms zNx) a (sc (BO a n) (sc (zHY a n) (sc (zLV a n) sn))) Tryz.func123
attribute [local irreducible] f123
def s77:Tb:=⟨X,[(122,zKz D n),(123,f123 D n)]⟩
def h77:Hint:=(.s .o (.s (.s .o (.cl (.s (.b [11,1535] .o) (.s Hq Hr)) .o)) (.s .o (.s Hq (.s Hq Hr)))))
def f77:=(⟨_,by conv=>rhs;reduce⟩:FD (s77 D n) D n 77 Tryz.f77 h77 []).1
theorem zBk {D:Dyn}(a:DG D)(n:Nat):FI 77 (f77 D n):=fk n (ms h77) a (sc (zI8 a n) (sc (zI7 a n) sn)) Tryz.func77
attribute [local irreducible] f77
def h79:Hint:=(.s .o (.s .o (.s (.s .o (.b [2,5] (.l [1,1,2,5,9,10,11] (.s .o (.s (.cr .o .o) (.s (.b0 (.s .o (.s .o (.c [0,1,2,5,9,10,11] .o .o)))) .o)))))) Hr)))
def KK:=(⟨_,by conv=>rhs;reduce⟩:PD ⟨X,[]⟩ D n 79 Tryz.f79 h79 [] 0).1
attribute [local irreducible] KK
def YL:=(⟨_,by conv=>rhs;reduce⟩:PD ⟨X,[]⟩ D n 79 Tryz.f79 h79 [KK D n] 1).1
attribute [local irreducible] YL
def zF6:=(⟨_,by conv=>rhs;reduce⟩:PD ⟨X,[]⟩ D n 79 Tryz.f79 h79 [KK D n,YL D n] 2).1
attribute [local irreducible] zF6
def f79:=(⟨_,by conv=>rhs;reduce⟩:FD ⟨X,[]⟩ D n 79 Tryz.f79 h79 [KK D n,YL D n,zF6 D n]).1
theorem KL {D:Dyn}(a:DG D)(n:Nat):FI 79 (f79 D n):=fk n (ms h79) a sn Tryz.func79
attribute [local irreducible] f79
def h130:Hint:=(.s .o (.b [7,126,10,1023] .o))
def f130:=(⟨_,by conv=>rhs;reduce⟩:FD ⟨X,[]⟩ D n 130 Tryz.f130 h130 []).1
theorem zCG {D:Dyn}(a:DG D)(n:Nat):FI 130 (f130 D n):=fk n (ms h130) a sn Tryz.func130
attribute [local irreducible] f130
def s212:Tb:=⟨X,[(137,f137 D n)]⟩
def h212:Hint:=(.s .o (.s Hq (.s (.s .o Hq) (.s Hq Hr))))
def f212:=(⟨_,by conv=>rhs;reduce⟩:FD (s212 D n) D n 212 Tryz.f212 h212 []).1
theorem zHQ {D:Dyn}(a:DG D)(n:Nat):FI 212 (f212 D n):=fk n (ms h212) a (sc (BP a n) sn) Tryz.func212
attribute [local irreducible] f212
def h180:Hint:=(.s .o (.s (.s .o (.c [1,0,1] .o .o)) (.s (.s .o (.s .o (.c [0,0] .o .o))) Hr)))
def Y2:=(⟨_,by conv=>rhs;reduce⟩:PD ⟨X,[]⟩ D n 180 Tryz.f180 h180 [] 0).1
attribute [local irreducible] Y2
def KW:=(⟨_,by conv=>rhs;reduce⟩:PD ⟨X,[]⟩ D n 180 Tryz.f180 h180 [Y2 D n] 1).1
attribute [local irreducible] KW
def f180:=(⟨_,by conv=>rhs;reduce⟩:FD ⟨X,[]⟩ D n 180 Tryz.f180 h180 [Y2 D n,KW D n]).1
theorem zHW {D:Dyn}(a:DG D)(n:Nat):FI 180 (f180 D n):=fk n (ms h180) a sn Tryz.func180
attribute [local irreducible] f180
def zOq:Tb:=⟨X,[(180,f180 D n)]⟩
def zNv:Hint:=(.s .o (.s .o (.s (.s .o (.b [4,0,3] (.l [1,0,3,9,10,11] (.s .o (.s (.cr .o .o) (.s (.b0 (.s .o (.s .o (.s .o (.c [0,0,3,9,10,11] .o .o))))) .o)))))) (.s .o (.s (.s .o (.b [3,6] (.l [2,6,25,26,27] (.s .o (.s (.cr .o .o) (.s (.b0 Hr) .o)))))) Hr)))))
def dU:=(⟨_,by conv=>rhs;reduce⟩:PD (zOq D n) D n 132 Tryz.f132 zNv [] 0).1
attribute [local irreducible] dU
def fK:=(⟨_,by conv=>rhs;reduce⟩:PD (zOq D n) D n 132 Tryz.f132 zNv [dU D n] 1).1
attribute [local irreducible] fK
def fJ:=(⟨_,by conv=>rhs;reduce⟩:PD (zOq D n) D n 132 Tryz.f132 zNv [dU D n,fK D n] 2).1
attribute [local irreducible] fJ
def WA:=(⟨_,by conv=>rhs;reduce⟩:PD (zOq D n) D n 132 Tryz.f132 zNv [dU D n,fK D n,fJ D n] 3).1
attribute [local irreducible] WA
def VM:=(⟨_,by conv=>rhs;reduce⟩:PD (zOq D n) D n 132 Tryz.f132 zNv [dU D n,fK D n,fJ D n,WA D n] 4).1
attribute [local irreducible] VM
def f132:=(⟨_,by conv=>rhs;reduce⟩:FD (zOq D n) D n 132 Tryz.f132 zNv [dU D n,fK D n,fJ D n,WA D n,VM D n]).1
theorem BQ {D:Dyn}(a:DG D)(n:Nat):FI 132 (f132 D n):=fk n (ms zNv) a (sc (zHW a n) sn) Tryz.func132
attribute [local irreducible] f132
def h214:Hint:=(.s .o (.s (.s .o (.c [1,0,1] .o .o)) (.s (.s .o (.s .o (.c [0,0] .o .o))) Hr)))
def Y1:=(⟨_,by conv=>rhs;reduce⟩:PD ⟨X,[]⟩ D n 214 Tryz.f214 h214 [] 0).1
attribute [local irreducible] Y1
def KT:=(⟨_,by conv=>rhs;reduce⟩:PD ⟨X,[]⟩ D n 214 Tryz.f214 h214 [Y1 D n] 1).1
attribute [local irreducible] KT
def f214:=(⟨_,by conv=>rhs;reduce⟩:FD ⟨X,[]⟩ D n 214 Tryz.f214 h214 [Y1 D n,KT D n]).1
theorem zHO {D:Dyn}(a:DG D)(n:Nat):FI 214 (f214 D n):=fk n (ms h214) a sn Tryz.func214
attribute [local irreducible] f214
def zOo:Tb:=⟨X,[(214,f214 D n)]⟩
def zNu:Hint:=(.s .o (.s .o (.s (.s .o (.b [4,0,3] (.l [1,0,3,9,10,11] (.s .o (.s (.cr .o .o) (.s (.b0 (.s .o (.s .o (.s .o (.c [0,0,3,9,10,11] .o .o))))) .o)))))) (.s .o (.s (.s .o (.b [3,6] (.l [2,6,25,26,27] (.s .o (.s (.cr .o .o) (.s (.b0 Hr) .o)))))) Hr)))))
def dT:=(⟨_,by conv=>rhs;reduce⟩:PD (zOo D n) D n 178 Tryz.f178 zNu [] 0).1
attribute [local irreducible] dT
def fH:=(⟨_,by conv=>rhs;reduce⟩:PD (zOo D n) D n 178 Tryz.f178 zNu [dT D n] 1).1
attribute [local irreducible] fH
def fG:=(⟨_,by conv=>rhs;reduce⟩:PD (zOo D n) D n 178 Tryz.f178 zNu [dT D n,fH D n] 2).1
attribute [local irreducible] fG
def KX:=(⟨_,by conv=>rhs;reduce⟩:PD (zOo D n) D n 178 Tryz.f178 zNu [dT D n,fH D n,fG D n] 3).1
attribute [local irreducible] KX
def VI:=(⟨_,by conv=>rhs;reduce⟩:PD (zOo D n) D n 178 Tryz.f178 zNu [dT D n,fH D n,fG D n,KX D n] 4).1
attribute [local irreducible] VI
def f178:=(⟨_,by conv=>rhs;reduce⟩:FD (zOo D n) D n 178 Tryz.f178 zNu [dT D n,fH D n,fG D n,KX D n,VI D n]).1
theorem zCC {D:Dyn}(a:DG D)(n:Nat):FI 178 (f178 D n):=fk n (ms zNu) a (sc (zHO a n) sn) Tryz.func178
attribute [local irreducible] f178
def s176:Tb:=⟨X,[(109,f109 D n),(212,f212 D n),(132,f132 D n),(178,f178 D n)]⟩
def h176:Hint:=(.s .o (.s Hq (.s (.s .o (.cl (.s (.c [5,31,11,2047,13,8191] (.l [0,1,2,3,4,6,7,8,9,10,5,11,12,13,14] .o) .o) .o) .o)) (.s (.c [7,127,13,8191,15,32767] (.l [0,1,2,3,4,5,6,8,9,10,11,12,7,13,14,15,16] .o) .o) .o))))
def f176:=(⟨_,by conv=>rhs;reduce⟩:FD (s176 D n) D n 176 Tryz.f176 h176 []).1
theorem zHX {D:Dyn}(a:DG D)(n:Nat):FI 176 (f176 D n):=fk n (ms h176) a (sc (cS a n) (sc (zHQ a n) (sc (BQ a n) (sc (zCC a n) sn)))) Tryz.func176
attribute [local irreducible] f176
def s129:Tb:=⟨X,[(110,f110 D n),(77,f77 D n),(130,f130 D n),(176,f176 D n),(177,f177 D n),(132,f132 D n),(179,f179 D n),(178,f178 D n)]⟩
def zPA:Hint:=(.s .o (.s .o (.s (.s .o (.c [2,0,5,7,8,10,11] (.s .o (.s (.s .o (.c [1,0,2,5,7,8,12] .o .o)) (.s (.c [9,511,14,12287] (.l [0,1,2,3,4,5,6,7,8,13,9,10,11,12,14,15] .o) .o) (.s Hq (.s .o (.s .o (.s (.s .o (.c [0,0,5,7,8,10,11,14] (.b [7,127,11,1023] .o) (.b [7,127,11,1023] .o))) Hq))))))) .o)) (.s .o (.s Hq (.s (.c [12,4095,20,794623,26,67108863,28,268435455] (.l [0,1,2,3,4,5,6,7,8,9,10,11,13,14,15,16,17,18,19,21,22,23,24,12,20,25,26,27,28,29] .o) .o) .o))))))
def ZF:=(⟨_,by conv=>rhs;reduce⟩:PD (s129 D n) D n 129 Tryz.f129 zPA [] 0).1
attribute [local irreducible] ZF
def Y6:=(⟨_,by conv=>rhs;reduce⟩:PD (s129 D n) D n 129 Tryz.f129 zPA [ZF D n] 1).1
attribute [local irreducible] Y6
def ZE:=(⟨_,by conv=>rhs;reduce⟩:PD (s129 D n) D n 129 Tryz.f129 zPA [ZF D n,Y6 D n] 2).1
attribute [local irreducible] ZE
def f129:=(⟨_,by conv=>rhs;reduce⟩:FD (s129 D n) D n 129 Tryz.f129 zPA [ZF D n,Y6 D n,ZE D n]).1
theorem zI5 {D:Dyn}(a:DG D)(n:Nat):FI 129 (f129 D n):=fk n (ms zPA) a (sc (QH a n) (sc (zBk a n) (sc (zCG a n) (sc (zHX a n) (sc (zCD a n) (sc (BQ a n) (sc (zCB a n) (sc (zCC a n) sn)))))))) Tryz.func129
attribute [local irreducible] f129
def s128:Tb:=⟨X,[(76,f76 D n),(77,f77 D n),(79,f79 D n),(129,f129 D n),(130,f130 D n)]⟩
def h128:Hint:=(.s .o (.s (.s .o (.s (.b [2,2] .o) (.cl Hr .o))) (.s .o (.s Hq (.s (.s .o (.c [1,6,7,8,10,11] .o (.s .o (.s .o (.s (.b [6,63,10,511] .o) (.s .o (.c [0,6,7,8,10,11] .o .o))))))) (.s Hq (.s .o Hr)))))))
def dV:=(⟨_,by conv=>rhs;reduce⟩:PD (s128 D n) D n 128 Tryz.f128 h128 [] 0).1
attribute [local irreducible] dV
def bK:=(⟨_,by conv=>rhs;reduce⟩:PD (s128 D n) D n 128 Tryz.f128 h128 [dV D n] 1).1
attribute [local irreducible] bK
def f128:=(⟨_,by conv=>rhs;reduce⟩:FD (s128 D n) D n 128 Tryz.f128 h128 [dV D n,bK D n]).1
theorem zNK {D:Dyn}(a:DG D)(n:Nat):FI 128 (f128 D n):=fk n (ms h128) a (sc (zLP a n) (sc (zBk a n) (sc (KL a n) (sc (zI5 a n) (sc (zCG a n) sn))))) Tryz.func128
attribute [local irreducible] f128
def s82:Tb:=⟨X,[(127,f127 D n),(126,f126 D n),(131,f131 D n)]⟩
def h82:Hint:=(.s .o (.s (.b [9,511] .o) (.s (.s .o (.cl (.s .o (.s Hq (.s (.b [3,6,4,15] .o) Hr))) .o)) (.s .o (.s .o (.s .o (.s (.c [5,31,10,767] (.l [0,1,2,3,4,9,5,6,7,8,10,11] .o) .o) (.s Hq Hr))))))))
def f82:=(⟨_,by conv=>rhs;reduce⟩:FD (s82 D n) D n 82 Tryz.f82 h82 []).1
theorem zHv {D:Dyn}(a:DG D)(n:Nat):FI 82 (f82 D n):=fk n (ms h82) a (sc (BR a n) (sc (zCH a n) (sc (zI4 a n) sn))) Tryz.func82
attribute [local irreducible] f82
end Go.Eng.Sh
end
end
section
noncomputable section
namespace Go.Eng.Sh
open Go.Proofs
set_option maxRecDepth 100000
set_option maxHeartbeats 4000000
variable (D:Dyn)(n:Nat)
attribute [local irreducible] bV bR hd cnd jn jb yF wnt chk XA bA jM bO YP bW eqP eqS eqM eqF eqA zOA ldN ld1 stN cvI zOE zBx zMd YI wR jY uI hU uW zBa zEY fd1 fdN fAd cP lnSl aZ apP apZ cpy wY zKZ pk3 s2a bxV d7 zH1 lkM upM dlM mkM callV nl gP tld zMa xN YB uO zDJ rfC mn2 mx2 aun qV xR qX isW aveq vE f85 f32 f86 YM zF7 f34 f118 dW VQ f119 f72 f18 f73 f127 ZG fL VN f126 bL fM WD VT f110 f137 xE uN dZ fO Y9 bN f109 vN uK Y0 ZB f227 f108 f81 KU f213 ZC VJ f177 dS VH f179 Y5 WB f131 f76 ZA VG f230 f225 f208 dQ KS f226 zFo zJk f171 f120 f74 f25 zBp VP VO zKz f172 zJj f174 f62 f210 f173 f175 uL uM kZ vP Y7 f123 f77 KK YL zF6 f79 f130 f212 Y2 KW f180 dU fK fJ WA VM f132 Y1 KT f214 dT fH fG KX VI f178 f176 ZF Y6 ZE f129 dV bK f128 f82
def h138:Hint:=(.s .o (.s .o (.s .o (.s Hq (.s .o (.s Hq (.s (.s .o (.cl (.s .o (.s .o (.s (.b [8,255] .o) Hr))) .o)) (.s .o (.s (.s .o (.cl (.s (.b [8,255] .o) (.s .o Hr)) .o)) (.s .o (.s .o Hr)))))))))))
def f138:=(⟨_,by conv=>rhs;reduce⟩:FD ⟨X,[]⟩ D n 138 Tryz.f138 h138 []).1
theorem zNJ {D:Dyn}(a:DG D)(n:Nat):FI 138 (f138 D n):=fk n (ms h138) a sn Tryz.func138
def zNg (D:Dyn)(n:Nat)(vs:List AV)(H:AH):Option (AV×AH):=zNs (f138 D n) vs H
theorem zH3 {D:Dyn}(a:DG D)(n:Nat):FI 138 (zNg D n):=zNr (by kernel_rfl) (zNJ a n)
attribute [local irreducible] f138 zNg
def s89:Tb:=⟨X,[(109,f109 D n),(137,f137 D n),(108,f108 D n),(79,f79 D n),(138,zNg D n)]⟩
def h89:Hint:=(.s .o (.s Hq (.s (.c [2,3,5,31,8,255] (.l [0,1,3,4,7,2,5,6,8] .o) .o) (.s .o (.s (.s .o (.cl (.s .o Hr) .o)) (.s .o (.s .o Hr)))))))
def f89:=(⟨_,by conv=>rhs;reduce⟩:FD (s89 D n) D n 89 Tryz.f89 h89 []).1
theorem zLM {D:Dyn}(a:DG D)(n:Nat):FI 89 (f89 D n):=fk n (ms h89) a (sc (cS a n) (sc (BP a n) (sc (BS a n) (sc (KL a n) (sc (zH3 a n) sn))))) Tryz.func89
attribute [local irreducible] f89
def s88:Tb:=⟨X,[(89,f89 D n)]⟩
def h88:Hint:=(.s .o Hr)
def f88:=(⟨_,by conv=>rhs;reduce⟩:FD (s88 D n) D n 88 Tryz.f88 h88 []).1
theorem zPF {D:Dyn}(a:DG D)(n:Nat):FI 88 (f88 D n):=fk n (ms h88) a (sc (zLM a n) sn) Tryz.func88
attribute [local irreducible] f88
def s38:Tb:=⟨X,[(73,f73 D n),(82,f82 D n)]⟩
def h38:Hint:=(.s .o (.s Hq (.s Hq Hr)))
def f38:=(⟨_,by conv=>rhs;reduce⟩:FD (s38 D n) D n 38 Tryz.f38 h38 []).1
theorem zLZ {D:Dyn}(a:DG D)(n:Nat):FI 38 (f38 D n):=fk n (ms h38) a (sc (KM a n) (sc (zHv a n) sn)) Tryz.func38
attribute [local irreducible] f38
def h69:Hint:=(.s .o (.s .o (.s (.s .o (.b [2,5] (.l [1,0,1,5,6] (.s (.s .o (.cr .o .o)) (.s (.b0 (.s .o (.c [0,0,1,5,6] .o .o))) .o))))) Hr)))
def zBl:=(⟨_,by conv=>rhs;reduce⟩:PD ⟨X,[]⟩ D n 69 Tryz.f69 h69 [] 0).1
attribute [local irreducible] zBl
def XF:=(⟨_,by conv=>rhs;reduce⟩:PD ⟨X,[]⟩ D n 69 Tryz.f69 h69 [zBl D n] 1).1
attribute [local irreducible] XF
def zHz:=(⟨_,by conv=>rhs;reduce⟩:PD ⟨X,[]⟩ D n 69 Tryz.f69 h69 [zBl D n,XF D n] 2).1
attribute [local irreducible] zHz
def f69:=(⟨_,by conv=>rhs;reduce⟩:FD ⟨X,[]⟩ D n 69 Tryz.f69 h69 [zBl D n,XF D n,zHz D n]).1
theorem zDS {D:Dyn}(a:DG D)(n:Nat):FI 69 (f69 D n):=fk n (ms h69) a sn Tryz.func69
attribute [local irreducible] f69
def s68:Tb:=⟨X,[(69,f69 D n)]⟩
def h68:Hint:=(.s .o (.s .o (.s .o (.s (.b [1,0,1,2,7] (.l [0,0,1,2,7] (.s (.s .o (.cr .o .o)) (.b0 .o)))) (.s .o (.s .o Hr))))))
def BM:=(⟨_,by conv=>rhs;reduce⟩:PD (s68 D n) D n 68 Tryz.f68 h68 [] 0).1
attribute [local irreducible] BM
def zHA:=(⟨_,by conv=>rhs;reduce⟩:PD (s68 D n) D n 68 Tryz.f68 h68 [BM D n] 1).1
attribute [local irreducible] zHA
def f68:=(⟨_,by conv=>rhs;reduce⟩:FD (s68 D n) D n 68 Tryz.f68 h68 [BM D n,zHA D n]).1
theorem zLR {D:Dyn}(a:DG D)(n:Nat):FI 68 (f68 D n):=fk n (ms h68) a (sc (zDS a n) sn) Tryz.func68
attribute [local irreducible] f68
def s84:Tb:=⟨X,[(109,f109 D n),(79,f79 D n),(132,f132 D n)]⟩
def h84:Hint:=(.s .o (.s Hq (.s .o (.s Hq (.s (.c [11,2047,23,8388607,25,33554431] (.l [0,1,2,3,4,5,6,7,8,9,10,12,13,14,15,16,17,18,19,20,21,22,11,23,24,25,26] .o) .o) .o)))))
def f84:=(⟨_,by conv=>rhs;reduce⟩:FD (s84 D n) D n 84 Tryz.f84 h84 []).1
theorem zLO {D:Dyn}(a:DG D)(n:Nat):FI 84 (f84 D n):=fk n (ms h84) a (sc (cS a n) (sc (KL a n) (sc (BQ a n) sn))) Tryz.func84
attribute [local irreducible] f84
def s83:Tb:=⟨X,[(84,f84 D n)]⟩
def h83:Hint:=(.s .o Hr)
def f83:=(⟨_,by conv=>rhs;reduce⟩:FD (s83 D n) D n 83 Tryz.f83 h83 []).1
theorem zPG {D:Dyn}(a:DG D)(n:Nat):FI 83 (f83 D n):=fk n (ms h83) a (sc (zLO a n) sn) Tryz.func83
attribute [local irreducible] f83
def s29:Tb:=⟨X,[(73,f73 D n),(82,f82 D n)]⟩
def h29:Hint:=(.s .o (.s Hq (.s Hq Hr)))
def f29:=(⟨_,by conv=>rhs;reduce⟩:FD (s29 D n) D n 29 Tryz.f29 h29 []).1
theorem zM2 {D:Dyn}(a:DG D)(n:Nat):FI 29 (f29 D n):=fk n (ms h29) a (sc (KM a n) (sc (zHv a n) sn)) Tryz.func29
attribute [local irreducible] f29
def s111:Tb:=⟨X,[(69,f69 D n)]⟩
def h111:Hint:=(.s .o Hr)
def f111:=(⟨_,by conv=>rhs;reduce⟩:FD (s111 D n) D n 111 Tryz.f111 h111 []).1
theorem zIa {D:Dyn}(a:DG D)(n:Nat):FI 111 (f111 D n):=fk n (ms h111) a (sc (zDS a n) sn) Tryz.func111
attribute [local irreducible] f111
def h23:Hint:=(.s .o (.s Hq Hr))
def f23:=(⟨_,by conv=>rhs;reduce⟩:FD ⟨X,[]⟩ D n 23 Tryz.f23 h23 []).1
theorem zM6 {D:Dyn}(a:DG D)(n:Nat):FI 23 (f23 D n):=fk n (ms h23) a sn Tryz.func23
attribute [local irreducible] f23
def h193:Hint:=Hr
def f193:=(⟨_,by conv=>rhs;reduce⟩:FD ⟨X,[]⟩ D n 193 Tryz.f193 h193 []).1
theorem zNE {D:Dyn}(a:DG D)(n:Nat):FI 193 (f193 D n):=fk n (ms h193) a sn Tryz.func193
attribute [local irreducible] f193
def s194:Tb:=⟨X,[(72,f72 D n)]⟩
def h194:Hint:=(.s .o (.s .o (.s (.s .o (.c [0,2,4] .o .o)) .o)))
def zBo:=(⟨_,by conv=>rhs;reduce⟩:PD (s194 D n) D n 194 Tryz.f194 h194 [] 0).1
attribute [local irreducible] zBo
def f194:=(⟨_,by conv=>rhs;reduce⟩:FD (s194 D n) D n 194 Tryz.f194 h194 [zBo D n]).1
theorem zND {D:Dyn}(a:DG D)(n:Nat):FI 194 (f194 D n):=fk n (ms h194) a (sc (zHy a n) sn) Tryz.func194
attribute [local irreducible] f194
def zP2:Tb:=⟨X,[(109,f109 D n),(110,f110 D n)]⟩
def zOw:Hint:=(.s .o (.s Hq (.s Hq (.s .o (.s .o (.s .o (.s .o (.s (.s .o (.c [3,1,4,5,6,7] .o .o)) (.s (.s .o (.b [2,4,5] (.l [1,1,4,5,6,7,38,39,40] (.s .o (.s (.cr .o .o) (.s (.b0 (.s .o (.s .o (.s .o (.c [0,1,4,5,6,7,38,39,40] .o .o))))) .o)))))) (.s (.s .o (.cl (.s (.b [] .o) .o) .o)) Hr))))))))))
def ZD:=(⟨_,by conv=>rhs;reduce⟩:PD (zP2 D n) D n 149 Tryz.f149 zOw [] 0).1
attribute [local irreducible] ZD
def vX:=(⟨_,by conv=>rhs;reduce⟩:PD (zP2 D n) D n 149 Tryz.f149 zOw [ZD D n] 1).1
attribute [local irreducible] vX
def W0:=(⟨_,by conv=>rhs;reduce⟩:PD (zP2 D n) D n 149 Tryz.f149 zOw [ZD D n,vX D n] 2).1
attribute [local irreducible] W0
def VL:=(⟨_,by conv=>rhs;reduce⟩:PD (zP2 D n) D n 149 Tryz.f149 zOw [ZD D n,vX D n,W0 D n] 3).1
attribute [local irreducible] VL
def f149:=(⟨_,by conv=>rhs;reduce⟩:FD (zP2 D n) D n 149 Tryz.f149 zOw [ZD D n,vX D n,W0 D n,VL D n]).1
theorem zI3 {D:Dyn}(a:DG D)(n:Nat):FI 149 (f149 D n):=fk n (ms zOw) a (sc (cS a n) (sc (QH a n) sn)) Tryz.func149
attribute [local irreducible] f149
def h207:Hint:=(.s (.s (.b [] .o) (.cl .o .o)) (.s .o (.b [1] (.l [0,0,1,2,5] (.s (.s .o (.cr .o .o)) (.s (.b0 (.s (.b [11,2047] .o) (.cl .o .o))) .o))))))
def fE:=(⟨_,by conv=>rhs;reduce⟩:PD ⟨X,[]⟩ D n 207 Tryz.f207 h207 [] 0).1
attribute [local irreducible] fE
def zBn:=(⟨_,by conv=>rhs;reduce⟩:PD ⟨X,[]⟩ D n 207 Tryz.f207 h207 [fE D n] 1).1
attribute [local irreducible] zBn
def f207:=(⟨_,by conv=>rhs;reduce⟩:FD ⟨X,[]⟩ D n 207 Tryz.f207 h207 [fE D n,zBn D n]).1
theorem zNC {D:Dyn}(a:DG D)(n:Nat):FI 207 (f207 D n):=fk n (ms h207) a sn Tryz.func207
attribute [local irreducible] f207
def h168:Hint:=(.s .o Hr)
def f168:=(⟨_,by conv=>rhs;reduce⟩:FD ⟨X,[]⟩ D n 168 Tryz.f168 h168 []).1
theorem zCE {D:Dyn}(a:DG D)(n:Nat):FI 168 (f168 D n):=fk n (ms h168) a sn Tryz.func168
attribute [local irreducible] f168
def zP1:Tb:=⟨X,[(168,f168 D n),(86,f86 D n)]⟩
def h195:Hint:=(.s .o (.s Hq (.s (.s .o (.b [1,2,3] (.l [0,1,2,3,13,14] (.s .o (.s (.cr .o .o) (.s (.b0 (.s .o (.s .o (.b0 (.rf 0 [1,2,3]))))) .o)))))) Hr)))
def fF:=(⟨_,by conv=>rhs;reduce⟩:PD (zP1 D n) D n 195 Tryz.f195 h195 [] 0).1
attribute [local irreducible] fF
def zE0:=(⟨_,by conv=>rhs;reduce⟩:PD (zP1 D n) D n 195 Tryz.f195 h195 [fF D n] 1).1
attribute [local irreducible] zE0
def f195:=(⟨_,by conv=>rhs;reduce⟩:FD (zP1 D n) D n 195 Tryz.f195 h195 [fF D n,zE0 D n]).1
theorem zHU {D:Dyn}(a:DG D)(n:Nat):FI 195 (f195 D n):=fk n (ms h195) a (sc (zCE a n) (sc (zDR a n) sn)) Tryz.func195
def zGy:Hint:= .o
def zGx:Hint:=(.b0 (.s .o (.s .o (.s .o .o))))
def aU:=(⟨_,by conv=>rhs;reduce⟩:RD (zP1 D n) D n 195 0 [1,2,3] [0] zGy zGx []).1
theorem zGA (D:Dyn)(n:Nat):aU D n=zJh (zP1 D n) D n 195 0 [1,2,3] [0] (ms zGy) (ms zGx):=by kernel_rfl
theorem zGz {D:Dyn}(a:DG D)(n:Nat):RS 195 0 (aU D n):=uS X_ok a (sc (zCE a n) (sc (zDR a n) sn)) (by kernel_rfl) (zGA D n)
attribute [local irreducible] f195 aU
def h75:Hint:=(.s .o (.s Hq (.s .o (.s Hq (.s .o Hr)))))
def f75:=(⟨_,by conv=>rhs;reduce⟩:FD ⟨X,[]⟩ D n 75 Tryz.f75 h75 []).1
theorem zLQ {D:Dyn}(a:DG D)(n:Nat):FI 75 (f75 D n):=fk n (ms h75) a sn Tryz.func75
attribute [local irreducible] f75
def s26:Tb:=⟨X,[(74,f74 D n),(75,f75 D n)]⟩
def f26 (D:Dyn)(n:Nat)(vs:List AV)(H:AH):Option (AV×AH):=
 gP (hd vs fun a vs=>hd vs fun x1 vs=>hd vs fun x2 vs=>nl vs <|
 bA (bxV 55 x2) H fun N H=>
 bR (f74 D n [a,x1] H) fun f H=>
 bV (jM .neq f (.int .i64 (.ofNat 0))) fun i=>
 cnd i (bV (some f) fun x6=>some (.ret x6,H))
 (bV (xR a) fun j=>
 bV (fAd 3 j) fun m=>
 bV (ld1 m H) fun o=>
 bV (xR a) fun p=>
 bV (fAd 2 p) fun q=>
 bV (ld1 q H) fun s=>
 bV (lnSl s) fun t=>
 bR (upM [6] o x1 t H) fun S H=>
 bV (xR a) fun u=>
 bV (fAd 2 u) fun v=>
 bV (ld1 v H) fun x=>
 bV (ldN 512 N H) fun y=>
 bV (wY [(0,1),(1,512)] ([(.int .i64 (.ofNat 0))]++rep 512 [(.int .u8 (.ofNat 0))]) [(0,x1),(1,y)]) fun z=>
 bA (d7 153 513 1 ([(.int .i64 (.ofNat 0))]++rep 512 [(.int .u8 (.ofNat 0))]) [(0,z)]) H fun C H=>
 bR (apP 153 513 520 x C H) fun F H=>
 bV (xR a) fun J=>
 bV (fAd 2 J) fun K=>
 bR (stN 1 K F H) fun O H=>
 bR (f75 D n [a] H) fun L H=>
 bV (some L) fun h=>some (.ret h,H)))
def h26:Hint:=(.s .o (.s (.s .o Hq) (.s .o (.s .o Hr))))
theorem zM3 {D:Dyn}(a:DG D)(n:Nat):FI 26 (f26 D n):=fk n h26 a (sc (zHx a n) (sc (zLQ a n) sn)) Tryz.func26
attribute [local irreducible] f26
def s196:Tb:=⟨X,[(209,zJk D n),(208,f208 D n)]⟩
def h196:Hint:=(.s .o (.s .o (.s Hq (.s Hq Hr))))
def f196:=(⟨_,by conv=>rhs;reduce⟩:FD (s196 D n) D n 196 Tryz.f196 h196 []).1
theorem zHT {D:Dyn}(a:DG D)(n:Nat):FI 196 (f196 D n):=fk n (ms h196) a (sc (zCz a n) (sc (zCA a n) sn)) Tryz.func196
attribute [local irreducible] f196
def s151:Tb:=⟨X,[(195,f195 D n),(26,f26 D n),(196,f196 D n)]⟩
def zKy (D:Dyn)(n:Nat)(vs:List AV)(H:AH):Option (AV×AH):=
 gP (hd vs fun a vs=>hd vs fun x1 vs=>nl vs <|
 bA (bxV 55 x1) H fun h H=>
 bA (bxV 42 (.agg [(.int .i64 (.ofNat 0)),(.int .i64 (.ofNat 0)),(.int .u64 (.ofNat 0))])) H fun x4 H=>
 bV (xR a) fun v=>
 bV (fAd 1 v) fun x=>
 bV (ld1 x H) fun y=>
 bR (f195 D n [y] H) fun i H=>
 bV (qV i 0) fun f=>
 bV (qV i 1) fun j=>
 bV (jM .neq j (.int .i64 (.ofNat 0))) fun z=>
 cnd z (bV (wY [(0,1),(1,1),(2,1)] [(.int .i64 (.ofNat 0)),(.int .i64 (.ofNat 0)),(.int .u64 (.ofNat 0))] []) fun C=>
 bR (stN 3 x4 C H) fun b9 H=>
 bV (ldN 3 x4 H) fun s=>bV (some j) fun x5=>some (.ret (.tuple [s,x5]),H))
 (bV (xR a) fun F=>
 bV (fAd 4 F) fun J=>
 bV (ld1 J H) fun K=>
 bA (d7 3 1 1 [(.int .i64 (.ofNat 0))] [(0,f)]) H fun L H=>
 bR (apP 3 1 8 K L H) fun N H=>
 bV (xR a) fun O=>
 bV (fAd 4 O) fun S=>
 bR (stN 1 S N H) fun b5 H=>
 bV (xR a) fun T=>
 bV (fAd 0 T) fun U=>
 bV (ld1 U H) fun V=>
 bV (xR V) fun W=>
 bV (fAd 0 W) fun Y=>
 bV (ld1 Y H) fun Z=>
 bV (ldN 512 h H) fun a0=>
 bR (f26 D n [Z,f,a0] H) fun m H=>
 bV (jM .neq m (.int .i64 (.ofNat 0))) fun a1=>
 cnd a1 (bV (wY [(0,1),(1,1),(2,1)] [(.int .i64 (.ofNat 0)),(.int .i64 (.ofNat 0)),(.int .u64 (.ofNat 0))] []) fun a2=>
 bR (stN 3 x4 a2 H) fun b6 H=>
 bV (ldN 3 x4 H) fun p=>bV (some m) fun t=>some (.ret (.tuple [p,t]),H))
 (bV (xR a) fun a3=>
 bV (fAd 5 a3) fun a4=>
 bV (ld1 a4 H) fun a5=>
 bV (ldN 512 h H) fun a6=>
 bV (wY [(0,1),(1,512)] ([(.int .i64 (.ofNat 0))]++rep 512 [(.int .u8 (.ofNat 0))]) [(0,f),(1,a6)]) fun a7=>
 bA (d7 202 513 1 ([(.int .i64 (.ofNat 0))]++rep 512 [(.int .u8 (.ofNat 0))]) [(0,a7)]) H fun a8 H=>
 bR (apP 202 513 520 a5 a8 H) fun a9 H=>
 bV (xR a) fun b0=>
 bV (fAd 5 b0) fun b1=>
 bR (stN 1 b1 a9 H) fun b7 H=>
 bV (ldN 512 h H) fun b2=>
 bR (f196 D n [f,b2] H) fun o H=>
 bV (qV o 0) fun b3=>
 bV (qV o 1) fun b4=>
 bR (stN 3 x4 b3 H) fun b8 H=>
 bV (ldN 3 x4 H) fun q=>bV (some b4) fun u=>some (.ret (.tuple [q,u]),H))))
def h151:Hint:=(.s .o (.s .o (.s Hq (.s .o (.s (.s .o Hq) (.s .o Hr))))))
theorem zI2 {D:Dyn}(a:DG D)(n:Nat):FI 151 (zKy D n):=fk n h151 a (sc (zHU a n) (sc (zM3 a n) (sc (zHT a n) sn))) Tryz.func151
attribute [local irreducible] zKy
def s96:Tb:=⟨X,[(77,f77 D n),(149,f149 D n),(150,zFo D n),(151,zKy D n)]⟩
def BK (D:Dyn)(n:Nat)(vs:List AV)(H:AH):Rs:=
 hd vs fun h vs=>hd vs fun a vs=>hd vs fun o vs=>hd vs fun i vs=>hd vs fun j vs=>hd vs fun m vs=>hd vs fun f vs=>
 bV (jM .lss f m) fun v=>
 cnd v (bV (hU 3 j f) fun x=>
 bV (ldN 3 x H) fun y=>
 bA (bxV 42 (.agg [(.int .i64 (.ofNat 0)),(.int .i64 (.ofNat 0)),(.int .u64 (.ofNat 0))])) H fun p H=>
 bR (stN 3 p y H) fun N H=>
 bV (ldN 3 p H) fun z=>
 bR (D.fn 96 [h,z] H) fun q H=>
 bV (qV q 0) fun C=>
 bV (qV q 1) fun s=>
 bV (hU 3 i f) fun F=>
 bR (stN 3 F C H) fun O H=>
 bV (jM .neq s (.int .i64 (.ofNat 0))) fun J=>
 cnd J (bV (wY [(0,1),(1,1),(2,1)] [(.int .i64 (.ofNat 0)),(.int .i64 (.ofNat 0)),(.int .u64 (.ofNat 0))] []) fun K=>
 bR (stN 3 a K H) fun S H=>
 bV (ldN 3 a H) fun t=>bV (some s) fun u=>some (.ret (.tuple [t,u]),H))
 (bV (jM .add f (.int .i64 (.ofNat 1))) fun L=>
 some (.norm [h,a,o,i,j,m,L],H)))
 (some (.exit 0 [h,a,o,i],H))
def zF4 (D:Dyn)(n:Nat)(vs:List AV)(H:AH):Rs:=
 hd vs fun f vs=>hd vs fun a vs=>hd vs fun u vs=>hd vs fun F vs=>
 bV (ldN 4 u H) fun J=>
 bR (f149 D n [J] H) fun h H=>
 bV (qV h 0) fun K=>
 bV (qV h 1) fun i=>
 bV (jM .neq i (.int .i64 (.ofNat 0))) fun L=>
 cnd L (bV (wY [(0,1),(1,1),(2,1)] [(.int .i64 (.ofNat 0)),(.int .i64 (.ofNat 0)),(.int .u64 (.ofNat 0))] []) fun N=>
 bR (stN 3 a N H) fun Z H=>
 bV (ldN 3 a H) fun q=>bV (some i) fun v=>some (.ret (.tuple [q,v]),H))
 (bV (xR f) fun O=>
 bV (fAd 2 O) fun S=>
 bV (ld1 S H) fun T=>
 bR (zFo D n [F,T,K] H) fun j H=>
 bV (qV j 0) fun U=>
 bV (qV j 1) fun m=>
 bA (bxV 55 (.agg (rep 512 [(.int .u8 (.ofNat 0))]))) H fun o H=>
 bR (stN 512 o U H) fun a0 H=>
 bV (jM .neq m (.int .i64 (.ofNat 0))) fun V=>
 cnd V (bV (wY [(0,1),(1,1),(2,1)] [(.int .i64 (.ofNat 0)),(.int .i64 (.ofNat 0)),(.int .u64 (.ofNat 0))] []) fun W=>
 bR (stN 3 a W H) fun a1 H=>
 bV (ldN 3 a H) fun s=>bV (some m) fun x=>some (.ret (.tuple [s,x]),H))
 (bV (ldN 512 o H) fun Y=>
 bR (zKy D n [f,Y] H) fun p H=>
 bV (qV p 0) fun y=>
 bV (qV p 1) fun z=>
 bR (stN 3 a y H) fun a2 H=>
 bV (ldN 3 a H) fun t=>bV (some z) fun C=>some (.ret (.tuple [t,C]),H)))
def zF5 (D:Dyn)(n:Nat)(vs:List AV)(H:AH):Rs:=
 hd vs fun f vs=>hd vs fun h vs=>hd vs fun a vs=>hd vs fun i vs=>
 bV (fAd 3 a) fun j=>
 bR (stN 1 j i H) fun p H=>
 bV (fAd 0 a) fun m=>
 bV (ld1 m H) fun o=>
 jn (cnd o (some (.norm [f,h,a,(.int .u8 (.ofNat 1))],H))
 (some (.norm [f,h,a,(.int .u8 (.ofNat 2))],H))) (zF4 D n)
def f96 (D:Dyn)(n:Nat)(vs:List AV)(H:AH):Option (AV×AH):=
 gP (hd vs fun a vs=>hd vs fun x1 vs=>nl vs <|
 bA (bxV 42 x1) H fun f H=>
 bA (bxV 42 (.agg [(.int .i64 (.ofNat 0)),(.int .i64 (.ofNat 0)),(.int .u64 (.ofNat 0))])) H fun x4 H=>
 bV (fAd 0 f) fun u=>
 bV (ld1 u H) fun v=>
 bV (jM .neq v (.int .i64 (.ofNat 1))) fun x=>
 cnd x (bV (ldN 3 f H) fun y=>
 bR (stN 3 x4 y H) fun b2 H=>
 bV (ldN 3 x4 H) fun q=>bV (some (.int .i64 (.ofNat 0))) fun x5=>some (.ret (.tuple [q,x5]),H))
 (bV (xR a) fun z=>
 bV (fAd 3 z) fun C=>
 bV (ld1 C H) fun F=>
 bV (jM .sub F (.int .i64 (.ofNat 1))) fun J=>
 bV (xR a) fun K=>
 bV (fAd 3 K) fun L=>
 bR (stN 1 L J H) fun a8 H=>
 bV (xR a) fun N=>
 bV (fAd 3 N) fun O=>
 bV (ld1 O H) fun S=>
 bV (jM .lss S (.int .i64 (.ofNat 0))) fun T=>
 cnd T (bV (wY [(0,1),(1,1),(2,1)] [(.int .i64 (.ofNat 0)),(.int .i64 (.ofNat 0)),(.int .u64 (.ofNat 0))] []) fun U=>
 bR (stN 3 x4 U H) fun a9 H=>
 bV (ldN 3 x4 H) fun o=>bV (some (.int .i64 (.ofNat 4))) fun s=>some (.ret (.tuple [o,s]),H))
 (bV (xR a) fun V=>
 bV (fAd 0 V) fun W=>
 bV (ld1 W H) fun Y=>
 bV (ldN 3 f H) fun Z=>
 bA (bxV 119 (.agg [(.bool false), .nilSlice, .nilSlice, .nilSlice])) H fun x6 H=>
 bR (f77 D n [Y,Z] H) fun h H=>
 bV (qV h 0) fun a0=>
 bV (qV h 1) fun i=>
 bR (stN 4 x6 a0 H) fun b0 H=>
 bV (jM .neq i (.int .i64 (.ofNat 0))) fun a1=>
 cnd a1 (bV (wY [(0,1),(1,1),(2,1)] [(.int .i64 (.ofNat 0)),(.int .i64 (.ofNat 0)),(.int .u64 (.ofNat 0))] []) fun a2=>
 bR (stN 3 x4 a2 H) fun b1 H=>
 bV (ldN 3 x4 H) fun p=>bV (some i) fun t=>some (.ret (.tuple [p,t]),H))
 (bV (fAd 3 x6) fun a3=>
 bV (ld1 a3 H) fun a4=>
 bV (lnSl a4) fun j=>
 bA (zH1 42 3 24 [(.int .i64 (.ofNat 0)),(.int .i64 (.ofNat 0)),(.int .u64 (.ofNat 0))] j j) H fun a5 H=>
 bV (fAd 3 x6) fun a6=>
 bV (ld1 a6 H) fun m=>
 bV (lnSl m) fun a7=>
 jb 0 (yF n (BK D n) [a,x4,x6,a5,m,a7,(.int .i64 (.ofNat 0))] H) (zF5 D n)))))
def h96:Hint:=(.s .o (.s Hq (.s (.s .o Hq) (.s .o (.s Hq (.s .o (.s (.s .o (.b [0,4,6,8] (.l [0,4,6,8,49,50,51] (.s .o (.s (.cr .o .o) (.s (.b0 (.s .o (.s .o Hq))) .o)))))) (.s .o (.s .o (.s (.s .o (.c [0,4,6,11] .o .o)) (.s .o (.s Hq (.s .o (.s Hq Hr))))))))))))))
theorem zLL {D:Dyn}(a:DG D)(n:Nat):FI 96 (f96 D n):=fk n h96 a (sc (zBk a n) (sc (zI3 a n) (sc (zCF a n) (sc (zI2 a n) sn)))) Tryz.func96
attribute [local irreducible] BK zF4 zF5 f96
def s43:Tb:=⟨X,[(73,f73 D n),(23,f23 D n),(96,f96 D n)]⟩
def zKv (D:Dyn)(n:Nat)(vs:List AV)(H:AH):Rs:=
 hd vs fun i vs=>hd vs fun j vs=>hd vs fun m vs=>hd vs fun f vs=>hd vs fun h vs=>hd vs fun a vs=>
 bV (jM .lss a h) fun o=>
 cnd o (bV (hU 1 f a) fun p=>
 bV (ld1 p H) fun q=>
 bR (D.fn 70 [i,q] H) fun t H=>
 bV (jM .add a (.int .i64 (.ofNat 1))) fun s=>
 some (.norm [i,j,m,f,h,s],H))
 (some (.exit 0 [j,m],H))
def zKx (D:Dyn)(n:Nat)(vs:List AV)(H:AH):Rs:=
 hd vs fun a vs=>hd vs fun h vs=>
 bV (wY [(0,1),(1,1),(2,1)] [(.int .i64 (.ofNat 0)),(.int .i64 (.ofNat 0)),(.int .u64 (.ofNat 0))] []) fun m=>
 bR (stN 3 a m H) fun o H=>
 bV (ldN 3 a H) fun f=>bV (some .nilSlice) fun i=>bV (some h) fun j=>some (.ret (.tuple [f,i,j]),H)
def zKu (D:Dyn)(n:Nat)(vs:List AV)(H:AH):Rs:=
 hd vs fun a vs=>hd vs fun o vs=>hd vs fun i vs=>hd vs fun j vs=>hd vs fun m vs=>hd vs fun f vs=>
 bV (jM .lss f m) fun p=>
 cnd p (bV (hU 513 j f) fun q=>
 bV (ldN 513 q H) fun s=>
 bA (bxV 202 (.agg ([(.int .i64 (.ofNat 0))]++rep 512 [(.int .u8 (.ofNat 0))]))) H fun h H=>
 bR (stN 513 h s H) fun J H=>
 bV (xR a) fun t=>
 bV (fAd 1 t) fun u=>
 bV (ld1 u H) fun v=>
 bV (fAd 0 h) fun x=>
 bV (ld1 x H) fun y=>
 bV (fAd 1 h) fun z=>
 bV (ldN 512 z H) fun C=>
 bR (D.fn 97 [v,y,C] H) fun K H=>
 bV (jM .add f (.int .i64 (.ofNat 1))) fun F=>
 some (.norm [a,o,i,j,m,F],H))
 (some (.exit 2 [a,o,i],H))
def zKw (D:Dyn)(n:Nat)(vs:List AV)(H:AH):Rs:=
 hd vs fun f vs=>hd vs fun h vs=>hd vs fun a vs=>
 some (.norm [f,h,a],H)
def zHK (D:Dyn)(n:Nat)(vs:List AV)(H:AH):Rs:=
 hd vs fun a vs=>hd vs fun h vs=>hd vs fun f vs=>
 bV (xR a) fun j=>
 bV (fAd 7 j) fun m=>
 bV (ld1 m H) fun o=>
 bV (ldN 3 f H) fun p=>
 bV (xR a) fun q=>
 bV (fAd 2 q) fun s=>
 bR (stN 3 s p H) fun K H=>
 bV (xR a) fun t=>
 bV (fAd 7 t) fun u=>
 bR (stN 1 u .nilSlice H) fun L H=>
 bA (mkM [10]) H fun v H=>
 bV (xR a) fun x=>
 bV (fAd 5 x) fun y=>
 bR (stN 1 y v H) fun N H=>
 bV (ldN 3 f H) fun z=>
 bR (stN 3 h z H) fun J H=>
 bV (ldN 3 h H) fun i=>bV (some o) fun C=>bV (some (.int .i64 (.ofNat 0))) fun F=>some (.ret (.tuple [i,C,F]),H)
def f43 (D:Dyn)(n:Nat)(vs:List AV)(H:AH):Option (AV×AH):=
 gP (hd vs fun a vs=>hd vs fun x1 vs=>hd vs fun x2 vs=>nl vs <|
 bA (bxV 42 (.agg [(.int .i64 (.ofNat 0)),(.int .i64 (.ofNat 0)),(.int .u64 (.ofNat 0))])) H fun x6 H=>
 bR (f73 D n [a] H) fun i H=>
 jn (wnt i false (bV (bW .eql (eqP x1 .nilPtr)) fun L=>
 some (.norm [L],H)) (some (.norm [qX],H))) fun vs H=>hd vs fun x vs=>
 bV (pk3 (some i) (some (.bool true)) (some x)) fun N=>
 cnd N (bV (wY [(0,1),(1,1),(2,1)] [(.int .i64 (.ofNat 0)),(.int .i64 (.ofNat 0)),(.int .u64 (.ofNat 0))] []) fun O=>
 bR (stN 3 x6 O H) fun c4 H=>
 bV (ldN 3 x6 H) fun y=>bV (some .nilSlice) fun x7=>bV (some (.int .i64 (.ofNat 2))) fun x8=>some (.ret (.tuple [y,x7,x8]),H))
 (bV (jM .lss x2 (.int .i64 (.ofNat 1))) fun j=>
 jn (wnt j false (bV (jM .gtr x2 (.int .i64 (.ofNat 2147483647))) fun S=>
 some (.norm [S],H)) (some (.norm [qX],H))) fun vs H=>hd vs fun z vs=>
 bV (pk3 (some j) (some (.bool true)) (some z)) fun T=>
 cnd T (bV (wY [(0,1),(1,1),(2,1)] [(.int .i64 (.ofNat 0)),(.int .i64 (.ofNat 0)),(.int .u64 (.ofNat 0))] []) fun U=>
 bR (stN 3 x6 U H) fun c1 H=>
 bV (ldN 3 x6 H) fun u=>bV (some .nilSlice) fun C=>bV (some (.int .i64 (.ofNat 1))) fun F=>some (.ret (.tuple [u,C,F]),H))
 (bV (xR a) fun V=>
 bV (fAd 5 V) fun m=>
 bV (ld1 m H) fun o=>
 bR (f23 D n [x1] H) fun W H=>chk (ld1 m H) o <|
 bV (aZ o H) fun Y=>
 bV (jM .lss W Y) fun Z=>
 cnd Z (bV (wY [(0,1),(1,1),(2,1)] [(.int .i64 (.ofNat 0)),(.int .i64 (.ofNat 0)),(.int .u64 (.ofNat 0))] []) fun a0=>
 bR (stN 3 x6 a0 H) fun c2 H=>
 bV (ldN 3 x6 H) fun v=>bV (some .nilSlice) fun J=>bV (some (.int .i64 (.ofNat 3))) fun K=>some (.ret (.tuple [v,J,K]),H))
 (bV (xR a) fun a1=>
 bV (fAd 5 a1) fun a2=>
 bV (ld1 a2 H) fun a3=>
 bV (aZ a3 H) fun a4=>
 bV (wY [(0,1),(1,1),(2,1),(3,1),(4,1),(5,1)] [.nilPtr, .nilPtr,(.int .i64 (.ofNat 0)),(.int .i64 (.ofNat 0)), .nilSlice, .nilSlice] [(0,a),(1,x1),(2,x2),(3,a4)]) fun a5=>
 bA (bxV 198 a5) H fun f H=>
 bV (xR a) fun a6=>
 bV (fAd 2 a6) fun a7=>
 bV (ldN 3 a7 H) fun a8=>
 bR (f96 D n [f,a8] H) fun p H=>
 bV (qV p 0) fun a9=>
 bV (qV p 1) fun q=>
 bA (bxV 42 (.agg [(.int .i64 (.ofNat 0)),(.int .i64 (.ofNat 0)),(.int .u64 (.ofNat 0))])) H fun h H=>
 bR (stN 3 h a9 H) fun c3 H=>
 bV (jM .neq q (.int .i64 (.ofNat 0))) fun b0=>
 cnd b0 (bV (xR f) fun b1=>
 bV (fAd 4 b1) fun b2=>
 bV (ld1 b2 H) fun s=>
 bV (lnSl s) fun b3=>
 jb 0 (yF n (zKv D n) [x1,x6,q,s,b3,(.int .i64 (.ofNat 0))] H) (zKx D n))
 (bV (xR a) fun b4=>
 bV (fAd 1 b4) fun b5=>
 bV (ld1 b5 H) fun b6=>
 bV (bW .neq (eqP b6 .nilPtr)) fun b7=>
 jn (cnd b7 (bV (xR f) fun b8=>
 bV (fAd 5 b8) fun b9=>
 bV (ld1 b9 H) fun t=>
 bV (lnSl t) fun c0=>
 jb 2 (yF n (zKu D n) [a,x6,h,t,c0,(.int .i64 (.ofNat 0))] H) (zKw D n))
 (some (.norm [a,x6,h],H))) (zHK D n))))))
def h43:Hint:=(.s .o (.s Hq (.s Hq (.s Hq (.s .o (.s .o (.s (.s .o (.cl (.s (.s .o (.b [6,11] (.l [1,6,11,64,65,66] (.s .o (.s (.cr .o .o) (.s (.b0 Hr) .o)))))) Hr) .o)) (.s (.s .o (.c [0,6,10] (.s .o (.b [0,6,10] (.l [0,6,10,84,85,86] (.s .o (.s (.cr .o .o) (.s (.b0 Hr) .o)))))) .o)) (.s .o (.s .o (.s .o Hr)))))))))))
theorem zLY {D:Dyn}(a:DG D)(n:Nat):FI 43 (f43 D n):=fk n h43 a (sc (KM a n) (sc (zM6 a n) (sc (zLL a n) sn))) Tryz.func43
attribute [local irreducible] zKv zKx zKu zKw zHK f43
def s19:Tb:=⟨X,[(73,f73 D n)]⟩
def h19:Hint:=(.s .o (.s Hq Hr))
def f19:=(⟨_,by conv=>rhs;reduce⟩:FD (s19 D n) D n 19 Tryz.f19 h19 []).1
theorem zDZ {D:Dyn}(a:DG D)(n:Nat):FI 19 (f19 D n):=fk n (ms h19) a (sc (KM a n) sn) Tryz.func19
attribute [local irreducible] f19
def s64:Tb:=⟨X,[(38,f38 D n),(68,f68 D n),(29,f29 D n),(111,f111 D n),(69,f69 D n),(43,f43 D n),(19,f19 D n),(18,f18 D n)]⟩
def h64:Hint:=(.s .o (.s (.s .o (.b [5] (.l [4,0,1,5] (.s (.s .o (.cr .o .o)) (.s (.b [3,0,1,5] (.s .o (.s .o (.b0 (.s .o (.c [2,0,1,5] (.s (.b [8,255] .o) (.c [0,0,1,5] (.b [9,510,12,4095] .o) .o)) (.s .o (.c [1,0,1,5] (.s (.s (.c [6,63,14,16255] (.l [0,1,2,3,4,5,8,9,10,11,12,13,6,7,14,15] .o) .o) (.cl Hr .o)) (.b [7,126,10,1023] .o)) (.s .o (.s (.c [12,4095,18,163839] (.l [0,1,2,3,4,5,6,7,8,9,10,11,17,12,13,14,15,16,18,19,20] .o) .o) (.s (.s .o (.cl .o .o)) (.s (.b [8,240,9,511] .o) (.s Hq .o))))))))))))) .o))))) Hr))
def KO:=(⟨_,by conv=>rhs;reduce⟩:PD (s64 D n) D n 64 Tryz.f64 h64 [] 0).1
attribute [local irreducible] KO
def XG:=(⟨_,by conv=>rhs;reduce⟩:PD (s64 D n) D n 64 Tryz.f64 h64 [KO D n] 1).1
attribute [local irreducible] XG
def KN:=(⟨_,by conv=>rhs;reduce⟩:PD (s64 D n) D n 64 Tryz.f64 h64 [KO D n,XG D n] 2).1
attribute [local irreducible] KN
def KP:=(⟨_,by conv=>rhs;reduce⟩:PD (s64 D n) D n 64 Tryz.f64 h64 [KO D n,XG D n,KN D n] 3).1
attribute [local irreducible] KP
def Z9:=(⟨_,by conv=>rhs;reduce⟩:PD (s64 D n) D n 64 Tryz.f64 h64 [KO D n,XG D n,KN D n,KP D n] 4).1
attribute [local irreducible] Z9
def zHB:=(⟨_,by conv=>rhs;reduce⟩:PD (s64 D n) D n 64 Tryz.f64 h64 [KO D n,XG D n,KN D n,KP D n,Z9 D n] 5).1
attribute [local irreducible] zHB
def f64:=(⟨_,by conv=>rhs;reduce⟩:FD (s64 D n) D n 64 Tryz.f64 h64 [KO D n,XG D n,KN D n,KP D n,Z9 D n,zHB D n]).1
theorem zLT {D:Dyn}(a:DG D)(n:Nat):FI 64 (f64 D n):=fk n (ms h64) a (sc (zLZ a n) (sc (zLR a n) (sc (zM2 a n) (sc (zIa a n) (sc (zDS a n) (sc (zLY a n) (sc (zDZ a n) (sc (zHV a n) sn)))))))) Tryz.func64
attribute [local irreducible] f64
def s63:Tb:=⟨X,[(18,f18 D n),(64,f64 D n)]⟩
def h63:Hint:=(.s .o (.s .o (.s Hq (.s .o Hr))))
def f63:=(⟨_,by conv=>rhs;reduce⟩:FD (s63 D n) D n 63 Tryz.f63 h63 []).1
theorem zLU {D:Dyn}(a:DG D)(n:Nat):FI 63 (f63 D n):=fk n (ms h63) a (sc (zHV a n) (sc (zLT a n) sn)) Tryz.func63
attribute [local irreducible] f63
def s52:Tb:=⟨X,[(32,f32 D n),(34,f34 D n),(63,f63 D n)]⟩
def h52:Hint:=(.s .o (.s .o (.s .o (.s Hq Hr))))
def f52:=(⟨_,by conv=>rhs;reduce⟩:FD (s52 D n) D n 52 Tryz.f52 h52 []).1
theorem zDX {D:Dyn}(a:DG D)(n:Nat):FI 52 (f52 D n):=fk n (ms h52) a (sc (zM1 a n) (sc (zM0 a n) (sc (zLU a n) sn))) Tryz.func52
attribute [local irreducible] f52
def s24:Tb:=⟨X,[(73,f73 D n)]⟩
def h24:Hint:=(.s .o (.s Hq Hr))
def f24:=(⟨_,by conv=>rhs;reduce⟩:FD (s24 D n) D n 24 Tryz.f24 h24 []).1
theorem zM5 {D:Dyn}(a:DG D)(n:Nat):FI 24 (f24 D n):=fk n (ms h24) a (sc (KM a n) sn) Tryz.func24
attribute [local irreducible] f24
def s104:Tb:=⟨X,[(24,f24 D n)]⟩
def h104:Hint:=(.s .o Hr)
def f104:=(⟨_,by conv=>rhs;reduce⟩:FD (s104 D n) D n 104 Tryz.f104 h104 []).1
theorem vQ {D:Dyn}(a:DG D)(n:Nat):FI 104 (f104 D n):=fk n (ms h104) a (sc (zM5 a n) sn) Tryz.func104
attribute [local irreducible] f104
def s61:Tb:=⟨X,[(73,f73 D n),(77,f77 D n),(108,f108 D n),(81,f81 D n)]⟩
def h61:Hint:=(.s .o (.s Hq (.s Hq (.s .o (.s Hq (.s (.c [4,12,7,124,10,1020,12,4095] (.l [0,1,2,3,5,6,8,9,4,7,10,11,12,13] .o) .o) .o))))))
def f61:=(⟨_,by conv=>rhs;reduce⟩:FD (s61 D n) D n 61 Tryz.f61 h61 []).1
theorem zLW {D:Dyn}(a:DG D)(n:Nat):FI 61 (f61 D n):=fk n (ms h61) a (sc (KM a n) (sc (zBk a n) (sc (BS a n) (sc (zHw a n) sn)))) Tryz.func61
attribute [local irreducible] f61
def s166:Tb:=⟨X,[(61,f61 D n),(79,f79 D n)]⟩
def zPz:Hint:=(.s .o (.s Hq (.s (.s .o (.s .o (.cl (.s .o Hr) .o))) (.s (.b [10,767] .o) (.s (.s .o (.c [2,0,2,3,4,5,7,13] (.b [6,62,10,510,13,8191] .o) .o)) (.s Hq (.s Hq (.s .o (.s (.s .o (.b [1] (.l [0,0,2,3,4,5,13,15,16] (.s (.s .o (.cr .o .o)) (.s (.b0 (.s (.s .o (.cl .o .o)) Hq)) .o))))) Hr)))))))))
def vO:=(⟨_,by conv=>rhs;reduce⟩:PD (s166 D n) D n 166 Tryz.f166 zPz [] 0).1
attribute [local irreducible] vO
def Y3:=(⟨_,by conv=>rhs;reduce⟩:PD (s166 D n) D n 166 Tryz.f166 zPz [vO D n] 1).1
attribute [local irreducible] Y3
def KY:=(⟨_,by conv=>rhs;reduce⟩:PD (s166 D n) D n 166 Tryz.f166 zPz [vO D n,Y3 D n] 2).1
attribute [local irreducible] KY
def f166:=(⟨_,by conv=>rhs;reduce⟩:FD (s166 D n) D n 166 Tryz.f166 zPz [vO D n,Y3 D n,KY D n]).1
theorem zI1 {D:Dyn}(a:DG D)(n:Nat):FI 166 (f166 D n):=fk n (ms zPz) a (sc (zLW a n) (sc (KL a n) sn)) Tryz.func166
attribute [local irreducible] f166
def s165:Tb:=⟨X,[(19,f19 D n),(166,f166 D n)]⟩
def h165:Hint:=(.s .o (.s .o (.c [0] .o .o)))
def Y4:=(⟨_,by conv=>rhs;reduce⟩:PD (s165 D n) D n 165 Tryz.f165 h165 [] 0).1
attribute [local irreducible] Y4
def f165:=(⟨_,by conv=>rhs;reduce⟩:FD (s165 D n) D n 165 Tryz.f165 h165 [Y4 D n]).1
theorem zNH {D:Dyn}(a:DG D)(n:Nat):FI 165 (f165 D n):=fk n (ms h165) a (sc (zDZ a n) (sc (zI1 a n) sn)) Tryz.func165
attribute [local irreducible] f165
def h107:Hint:=(.s .o Hr)
def f107:=(⟨_,by conv=>rhs;reduce⟩:FD ⟨X,[]⟩ D n 107 Tryz.f107 h107 []).1
theorem cT {D:Dyn}(a:DG D)(n:Nat):FI 107 (f107 D n):=fk n (ms h107) a sn Tryz.func107
attribute [local irreducible] f107
def zOp:Tb:=⟨X,[(107,f107 D n),(79,f79 D n)]⟩
def h164:Hint:=(.s .o (.s .o (.b0 (.rf 0 [2,3,5]))))
def f164:=(⟨_,by conv=>rhs;reduce⟩:FD (zOp D n) D n 164 Tryz.f164 h164 []).1
theorem zNI {D:Dyn}(a:DG D)(n:Nat):FI 164 (f164 D n):=fk n (ms h164) a (sc (cT a n) (sc (KL a n) sn)) Tryz.func164
def zGB:Hint:= .o
def JS:Hint:=(.b [2] (.s (.s .o (.cl .o .o)) (.s .o (.b [1] (.l [0,3,5,7,8] (.s (.s .o (.cr .o .o)) (.s (.b0 (.s (.b [24,16777215] .o) (.cl .o .o))) .o)))))))
def bJ:=(⟨_,by conv=>rhs;reduce⟩:QD (zOp D n) D n 164 0 [] JS [] 0).1
attribute [local irreducible] bJ
def KZ:=(⟨_,by conv=>rhs;reduce⟩:QD (zOp D n) D n 164 0 [] JS [bJ D n] 1).1
attribute [local irreducible] KZ
def VK:=(⟨_,by conv=>rhs;reduce⟩:QD (zOp D n) D n 164 0 [] JS [bJ D n,KZ D n] 2).1
attribute [local irreducible] VK
def dL:=(⟨_,by conv=>rhs;reduce⟩:RD (zOp D n) D n 164 0 [2,3,5] [] zGB JS [bJ D n,KZ D n,VK D n]).1
theorem zGD (D:Dyn)(n:Nat):dL D n=zJh (zOp D n) D n 164 0 [2,3,5] [] (ms zGB) (ms JS):=by kernel_rfl
theorem zGC {D:Dyn}(a:DG D)(n:Nat):RS 164 0 (dL D n):=uS X_ok a (sc (cT a n) (sc (KL a n) sn)) (by kernel_rfl) (zGD D n)
attribute [local irreducible] f164 dL
def h105:Hint:=(.s .o Hr)
def f105:=(⟨_,by conv=>rhs;reduce⟩:FD ⟨X,[]⟩ D n 105 Tryz.f105 h105 []).1
theorem cU {D:Dyn}(a:DG D)(n:Nat):FI 105 (f105 D n):=fk n (ms h105) a sn Tryz.func105
attribute [local irreducible] f105
def h106:Hint:=(.s .o Hr)
def f106:=(⟨_,by conv=>rhs;reduce⟩:FD ⟨X,[]⟩ D n 106 Tryz.f106 h106 []).1
theorem zNO {D:Dyn}(a:DG D)(n:Nat):FI 106 (f106 D n):=fk n (ms h106) a sn Tryz.func106
attribute [local irreducible] f106
def s53:Tb:=⟨X,[(104,f104 D n),(105,f105 D n)]⟩
def h53:Hint:=(.s .o (.s Hq (.s Hq (.s .o (.s .o (.s .o (.s (.s .o (.b [0,11,12,13] (.rf 0 [7,12,13]))) (.s (.s .o (.cl (.s (.b [] .o) .o) .o)) (.s (.b [] .o) .o)))))))))
def zHH:=(⟨_,by conv=>rhs;reduce⟩:PD (s53 D n) D n 53 Tryz.f53 h53 [] 0).1
attribute [local irreducible] zHH
def f53:=(⟨_,by conv=>rhs;reduce⟩:FD (s53 D n) D n 53 Tryz.f53 h53 [zHH D n]).1
theorem zDW {D:Dyn}(a:DG D)(n:Nat):FI 53 (f53 D n):=fk n (ms h53) a (sc (vQ a n) (sc (cU a n) sn)) Tryz.func53
def zLE:Hint:= .o
def zLD:Hint:=(.b0 (.s (.s .o (.cl (.s .o .o) .o)) .o))
def UV:=(⟨_,by conv=>rhs;reduce⟩:RD (s53 D n) D n 53 0 [7,12,13] [0] zLE zLD []).1
theorem zJU (D:Dyn)(n:Nat):UV D n=zJh (s53 D n) D n 53 0 [7,12,13] [0] (ms zLE) (ms zLD):=by kernel_rfl
theorem zJT {D:Dyn}(a:DG D)(n:Nat):RS 53 0 (UV D n):=uS X_ok a (sc (vQ a n) (sc (cU a n) sn)) (by kernel_rfl) (zJU D n)
attribute [local irreducible] f53 UV
def s56:Tb:=⟨X,[(104,f104 D n),(105,f105 D n)]⟩
def h56:Hint:=(.s .o (.s Hq (.s .o (.s .o (.s (.s .o (.b0 (.rf 0 [9]))) (.s (.s .o (.cl (.s (.b [] .o) .o) .o)) Hr))))))
def f56:=(⟨_,by conv=>rhs;reduce⟩:FD (s56 D n) D n 56 Tryz.f56 h56 []).1
theorem zDV {D:Dyn}(a:DG D)(n:Nat):FI 56 (f56 D n):=fk n (ms h56) a (sc (vQ a n) (sc (cU a n) sn)) Tryz.func56
def zLC:Hint:= .o
def zLB:Hint:=(.b0 .o)
def zAK:=(⟨_,by conv=>rhs;reduce⟩:RD (s56 D n) D n 56 0 [9] [] zLC zLB []).1
theorem zJS (D:Dyn)(n:Nat):zAK D n=zJh (s56 D n) D n 56 0 [9] [] (ms zLC) (ms zLB):=by kernel_rfl
theorem zJR {D:Dyn}(a:DG D)(n:Nat):RS 56 0 (zAK D n):=uS X_ok a (sc (vQ a n) (sc (cU a n) sn)) (by kernel_rfl) (zJS D n)
attribute [local irreducible] f56 zAK
def s112:Tb:=⟨X,[(104,f104 D n),(105,f105 D n)]⟩
def h112:Hint:=(.s .o (.s .o (.s .o (.s .o (.s (.s .o (.b0 (.rf 0 [9]))) (.s (.b [] .o) .o))))))
def f112:=(⟨_,by conv=>rhs;reduce⟩:FD (s112 D n) D n 112 Tryz.f112 h112 []).1
theorem zCL {D:Dyn}(a:DG D)(n:Nat):FI 112 (f112 D n):=fk n (ms h112) a (sc (vQ a n) (sc (cU a n) sn)) Tryz.func112
def zGF:Hint:= .o
def zGE:Hint:=(.b0 .o)
def XZ:=(⟨_,by conv=>rhs;reduce⟩:RD (s112 D n) D n 112 0 [9] [] zGF zGE []).1
theorem zGH (D:Dyn)(n:Nat):XZ D n=zJh (s112 D n) D n 112 0 [9] [] (ms zGF) (ms zGE):=by kernel_rfl
theorem zGG {D:Dyn}(a:DG D)(n:Nat):RS 112 0 (XZ D n):=uS X_ok a (sc (vQ a n) (sc (cU a n) sn)) (by kernel_rfl) (zGH D n)
attribute [local irreducible] f112 XZ
def h206:Hint:=(.s .o Hr)
def f206:=(⟨_,by conv=>rhs;reduce⟩:FD ⟨X,[]⟩ D n 206 Tryz.f206 h206 []).1
theorem zHS {D:Dyn}(a:DG D)(n:Nat):FI 206 (f206 D n):=fk n (ms h206) a sn Tryz.func206
attribute [local irreducible] f206
def s167:Tb:=⟨X,[(206,f206 D n)]⟩
def h167:Hint:=(.s .o (.s .o (.s .o (.s (.s .o (.cl (.s Hq Hr) .o)) (.s Hq (.s Hq (.s Hq Hr)))))))
def f167:=(⟨_,by conv=>rhs;reduce⟩:FD (s167 D n) D n 167 Tryz.f167 h167 []).1
theorem zI0 {D:Dyn}(a:DG D)(n:Nat):FI 167 (f167 D n):=fk n (ms h167) a (sc (zHS a n) sn) Tryz.func167
attribute [local irreducible] f167
def zLv:Tb:=⟨X,[(167,f167 D n)]⟩
def zKl:Hint:=(.s .o (.s .o (.s (.b [6,5] (.l [5,0,1,5] (.s (.s .o (.cr .o .o)) (.b0 (.s .o (.s (.b0 (.s .o (.c [4,0,1,5,6] .o (.s .o (.c [0,0,1,5,6] .o (.b [8,255] .o)))))) (.s .o (.s (.s .o (.c [3,0,1,5,6,7] (.s (.b [9,271,11,2047,13,8191] .o) .o) .o)) (.s (.s .o (.c [2,0,1,5,6,7] (.s (.b [9,271,11,2047,13,8191] .o) .o) .o)) (.s .o (.c [1,0,1,5] .o .o))))))))))) Hr)))
def dY:=(⟨_,by conv=>rhs;reduce⟩:PD (zLv D n) D n 115 Tryz.f115 zKl [] 0).1
attribute [local irreducible] dY
def ZH:=(⟨_,by conv=>rhs;reduce⟩:PD (zLv D n) D n 115 Tryz.f115 zKl [dY D n] 1).1
attribute [local irreducible] ZH
def Y8:=(⟨_,by conv=>rhs;reduce⟩:PD (zLv D n) D n 115 Tryz.f115 zKl [dY D n,ZH D n] 2).1
attribute [local irreducible] Y8
def WC:=(⟨_,by conv=>rhs;reduce⟩:PD (zLv D n) D n 115 Tryz.f115 zKl [dY D n,ZH D n,Y8 D n] 3).1
attribute [local irreducible] WC
def VS:=(⟨_,by conv=>rhs;reduce⟩:PD (zLv D n) D n 115 Tryz.f115 zKl [dY D n,ZH D n,Y8 D n,WC D n] 4).1
attribute [local irreducible] VS
def zBq:=(⟨_,by conv=>rhs;reduce⟩:PD (zLv D n) D n 115 Tryz.f115 zKl [dY D n,ZH D n,Y8 D n,WC D n,VS D n] 5).1
attribute [local irreducible] zBq
def zE1:=(⟨_,by conv=>rhs;reduce⟩:PD (zLv D n) D n 115 Tryz.f115 zKl [dY D n,ZH D n,Y8 D n,WC D n,VS D n,zBq D n] 6).1
attribute [local irreducible] zE1
def f115:=(⟨_,by conv=>rhs;reduce⟩:FD (zLv D n) D n 115 Tryz.f115 zKl [dY D n,ZH D n,Y8 D n,WC D n,VS D n,zBq D n,zE1 D n]).1
theorem zCK {D:Dyn}(a:DG D)(n:Nat):FI 115 (f115 D n):=fk n (ms zKl) a (sc (zI0 a n) sn) Tryz.func115
attribute [local irreducible] f115
def h113:Hint:=(.s .o (.s .o (.s (.s .o (.s .o (.c [0,6] .o .o))) Hr)))
def zE2:=(⟨_,by conv=>rhs;reduce⟩:PD ⟨X,[]⟩ D n 113 Tryz.f113 h113 [] 0).1
attribute [local irreducible] zE2
def f113:=(⟨_,by conv=>rhs;reduce⟩:FD ⟨X,[]⟩ D n 113 Tryz.f113 h113 [zE2 D n]).1
theorem zNN {D:Dyn}(a:DG D)(n:Nat):FI 113 (f113 D n):=fk n (ms h113) a sn Tryz.func113
attribute [local irreducible] f113
def h114:Hint:=(.s .o (.s .o Hr))
def f114:=(⟨_,by conv=>rhs;reduce⟩:FD ⟨X,[]⟩ D n 114 Tryz.f114 h114 []).1
theorem zNM {D:Dyn}(a:DG D)(n:Nat):FI 114 (f114 D n):=fk n (ms h114) a sn Tryz.func114
attribute [local irreducible] f114
def s65:Tb:=⟨X,[(104,f104 D n),(107,f107 D n),(112,f112 D n),(115,f115 D n)]⟩
def h65:Hint:=(.s .o (.s Hq (.s .o (.s .o (.s (.s .o (.b0 (.rf 0 [6]))) (.s (.s .o (.cl (.s (.b [] .o) .o) .o)) (.s .o (.s .o (.s Hq (.s .o (.s Hq Hr)))))))))))
def f65:=(⟨_,by conv=>rhs;reduce⟩:FD (s65 D n) D n 65 Tryz.f65 h65 []).1
theorem zLS {D:Dyn}(a:DG D)(n:Nat):FI 65 (f65 D n):=fk n (ms h65) a (sc (vQ a n) (sc (cT a n) (sc (zCL a n) (sc (zCK a n) sn)))) Tryz.func65
def zLz:Hint:=(.s .o .o)
def zLy:Hint:=(.b0 .o)
def zEL:=(⟨_,by conv=>rhs;reduce⟩:RD (s65 D n) D n 65 0 [6] [] zLz zLy []).1
theorem zJO (D:Dyn)(n:Nat):zEL D n=zJh (s65 D n) D n 65 0 [6] [] (ms zLz) (ms zLy):=by kernel_rfl
theorem zJN {D:Dyn}(a:DG D)(n:Nat):RS 65 0 (zEL D n):=uS X_ok a (sc (vQ a n) (sc (cT a n) (sc (zCL a n) (sc (zCK a n) sn)))) (by kernel_rfl) (zJO D n)
attribute [local irreducible] f65 zEL
def s60:Tb:=⟨X,[(104,f104 D n),(107,f107 D n)]⟩
def h60:Hint:=(.s .o (.s Hq (.s .o (.s .o (.s (.s .o (.b0 (.rf 0 [5]))) (.s (.s .o (.cl (.s (.b [] .o) .o) .o)) Hr))))))
def f60:=(⟨_,by conv=>rhs;reduce⟩:FD (s60 D n) D n 60 Tryz.f60 h60 []).1
theorem zLX {D:Dyn}(a:DG D)(n:Nat):FI 60 (f60 D n):=fk n (ms h60) a (sc (vQ a n) (sc (cT a n) sn)) Tryz.func60
def zLA:Hint:= .o
def zGw:Hint:=(.b0 (.s .o (.c [0] .o .o)))
def zKr:=(⟨_,by conv=>rhs;reduce⟩:QD (s60 D n) D n 60 0 [] zGw [] 0).1
attribute [local irreducible] zKr
def zEM:=(⟨_,by conv=>rhs;reduce⟩:RD (s60 D n) D n 60 0 [5] [] zLA zGw [zKr D n]).1
theorem zJQ (D:Dyn)(n:Nat):zEM D n=zJh (s60 D n) D n 60 0 [5] [] (ms zLA) (ms zGw):=by kernel_rfl
theorem zJP {D:Dyn}(a:DG D)(n:Nat):RS 60 0 (zEM D n):=uS X_ok a (sc (vQ a n) (sc (cT a n) sn)) (by kernel_rfl) (zJQ D n)
attribute [local irreducible] f60 zEM
def h58:Hint:=(.s .o (.s (.s .o (.b [1] (.l [0,0,3] (.s (.s .o (.cr .o .o)) (.s (.b0 (.s .o (.cl (.s (.b [] .o) .o) .o))) .o))))) Hr))
def KQ:=(⟨_,by conv=>rhs;reduce⟩:PD ⟨X,[]⟩ D n 58 Tryz.f58 h58 [] 0).1
attribute [local irreducible] KQ
def zHE:=(⟨_,by conv=>rhs;reduce⟩:PD ⟨X,[]⟩ D n 58 Tryz.f58 h58 [KQ D n] 1).1
attribute [local irreducible] zHE
def f58:=(⟨_,by conv=>rhs;reduce⟩:FD ⟨X,[]⟩ D n 58 Tryz.f58 h58 [KQ D n,zHE D n]).1
theorem zDT {D:Dyn}(a:DG D)(n:Nat):FI 58 (f58 D n):=fk n (ms h58) a sn Tryz.func58
attribute [local irreducible] f58
def s51:Tb:=⟨X,[(52,f52 D n),(53,f53 D n),(56,f56 D n),(65,f65 D n),(60,f60 D n),(19,f19 D n),(58,f58 D n)]⟩
def h51:Hint:=(.s .o (.s .o (.s .o (.s Hq (.s .o (.s .o (.s .o (.s (.b [8,255] .o) (.s .o (.s (.b [74,17856448263350845964287,82,4835703278458516698824703] .o) .o))))))))))
def f51:=(⟨_,by conv=>rhs;reduce⟩:FD (s51 D n) D n 51 Tryz.f51 h51 []).1
theorem zDY {D:Dyn}(a:DG D)(n:Nat):FI 51 (f51 D n):=fk n (ms h51) a (sc (zDX a n) (sc (zDW a n) (sc (zDV a n) (sc (zLS a n) (sc (zLX a n) (sc (zDZ a n) (sc (zDT a n) sn))))))) Tryz.func51
attribute [local irreducible] f51
end Go.Eng.Sh
end
end
section
noncomputable section
namespace Go.Eng.Sh
open Go.Proofs
set_option maxRecDepth 100000
set_option maxHeartbeats 4000000
variable (D:Dyn)(n:Nat)
attribute [local irreducible] bV bR hd cnd jn jb yF wnt chk XA bA jM bO YP bW eqP eqS eqM eqF eqA zOA ldN ld1 stN cvI zOE zBx zMd YI wR jY uI hU uW zBa zEY fd1 fdN fAd cP lnSl aZ apP apZ cpy wY zKZ pk3 s2a bxV d7 zH1 lkM upM dlM mkM callV nl gP tld zMa xN YB uO zDJ rfC mn2 mx2 aun qV xR qX isW aveq vE f85 f32 f86 YM zF7 f34 f118 dW VQ f119 f72 f18 f73 f127 ZG fL VN f126 bL fM WD VT f110 f137 xE uN dZ fO Y9 bN f109 vN uK Y0 ZB f227 f108 f81 KU f213 ZC VJ f177 dS VH f179 Y5 WB f131 f76 ZA VG f230 f225 f208 dQ KS f226 zFo zJk f171 f120 f74 f25 zBp VP VO zKz f172 zJj f174 f62 f210 f173 f175 uL uM kZ vP Y7 f123 f77 KK YL zF6 f79 f130 f212 Y2 KW f180 dU fK fJ WA VM f132 Y1 KT f214 dT fH fG KX VI f178 f176 ZF Y6 ZE f129 dV bK f128 f82 f138 zNg f89 f88 f38 zBl XF zHz f69 BM zHA f68 f84 f83 f29 f111 f23 f193 zBo f194 ZD vX W0 VL f149 fE zBn f207 f168 fF zE0 f195 aU f75 f26 f196 zKy BK zF4 zF5 f96 zKv zKx zKu zKw zHK f43 f19 KO XG KN KP Z9 zHB f64 f63 f52 f24 f104 f61 vO Y3 KY f166 Y4 f165 f107 f164 bJ KZ VK dL f105 f106 zHH f53 UV f56 zAK f112 XZ f206 f167 dY ZH Y8 WC VS zBq zE1 f115 zE2 f113 f114 f65 zEL f60 zKr zEM KQ zHE f58 f51
def h50:Hint:=(.s .o (.s Hq (.s (.s .o (.b [1] (.l [0,0,3] (.s (.s .o (.cr .o .o)) (.s (.b0 Hq) .o))))) Hr)))
def zBm:=(⟨_,by conv=>rhs;reduce⟩:PD ⟨X,[]⟩ D n 50 Tryz.f50 h50 [] 0).1
attribute [local irreducible] zBm
def zHI:=(⟨_,by conv=>rhs;reduce⟩:PD ⟨X,[]⟩ D n 50 Tryz.f50 h50 [zBm D n] 1).1
attribute [local irreducible] zHI
def f50:=(⟨_,by conv=>rhs;reduce⟩:FD ⟨X,[]⟩ D n 50 Tryz.f50 h50 [zBm D n,zHI D n]).1
theorem zHJ {D:Dyn}(a:DG D)(n:Nat):FI 50 (f50 D n):=fk n (ms h50) a sn Tryz.func50
attribute [local irreducible] f50
def h57:Hint:=(.s .o (.s .o (.s (.s .o (.b [2,7] (.l [1,0,1,2,7,8] (.s (.s .o (.cr .o .o)) (.s (.b0 (.s .o (.c [0,0,1,2,7,8] .o .o))) .o))))) Hr)))
def BN:=(⟨_,by conv=>rhs;reduce⟩:PD ⟨X,[]⟩ D n 57 Tryz.f57 h57 [] 0).1
attribute [local irreducible] BN
def KR:=(⟨_,by conv=>rhs;reduce⟩:PD ⟨X,[]⟩ D n 57 Tryz.f57 h57 [BN D n] 1).1
attribute [local irreducible] KR
def zKs:=(⟨_,by conv=>rhs;reduce⟩:PD ⟨X,[]⟩ D n 57 Tryz.f57 h57 [BN D n,KR D n] 2).1
attribute [local irreducible] zKs
def f57:=(⟨_,by conv=>rhs;reduce⟩:FD ⟨X,[]⟩ D n 57 Tryz.f57 h57 [BN D n,KR D n,zKs D n]).1
theorem zDU {D:Dyn}(a:DG D)(n:Nat):FI 57 (f57 D n):=fk n (ms h57) a sn Tryz.func57
attribute [local irreducible] f57
def s54:Tb:=⟨X,[(57,f57 D n)]⟩
def h54:Hint:=(.s .o (.s Hq (.s .o (.s Hq Hr))))
def f54:=(⟨_,by conv=>rhs;reduce⟩:FD (s54 D n) D n 54 Tryz.f54 h54 []).1
theorem zHG {D:Dyn}(a:DG D)(n:Nat):FI 54 (f54 D n):=fk n (ms h54) a (sc (zDU a n) sn) Tryz.func54
attribute [local irreducible] f54
def h55:Hint:=(.s .o (.s Hq (.s (.s .o (.b [1] (.l [0,0,1,5] (.s (.s .o (.cr .o .o)) (.s (.b0 (.s (.b [] .o) (.cl Hr .o))) .o))))) Hr)))
def zCw:=(⟨_,by conv=>rhs;reduce⟩:PD ⟨X,[]⟩ D n 55 Tryz.f55 h55 [] 0).1
attribute [local irreducible] zCw
def zKt:=(⟨_,by conv=>rhs;reduce⟩:PD ⟨X,[]⟩ D n 55 Tryz.f55 h55 [zCw D n] 1).1
attribute [local irreducible] zKt
def f55:=(⟨_,by conv=>rhs;reduce⟩:FD ⟨X,[]⟩ D n 55 Tryz.f55 h55 [zCw D n,zKt D n]).1
theorem zHF {D:Dyn}(a:DG D)(n:Nat):FI 55 (f55 D n):=fk n (ms h55) a sn Tryz.func55
attribute [local irreducible] f55
def h59:Hint:=(.s .o (.s .o (.s (.b [1,0,3] (.l [0,0,3] (.s (.s .o (.cr .o .o)) (.b0 .o)))) (.s Hq (.s (.b [] .o) .o)))))
def XH:=(⟨_,by conv=>rhs;reduce⟩:PD ⟨X,[]⟩ D n 59 Tryz.f59 h59 [] 0).1
attribute [local irreducible] XH
def zHC:=(⟨_,by conv=>rhs;reduce⟩:PD ⟨X,[]⟩ D n 59 Tryz.f59 h59 [XH D n] 1).1
attribute [local irreducible] zHC
def f59:=(⟨_,by conv=>rhs;reduce⟩:FD ⟨X,[]⟩ D n 59 Tryz.f59 h59 [XH D n,zHC D n]).1
theorem zHD {D:Dyn}(a:DG D)(n:Nat):FI 59 (f59 D n):=fk n (ms h59) a sn Tryz.func59
attribute [local irreducible] f59
def s8:Tb:=⟨X,[(50,f50 D n),(51,f51 D n),(52,f52 D n),(53,f53 D n),(54,f54 D n),(55,f55 D n),(56,f56 D n),(57,f57 D n),(58,f58 D n),(59,f59 D n)]⟩
def h8:Hint:=(.s .o (.s Hq (.s .o (.s Hq (.s (.s .o (.b [3,1,2,9] (.l [2,1,2,3,9,11] (.s (.s .o (.cr .o .o)) (.s (.b0 (.s .o (.s .o (.s Hq (.s .o (.b [1,1,2,3,9,11] (.l [0,1,2,3,9,11,12,18] (.s (.s .o (.cr .o .o)) (.s (.b0 .o) .o))))))))) .o))))) (.s .o Hr))))))
def zOz:=(⟨_,by conv=>rhs;reduce⟩:PD (s8 D n) D n 8 Tryz.f8 h8 [] 0).1
attribute [local irreducible] zOz
def zPE:=(⟨_,by conv=>rhs;reduce⟩:PD (s8 D n) D n 8 Tryz.f8 h8 [zOz D n] 1).1
attribute [local irreducible] zPE
def f8l2:=(⟨_,by conv=>rhs;reduce⟩:PD (s8 D n) D n 8 Tryz.f8 h8 [zOz D n,zPE D n] 2).1
attribute [local irreducible] f8l2
def f8b3:=(⟨_,by conv=>rhs;reduce⟩:PD (s8 D n) D n 8 Tryz.f8 h8 [zOz D n,zPE D n,f8l2 D n] 3).1
attribute [local irreducible] f8b3
def f8:=(⟨_,by conv=>rhs;reduce⟩:FD (s8 D n) D n 8 Tryz.f8 h8 [zOz D n,zPE D n,f8l2 D n,f8b3 D n]).1
theorem f8_ok {D:Dyn}(a:DG D)(n:Nat):FI 8 (f8 D n):=fk n (ms h8) a (sc (zHJ a n) (sc (zDY a n) (sc (zDX a n) (sc (zDW a n) (sc (zHG a n) (sc (zHF a n) (sc (zDV a n) (sc (zDU a n) (sc (zDT a n) (sc (zHD a n) sn)))))))))) Tryz.func8
attribute [local irreducible] f8
end Go.Eng.Sh
end
end
section
noncomputable section
namespace Go.Eng.Sh
open Go.Proofs
set_option maxRecDepth 100000
set_option maxHeartbeats 4000000
def tab (D:Dyn)(n:Nat):List (Nat×(List AV->AH->Option (AV×AH))):=[(8,f8 D n),(18,f18 D n),(19,f19 D n),(23,f23 D n),(24,f24 D n),(25,f25 D n),(26,f26 D n),(29,f29 D n),(32,f32 D n),(34,f34 D n),(38,f38 D n),(43,f43 D n),(50,f50 D n),(51,f51 D n),(52,f52 D n),(53,f53 D n),(54,f54 D n),(55,f55 D n),(56,f56 D n),(57,f57 D n),(58,f58 D n),(59,f59 D n),(60,f60 D n),(61,f61 D n),(62,f62 D n),(63,f63 D n),(64,f64 D n),(65,f65 D n),(68,f68 D n),(69,f69 D n),(72,f72 D n),(73,f73 D n),(74,f74 D n),(75,f75 D n),(76,f76 D n),(77,f77 D n),(79,f79 D n),(81,f81 D n),(82,f82 D n),(83,f83 D n),(84,f84 D n),(85,f85 D n),(86,f86 D n),(88,f88 D n),(89,f89 D n),(96,f96 D n),(104,f104 D n),(105,f105 D n),(106,f106 D n),(107,f107 D n),(108,f108 D n),(109,f109 D n),(110,f110 D n),(111,f111 D n),(112,f112 D n),(113,f113 D n),(114,f114 D n),(115,f115 D n),(118,f118 D n),(119,f119 D n),(120,f120 D n),(122,zKz D n),(123,f123 D n),(126,f126 D n),(127,f127 D n),(128,f128 D n),(129,f129 D n),(130,f130 D n),(131,f131 D n),(132,f132 D n),(137,f137 D n),(138,zNg D n),(149,f149 D n),(150,zFo D n),(151,zKy D n),(164,f164 D n),(165,f165 D n),(166,f166 D n),(167,f167 D n),(168,f168 D n),(171,f171 D n),(172,f172 D n),(173,f173 D n),(174,f174 D n),(175,f175 D n),(176,f176 D n),(177,f177 D n),(178,f178 D n),(179,f179 D n),(180,f180 D n),(193,f193 D n),(194,f194 D n),(195,f195 D n),(196,f196 D n),(206,f206 D n),(207,f207 D n),(208,f208 D n),(209,zJk D n),(210,f210 D n),(211,zJj D n),(212,f212 D n),(213,f213 D n),(214,f214 D n),(225,f225 D n),(226,f226 D n),(227,f227 D n),(230,f230 D n)]
def tabR (D:Dyn)(n:Nat):List ((Nat×Nat)×(Nat->ALoop->List AV->AH->Option (AV×AH))):=[((53,0),UV D n),((56,0),zAK D n),((60,0),zEM D n),((65,0),zEL D n),((112,0),XZ D n),((164,0),dL D n),((195,0),aU D n)]
theorem zOR (D:Dyn)(n:Nat)(a:DG D):SOk (tab D n):=sc (f8_ok a n) (sc (zHV a n) (sc (zDZ a n) (sc (zM6 a n) (sc (zM5 a n) (sc (zM4 a n) (sc (zM3 a n) (sc (zM2 a n) (sc (zM1 a n) (sc (zM0 a n) (sc (zLZ a n) (sc (zLY a n) (sc (zHJ a n) (sc (zDY a n) (sc (zDX a n) (sc (zDW a n) (sc (zHG a n) (sc (zHF a n) (sc (zDV a n) (sc (zDU a n) (sc (zDT a n) (sc (zHD a n) (sc (zLX a n) (sc (zLW a n) (sc (zLV a n) (sc (zLU a n) (sc (zLT a n) (sc (zLS a n) (sc (zLR a n) (sc (zDS a n) (sc (zHy a n) (sc (KM a n) (sc (zHx a n) (sc (zLQ a n) (sc (zLP a n) (sc (zBk a n) (sc (KL a n) (sc (zHw a n) (sc (zHv a n) (sc (zPG a n) (sc (zLO a n) (sc (zLN a n) (sc (zDR a n) (sc (zPF a n) (sc (zLM a n) (sc (zLL a n) (sc (vQ a n) (sc (cU a n) (sc (zNO a n) (sc (cT a n) (sc (BS a n) (sc (cS a n) (sc (QH a n) (sc (zIa a n) (sc (zCL a n) (sc (zNN a n) (sc (zNM a n) (sc (zCK a n) (sc (zCJ a n) (sc (zCI a n) (sc (zI9 a n) (sc (zI8 a n) (sc (zI7 a n) (sc (zCH a n) (sc (BR a n) (sc (zNK a n) (sc (zI5 a n) (sc (zCG a n) (sc (zI4 a n) (sc (BQ a n) (sc (BP a n) (sc (zH3 a n) (sc (zI3 a n) (sc (zCF a n) (sc (zI2 a n) (sc (zNI a n) (sc (zNH a n) (sc (zI1 a n) (sc (zI0 a n) (sc (zCE a n) (sc (zHZ a n) (sc (BO a n) (sc (zNG a n) (sc (zHY a n) (sc (zNF a n) (sc (zHX a n) (sc (zCD a n) (sc (zCC a n) (sc (zCB a n) (sc (zHW a n) (sc (zNE a n) (sc (zND a n) (sc (zHU a n) (sc (zHT a n) (sc (zHS a n) (sc (zNC a n) (sc (zCA a n) (sc (zCz a n) (sc (zCy a n) (sc (zHR a n) (sc (zHQ a n) (sc (zHP a n) (sc (zHO a n) (sc (zHN a n) (sc (zCx a n) (sc (zHM a n) (sc (zHL a n) sn))))))))))))))))))))))))))))))))))))))))))))))))))))))))))))))))))))))))))))))))))))))))))))))))))))))))))
theorem zMt (D:Dyn)(n:Nat)(a:DG D):ROk (tabR D n):=ROk.cons (zJT a n) (ROk.cons (zJR a n) (ROk.cons (zJP a n) (ROk.cons (zJN a n) (ROk.cons (zGG a n) (ROk.cons (zGC a n) (ROk.cons (zGz a n) (ROk.nil)))))))
def dy (n:Nat):Dyn:=dyOf tab tabR n
theorem dy_ok (n:Nat):DG (dy n):=zIi zOR zMt n
end Go.Eng.Sh
end
end
section
noncomputable section
namespace Go.Eng.Sh
open Go.Proofs
set_option maxRecDepth 1000000
set_option maxHeartbeats 4000000
theorem c51_r:zMO (f51 (dy 100000) 100000 [] ⟨.leaf,0⟩)=true:=by kernel_rfl
theorem c51 (w:World):Calls PP 51 #[] w fun e a=>e= .returned (.bool true)/\RowKit.Below w.heap.size w a:=zKT (zDY (dy_ok 100000) 100000) c51_r w
end Go.Eng.Sh
end
end
section
noncomputable section
namespace Go.Eng.Sh
open Go.Proofs
set_option maxRecDepth 1000000
set_option maxHeartbeats 4000000
def z51 (D:Dyn)(n:Nat)(vs:List AV)(H:AH):Option (AV×AH):=cloK (f51 D n) vs H
theorem zOI {D:Dyn}(a:DG D)(n:Nat):FI 51 (z51 D n):=zO1 ⟨_,Tryz.func51,rfl⟩ c51 (zDY a n)
variable (D:Dyn)(n:Nat)
attribute [local irreducible] bV bR hd cnd jn jb yF wnt chk XA bA jM bO YP bW eqP eqS eqM eqF eqA zOA ldN ld1 stN cvI zOE zBx zMd YI wR jY uI hU uW zBa zEY fd1 fdN fAd cP lnSl aZ apP apZ cpy wY zKZ pk3 s2a bxV d7 zH1 lkM upM dlM mkM callV nl gP tld zMa xN YB uO zDJ rfC mn2 mx2 aun qV xR qX isW aveq vE f85 f32 f86 YM zF7 f34 f118 dW VQ f119 f72 f18 f73 f127 ZG fL VN f126 bL fM WD VT f110 f137 xE uN dZ fO Y9 bN f109 vN uK Y0 ZB f227 f108 f81 KU f213 ZC VJ f177 dS VH f179 Y5 WB f131 f76 ZA VG f230 f225 f208 dQ KS f226 zFo zJk f171 f120 f74 f25 zBp VP VO zKz f172 zJj f174 f62 f210 f173 f175 uL uM kZ vP Y7 f123 f77 KK YL zF6 f79 f130 f212 Y2 KW f180 dU fK fJ WA VM f132 Y1 KT f214 dT fH fG KX VI f178 f176 ZF Y6 ZE f129 dV bK f128 f82 f138 zNg f89 f88 f38 zBl XF zHz f69 BM zHA f68 f84 f83 f29 f111 f23 f193 zBo f194 ZD vX W0 VL f149 fE zBn f207 f168 fF zE0 f195 aU f75 f26 f196 zKy BK zF4 zF5 f96 zKv zKx zKu zKw zHK f43 f19 KO XG KN KP Z9 zHB f64 f63 f52 f24 f104 f61 vO Y3 KY f166 Y4 f165 f107 f164 bJ KZ VK dL f105 f106 zHH f53 UV f56 zAK f112 XZ f206 f167 dY ZH Y8 WC VS zBq zE1 f115 zE2 f113 f114 f65 zEL f60 zKr zEM KQ zHE f58 f51 zBm zHI f50 BN KR zKs f57 f54 zCw zKt f55 XH zHC f59 zOz zPE f8l2 f8b3 f8 z51
def s8z:Tb:=⟨X,[(50,f50 D n),(51,z51 D n),(52,f52 D n),(53,f53 D n),(54,f54 D n),(55,f55 D n),(56,f56 D n),(57,f57 D n),(58,f58 D n),(59,f59 D n)]⟩
def h8z:Hint:=(.s .o (.s Hq (.s .o (.s Hq (.s (.s .o (.b [3,1,2,9] (.l [2,1,2,3,9,11] (.s (.s .o (.cr .o .o)) (.s (.b0 (.s .o (.s .o (.s Hq (.s .o (.b [1,1,2,3,9,11] (.l [0,1,2,3,9,11,12,18] (.s (.s .o (.cr .o .o)) (.s (.b0 .o) .o))))))))) .o))))) (.s .o Hr))))))
def BL:=(⟨_,by conv=>rhs;reduce⟩:PD (s8z D n) D n 8 Tryz.f8 h8z [] 0).1
attribute [local irreducible] BL
def zHu:=(⟨_,by conv=>rhs;reduce⟩:PD (s8z D n) D n 8 Tryz.f8 h8z [BL D n] 1).1
attribute [local irreducible] zHu
def zCv:=(⟨_,by conv=>rhs;reduce⟩:PD (s8z D n) D n 8 Tryz.f8 h8z [BL D n,zHu D n] 2).1
attribute [local irreducible] zCv
def zNB:=(⟨_,by conv=>rhs;reduce⟩:PD (s8z D n) D n 8 Tryz.f8 h8z [BL D n,zHu D n,zCv D n] 3).1
attribute [local irreducible] zNB
def f8z:=(⟨_,by conv=>rhs;reduce⟩:FD (s8z D n) D n 8 Tryz.f8 h8z [BL D n,zHu D n,zCv D n,zNB D n]).1
theorem f8z_ok {D:Dyn}(a:DG D)(n:Nat):FI 8 (f8z D n):=fk n (ms h8z) a (sc (zHJ a n) (sc (zOI a n) (sc (zDX a n) (sc (zDW a n) (sc (zHG a n) (sc (zHF a n) (sc (zDV a n) (sc (zDU a n) (sc (zDT a n) (sc (zHD a n) sn)))))))))) Tryz.func8
attribute [local irreducible] f8z
end Go.Eng.Sh
end
end
section
namespace Go.Nd
abbrev Str:=List UInt8
structure Ptr where
 at_:Int
 birth:Int
 sum:Int
 deriving DecidableEq
structure Node where
 leaf:Bool
 keys:List Str
 vals:List Str
 kids:List Ptr
 deriving DecidableEq
def be:Nat->Nat->Str
 | 0,_=>[]
 | k+1,n=>be k (n / 256)++[UInt8.ofNat n]
def bee (l:Str):Nat:=l.foldl (fun n c=>n*256+c.toNat) 0
theorem be_length: ∀k n,(be k n).length=k
 | 0,_=>rfl
 | k+1,n=>by simp[be,be_length k]
theorem bee_snoc (l:Str)(c:UInt8):bee (l++[c])=bee l*256+c.toNat:=by simp[bee]
theorem bee_be: ∀k n,bee (be k n)=n % 256 ^ k
 | 0,n=>by simp[be,bee,Nat.mod_one]
 | k+1,n=>by
  rw[be,bee_snoc,bee_be k,Nat.pow_succ,Nat.mul_comm (256 ^ k) 256,Nat.mod_mul];simp[UInt8.toNat_ofNat'];omega
theorem zEg (l:Str):be l.length (bee l)=l:=by
 suffices h: ∀(m:Nat) (l:Str),l.length=m->be m (bee l)=l from h _ l rfl
 intro m
 induction m with
 | zero=>intro l h;rw[zM h];rfl
 | succ m ih=>
  intro l h;obtain⟨l',c,rfl⟩: ∃l' c,l=l'++[c]:=⟨l.dropLast,l.getLast (by intro e;simp[e]at h),(List.dropLast_concat_getLast _).symm⟩;simp only[zL,qL,Nat.add_right_cancel_iff]at h;have a:c.toNat<256:=c.toNat_lt;rw[bee_snoc,be,show(bee l'*256+c.toNat) / 256=bee l' from by omega,ih l' h];congr 2;apply UInt8.toNat_inj.1;rw[UInt8.toNat_ofNat'];omega
theorem bee_lt (l:Str):bee l<256 ^ l.length:=by
 have:=bee_be l.length (bee l);rw[zEg]at this;rw[this];exact Nat.mod_lt _ (Nat.pow_pos (by omega))
def mayP (p:Ptr):Bool:=if p.at_=0 then decide (p.birth=0)&&decide (p.sum=0)else decide (0<p.at_)&&decide (p.at_<8192)&&decide (0<=p.birth)&&decide (p.birth<=2147483647)
def encP (p:Ptr):Str:=be 4 p.at_.toNat++(be 4 p.birth.toNat++be 8 p.sum.toNat)
def k9 (s:Str):Ptr:=⟨(bee (s.take 4):Nat),(bee ((s.drop 4).take 4):Nat),(bee (s.drop 8):Nat)⟩
def decP (s:Str):Option Ptr:=if mayP (k9 s)then some (k9 s)else none
theorem encP_length (p:Ptr):(encP p).length=16:=by simp[encP,be_length]
def sumOk (p:Ptr):Prop:=0<=p.sum/\p.sum<18446744073709551616
theorem zEO {p:Ptr}(h:mayP p=true)(f:sumOk p):k9 (encP p)=p:=by
 obtain⟨a,b,s⟩:=p;have i:(encP ⟨a,b,s⟩).take 4=be 4 a.toNat:=by simp[encP,be_length]
 have j:((encP ⟨a,b,s⟩).drop 4).take 4=be 4 b.toNat:=by
  rw[encP,List.drop_left' (by simp[be_length]),List.take_left' (by simp[be_length])]
 have m:(encP ⟨a,b,s⟩).drop 8=be 8 s.toNat:=by
  rw[encP,<-List.append_assoc,List.drop_left' (by simp[be_length])]
 simp only[k9,i,j,m,bee_be];simp only[sumOk]at f;simp only[mayP]at h;split at h
 .simp only[zC,zJ]at h;simp_all
 .simp only[zC,zJ]at h;congr 1<;>omega
theorem zF9 {s:Str}(h:s.length=16):encP (k9 s)=s:=by
 have a:=zEg (s.take 4);have f:=zEg ((s.drop 4).take 4);have i:=zEg (s.drop 8);rw[show(s.take 4).length=4 from by simp;omega]at a;rw[show((s.drop 4).take 4).length=4 from by simp;omega]at f;rw[show(s.drop 8).length=8 from by simp;omega]at i;simp only[encP,k9,qA,a,f,i];rw[show s.drop 8=(s.drop 4).drop 4 from by rw[List.drop_drop],List.take_append_drop,List.take_append_drop]
theorem zGJ {s:Str}(h:s.length=16):sumOk (k9 s):=by
 have:=bee_lt (s.drop 8);rw[show(s.drop 8).length=8 from by simp;omega]at this;simp only[sumOk,k9];omega
def encT (s:Str):Str:=UInt8.ofNat s.length::s
def mayK (k:Str):Bool:=decide (1<=k.length)&&decide (k.length<=40)
def rising (lt:Str->Str->Bool):List Str->Bool
 | []=>true
 | [_]=>true
 | a::b::l=>lt a b&&rising lt (b::l)
def kidOk (p:Ptr):Bool:=decide (1<=p.at_)&&decide (p.at_<8192)&&decide (0<=p.birth)&&decide (p.birth<=2147483647)
theorem kidOk_may {p:Ptr}(h:kidOk p=true):mayP p=true:=by
 simp only[kidOk,zC,zJ]at h;simp only[mayP];rw[if_neg (by omega)];simp only[zC,zJ];omega
def shaped (lt:Str->Str->Bool)(n:Node):Bool:=
 n.keys.all mayK&&rising lt n.keys&&
 (if n.leaf then decide (n.vals.length=n.keys.length)&&decide (n.kids=[])&&n.vals.all (fun v=>decide (v.length<=200))
  else decide (n.keys≠[])&&decide (n.vals=[])&&decide (n.kids.length=n.keys.length+1)&&n.kids.all kidOk)
def sumL (l:List Str):Nat:=l.foldl (fun n s=>n+(1+s.length)) 0
theorem zAq (l:List Str)(a:Nat):l.foldl (fun n s=>n+(1+s.length)) a=a+sumL l:=by
 induction l generalizing a with
 | nil=>simp[sumL]
 | cons s l ih=>simp only[List.foldl_cons,sumL];rw[ih,ih];omega
theorem sumL_cons (s:Str)(l:List Str):sumL (s::l)=1+s.length+sumL l:=by
 simp only[sumL,List.foldl_cons];rw[zAq,zAq];simp[sumL]
theorem sumL_append (l m:List Str):sumL (l++m)=sumL l+sumL m:=by
 induction l with
 | nil=>simp[sumL]
 | cons s l ih=>rw[List.cons_append,sumL_cons,sumL_cons,ih];omega
def size (n:Node):Nat:=2+16*n.kids.length+sumL n.keys+sumL n.vals
def may (lt:Str->Str->Bool)(n:Node):Bool:=shaped lt n&&decide (size n<=500)
def encL:List Str->List Str->Str
 | k::ks,v::vs=>encT k++(encT v++encL ks vs)
 | _,_=>[]
def encI:List Str->List Ptr->Str
 | k::ks,p::ps=>encT k++(encP p++encI ks ps)
 | _,_=>[]
def encB (n:Node):Str:=if n.leaf then encL n.keys n.vals else match n.kids with
 | p::ps=>encP p++encI n.keys ps
 | []=>[]
def encN (n:Node):Str:=be 2 n.keys.length++encB n
def kI:Str->Option (Str×Str)
 | []=>none
 | c::r=>if c.toNat<=r.length then some (r.take c.toNat,r.drop c.toNat)else none
def uR (s:Str):Option (Ptr×Str):=if 16<=s.length then match decP (s.take 16)with | some p=>some (p,s.drop 16) | none=>none else none
def YN:Nat->Str->Option (List Str×List Str×Str)
 | 0,s=>some ([],[],s)
 | k+1,s=>match kI s with
  | some (a,s)=>match kI s with
   | some (b,s)=>match YN k s with
    | some (ks,vs,s)=>some (a::ks,b::vs,s)
    | none=>none
   | none=>none
  | none=>none
def YO:Nat->Str->Option (List Str×List Ptr×Str)
 | 0,s=>some ([],[],s)
 | k+1,s=>match kI s with
  | some (a,s)=>match uR s with
   | some (b,s)=>match YO k s with
    | some (ks,vs,s)=>some (a::ks,b::vs,s)
    | none=>none
   | none=>none
  | none=>none
theorem decL_snoc: ∀(k:Nat) (s:Str),YN (k+1) s=(YN k s).bind fun x=>(kI x.2.2).bind fun a=>(kI a.2).bind fun b=>some (x.1++[a.1],x.2.1++[b.1],b.2)
 | 0,s=>by
  simp only[YN,Option.bind_some]
  cases kI s with
  | none=>rfl
  | some a=>obtain⟨a,f⟩:=a;simp only[Option.bind_some];cases kI f with
   | none=>rfl
   | some b=>rfl
 | k+1,s=>by
  rw[YN]
  conv=>rhs;rw[YN]
  cases kI s with
  | none=>rfl
  | some a=>
   obtain⟨a,f⟩:=a;simp only
   cases kI f with
   | none=>rfl
   | some b=>
    obtain⟨b,h⟩:=b;simp only;rw[decL_snoc k h]
    cases YN k h with
    | none=>rfl
    | some x=>
     obtain⟨ks,vs,r⟩:=x;simp only[Option.bind_some]
     cases kI r with
     | none=>rfl
     | some c=>obtain⟨c,i⟩:=c;simp only[Option.bind_some];cases kI i with
      | none=>rfl
      | some d=>rfl
theorem decI_snoc: ∀(k:Nat) (s:Str),YO (k+1) s=(YO k s).bind fun x=>(kI x.2.2).bind fun a=>(uR a.2).bind fun b=>some (x.1++[a.1],x.2.1++[b.1],b.2)
 | 0,s=>by
  simp only[YO,Option.bind_some]
  cases kI s with
  | none=>rfl
  | some a=>obtain⟨a,f⟩:=a;simp only[Option.bind_some];cases uR f with
   | none=>rfl
   | some b=>rfl
 | k+1,s=>by
  rw[YO]
  conv=>rhs;rw[YO]
  cases kI s with
  | none=>rfl
  | some a=>
   obtain⟨a,f⟩:=a;simp only
   cases uR f with
   | none=>rfl
   | some b=>
    obtain⟨b,h⟩:=b;simp only;rw[decI_snoc k h]
    cases YO k h with
    | none=>rfl
    | some x=>
     obtain⟨ks,vs,r⟩:=x;simp only[Option.bind_some]
     cases kI r with
     | none=>rfl
     | some c=>obtain⟨c,i⟩:=c;simp only[Option.bind_some];cases uR i with
      | none=>rfl
      | some d=>rfl
theorem decL_all (s:Str)(k:Nat):(List.range k).all (fun i=>(YN (i+1) s).isSome)=(YN k s).isSome:=by
 induction k with
 | zero=>simp[YN]
 | succ k ih=>
  rw[List.range_succ,List.all_append,ih];simp only[List.all_cons,List.all_nil,Bool.and_true];rw[decL_snoc]
  cases YN k s<;>simp
theorem decI_all (s:Str)(k:Nat):(List.range k).all (fun i=>(YO (i+1) s).isSome)=(YO k s).isSome:=by
 induction k with
 | zero=>simp[YO]
 | succ k ih=>
  rw[List.range_succ,List.all_append,ih];simp only[List.all_cons,List.all_nil,Bool.and_true];rw[decI_snoc]
  cases YO k s<;>simp
def decB (leaf:Bool)(k:Nat)(s:Str):Option (Node×Str):=
 if leaf then match YN k s with
  | some (ks,vs,s)=>some (⟨true,ks,vs,[]⟩,s)
  | none=>none
 else match uR s with
  | some (p,s)=>match YO k s with
   | some (ks,ps,s)=>some (⟨false,ks,[],p::ps⟩,s)
   | none=>none
  | none=>none
def decN (lt:Str->Str->Bool)(leaf:Bool)(s:Str):Option Node:=
 if s.length<=500/\2<=s.length then match decB leaf (bee (s.take 2)) (s.drop 2)with
  | some (n,r)=>if r=[]/\may lt n=true then some n else none
  | none=>none
 else none
theorem JG (s r:Str)(h:s.length<256):kI (encT s++r)=some (s,r):=by
 have e:(UInt8.ofNat s.length).toNat=s.length:=by rw[UInt8.toNat_ofNat'];omega
 simp only[encT,List.cons_append,kI,e];rw[if_pos (by simp)];simp
theorem UI {s a r:Str}(h:kI s=some (a,r)):s=encT a++r/\a.length<256:=by
 cases s with
 | nil=>simp[kI]at h
 | cons c s=>
  simp only[kI]at h;split at h
  .simp only[zB,zK]at h;obtain⟨rfl,rfl⟩:=h;have f:c.toNat<256:=c.toNat_lt;have hl:(s.take c.toNat).length=c.toNat:=by simp;omega
   refine⟨?_,by omega⟩;simp only[encT,hl,List.cons_append,List.take_append_drop];congr 1;apply UInt8.toNat_inj.1;rw[UInt8.toNat_ofNat'];omega
  .simp at h
theorem zAl {p:Ptr}(r:Str)(h:mayP p=true)(a:sumOk p):uR (encP p++r)=some (p,r):=by
 have hl:=encP_length p;have f:(encP p++r).take 16=encP p:=List.take_left' hl;have i:(encP p++r).drop 16=r:=List.drop_left' hl;simp only[uR,f,i];rw[if_pos (by simp[hl])];simp only[decP,zEO h a,h,if_true]
theorem takeP_eq {s r:Str}{p:Ptr}(h:uR s=some (p,r)):s=encP p++r/\mayP p=true/\sumOk p:=by
 simp only[uR]at h;split at h
 .rename_i hl;split at h
  .rename_i q a;simp only[zB,zK]at h;obtain⟨rfl,rfl⟩:=h;have f:(s.take 16).length=16:=by simp;omega
   simp only[decP]at a;split at a
   .rename_i hm;simp only[zB]at a;subst a;exact⟨by rw[zF9 f,List.take_append_drop],hm,zGJ f⟩
   .simp at a
  .simp at h
 .simp at h
theorem encL_snoc: ∀(ks vs:List Str) (k v:Str),ks.length=vs.length->encL (ks++[k]) (vs++[v])=encL ks vs++(encT k++encT v)
 | [],[],k,v,_=>by simp[encL]
 | [],_::_,_,_,h=>by simp at h
 | _::_,[],_,_,h=>by simp at h
 | a::ks,b::vs,k,v,h=>by simp[encL,encL_snoc ks vs k v (by simpa using h)]
theorem encI_snoc: ∀(ks:List Str) (vs:List Ptr) (k:Str) (v:Ptr),ks.length=vs.length->encI (ks++[k]) (vs++[v])=encI ks vs++(encT k++encP v)
 | [],[],k,v,_=>by simp[encI]
 | [],_::_,_,_,h=>by simp at h
 | _::_,[],_,_,h=>by simp at h
 | a::ks,b::vs,k,v,h=>by simp[encI,encI_snoc ks vs k v (by simpa using h)]
theorem zE5: ∀(ks vs:List Str),ks.length=vs.length->(∀k∈ks,k.length<256)->(∀v∈vs,v.length<256)->YN ks.length (encL ks vs)=some (ks,vs,[])
 | [],[],_,_,_=>rfl
 | [],_::_,h,_,_=>by simp at h
 | _::_,[],h,_,_=>by simp at h
 | k::ks,v::vs,h,hk,hv=>by
  have f:=zE5 ks vs (by simpa using h) (fun x a=>hk x (zE _ a)) (fun x a=>hv x (zE _ a));simp only[zO,YN,encL,JG k _ (hk k (zF ..)),JG v _ (hv v (zF ..)),f]
theorem zE6: ∀(ks:List Str) (a:List Ptr),ks.length=a.length->(∀k∈ks,k.length<256)->(∀p∈a,mayP p=true/\sumOk p)->YO ks.length (encI ks a)=some (ks,a,[])
 | [],[],_,_,_=>rfl
 | [],_::_,h,_,_=>by simp at h
 | _::_,[],h,_,_=>by simp at h
 | k::ks,v::vs,h,hk,hv=>by
  have j:=zE6 ks vs (by simpa using h) (fun x f=>hk x (zE _ f)) (fun x f=>hv x (zE _ f));have i:=hv v (zF ..);simp only[zO,YO,encI,JG k _ (hk k (zF ..)),zAl _ i.1 i.2,j]
theorem decL_eq: ∀ {k:Nat} {s:Str} {ks vs:List Str} {r:Str},YN k s=some (ks,vs,r)->s=encL ks vs++r/\ks.length=k/\vs.length=k
 | 0,s,ks,vs,r,h=>by
  simp only[YN,zB,zK]at h;obtain⟨rfl,rfl,rfl⟩:=h;simp[encL]
 | k+1,s,ks,vs,r,h=>by
  simp only[YN]at h;split at h
  .rename_i a q f;split at h
   .rename_i b t i;split at h
    .rename_i p vs' u j;simp only[zB,zK]at h;obtain⟨rfl,rfl,rfl⟩:=h;obtain⟨rfl,_⟩:=UI f;obtain⟨rfl,_⟩:=UI i;obtain⟨rfl,m,o⟩:=decL_eq j;exact⟨by simp[encL],by simp[m],by simp[o]⟩
    .simp at h
   .simp at h
  .simp at h
theorem decI_eq: ∀ {k:Nat} {s:Str} {ks:List Str} {vs:List Ptr} {r:Str},YO k s=some (ks,vs,r)->s=encI ks vs++r/\ks.length=k/\vs.length=k/\ ∀p∈vs,sumOk p
 | 0,s,ks,vs,r,h=>by
  simp only[YO,zB,zK]at h;obtain⟨rfl,rfl,rfl⟩:=h;simp[encI]
 | k+1,s,ks,vs,r,h=>by
  simp only[YO]at h;split at h
  .rename_i a v f;split at h
   .rename_i b x i;split at h
    .rename_i u vs' y j;simp only[zB,zK]at h;obtain⟨rfl,rfl,rfl⟩:=h;obtain⟨rfl,_⟩:=UI f;obtain⟨rfl,_,m⟩:=takeP_eq i;obtain⟨rfl,o,q,t⟩:=decI_eq j;exact⟨by simp[encI],by simp[o],by simp[q],by simpa using⟨m,t⟩⟩
    .simp at h
   .simp at h
  .simp at h
theorem encL_length: ∀(ks vs:List Str),ks.length=vs.length->(encL ks vs).length=sumL ks+sumL vs
 | [],[],_=>rfl
 | [],_::_,h=>by simp at h
 | _::_,[],h=>by simp at h
 | k::ks,v::vs,h=>by
  simp only[encL,zL,encT,zO,encL_length ks vs (by simpa using h),sumL_cons];omega
theorem encI_length: ∀(ks:List Str) (vs:List Ptr),ks.length=vs.length->(encI ks vs).length=sumL ks+16*vs.length
 | [],[],_=>rfl
 | [],_::_,h=>by simp at h
 | _::_,[],h=>by simp at h
 | k::ks,v::vs,h=>by
  simp only[encI,zL,encT,zO,encP_length,encI_length ks vs (by simpa using h),sumL_cons];omega
theorem encN_length {lt:Str->Str->Bool}{n:Node}(h:shaped lt n=true):(encN n).length=size n:=by
 obtain⟨leaf,ks,vs,a⟩:=n;simp only[shaped,zC]at h;obtain⟨_,h⟩:=h
 cases leaf with
 | true=>
  simp only[if_true,zC,zJ]at h;simp only[encN,encB,if_true,zL,be_length,encL_length _ _ h.1.1.symm,size,h.1.2,qD];omega
 | false=>
  simp only[Bool.false_eq_true,if_false,zC,zJ]at h
  cases a with
  | nil=>simp at h
  | cons p a=>
   have e:ks.length=a.length:=by have:=h.1.2;simp at this;omega
   simp only[encN,encB,Bool.false_eq_true,if_false,zL,be_length,encP_length,encI_length _ _ e,size,zO,h.1.1.2];simp[sumL];omega
theorem zEX {lt:Str->Str->Bool}{n:Node}(h:shaped lt n=true): ∀k∈n.keys,k.length<256:=by
 intro k a;simp only[shaped,zC,List.all_eq_true]at h;have:=h.1.1 k a;simp only[mayK,zC,zJ]at this;omega
theorem sumL_ge (l:List Str):l.length<=sumL l:=by
 induction l with
 | nil=>simp
 | cons s l ih=>rw[sumL_cons,zO];omega
theorem decN_encN {lt:Str->Str->Bool}{n:Node}(h:may lt n=true)(i: ∀p∈n.kids,sumOk p):decN lt n.leaf (encN n)=some n:=by
 have hm:=h;simp only[may,zC,zJ]at h;obtain⟨a,s⟩:=h;have o:=encN_length a;have j:=zEX a;have z:n.keys.length<=500:=by have:=sumL_ge n.keys;simp only[size]at s;omega
 have t:(encN n).take 2=be 2 n.keys.length:=by simp[encN,be_length]
 have u:(encN n).drop 2=encB n:=by rw[encN,List.drop_left' (be_length 2 _)]
 have x:bee (be 2 n.keys.length)=n.keys.length:=by rw[bee_be];omega
 simp only[decN];rw[if_pos ⟨by omega,by rw[o,size];omega⟩,t,u,x];have key:decB n.leaf n.keys.length (encB n)=some (n,[]):=by
  obtain⟨leaf,ks,vs,f⟩:=n;simp only[shaped,zC]at a;obtain⟨_,a⟩:=a
  cases leaf with
  | true=>
   simp only[if_true,zC,zJ,List.all_eq_true]at a;simp only[decB,encB,if_true];rw[zE5 ks vs a.1.1.symm j (fun v y=>by have:=a.2 v y;omega)];simp[a.1.2]
  | false=>
   simp only[Bool.false_eq_true,if_false,zC,zJ,List.all_eq_true]at a
   cases f with
   | nil=>simp at a
   | cons p f=>
    have e:ks.length=f.length:=by have:=a.1.2;simp at this;omega
    simp only[decB,encB,Bool.false_eq_true,if_false];rw[zAl _ (kidOk_may (a.2 p (zF ..))) (i p (zF ..))];simp only;rw[zE6 ks f e j (fun q m=>⟨kidOk_may (a.2 q (zE _ m)),i q (zE _ m)⟩)];simp[a.1.1.2]
 rw[key];simp[hm]
end Go.Nd
end
section
namespace Go.Eng
theorem kH {b:List AV->AH->Rs}{H:AH}{r:Rs}(st:Nat->List AV)(N:Nat)(step: ∀i,i<N->b (st i) H=some (.norm (st (i+1)),H))(f: ∀n,yF (n+1) b (st N) H=r): ∀n,N<n->yF n b (st 0) H=r:=by
 suffices h: ∀(m i n:Nat),i+m=N->m<n->yF n b (st i) H=r from fun n a=>h N 0 n (by omega) a
 intro m
 induction m with
 | zero=>
  intro i n hi a;obtain⟨n,rfl⟩: ∃k,n=k+1:=⟨n - 1,by omega⟩;rw[show i=N by omega];exact f n
 | succ m ih=>
  intro i n hi a;obtain⟨n,rfl⟩: ∃k,n=k+1:=⟨n - 1,by omega⟩;rw[jF (step i (by omega))];exact ih (i+1) n (by omega) (by omega)
theorem jP {α:Type}(l:List α)(i:Nat)(h:i<l.length):l.take (i+1)=l.take i++[l[i]]:=by
 rw[zU h]
theorem YV (H:AH)(l:List AV)(e sz o:Nat)(g:Bool):ld1 (.ptr H.next o) (H.push (.cells l e sz g))=l[o]? :=by simp only[ld1,AH.push_get_eq,aW]
theorem zKg (H:AH)(l:List AV)(e sz o n:Nat)(g:Bool):ldN n (.ptr H.next o) (H.push (.cells l e sz g))=(xX l o n).map .agg:=by
 simp only[ldN,AH.push_get_eq];cases xX l o n<;>rfl
theorem zCn {H:AH}{A:Nat}(o:Nat)(x:AObj)(h:A<H.next):ld1 (.ptr A o) (H.push x)=ld1 (.ptr A o) H:=by simp only[ld1,AH.push_get_ne _ _ h]
theorem zNl {H:AH}{A:Nat}(o n:Nat)(x:AObj)(h:A<H.next):ldN n (.ptr A o) (H.push x)=ldN n (.ptr A o) H:=by simp only[ldN,AH.push_get_ne _ _ h]
theorem wI {b:List AV->AH->Rs}(N:Nat)(I:Nat->List AV->AH->Prop)(step: ∀i vs H,i<N->I i vs H-> ∃vs' H',b vs H=some (.norm vs',H')/\I (i+1) vs' H'):
  ∀(n:Nat) (vs:List AV) (H:AH),I 0 vs H->N<n-> ∃m vs' H',yF n b vs H=yF (m+1) b vs' H'/\I N vs' H':=by
 suffices h: ∀(m i n:Nat) (vs:List AV) (H:AH),i+m=N->m<n->I i vs H-> ∃m vs' H',yF n b vs H=yF (m+1) b vs' H'/\I N vs' H' from fun n vs H j a=>h N 0 n vs H (by omega) a j
 intro m
 induction m with
 | zero=>
  intro i n vs H hi a f;obtain⟨n,rfl⟩: ∃k,n=k+1:=⟨n - 1,by omega⟩;exact⟨n,vs,H,rfl,by rw[show N=i by omega];exact f⟩
 | succ m ih=>
  intro i n vs H hi a f;obtain⟨n,rfl⟩: ∃k,n=k+1:=⟨n - 1,by omega⟩;obtain⟨vs',H',o,p⟩:=step i vs H (by omega) f;rw[jF o];exact ih (i+1) n vs' H' (by omega) (by omega) p
def notN:Ex->Bool
 | .norm _=>false
 | _=>true
theorem zHa {e:Ex}{H:AH}{K:List AV->AH->Rs}(h:notN e=true):jn (some (e,H)) K=some (e,H):=by cases e<;>first | rfl | (simp[notN]at h)
theorem aY {b:List AV->AH->Rs}(N:Nat)(good:Nat->Bool)(I:Nat->List AV->AH->Prop)(Good s:Ex->AH->Prop)
  (step: ∀i vs H,i<N->I i vs H->good i=true-> ∃vs' H',b vs H=some (.norm vs',H')/\I (i+1) vs' H')
  (y: ∀i vs H,i<N->I i vs H->good i=false-> ∃e H',b vs H=some (e,H')/\notN e=true/\s e H')
  (x: ∀vs H,I N vs H-> ∃e H',b vs H=some (e,H')/\notN e=true/\Good e H'):
  ∀(n:Nat) (vs:List AV) (H:AH),I 0 vs H->N<n-> ∃e H',yF n b vs H=some (e,H')/\if(List.range N).all good then Good e H' else s e H':=by
 suffices h: ∀(m i n:Nat) (vs:List AV) (H:AH),i+m=N->m<n->I i vs H->(∀j,j<i->good j=true)-> ∃e H',yF n b vs H=some (e,H')/\if(List.range N).all good then Good e H' else s e H' from
  fun n vs H z t=>h N 0 n vs H (by omega) t z (fun j v=>by omega)
 intro m
 induction m with
 | zero=>
  intro i n vs H hi t a q;obtain⟨n,rfl⟩: ∃k,n=k+1:=⟨n - 1,by omega⟩;rw[show i=N by omega]at a q;obtain⟨e,H',f,o,u⟩:=x vs H a;refine⟨e,H', ?_, ?_⟩
  .show jn (b vs H) _=_;rw[f,zHa o]
  .rw[if_pos (by simpa[List.all_eq_true]using q)];exact u
 | succ m ih=>
  intro i n vs H hi t a q;obtain⟨n,rfl⟩: ∃k,n=k+1:=⟨n - 1,by omega⟩
  cases p:good i with
  | true=>
   obtain⟨vs',H',f,o⟩:=step i vs H (by omega) a p;rw[jF f];exact ih (i+1) n vs' H' (by omega) (by omega) o (fun j v=>by
    rcases Nat.lt_succ_iff_lt_or_eq.1 v with h | rfl
    .exact q j h
    .exact p)
  | false=>
   obtain⟨e,H',f,o,u⟩:=y i vs H (by omega) a p;refine⟨e,H', ?_, ?_⟩
   .show jn (b vs H) _=_;rw[f,zHa o]
   .rw[if_neg (by
     simp only[List.all_eq_true,List.mem_range];intro h;have:=h i (by omega);rw[p]at this;cases this)];exact u
theorem zFq (a:Bool)(x y:Rs):wnt qX a x y=y:=by cases a<;>rfl
theorem zEi (k k':IntKind){a:Int}{s:Nat}(h:0<=a)(f:s<=k.bits):jM .shr (.int k a) (.int k' (s:Int))=some (.int k (a / 2 ^ s)):=by
 show fI (a.fdiv ((2 ^ (Nat.min s k.bits):Nat):Int)) (fun r=>some (AV.int k r))=_;rw[zF3,show Nat.min s k.bits=s from Nat.min_eq_left f,Int.fdiv_eq_ediv_of_nonneg _ (Int.natCast_nonneg _)];simp
theorem zEj (k k':IntKind)(a:Int){s:Nat}(f:s<=k.bits):jM .shl (.int k a) (.int k' (s:Int))=some (.int k (k.wrap (a*2 ^ s))):=by
 show mkI k (a*(2 ^ (Nat.min s k.bits):Nat))=_;rw[wQ,show Nat.min s k.bits=s from Nat.min_eq_left f];simp
theorem yP {v:AV}(h:isCell v=true):y6 v=[v]:=by cases v<;>first | rfl | (simp[isCell]at h)
theorem Rw.isCell {k n:Nat}{H:AH}{v:AV}{l:List AV}(h:Rw k H v n l):Eng.isCell v=true:=by
 obtain⟨_,⟨rfl,_⟩ | ⟨rfl,_⟩ | ⟨A,off,cc,c,e,sz,g,rfl,_⟩⟩:=h<;>rfl
theorem QO (k:IntKind)(a b:Int):WM (cQ k) (.int k a) (.int k b)=some (decide (a=b)):=by
 have:keq k k=true:=by rw[kO];simp
 simp only[WM,Nat.beq_refl,this,Bool.and_self,cond_true,kP];congr 1
theorem yL {k n:Nat}{H:AH}{v:AV}{l:List AV}(h:Rw k H v n l):aveq v v=true:=by
 obtain⟨_,⟨rfl,_⟩ | ⟨rfl,_⟩ | ⟨A,off,cc,c,e,sz,g,rfl,_⟩⟩:=h
 .rfl
 .rfl
 .simp[aveq]
theorem j8 {x:Option AV}{v:AV}{K:Rs}(h:x=some v)(a:aveq v v=true):chk x v K=K:=by subst h;simp[chk,a]
theorem qT {H:AH}{A:Nat}{l:List AV}{e:TypeId}{sz:Nat}{g:Bool}(h:H.h.get A=some (.cells l e sz g))(o:Nat):ld1 (.ptr A o) H=l[o]? :=by simp only[ld1,h,aW]
theorem qY {H:AH}{A:Nat}{l:List AV}{e:TypeId}{sz:Nat}{g:Bool}(h:H.h.get A=some (.cells l e sz g))(o n:Nat):ldN n (.ptr A o) H=(xX l o n).map .agg:=by simp only[ldN,h];cases xX l o n<;>rfl
theorem zPq (b c:Bool)(H:AH)(K:AV->AH->Rs):
  jn (if b=false then some (.norm [.bool c],H)else some (.norm [qX],H)) (fun vs H=>hd vs fun y _=>bV (if b=true then some (.bool true)else some y) fun x=>K x H)=K (.bool (b||c)) H:=by
 cases b<;>simp[jn,hd,bV]
theorem zPp (p:Prop)[Decidable p](b:Bool)(H:AH)(K:AV->AH->Rs):
  jn (if ¬p then some (.norm [.bool b],H)else some (.norm [qX],H)) (fun vs H=>hd vs fun y _=>bV (if p then some (.bool true)else some y) fun x=>K x H)=K (.bool (decide p||b)) H:=by
 by_cases h:p<;>simp[h,jn,hd,bV]
theorem lg:(∀(p:Prop) [Decidable p] (b:Bool) (H:AH) (K:AV->AH->Rs),jn (if ¬p then some (.norm [.bool b],H)else some (.norm [qX],H)) (fun vs H=>hd vs fun y _=>bV (if p then some (.bool true)else some y) fun x=>K x H)=K (.bool (decide p||b)) H)/\
  (∀(p:Prop) [Decidable p] (b:Bool) (H:AH) (K:AV->AH->Rs),jn (if p then some (.norm [.bool b],H)else some (.norm [qX],H)) (fun vs H=>hd vs fun y _=>bV (if p then some y else some (.bool false)) fun x=>K x H)=K (.bool (decide p&&b)) H)/\
  (∀(p:Prop) [Decidable p] (b:Bool) (H:AH) (K:AV->AH->Rs),jn (if p then some (.norm [qX],H)else some (.norm [.bool b],H)) (fun vs H=>hd vs fun y _=>bV (if p then some (.bool true)else some y) fun x=>K x H)=K (.bool (decide p||b)) H)/\
  (∀(b c:Bool) (H:AH) (K:AV->AH->Rs),jn (if b=false then some (.norm [.bool c],H)else some (.norm [qX],H)) (fun vs H=>hd vs fun y _=>bV (if b=true then some (.bool true)else some y) fun x=>K x H)=K (.bool (b||c)) H)/\
  (∀(p:Prop) [Decidable p],(decide p=true)=p)/\(∀(p:Prop) [Decidable p],(decide p=false)= ¬p)/\(∀(b:Bool),decide (b=true)=b):=
 ⟨fun p _ b H K=>zPp p b H K,fun p _ b H K=>zPs p b H K,fun p _ b H K=>jn_or p b H K,zPq,fun p _=>zJ,fun p _=>by simp,fun b=>by simp⟩
theorem ev:(∀(v:AV) (vs:List AV) (K:AV->List AV->Rs),hd (v::vs) K=K v vs)/\
 (∀(K:Rs),nl [] K=K)/\
 (∀(v:AV) (K:AV->Rs),bV (some v) K=K v)/\
 (∀(v:AV) (H:AH) (K:AV->AH->Rs),bR (some (v,H)) K=K v H)/\
 (∀(vs:List AV) (H:AH) (K:List AV->AH->Rs),jn (some (.norm vs,H)) K=K vs H)/\
 (∀(v:AV) (H:AH) (K:List AV->AH->Rs),jn (some (.ret v,H)) K=some (.ret v,H))/\
 (∀(i:Nat) (vs:List AV) (H:AH) (K:List AV->AH->Rs),jn (some (.exit i vs,H)) K=some (.exit i vs,H))/\
 (∀(id:Nat) (vs:List AV) (H:AH) (K:List AV->AH->Rs),jb id (some (.norm vs,H)) K=K vs H)/\
 (∀(id:Nat) (v:AV) (H:AH) (K:List AV->AH->Rs),jb id (some (.ret v,H)) K=some (.ret v,H))/\
 (∀(id:Nat) (vs:List AV) (H:AH) (K:List AV->AH->Rs),jb id (some (.exit id vs,H)) K=K vs H)/\
 (∀(v:AV) (H:AH),gP (some (.ret v,H))=some (v,H))/\
 (∀(b:Bool) (x y:Rs),cnd (.bool b) x y=if b then x else y)/\
 (∀(b h:Bool) (x y:Rs),wnt (.bool b) h x y=if b=h then x else y)/\
 (∀(b:Bool) (x y:Option AV),pk3 (some (.bool b)) x y=if b then x else y)/\
 (∀(k:IntKind) (a b:Int),jM .add (.int k a) (.int k b)=some (.int k (k.wrap (a+b))))/\
 (∀(k:IntKind) (a b:Int),jM .sub (.int k a) (.int k b)=some (.int k (k.wrap (a - b))))/\
 (∀(k:IntKind) (a b:Int),jM .mul (.int k a) (.int k b)=some (.int k (k.wrap (a*b))))/\
 (∀(k:IntKind) (a b:Int),jM .eql (.int k a) (.int k b)=some (.bool (decide (a=b))))/\
 (∀(k:IntKind) (a b:Int),jM .neq (.int k a) (.int k b)=some (.bool (decide (a≠b))))/\
 (∀(k:IntKind) (a b:Int),jM .lss (.int k a) (.int k b)=some (.bool (decide (a<b))))/\
 (∀(k:IntKind) (a b:Int),jM .leq (.int k a) (.int k b)=some (.bool (decide (a<=b))))/\
 (∀(k:IntKind) (a b:Int),jM .gtr (.int k a) (.int k b)=some (.bool (decide (b<a))))/\
 (∀(k:IntKind) (a b:Int),jM .geq (.int k a) (.int k b)=some (.bool (decide (b<=a))))/\
 (∀(k k':IntKind) (z:Int),cvI k (.int k' z)=some (.int k (k.wrap z)))/\
 (∀(a b:Bool),YP .eql (.bool a) (.bool b)=some (.bool (a==b)))/\
 (∀(a b:Bool),YP .neq (.bool a) (.bool b)=some (.bool (!(a==b))))/\
 (∀(b:Bool),aun .not (.bool b)=some (.bool !b))/\
 (∀(l:Str),cP (S l)=some (.int .i64 (l.length:Nat)))/\
 (∀(l m:Str),bO .eql (S l) (S m)=some (.bool (decide (l=m))))/\
 (∀(l m:Str),bO .neq (S l) (S m)=some (.bool (decide (l≠m))))/\
 (∀(l m:Str),bO .lss (S l) (S m)=some (.bool (ltS l m)))/\
 (∀(l m:Str),bO .geq (S l) (S m)=some (.bool (!ltS l m)))/\
 (∀(A o:Nat),xR (.ptr A o)=some (.ptr A o))/\
 (∀(f A o:Nat),fAd f (.ptr A o)=some (.ptr A (o+f)))/\
 (∀(e:TypeId) (x:AV),bxV e x=some (.cells (y6 x) e 1 false,fun A=> .ptr A 0))/\
 (∀(l:List AV),y6 (.agg l)=l)/\
 (∀(H:AH) (l:List AV) (e sz o:Nat) (g:Bool),ld1 (.ptr H.next o) (H.push (.cells l e sz g))=l[o]?)/\
 (∀(H:AH) (l:List AV) (e sz o n:Nat) (g:Bool),ldN n (.ptr H.next o) (H.push (.cells l e sz g))=(xX l o n).map .agg)/\
 (∀(a:AV) (l:List AV),(a::l)[0]? =some a)/\
 (∀(a:AV) (l:List AV) (i:Nat),(a::l)[i+1]? =l[i]?)/\
 (∀(n:Nat),0+n=n)/\
 (∀(n:Nat),Int.ofNat n=(n:Int))/\
 (∀(z:Int), -9223372036854775808<=z->z<=9223372036854775807->IntKind.wrap .i64 z=z):=
 ⟨cR,zGZ,bVs,bRs,BE,zPo,zNn,zNo,zPt,zNp,zDt,zFd,zOK,zP7,J4,zL3,zEl,zL5,zEk,ZQ,zEm,zEn,zEo,zCO,zIS,WS,zO6,xI,u0,xV,uZ,xW,zK0,zNA,fun _ _=>rfl,fun _=>rfl,YV,zKg,fun _ _=>List.getElem?_cons_zero,fun _ _ _=>List.getElem?_cons_succ,Nat.zero_add,fun _=>rfl,fun _ j p=>wrap_i64 j p⟩
def eZ:=And.intro zFq (And.intro ev (And.intro lg ew))
def yV (k e:Nat)(H:AH)(v:AV)(n:Nat)(l:List AV):Prop:=
 Own k e H v n l\/(l.length=n*k/\ ∃A a g,v= .slice A 0 n (2*n)/\A<H.next/\H.h.get A=some (.cells l a k g)/\n=0)
theorem yV.len {k e n:Nat}{H:AH}{v:AV}{l:List AV}(h:yV k e H v n l):l.length=n*k:=by
 rcases h with h | h
 .exact h.1
 .exact h.1
theorem yV.row {k e n:Nat}{H:AH}{v:AV}{l:List AV}(h:yV k e H v n l):Rw k H v n l:=by
 rcases h with h | ⟨a,A,f,g,rfl,i,j,m⟩
 .exact h.row
 .exact⟨a, .inr (.inr ⟨A,0,2*n,l,f,k,g,rfl,j,i,by omega,by rw[List.drop_zero,zP (by omega)]⟩)⟩
theorem yV.mono {k e n:Nat}{S:Nat->Prop}{H H':AH}{v:AV}{l:List AV}(h:yV k e H v n l)(s:Stp S H H')(a: ∀A,Blk v A-> ¬S A):yV k e H' v n l:=by
 rcases h with h | ⟨j,A,m,g,rfl,f,o,i⟩
 .exact .inl (h.mono s a)
 .exact .inr ⟨j,A,m,g,rfl,zY f s.next,by rw[s.keep A f (a A (Blk.slice.2 rfl))];exact o,i⟩
theorem yV.lt {k e n:Nat}{H:AH}{v:AV}{l:List AV}(h:yV k e H v n l){B:Nat}(a:Blk v B):B<H.next:=by
 rcases h with⟨_,⟨rfl,_⟩ | ⟨A,rfl,f,_⟩⟩ | ⟨_,A,i,g,rfl,f,_⟩
 .exact(Blk.nil.1 a).elim
 .rw[Blk.slice.1 a];exact f
 .rw[Blk.slice.1 a];exact f
theorem yV.app1 {k e bytes n m:Nat}{H:AH}{v:AV}{l new:List AV}(i:H.ok)(o:0<k)(h:yV k e H v n l)(hm:new.length=m*k)(z:n+m<=1000000000)(hb:bytes<=1000):
  ∃p H',Eng.app1 e k bytes m new v H=some (p,H')/\yV k e H' p (n+m) (l++new)/\Stp (Blk v) H H'/\(∀B,Blk p B->Blk v B\/H.next<=B):=by
 by_cases q:m=0
 .subst q;have:new=[]:=zM (by simpa using hm);subst this;rcases h with h | ⟨q,A,j,g,rfl,s,t,J⟩
  .obtain⟨H',f,u,y,L⟩:=WU (bytes:=bytes) i o h;exact⟨v,H',f, .inl (by simpa using u),y.mono (fun _ _ x=>x.elim),fun B a=> .inl a⟩
  .have C:yN l g k 0 (2*n) k=n:=by
    simp only[yN,show((2*n) % 2).beq 0=true by rw[Nat.mul_mod_right];rfl,cond_true,Nat.mul_div_cancel_left n (show 0<2 by omega)]
   have N:Nat.blt 0 k=true:=by rw[zR];exact o
   have F:setAt l (0+n*k) []=some l:=by rw[jW (by simp;omega)];simp
   have K:(H.put A (.cells l j k g)).h.get A=some (.cells l j k g):=by rw[AH.put_get,if_pos rfl]
   refine⟨.slice A 0 n (2*n),H.put A (.cells l j k g), ?_, .inr ⟨by simpa using q,A,j,g,rfl,s,by simpa using K,by omega⟩,(Stp.refl i).put s _ (.inr (Blk.slice.2 rfl)),fun B a=> .inl a⟩;simp only[Eng.app1,t,zFp,C,Nat.add_zero,Nat.ble_eq_true_of_le (Nat.le_refl n),cond_true,N,F,zBR,yQ,yG]
 .rcases h with h | ⟨hl,A,j,g,rfl,s,t,J⟩
  .obtain⟨H',f,u,y,L⟩:=J5 (bytes:=bytes) i o h hm (by omega) z hb;exact⟨_,H',f, .inl u,y,fun B a=> .inr (by rw[Blk.slice.1 a];exact Nat.le_refl _)⟩
  .have f:=WV (k:=k) (e:=e) (bytes:=bytes) (n:=n) (m:=m) (off:=0) (new:=new) i t (by omega) (by omega) z hb;rw[List.drop_zero,zP (by omega)]at f;refine⟨_,_,f, .inl ⟨by simp[hl,hm,Nat.add_mul], .inr ⟨H.next,rfl,Nat.lt_succ_self _,AH.push_get_eq _ _⟩⟩,(Stp.refl i).push _,fun B a=> .inr (by rw[Blk.slice.1 a];exact Nat.le_refl _)⟩
theorem yV.app {k e bytes n m:Nat}{H:AH}{v s:AV}{l new:List AV}(i:H.ok)(f:0<k)(h:yV k e H v n l)(j:srcOf k s H=some (m,new))(hm:new.length=m*k)(o:qW new=true)(p:n+m<=1000000000)(hb:bytes<=1000):
  ∃a H',apP e k bytes v s H=some (a,H')/\yV k e H' a (n+m) (l++new)/\Stp (Blk v) H H'/\(∀B,Blk a B->Blk v B\/H.next<=B):=by
 obtain⟨a,H',q,t⟩:=h.app1 (bytes:=bytes) (e:=e) i f hm p hb;exact⟨a,H',by simp only[apP,j,o,cond_true,q],t⟩
theorem yV.isCell {k e n:Nat}{H:AH}{v:AV}{l:List AV}(h:yV k e H v n l):isCell v=true:=h.row.isCell
def Box (H:AH)(A:Nat)(v:AV):Prop:= ∃e,H.h.get A=some (.cells [v] e 1 false)
theorem Box.ld {H:AH}{A:Nat}{v:AV}(h:Box H A v):ld1 (.ptr A 0) H=some v:=by
 obtain⟨e,h⟩:=h;rw[qT h];rfl
theorem Box.st {H:AH}{A:Nat}{v x:AV}(h:Box H A v)(a:H.ok)(f:Eng.isCell x=true): ∃H',stN 1 (.ptr A 0) x H=some (qX,H')/\Box H' A x/\Stp (fun B=>B=A) H H':=by
 obtain⟨e,h⟩:=h;exact⟨_,bF h (by decide) f (by simp),⟨e,by rw[AH.put_get,if_pos rfl];rfl⟩,(Stp.refl a).put (a.lt h) _ (.inr rfl)⟩
theorem Box.mono {S:Nat->Prop}{H H':AH}{A:Nat}{v:AV}(h:Box H A v)(a:H.ok)(s:Stp S H H')(f: ¬S A):Box H' A v:=by
 obtain⟨e,h⟩:=h;exact⟨e,by rw[s.keep A (a.lt h) f];exact h⟩
theorem Box.lt {H:AH}{A:Nat}{v:AV}(h:Box H A v)(a:H.ok):A<H.next:=by obtain⟨e,h⟩:=h;exact a.lt h
theorem JM {k:Nat}(H:AH)(c:List AV)(e:TypeId)(sz:Nat)(g:Bool)(m cc:Nat)(a:c.length=m*k):srcOf k (.slice H.next 0 m cc) (H.push (.cells c e sz g))=some (m,c):=by
 simp only[srcOf,AH.push_get_eq];rw[yY _ _ _ (.inr (by omega)),List.drop_zero,zP (by omega)]
end Go.Eng
end
section
namespace Go.Nd
theorem rising_ix (lt:Str->Str->Bool): ∀l:List Str,rising lt l=true↔ ∀i (h:i+1<l.length),lt l[i] l[i+1]=true
 | []=>by simp[rising]
 | [a]=>by simp[rising]
 | a::b::l=>by
  have f:=rising_ix lt (b::l);simp only[rising,zC,f];constructor
  .rintro⟨h1,h2⟩ i h
   cases i with
   | zero=>exact h1
   | succ i=>exact h2 i (by simpa using h)
  .intro h;exact⟨h 0 (by simp),fun i hi=>h (i+1) (by simpa using hi)⟩
theorem rising_take {lt:Str->Str->Bool}{l:List Str}(h:rising lt l=true)(k:Nat):rising lt (l.take k)=true:=by
 rw[rising_ix]at h⊢;intro i hi;simp only[zQ]at hi;simp only[List.getElem_take];exact h i (by omega)
theorem rising_drop {lt:Str->Str->Bool}{l:List Str}(h:rising lt l=true)(k:Nat):rising lt (l.drop k)=true:=by
 rw[rising_ix]at h⊢;intro i hi;simp only[zV]at hi;simp only[List.getElem_drop];exact h (k+i) (by omega)
theorem J6 {α:Type}{f:α->Bool}{l:List α}(h:l.all f=true)(k:Nat):(l.take k).all f=true:=by
 simp only[List.all_eq_true]at h⊢;exact fun x a=>h x (List.mem_of_mem_take a)
theorem J7 {α:Type}{f:α->Bool}{l:List α}(h:l.all f=true)(k:Nat):(l.drop k).all f=true:=by
 simp only[List.all_eq_true]at h⊢;exact fun x a=>h x (List.mem_of_mem_drop a)
def cutA (n:Node)(k:Nat):Node:=if n.leaf then⟨true,n.keys.take k,n.vals.take k,[]⟩else⟨false,n.keys.take k,[],n.kids.take (k+1)⟩
def aG (n:Node)(k:Nat):Node:=if n.leaf then⟨true,n.keys.drop k,n.vals.drop k,[]⟩else⟨false,n.keys.drop (k+1),[],n.kids.drop (k+1)⟩
def fC (a:Node)(sep:Str)(b:Node):Node:=if a.leaf then⟨true,a.keys++b.keys,a.vals++b.vals,[]⟩else⟨false,a.keys++([sep]++b.keys),[],a.kids++b.kids⟩
def cutOk (n:Node)(k:Nat):Prop:=1<=k/\k+(if n.leaf then 1 else 2)<=n.keys.length
theorem cut_shaped {lt:Str->Str->Bool}{n:Node}{k:Nat}(h:shaped lt n=true)(p:cutOk n k):shaped lt (cutA n k)=true/\shaped lt (aG n k)=true:=by
 obtain⟨leaf,keys,vals,kids⟩:=n;obtain⟨s,m⟩:=p
 cases leaf with
 | true=>
  simp only[shaped,if_true,zC,zJ]at h m;obtain⟨⟨a,f⟩,⟨i,q⟩,j⟩:=h;simp only[shaped,cutA,aG,if_true,zC,zJ];exact⟨⟨⟨J6 a k,rising_take f k⟩,⟨by simp[i],trivial⟩,J6 j k⟩,⟨J7 a k,rising_drop f k⟩,⟨by simp[i],trivial⟩,J7 j k⟩
 | false=>
  simp only[shaped,Bool.false_eq_true,if_false,zC,zJ]at h m;obtain⟨⟨a,f⟩,⟨⟨i,q⟩,j⟩,o⟩:=h;simp only[shaped,cutA,aG,Bool.false_eq_true,if_false,zC,zJ];refine⟨⟨⟨J6 a k,rising_take f k⟩,⟨⟨?_,trivial⟩, ?_⟩,J6 o _⟩,⟨J7 a _,rising_drop f _⟩,⟨⟨?_,trivial⟩, ?_⟩,J7 o _⟩
  .intro e;have:=congrArg List.length e;rw[zQ]at this;simp only[qD]at this;omega
  .rw[zQ,zQ];omega
  .intro e;have:=congrArg List.length e;rw[zV]at this;simp only[qD]at this;omega
  .rw[zV,zV];omega
theorem sumL_drop_le (l:List Str)(k:Nat):sumL (l.drop k)<=sumL l:=by
 have:sumL l=sumL (l.take k)+sumL (l.drop k):=by rw[<-sumL_append,List.take_append_drop]
 omega
theorem sumL_take_le (l:List Str)(k:Nat):sumL (l.take k)<=sumL l:=by
 have:sumL l=sumL (l.take k)+sumL (l.drop k):=by rw[<-sumL_append,List.take_append_drop]
 omega
theorem ZY (l:List Str)(k:Nat):sumL l=sumL (l.take k)+sumL (l.drop k):=by rw[<-sumL_append,List.take_append_drop]
theorem cut_size {lt:Str->Str->Bool}{n:Node}{k:Nat}(h:shaped lt n=true)(f:cutOk n k):size (cutA n k)<size n/\size (aG n k)<size n:=by
 obtain⟨leaf,keys,vals,kids⟩:=n;obtain⟨o,a⟩:=f;have p:=ZY keys k;have i:=sumL_ge (keys.take k);have j:=sumL_ge (keys.drop k);simp only[zQ,zV]at i j
 cases leaf with
 | true=>
  simp only[if_true]at a;simp only[shaped,if_true,zC,zJ]at h;have q:=ZY vals k;simp only[cutA,aG,if_true,size,qD,h.2.1.2];omega
 | false=>
  simp only[Bool.false_eq_true,if_false]at a;simp only[shaped,Bool.false_eq_true,if_false,zC,zJ]at h;have s:=h.2.1.2;have t:=ZY keys (k+1);have m:=sumL_ge (keys.take (k+1));simp only[zQ]at m;simp only[cutA,aG,Bool.false_eq_true,if_false,size,h.2.1.1.2,zQ,zV];have:sumL []=0:=rfl;omega
end Go.Nd
end
section
namespace Go.Eng.Sh
open Go.Nd (Ptr sumL)
theorem j7 (D:Dyn)(n:Nat)(s:Str)(H:AH):f137 D n [S s] H=some (.bool (Nd.mayK s),H):=by
 simp only[f137,cR,zGZ,xI,bVs,zEo,zEm,zOK,zPr,BE,zP7,zK1,zDt];have a:(Int.ofNat 1<=((s.length:Nat):Int))=(1<=s.length):=by simp;omega
 have f:(((s.length:Nat):Int)<=Int.ofNat 40)=(s.length<=40):=by simp;omega
 simp only[a,f,Nd.mayK];by_cases h:1<=s.length<;>simp[h,bVs,gP]
theorem sumL_nil:sumL []=0:=rfl
theorem JI (l:List Str)(i:Nat)(hi:i<l.length):sumL (l.take (i+1))=sumL (l.take i)+(1+l[i].length)/\sumL (l.take i)+(1+l[i].length)<=sumL l:=by
 have a:sumL l=sumL (l.take i)+(1+l[i].length+sumL (l.drop (i+1))):=by
  rw[<-Nd.sumL_cons,<-zX hi,<-Nd.sumL_append,List.take_append_drop]
 refine⟨?_,by omega⟩;rw[jP l i hi,Nd.sumL_append,Nd.sumL_cons];simp[sumL]
theorem size0 (D:Dyn)(f:Nat){H:AH}{ks:AV}{l:List Str}(h:Strs H ks l)(x:AV)(a:Int)(n:Nat)(t:0<=a)(m:l.length<n)(hb:a+sumL l<=1000000000000):
  yF n (bL D f) [x, .int .i64 a,ks, .int .i64 (l.length:Nat), .int .i64 (0:Nat)] H=some (.exit 0 [x, .int .i64 (a+sumL l)],H):=by
 have key:=kH (b:=bL D f) (H:=H) (r:=some (.exit 0 [x, .int .i64 (a+sumL l)],H)) (fun i=>[x, .int .i64 (a+sumL (l.take i)),ks, .int .i64 (l.length:Nat), .int .i64 (i:Nat)]) l.length (fun i hi=>by
  obtain⟨p,o,q⟩:=h.at hi;obtain⟨j,u⟩:=JI l i hi;have s:=Nd.sumL_ge l;simp(disch:=omega) [bL,cR,bVs,ZQ,zFd,hi,o,q,xI,J4,wrap_i64,j,Int.add_assoc]) (fun n=>y7 (by
  simp[bL,cR,bVs,ZQ,zFd])) n m
 simpa[sumL_nil]using key
theorem size1 (D:Dyn)(f:Nat){H:AH}{ks:AV}{l:List Str}(h:Strs H ks l)(a:Int)(n:Nat)(t:0<=a)(m:l.length<n)(hb:a+sumL l<=1000000000000):
  yF n (fM D f) [.int .i64 a,ks, .int .i64 (l.length:Nat), .int .i64 (0:Nat)] H=some (.exit 2 [.int .i64 (a+sumL l)],H):=by
 have key:=kH (b:=fM D f) (H:=H) (r:=some (.exit 2 [.int .i64 (a+sumL l)],H)) (fun i=>[.int .i64 (a+sumL (l.take i)),ks, .int .i64 (l.length:Nat), .int .i64 (i:Nat)]) l.length (fun i hi=>by
  obtain⟨p,o,q⟩:=h.at hi;obtain⟨j,u⟩:=JI l i hi;have s:=Nd.sumL_ge l;simp(disch:=omega) [fM,cR,bVs,ZQ,zFd,hi,o,q,xI,J4,wrap_i64,j,Int.add_assoc]) (fun n=>y7 (by
  simp[fM,cR,bVs,ZQ,zFd])) n m
 simpa[sumL_nil]using key
def qZ (p:Ptr):List AV:=[.int .i64 p.at_, .int .i64 p.birth, .int .u64 p.sum]
def u4 (H:AH)(v:AV)(l:List Ptr):Prop:=Rw 3 H v l.length (l.flatMap qZ)
def bE (H:AH)(v:AV)(n:Nd.Node):Prop:= ∃ks vs a,v= .agg [.bool n.leaf,ks,vs,a]/\Strs H ks n.keys/\Strs H vs n.vals/\u4 H a n.kids
theorem u4.lnSl {H:AH}{v:AV}{l:List Ptr}(h:u4 H v l):Eng.lnSl v=some (.int .i64 (l.length:Int)):=Rw.lnSl h
theorem u4.prs {H H':AH}{v:AV}{l:List Ptr}(h:u4 H v l)(s:Prs H H'):u4 H' v l:=Rw.prs h s
theorem zPD: ∀(l:List Ptr) (i:Nat) (hi:i<l.length),((l.flatMap qZ).drop (i*3)).take 3=qZ l[i]
 | [],i,hi=>by simp at hi
 | p::l,0,_=>rfl
 | p::l,i+1,hi=>by
  have:=zPD l i (by simpa using hi);rw[show(i+1)*3=i*3+3 from by omega];exact this
theorem u4.at {H:AH}{v:AV}{l:List Ptr}(h:u4 H v l){i:Nat}(hi:i<l.length): ∃p,(∀κ (z:Int),z=(i:Int)->hU 3 v (.int κ z)=some p)/\Eng.ldN 3 p H=some (.agg (qZ l[i])):=by
 obtain⟨p,f,a⟩:=Rw.ldN h hi;rw[zPD l i hi]at a;exact⟨p,f,a⟩
theorem bE.prs {H H':AH}{v:AV}{n:Nd.Node}(h:bE H v n)(s:Prs H H'):bE H' v n:=by
 obtain⟨ks,vs,a,rfl,f,i,j⟩:=h;exact⟨ks,vs,a,rfl,f.prs s,i.prs s,j.prs s⟩
def small (n:Nd.Node):Prop:=n.kids.length<=100000/\sumL n.keys<=100000000/\sumL n.vals<=100000000
theorem JN (D:Dyn)(n:Nat){H:AH}(f:H.ok){v:AV}{nd:Nd.Node}(h:bE H v nd)(m:small nd)(t:200000000<=n):
  Ret (f110 D n [v] H) fun r H'=>r= .int .i64 (Nd.size nd:Nat)/\Prs H H':=by
 obtain⟨ks,vs,o,rfl,i,j,p⟩:=h;obtain⟨u,x,y⟩:=m;have a:Prs H (H.push (.cells [.bool nd.leaf,ks,vs,o] 119 1 false)):=(Stp.refl f).push _;have q:=Nd.sumL_ge nd.keys;have s:=Nd.sumL_ge nd.vals;simp(disch:=omega) only[f110,ev,yU f,i.lnSl,j.lnSl,p.lnSl,size0 D n (i.prs a),VT,size1 D n (j.prs a),WD];apply Ret.pure;refine⟨?_,a⟩;simp only[Nd.size,AV.int.injEq,true_and];omega
open Go.Nd (be mayP encP)
theorem zIQ: ∀(i n:Nat),be (i+1) n=UInt8.ofNat (n / 256 ^ i)::be i n
 | 0,n=>by simp[be]
 | i+1,n=>by
  rw[be,zIQ i (n / 256),Nat.div_div_eq_div_mul,Nat.mul_comm 256,<-Nat.pow_succ];rfl
theorem zMM {c m:List AV}{o:Nat}{x:AV}(h:o<c.length):(c.take (o+1)++m).set o x=c.take o++(x::m):=by
 have hl:(c.take o).length=o:=by simp;omega
 rw[jP c o h,List.append_assoc,List.set_append_right _ _ (by omega),hl];simp
theorem zGI (D:Dyn)(n:Nat){H:AH}(q:H.ok){A off k cc:Nat}{c:List AV}{e:TypeId}{g:Bool}(z:Nat)(t:H.h.get A=some (.cells c e 1 g))(T:off+k<=c.length)(O:k<=8)(U:100<=n):
  ∃H',f119 D n [.slice A off k cc, .int .u64 (z:Nat)] H=some (.tuple [],H')/\H'.h.get A=some (.cells (c.take off++(qU (be k z)++c.drop (off+k))) e 1 g)/\Stp (fun B=>B=A) H H'/\H'.next=H.next:=by
 have S:=q.lt t;have key:=wI (b:=dW D n) k (fun i vs H'=>vs=[.slice A off k cc, .int .u64 (z:Nat), .int .i64 (k:Nat), .int .i64 (i:Nat)]/\i<=k/\H'.h.get A=some (.cells (c.take (off+(k - i))++(qU (be i z)++c.drop (off+k))) e 1 g)/\Stp (fun B=>B=A) H H'/\H'.next=H.next)
  (fun i vs H' hi ⟨v,hik,hg,hst,hnx⟩=>by
   subst v;have hb:Nat.blt (k - 1 - i) k=true:=by rw[zR];omega
   have N:(((k:Nat):Int) - 1 - (i:Int))=((k - 1 - i:Nat):Int):=by omega
   have y:hU 1 (.slice A off k cc) (.int .i64 ((k - 1 - i:Nat):Int))=some (.ptr A (off+(k - 1 - i))):=by
    simp only[hU,yK _ (show(0:Int)<=((k - 1 - i:Nat):Int)by omega),qA,hb,cond_true,yG,Nat.mul_one]
   have j:=bF (x:= .int .u8 ((((z / 256 ^ i % 256:Nat):Nat)):Int)) (o:=off+(k - 1 - i)) hg (by decide) rfl (by simp[qU,Nd.be_length];omega);have u:(c.take (off+(k - i))++(qU (be i z)++c.drop (off+k))).set (off+(k - 1 - i)) (.int .u8 (((z / 256 ^ i % 256:Nat)):Int))=c.take (off+(k - (i+1)))++(qU (be (i+1) z)++c.drop (off+k)):=by
    rw[show off+(k - i)=off+(k - 1 - i)+1 by omega,zMM (by omega),zIQ,show k - (i+1)=k - 1 - i by omega];simp[qU]
   have C:((z:Nat):Int) / 2 ^ (8*i)=((z / 256 ^ i:Nat):Int):=by
    rw[<-zLF];simp
   refine⟨_,H'.put A (.cells (c.take (off+(k - (i+1)))++(qU (be (i+1) z)++c.drop (off+k))) e 1 g), ?_,rfl,by omega,by rw[AH.put_get,if_pos rfl], ?_,hnx⟩
   .rw[u]at j;have p:=zEi .u64 .i64 (a:=(z:Nat)) (s:=8*i) (by omega) (by simp[IntKind.bits];omega);rw[C]at p;have h8:(((8:Nat):Int)*(i:Int))=((8*i:Nat):Int):=by omega
    have F:IntKind.wrap .u8 ((z / 256 ^ i:Nat):Int)=((z / 256 ^ i % 256:Nat):Int):=by rw[wrap_u8];omega
    have f:((k:Nat):Int) - ((1:Nat):Int) - (i:Int)=((k - 1 - i:Nat):Int):=by omega
    simp(disch:=omega) only[dW,ev,lnSl,f,y,h8,p,F,j];simp[hi]
   .exact hst.put (by omega) _ (.inr rfl)) n _ H ⟨rfl,Nat.zero_le _,by simpa[be,qU]using t,Stp.refl q,rfl⟩ (by omega)
 obtain⟨m,vs',H',f,rfl,_,J,K,L⟩:=key;refine⟨H', ?_,by simpa using J,K,L⟩;have hl:yF (m+1) (dW D n) [.slice A off k cc, .int .u64 (z:Nat), .int .i64 (k:Nat), .int .i64 (k:Nat)] H'=some (.exit 0 [],H'):=y7 (by simp[dW,ev]);rw[hl]at f;simp only[f119,ev,lnSl,f,VQ]
theorem zNQ (p q:Ptr):eqA [6,6,10] (.agg (qZ p)) (.agg (qZ q))=some (decide (p=q)):=by
 obtain⟨a,b,c⟩:=p;obtain⟨i,b',c'⟩:=q;have f:=fun x y=>QO .i64 x y
 have h:=fun x y=>QO .u64 x y
 simp only[cQ]at f h;simp only[eqA,qZ,dO,Nat.succ_eq_add_one,Nat.beq_refl,zO,qD,Bool.and_self,cond_true,wX,f,h];by_cases j:a=i<;>by_cases m:b=b'<;>by_cases o:c=c'<;>simp[j,m,o]
theorem zKP (b:Bool):bW .eql (some b)=some (.bool b):=by simp only[bW,j6]
theorem zLH (D:Dyn)(n:Nat){H:AH}(f:H.ok)(p:Ptr): ∃H',f118 D n [.agg (qZ p)] H=some (.bool (mayP p),H')/\Prs H H':=by
 refine⟨H.push (.cells (qZ p) 42 1 false), ?_,(Stp.refl f).push _⟩;have h:eqA [6,6,10] (.agg (qZ p)) (.agg (qZ ⟨0,0,0⟩))=_:=zNQ p ⟨0,0,0⟩;obtain⟨a,b,c⟩:=p;simp only[qZ]at h;simp only[f118,ev,yU f,qZ,xX,takeN,Option.map_some,lg,wY,uJ];by_cases i:a=0
 .subst i;simp only[show((0:Nat):Int)=0 from rfl,if_true,h,zKP,ev,mayP];simp
 .simp only[show((0:Nat):Int)=0 from rfl,if_neg i,ev,mayP];rfl
def Z (n:Nat):List AV:=List.replicate n (.int .u8 ((0:Nat):Int))
theorem zMX:rep 16 [.int .u8 ((0:Nat):Int)]=Z 16:=rfl
theorem zCe (D:Dyn)(n:Nat){H:AH}(m:H.ok){A off k cc:Nat}{pre f a:List AV}{e:TypeId}{g:Bool}(z:Nat)(o:H.h.get A=some (.cells (pre++(f++a)) e 1 g))(hp:pre.length=off)(t:f.length=k)(j:k<=8)(p:100<=n):
  ∃H',f119 D n [.slice A off k cc, .int .u64 (z:Nat)] H=some (.tuple [],H')/\H'.h.get A=some (.cells (pre++(qU (be k z)++a)) e 1 g)/\Stp (fun B=>B=A) H H'/\H'.next=H.next:=by
 obtain⟨H',q,i,s⟩:=zGI D n m (cc:=cc) (k:=k) (off:=off) z o (by simp;omega) j p;refine⟨H',q, ?_,s⟩;have hd:(pre++(f++a)).drop (off+k)=a:=by rw[<-List.append_assoc,List.drop_left' (by rw[zL];omega)]
 rw[List.take_left' hp,hd]at i;exact i
theorem slA (A lo hi:Nat)(f:lo<=hi)(i:hi<=16)(o:lo<16):jY 16 1 (.ptr A 0) (some (.int .i64 (lo:Nat))) (some (.int .i64 (hi:Nat))) none=some (.slice A lo (hi - lo) (2*(16 - lo))):=by
 have j:Nat.ble hi 16=true:=by rw[q9];exact i
 have m:Nat.ble lo hi=true:=by rw[q9];exact f
 have a:Nat.beq 16 lo=false:=by rw[Bool.eq_false_iff];intro h;have:=Nat.eq_of_beq_eq_true h;omega
 simp[jY,yZ,yK,YQ,j,m,a,yG,show((32 % 2).beq 0)=true from rfl,show(32 / 2).beq lo=false from a,show Nat.blt 0 1=true from rfl]
theorem zG6 (A:Nat):jY 16 1 (.ptr A 0) none (some (.int .i64 ((4:Nat):Int))) none=some (.slice A 0 4 32):=rfl
theorem zG5 (A:Nat):jY 16 1 (.ptr A 0) (some (.int .i64 ((8:Nat):Int))) none none=some (.slice A 8 8 16):=rfl
theorem zOY (A:Nat):jY 16 1 (.ptr A 0) none none none=some (.slice A 0 16 32):=rfl
theorem zBt (D:Dyn)(n:Nat){H:AH}(F:H.ok){p:Ptr}(hp:mayP p=true)(hs:Nd.sumOk p)(o:100<=n): ∃H',f72 D n [.agg (qZ p)] H=some (.tuple [S (encP p), .int .i64 (0:Nat)],H')/\Prs H H':=by
 have q:Prs H (H.push (.cells (qZ p) 42 1 false)):=(Stp.refl F).push _;obtain⟨f,h2,i⟩:=zLH D n q.ok p;have O:xX (qZ p) 0 3=some (qZ p):=rfl;have h0: ∃a b s:Nat,p=⟨a,b,s⟩/\a<4294967296/\b<4294967296/\s<18446744073709551616:=by
  obtain⟨a,b,s⟩:=p;simp only[Nd.sumOk]at hs;have h1:0<=a/\a<8192/\0<=b/\b<=2147483647:=by
   simp only[mayP]at hp;split at hp
   .simp only[zC,zJ]at hp;omega
   .simp only[zC,zJ]at hp;omega
  exact⟨a.toNat,b.toNat,s.toNat,by congr 1<;>omega,by omega,by omega,by omega⟩
 obtain⟨a,b,s,rfl,ha,hb,a1⟩:=h0;have t: ∀x:Nat,x<18446744073709551616->IntKind.wrap .u64 (x:Int)=(x:Int):=fun x hx=>by rw[wrap_u64];omega
 have j:Prs f (f.push (.cells (Z 16) 232 1 false)):=(Stp.refl i.ok).push _;have J:(f.push (.cells (Z 16) 232 1 false)).h.get f.next=some (.cells ([]++(Z 4++Z 12)) 232 1 false):=AH.push_get_eq _ _
 have T:(f.push (.cells (Z 16) 232 1 false)).next=f.next+1:=rfl
 generalize U:f.push (.cells (Z 16) 232 1 false)=H3 at j J T;obtain⟨H4,e4,K,st4,n4⟩:=zCe D n j.ok (cc:=32) (k:=4) (off:=0) a J rfl (by simp[Z]) (by omega) o;rw[show[]++(qU (be 4 a)++Z 12)=qU (be 4 a)++(Z 4++Z 8)from rfl]at K;obtain⟨H5,e5,L,m,n5⟩:=zCe D n st4.ok (cc:=24) (k:=4) (off:=4) b K (by simp[qU,Nd.be_length]) (by simp[Z]) (by omega) o;rw[<-List.append_assoc,show Z 8=Z 8++[]from rfl]at L;obtain⟨u,e6,v,y,n6⟩:=zCe D n m.ok (cc:=16) (k:=8) (off:=8) s L (by simp[qU,Nd.be_length]) (by simp[Z]) (by omega) o;have z:H3.h.get H.next=some (.cells (qZ ⟨a,b,s⟩) 42 1 false):=j.get i.ok (i.get q.ok (AH.push_get_eq _ _))
 have a0:H.next<f.next:=by have:=i.next;rw[AH.push_next]at this;omega
 have C:H4.h.get H.next=some (.cells (qZ ⟨a,b,s⟩) 42 1 false):=by rw[st4.keep _ (by have:=j.next;omega) (by omega)];exact z
 have V:H5.h.get H.next=some (.cells (qZ ⟨a,b,s⟩) 42 1 false):=by rw[m.keep _ (by have:=j.next;omega) (by omega)];exact C
 have N:qU (be 4 a)++qU (be 4 b)++(qU (be 8 s)++[])=qU (encP ⟨a,b,s⟩):=by simp[encP,qU]
 rw[N]at v;have W:zBx (.slice f.next 0 16 32) u=some (S (encP ⟨a,b,s⟩)):=ZK ⟨by simp[qU,Nd.encP_length], .inr (.inr ⟨_,_,_,_,_,_,_,rfl,v,by have:=(y.ok).lt v;exact this,by simp[qU,Nd.encP_length],by simp[zP,qU,Nd.encP_length]⟩)⟩ (by simp)
 refine⟨u, ?_, ?_⟩
 .simp only[f72,ev,yU F,O,Option.map_some,h2,hp];simp only[ev,yU i.ok,Bool.not_true,Bool.false_eq_true,if_false,zMX,U,zG6,zG5,zOY,slA _ 4 8 (by omega) (by omega) (by omega),qT z,qT C,qT V,qZ,t a (by omega),t b (by omega),t s (by omega),e4,e5,e6,W]
 .have Y:Stp (fun B=>B=f.next) H3 u:=(st4.trans m).trans y
  exact(q.trans i).trans (j.fresh Y (fun A hA=>by omega))
theorem XW (lt:Str->Str->Bool): ∀l:List Str,Nd.rising lt l=true↔ ∀i (h:i+1<l.length),lt l[i] l[i+1]=true
 | []=>by simp[Nd.rising]
 | [a]=>by simp[Nd.rising]
 | a::b::l=>by
  have f:=XW lt (b::l);simp only[Nd.rising,zC,f];constructor
  .rintro⟨h1,h2⟩ i h
   cases i with
   | zero=>exact h1
   | succ i=>exact h2 i (by simpa using h)
  .intro h;exact⟨h 0 (by simp),fun i hi=>h (i+1) (by simpa using hi)⟩
def zF1 (l:List Str)(i:Nat):Bool:=Nd.mayK (l.getD i [])&&(decide (i=0)||ltS (l.getD (i - 1) []) (l.getD i []))
theorem zHn (l:List Str):(List.range l.length).all (zF1 l)=(l.all Nd.mayK&&Nd.rising ltS l):=by
 rw[Bool.eq_iff_iff,zC,XW];simp only[List.all_eq_true,List.mem_range,zF1,zC,Bool.or_eq_true,zJ];constructor
 .intro h;refine⟨fun x a=> ?_,fun i hi=> ?_⟩
  .obtain⟨i,hi,rfl⟩:=List.mem_iff_getElem.1 a;have:=(h i hi).1;rwa[zT,zH hi]at this
  .have:=(h (i+1) hi).2;simp only[Nat.add_eq_zero_iff,Nat.one_ne_zero,and_false,false_or,Nat.add_sub_cancel]at this;rwa[zT,zH (by omega),zT,zH hi]at this
 .rintro⟨h1,h2⟩ i hi
  refine⟨?_, ?_⟩
  .rw[zT,zH hi];exact h1 _ (qE hi)
  .by_cases f:i=0
   .exact .inl f
   .right;have:=h2 (i - 1) (by omega);rw[zT,zH (show i - 1<l.length by omega),zT,zH hi];simpa[show i - 1+1=i by omega]using this
theorem zBT {α:Type}(l:List α)(d:α)(f:α->Bool):(List.range l.length).all (fun i=>f (l.getD i d))=l.all f:=by
 rw[Bool.eq_iff_iff];simp only[List.all_eq_true,List.mem_range];constructor
 .intro h x a;obtain⟨i,hi,rfl⟩:=List.mem_iff_getElem.1 a;have:=h i hi;rwa[zT,zH hi]at this
 .intro h i hi;rw[zT,zH hi];exact h _ (qE hi)
theorem wK {α:Type}{l:List α}{i:Nat}{d:α}(h:i<l.length):l.getD i d=l[i]:=by rw[zT,zH h];rfl
theorem zML (D:Dyn)(n:Nat){H:AH}{ks:AV}{l:List Str}(h:Strs H ks l){A e:Nat}{c:List AV}(x:H.h.get A=some (.cells c e 1 false))(y:c[1]? =some ks)(hl:l.length<=1000000000)(v:Nat)(C:l.length<v):
  ∃e H',yF v (xE D n) [.ptr A 0,ks, .int .i64 (l.length:Nat), .int .i64 (0:Nat)] H=some (e,H')/\if(List.range l.length).all (zF1 l)then(e= .exit 0 [.ptr A 0]/\H'=H)else(e= .ret (.bool false)/\H'=H):=by
 refine aY l.length (zF1 l) (fun i vs H'=>H'=H/\vs=[.ptr A 0,ks, .int .i64 (l.length:Nat), .int .i64 (i:Nat)]) (fun e H'=>e= .exit 0 [.ptr A 0]/\H'=H) (fun e H'=>e= .ret (.bool false)/\H'=H) ?_ ?_ ?_ v _ H ⟨rfl,rfl⟩ C
 .rintro i vs H' hi ⟨rfl,rfl⟩ a
  obtain⟨p,o,s⟩:=h.at hi;simp only[zF1,wK hi,zC,Bool.or_eq_true,zJ]at a;refine⟨_,H', ?_,rfl,rfl⟩;have f:((i:Nat):Int)< ((l.length:Nat):Int):=by omega
  by_cases z:i=0
  .subst z;simp(disch:=omega) only[xE,eZ,f,o,s,j7,a.1,qB,show((0:Nat):Int)+((1:Nat):Int)=((0+1:Nat):Int)from rfl]
  .have j:i - 1<l.length:=by omega
   obtain⟨q,q1,q2⟩:=h.at j;have m:=a.2.resolve_left z;rw[wK j]at m;have t:((i:Nat):Int) - ((1:Nat):Int)=((i - 1:Nat):Int):=by omega
   have u:((0:Nat):Int)< (i:Int):=by omega
   simp(disch:=omega) only[xE,eZ,f,u,o,s,j7,a.1,qT x,y,t,q1,q2,m,Int.natCast_add]
 .rintro i vs H' hi ⟨rfl,rfl⟩ a
  obtain⟨p,o,s⟩:=h.at hi;have f:((i:Nat):Int)< ((l.length:Nat):Int):=by omega
  refine⟨.ret (.bool false),H', ?_,rfl,rfl,rfl⟩;simp only[zF1,wK hi]at a
  cases hm:Nd.mayK l[i]with
  | false=>simp(disch:=omega) only[xE,eZ,f,o,s,j7,hm]
  | true=>
   simp only[hm,Bool.true_and,Bool.or_eq_false_iff,decide_eq_false_iff_not]at a;have j:i - 1<l.length:=by omega
   obtain⟨q,q1,q2⟩:=h.at j;have m:=a.2;rw[wK j]at m;have t:((i:Nat):Int) - ((1:Nat):Int)=((i - 1:Nat):Int):=by omega
   have u:((0:Nat):Int)< (i:Int):=by omega
   simp(disch:=omega) only[xE,eZ,f,u,o,s,j7,hm,qT x,y,t,q1,q2,m]
 .rintro vs H' ⟨rfl,rfl⟩
  refine⟨.exit 0 [.ptr A 0],H', ?_,rfl,rfl,rfl⟩;simp only[xE,eZ,qB]
theorem zMK (D:Dyn)(n:Nat){H:AH}{vs:AV}{l:List Str}(h:Strs H vs l)(hl:l.length<=1000000000)(m:Nat)(t:l.length<m):
  ∃e H',yF m (uN D n) [vs, .int .i64 (l.length:Nat), .int .i64 (0:Nat)] H=some (e,H')/\if(List.range l.length).all (fun i=>decide ((l.getD i []).length<=200))then(e= .exit 2 []/\H'=H)else(e= .ret (.bool false)/\H'=H):=by
 refine aY l.length _ (fun i a H'=>H'=H/\a=[vs, .int .i64 (l.length:Nat), .int .i64 (i:Nat)]) (fun e H'=>e= .exit 2 []/\H'=H) (fun e H'=>e= .ret (.bool false)/\H'=H) ?_ ?_ ?_ m _ H ⟨rfl,rfl⟩ t
 .rintro i a H' hi ⟨rfl,rfl⟩ o
  obtain⟨p,q,s⟩:=h.at hi;simp only[wK hi,zJ]at o;refine⟨_,H', ?_,rfl,rfl⟩;have f:((i:Nat):Int)< ((l.length:Nat):Int):=by omega
  have j: ¬((200:Nat):Int)< ((l[i].length:Nat):Int):=by omega
  simp(disch:=omega) only[uN,eZ,f,q,s,j,Int.natCast_add]
 .rintro i a H' hi ⟨rfl,rfl⟩ o
  obtain⟨p,q,s⟩:=h.at hi;simp only[wK hi,decide_eq_false_iff_not]at o;refine⟨.ret (.bool false),H', ?_,rfl,rfl,rfl⟩;have f:((i:Nat):Int)< ((l.length:Nat):Int):=by omega
  have j:((200:Nat):Int)< ((l[i].length:Nat):Int):=by omega
  simp(disch:=omega) only[uN,eZ,f,q,s,j,Int.natCast_add]
 .rintro a H' ⟨rfl,rfl⟩
  refine⟨.exit 2 [],H', ?_,rfl,rfl,rfl⟩;simp only[uN,eZ,qB]
def pz:Ptr:=⟨0,0,0⟩
theorem zPm (x:Ptr):(((decide (x.at_< ((1:Nat):Int))||decide (((8192:Nat):Int)<=x.at_))||decide (x.birth< ((0:Nat):Int)))||decide (((2147483647:Nat):Int)<x.birth))= !(Nd.kidOk x):=by
 rw[Bool.eq_iff_iff];simp only[Nd.kidOk,Bool.or_eq_true,zJ,Bool.not_eq_true',Bool.and_eq_false_iff,decide_eq_false_iff_not];omega
theorem zCS {H':AH}(f:H'.ok)(x:Ptr): ∃a,stN 3 (.ptr H'.next 0) (.agg (qZ x)) (H'.push (.cells [.int .i64 (0:Nat), .int .i64 (0:Nat), .int .u64 (0:Nat)] 42 1 false))=some (qX,a)/\Prs H' a/\a.next=H'.next+1/\a.h.get H'.next=some (.cells (qZ x) 42 1 false):=by
 refine⟨_,JL (AH.push_get_eq _ _) (by decide) rfl rfl (by decide), ?_,rfl,by rw[AH.put_get,if_pos rfl];rfl⟩;exact((Stp.refl f).push _).fresh ((Stp.refl (f.push _)).put (by rw[AH.push_next];omega) _ (.inr rfl)) (fun A i=>by omega)
theorem zMJ (D:Dyn)(n:Nat){H:AH}(z:H.ok){vs:AV}{l:List Ptr}(h:u4 H vs l)(hl:l.length<=1000000000)(u:Nat)(C:l.length<u):
  ∃e H',yF u (fO D n) [vs, .int .i64 (l.length:Nat), .int .i64 (0:Nat)] H=some (e,H')/\if(List.range l.length).all (fun i=>Nd.kidOk (l.getD i pz))then(e= .exit 4 []/\Prs H H')else(e= .ret (.bool false)/\Prs H H'):=by
 refine aY l.length _ (fun i q H'=>Prs H H'/\q=[vs, .int .i64 (l.length:Nat), .int .i64 (i:Nat)]) (fun e H'=>e= .exit 4 []/\Prs H H') (fun e H'=>e= .ret (.bool false)/\Prs H H') ?_ ?_ ?_ u _ H ⟨Stp.refl z,rfl⟩ C
 .rintro i q H' hi ⟨a,rfl⟩ f
  obtain⟨p,v,j⟩:=(h.prs a).at hi;simp only[wK hi]at f;generalize l[i]=x at f j;obtain⟨y,m,s,F,o⟩:=zCS a.ok x;have t:((i:Nat):Int)< ((l.length:Nat):Int):=by omega
  have hb:=zPm x;rw[f]at hb;simp only[qZ]at o m j;refine⟨_,y, ?_,a.trans s,rfl⟩;simp(disch:=omega) only[fO,eZ,t,v,j,yU a.ok,m,qT o,hb,Int.natCast_add]
 .rintro i q H' hi ⟨a,rfl⟩ f
  obtain⟨p,v,j⟩:=(h.prs a).at hi;simp only[wK hi]at f;generalize l[i]=x at f j;obtain⟨y,m,s,F,o⟩:=zCS a.ok x;have t:((i:Nat):Int)< ((l.length:Nat):Int):=by omega
  have hb:=zPm x;rw[f]at hb;simp only[qZ]at o m j;refine⟨.ret (.bool false),y, ?_,rfl,rfl,a.trans s⟩;simp(disch:=omega) only[fO,eZ,t,v,j,yU a.ok,m,qT o,hb]
 .rintro q H' ⟨a,rfl⟩
  refine⟨.exit 4 [],H', ?_,rfl,rfl,a⟩;simp only[fO,eZ,qB]
theorem vD (D:Dyn)(n:Nat){H:AH}(T:H.ok){v:AV}{nd:Nd.Node}(h:bE H v nd)(hs:small nd)(hn:200000000<=n):
  ∃H',f109 D n [v] H=some (.bool (Nd.shaped ltS nd),H')/\Prs H H':=by
 obtain⟨ks,vs,q,rfl,f,m,o⟩:=h;obtain⟨s1,s2,s3⟩:=hs;have a:Prs H (H.push (.cells [.bool nd.leaf,ks,vs,q] 119 1 false)):=(Stp.refl T).push _;have i:(H.push (.cells [.bool nd.leaf,ks,vs,q] 119 1 false)).h.get H.next=some (.cells [.bool nd.leaf,ks,vs,q] 119 1 false):=AH.push_get_eq _ _
 have W:=Nd.sumL_ge nd.keys;have Y:=Nd.sumL_ge nd.vals;have hf:f109 D n [.agg [.bool nd.leaf,ks,vs,q]] H=gP (jb 0 (yF n (xE D n) [.ptr H.next 0,ks, .int .i64 (nd.keys.length:Nat), .int .i64 (0:Nat)] (H.push (.cells [.bool nd.leaf,ks,vs,q] 119 1 false))) (bN D n)):=by
  simp only[f109,eZ,yU T,f.lnSl]
 rw[hf];generalize H.push (.cells [.bool nd.leaf,ks,vs,q] 119 1 false)=H1 at a i;obtain⟨e0,N,e1,z⟩:=zML D n (f.prs a) i (by rfl) (by omega) n (by omega);rw[e1];rw[zHn]at z;split at z
 .rename_i O;obtain⟨rfl,rfl⟩:=z;simp only[Nd.shaped,O,Bool.true_and];obtain⟨leaf,keys,vals,kids⟩:=nd;simp only at f m o i W Y s1 s2 s3 O⊢
  cases leaf with
  | true=>
   by_cases t:vals.length=keys.length/\kids.length=0
   .obtain⟨F,J⟩:=t;obtain⟨e3,u,x,j⟩:=zMK D n (m.prs a) (by omega) n (by omega);have y: ¬(((vals.length:Nat):Int)≠((keys.length:Nat):Int)):=by omega
    have s: ¬(((kids.length:Nat):Int)≠((0:Nat):Int)):=by omega
    have K:kids=[]:=zM J;rw[zBT vals ([]:Str) (fun v=>decide (v.length<=200))]at j;split at j
    .rename_i p;obtain⟨rfl,rfl⟩:=j;refine⟨u, ?_,a⟩;have hr:(decide (vals.length=keys.length)&&decide (kids=[])&&vals.all fun v=>decide (v.length<=200))=true:=by simp only[F,K,p,decide_true,Bool.and_self]
     simp only[bN,eZ,qT i,f.lnSl,m.lnSl,o.lnSl,y,s,x,dZ,hr]
    .rename_i p;obtain⟨rfl,rfl⟩:=j;refine⟨u, ?_,a⟩;have hr:(decide (vals.length=keys.length)&&decide (kids=[])&&vals.all fun v=>decide (v.length<=200))=false:=by simp only[Bool.eq_false_iff.2 p,Bool.and_false]
     simp only[bN,eZ,qT i,f.lnSl,m.lnSl,o.lnSl,y,s,x,dZ,hr]
   .refine⟨N, ?_,a⟩;have hr:(decide (vals.length=keys.length)&&decide (kids=[]))=false:=by
     rw[Bool.and_eq_false_iff,decide_eq_false_iff_not,decide_eq_false_iff_not];by_cases U:vals.length=keys.length
     .right;intro hb;exact t ⟨U,by rw[hb];rfl⟩
     .exact .inl U
    simp only[bN,eZ,qT i,f.lnSl,m.lnSl,o.lnSl,hr];rw[if_pos (by simp only[Bool.or_eq_true,zJ];omega)];simp only[eZ]
  | false=>
   by_cases t:keys.length≠0/\vals.length=0/\kids.length=keys.length+1
   .obtain⟨F,J,Z⟩:=t;obtain⟨e3,u,x,j⟩:=zMJ D n a.ok (o.prs a) (by omega) n (by omega);have y: ¬(((keys.length:Nat):Int)=((0:Nat):Int)):=by omega
    have s: ¬(((vals.length:Nat):Int)≠((0:Nat):Int)):=by omega
    have S: ¬(((kids.length:Nat):Int)≠((keys.length:Nat):Int)+((1:Nat):Int)):=by omega
    have a0:vals=[]:=zM J;have K:keys≠[]:=fun e=>F (by rw[e];rfl)
    rw[zBT kids pz Nd.kidOk]at j;split at j
    .rename_i p;obtain⟨rfl,L⟩:=j;refine⟨u, ?_,a.trans L⟩;have hr:(decide (keys≠[])&&decide (vals=[])&&decide (kids.length=keys.length+1)&&kids.all Nd.kidOk)=true:=by simp only[Z,a0,p,decide_eq_true K,decide_true,Bool.and_self]
     simp(disch:=omega) only[bN,eZ,qT i,f.lnSl,m.lnSl,o.lnSl,y,s,S,x,Y9,hr]
    .rename_i p;obtain⟨rfl,L⟩:=j;refine⟨u, ?_,a.trans L⟩;have hr:(decide (keys≠[])&&decide (vals=[])&&decide (kids.length=keys.length+1)&&kids.all Nd.kidOk)=false:=by simp only[Bool.eq_false_iff.2 p,Bool.and_false]
     simp(disch:=omega) only[bN,eZ,qT i,f.lnSl,m.lnSl,o.lnSl,y,s,S,x,Y9,hr]
   .refine⟨N, ?_,a⟩;have hr:(decide (keys≠[])&&decide (vals=[])&&decide (kids.length=keys.length+1))=false:=by
     rw[Bool.eq_false_iff];intro C;simp only[zC,zJ]at C;exact t ⟨fun e=>C.1.1 (zM e),by rw[C.1.2];rfl,C.2⟩
    simp(disch:=omega) only[bN,eZ,qT i,f.lnSl,m.lnSl,o.lnSl,hr];rw[if_pos (by simp only[Bool.or_eq_true,zJ];omega)];simp only[eZ]
 .rename_i V;obtain⟨rfl,rfl⟩:=z;refine⟨N, ?_,a⟩;simp only[Nd.shaped,Bool.eq_false_iff.2 V,eZ]
theorem zAW (nd:Nd.Node)(ks vs a:AV):xX [.bool nd.leaf,ks,vs,a] 0 4=some [.bool nd.leaf,ks,vs,a]:=rfl
theorem zNf (D:Dyn)(n:Nat){H:AH}(i:H.ok){v:AV}{nd:Nd.Node}(h:bE H v nd)(o:small nd)(p:200000000<=n):
  ∃H',f62 D n [v] H=some (.bool (Nd.may ltS nd),H')/\Prs H H':=by
 have q:=h;obtain⟨ks,vs,j,rfl,J,K,L⟩:=h;have a:Prs H (H.push (.cells [.bool nd.leaf,ks,vs,j] 119 1 false)):=(Stp.refl i).push _;have x:(H.push (.cells [.bool nd.leaf,ks,vs,j] 119 1 false)).h.get H.next=some (.cells [.bool nd.leaf,ks,vs,j] 119 1 false):=AH.push_get_eq _ _
 obtain⟨y,s,f⟩:=vD D n a.ok (q.prs a) o p;obtain⟨z,C,F,rfl,t⟩:=JN D n f.ok (q.prs (a.trans f)) o p
 cases m:Nd.shaped ltS nd with
 | true=>
  refine⟨C, ?_,(a.trans f).trans t⟩;have u:(((Nd.size nd:Nat):Int)<=((500:Nat):Int))=(Nd.size nd<=500):=by rw[eq_iff_iff];omega
  simp only[f62,eZ,yU i,zAW,Option.map_some,s,m,qY (f.get a.ok x),F,u,Nd.may]
 | false=>
  refine⟨y, ?_,a.trans f⟩;simp only[f62,eZ,yU i,zAW,Option.map_some,s,m,Nd.may]
end Go.Eng.Sh
end
section
namespace Go.Eng
def bY (k e:Nat)(H:AH)(v:AV)(n:Nat)(l:List AV):Prop:=
 Own k e H v n l\/(l.length=n*k/\ ∃A a g,v= .slice A 0 n (2*n)/\A<H.next/\H.h.get A=some (.cells l a k g))
theorem bY.len {k e n:Nat}{H:AH}{v:AV}{l:List AV}(h:bY k e H v n l):l.length=n*k:=by
 rcases h with h | h
 .exact h.1
 .exact h.1
theorem bY.row {k e n:Nat}{H:AH}{v:AV}{l:List AV}(h:bY k e H v n l):Rw k H v n l:=by
 rcases h with h | ⟨a,A,f,g,rfl,i,j⟩
 .exact h.row
 .exact⟨a, .inr (.inr ⟨A,0,2*n,l,f,k,g,rfl,j,i,by omega,by rw[List.drop_zero,zP (by omega)]⟩)⟩
theorem bY.mono {k e n:Nat}{S:Nat->Prop}{H H':AH}{v:AV}{l:List AV}(h:bY k e H v n l)(s:Stp S H H')(a: ∀A,Blk v A-> ¬S A):bY k e H' v n l:=by
 rcases h with h | ⟨i,A,j,g,rfl,f,m⟩
 .exact .inl (h.mono s a)
 .exact .inr ⟨i,A,j,g,rfl,zY f s.next,by rw[s.keep A f (a A (Blk.slice.2 rfl))];exact m⟩
theorem bY.lt {k e n:Nat}{H:AH}{v:AV}{l:List AV}(h:bY k e H v n l){B:Nat}(a:Blk v B):B<H.next:=by
 rcases h with⟨_,⟨rfl,_⟩ | ⟨A,rfl,f,_⟩⟩ | ⟨_,A,i,g,rfl,f,_⟩
 .exact(Blk.nil.1 a).elim
 .rw[Blk.slice.1 a];exact f
 .rw[Blk.slice.1 a];exact f
theorem bY.app1 {k e bytes n m:Nat}{H:AH}{v:AV}{l new:List AV}(i:H.ok)(o:0<k)(h:bY k e H v n l)(hm:new.length=m*k)(z:n+m<=1000000000)(hb:bytes<=1000):
  ∃p H',Eng.app1 e k bytes m new v H=some (p,H')/\bY k e H' p (n+m) (l++new)/\Stp (Blk v) H H'/\(∀B,Blk p B->Blk v B\/H.next<=B):=by
 by_cases q:m=0
 .subst q;have:new=[]:=zM (by simpa using hm);subst this;rcases h with h | ⟨q,A,j,g,rfl,s,t⟩
  .obtain⟨H',f,u,y,K⟩:=WU (bytes:=bytes) i o h;exact⟨v,H',f, .inl (by simpa using u),y.mono (fun _ _ x=>x.elim),fun B a=> .inl a⟩
  .have C:yN l g k 0 (2*n) k=n:=by
    simp only[yN,show((2*n) % 2).beq 0=true by rw[Nat.mul_mod_right];rfl,cond_true,Nat.mul_div_cancel_left n (show 0<2 by omega)]
   have L:Nat.blt 0 k=true:=by rw[zR];exact o
   have F:setAt l (0+n*k) []=some l:=by rw[jW (by simp;omega)];simp
   have J:(H.put A (.cells l j k g)).h.get A=some (.cells l j k g):=by rw[AH.put_get,if_pos rfl]
   refine⟨.slice A 0 n (2*n),H.put A (.cells l j k g), ?_, .inr ⟨by simpa using q,A,j,g,rfl,s,by simpa using J⟩,(Stp.refl i).put s _ (.inr (Blk.slice.2 rfl)),fun B a=> .inl a⟩;simp only[Eng.app1,t,zFp,C,Nat.add_zero,Nat.ble_eq_true_of_le (Nat.le_refl n),cond_true,L,F,zBR,yQ,yG]
 .rcases h with h | ⟨hl,A,j,g,rfl,s,t⟩
  .obtain⟨H',f,u,y,K⟩:=J5 (bytes:=bytes) i o h hm (by omega) z hb;exact⟨_,H',f, .inl u,y,fun B a=> .inr (by rw[Blk.slice.1 a];exact Nat.le_refl _)⟩
  .have f:=WV (k:=k) (e:=e) (bytes:=bytes) (n:=n) (m:=m) (off:=0) (new:=new) i t (by omega) (by omega) z hb;rw[List.drop_zero,zP (by omega)]at f;refine⟨_,_,f, .inl ⟨by simp[hl,hm,Nat.add_mul], .inr ⟨H.next,rfl,Nat.lt_succ_self _,AH.push_get_eq _ _⟩⟩,(Stp.refl i).push _,fun B a=> .inr (by rw[Blk.slice.1 a];exact Nat.le_refl _)⟩
theorem bY.app {k e bytes n m:Nat}{H:AH}{v s:AV}{l new:List AV}(i:H.ok)(f:0<k)(h:bY k e H v n l)(j:srcOf k s H=some (m,new))(hm:new.length=m*k)(o:qW new=true)(p:n+m<=1000000000)(hb:bytes<=1000):
  ∃a H',apP e k bytes v s H=some (a,H')/\bY k e H' a (n+m) (l++new)/\Stp (Blk v) H H'/\(∀B,Blk a B->Blk v B\/H.next<=B):=by
 obtain⟨a,H',q,t⟩:=h.app1 (bytes:=bytes) (e:=e) i f hm p hb;exact⟨a,H',by simp only[apP,j,o,cond_true,q],t⟩
theorem bY.isCell {k e n:Nat}{H:AH}{v:AV}{l:List AV}(h:bY k e H v n l):isCell v=true:=h.row.isCell
end Go.Eng
namespace Go.Eng.Sh
open Go.Nd (Ptr sumL encT encP)
def zJe (P:Nat->Prop)(H:AH)(A:Nat)(l:Str):Prop:= ∃v,Box H A v/\bY 1 5 H v l.length (qU l)/\(∀B,Blk v B-> ¬P B/\B≠A)/\ ¬P A
theorem zPZ (e sz:Nat)(z x:AV)(h:isCell x=true):d7 e 1 1 [z] [(0,x)]=some (.cells [x] e 1 false,fun A=> .slice A 0 1 2):=by
 simp only[d7,uJ,yP h,dO,Nat.beq_refl,cond_true,rep];rfl
theorem zJe.app {P:Nat->Prop}{H:AH}{A:Nat}{l m:Str}(h:zJe P H A l)(o:H.ok)(F: ∀B,P B->B<H.next){s:AV}(J:srcOf 1 s H=some (m.length,qU m))(K:l.length+m.length<=1000000000):
  ∃v f H' i,ld1 (.ptr A 0) H=some v/\apP 5 1 1 v s H=some (f,H')/\stN 1 (.ptr A 0) f H'=some (qX,i)/\zJe P i A (l++m)/\Stp (fun B=> ¬P B) H i:=by
 obtain⟨v,hb,L,j,t⟩:=h;obtain⟨f,H',N,u,p,y⟩:=L.app (bytes:=1) o (by decide) J (by simp[qU]) (bytesV_cells m) K (by decide);have C:Box H' A v:=hb.mono o p (fun x=>(j A x).2 rfl);obtain⟨i,O,b2,z⟩:=C.st p.ok u.isCell;have S:=hb.lt o;have q: ∀B,Blk f B->B≠A:=fun B a e=>by
  rcases y B a with h | h
  .exact(j B h).2 e
  .omega
 refine⟨v,f,H',i,hb.ld,N,O,⟨f,b2, ?_,fun B a=>⟨fun hp=> ?_,q B a⟩,t⟩, ?_⟩
 .have:=u.mono z (fun B a=>q B a);simpa[qU]using this
 .rcases y B a with h | h
  .exact(j B h).1 hp
  .have:=F B hp;omega
 .exact(p.mono (fun B _ a=>(j B a).1)).trans (z.mono (fun B _ a=>by rw[a];exact t))
theorem zC2 (D:Dyn)(n:Nat){P:Nat->Prop}{H:AH}{A:Nat}{l s:Str}(h:zJe P H A l)(f:H.ok)(j: ∀B,P B->B<H.next)(Y:l.length+s.length+1<=1000000000):
  ∃H',f193 D n [S s, .ptr A 0] H=some (.tuple [],H')/\zJe P H' A (l++encT s)/\Stp (fun B=> ¬P B) H H':=by
 have q:IntKind.wrap .u8 ((s.length:Nat):Int)=(((UInt8.ofNat s.length).toNat:Nat):Int):=by rw[wrap_u8,UInt8.toNat_ofNat'];omega
 have a:Prs H (H.push (.cells [.int .u8 (((UInt8.ofNat s.length).toNat:Nat):Int)] 5 1 false)):=(Stp.refl f).push _;have t:zJe P (H.push (.cells [.int .u8 (((UInt8.ofNat s.length).toNat:Nat):Int)] 5 1 false)) A l:=by
  obtain⟨v,hb,y,z,C⟩:=h;exact⟨v,hb.mono f a (fun x=>x),y.mono a (fun _ _ x=>x),z,C⟩
 have o:=JM (k:=1) H (qU [UInt8.ofNat s.length]) 5 1 false 1 2 rfl;obtain⟨v,Z,H1,F,J,K,L,N,st2⟩:=t.app a.ok (fun B i=>Nat.lt_succ_of_lt (j B i)) (m:=[UInt8.ofNat s.length]) o (by simp;omega);obtain⟨u,u',H3,O,T,U,V,W,st4⟩:=N.app st2.ok (fun B i=>zY (j B i) (Nat.le_trans a.next st2.next)) (m:=s) (zC5 s F) (by simp;omega)
 have p:ld1 (.ptr A 0) H=some v:=by
  have:=J;rw[zCn _ _ (by obtain⟨v,hb,_⟩:=h;exact hb.lt f)]at this;exact this
 refine⟨O, ?_, ?_,(a.stp.trans st2).trans st4⟩
 .simp only[f193,eZ,p,q];rw[zPZ 5 1 _ _ rfl];simp only[eZ,yU f,K,L,T,U,V]
 .simpa[encT]using W
theorem zLI (D:Dyn)(n:Nat){P:Nat->Prop}{H:AH}{A E:Nat}{l:Str}{p:Ptr}(h:zJe P H A l)(f:H.ok)(q: ∀B,P B->B<H.next)(hp:Nd.mayP p=true)(s:Nd.sumOk p)(T:l.length+16<=1000000000)(j:100<=n):
  ∃H',f194 D n [.agg (qZ p), .ptr E 0, .ptr A 0] H=some (.tuple [],H')/\zJe P H' A (l++encP p)/\Stp (fun B=> ¬P B) H H':=by
 have i:Prs H (H.push (.cells (qZ p) 42 1 false)):=(Stp.refl f).push _;obtain⟨t,u,o⟩:=zBt D n i.ok hp s j;have a:=i.trans o;have y:zJe P t A l:=by
  obtain⟨v,hb,z,C,F⟩:=h;exact⟨v,hb.mono f a (fun x=>x),z.mono a (fun _ _ x=>x),C,F⟩
 obtain⟨v,U,V,J,K,L,N,O,st4⟩:=y.app a.ok (fun B S=>zY (q B S) a.next) (m:=encP p) (zC5 _ _) (by rw[Nd.encP_length];omega)
 refine⟨J, ?_,O,(Prs.stp a).trans st4⟩;simp only[f194,eZ,yU f,show xX (qZ p) 0 3=some (qZ p)from rfl,Option.map_some,u,qV,nth,ne_eq,not_true_eq_false,zBo,K,L,N]
theorem zPS (m n:Nat)(x a:AV)(H:AH):callV [(109,f109 (dy (m+1)) n),(110,f110 (dy (m+1)) n)] (dy (m+1)) (.func 193 [] [a]) [x] H=f193 (dy m) m [x,a] H:=rfl
theorem zMg (m n:Nat)(x e a:AV)(H:AH):callV [(109,f109 (dy (m+1)) n),(110,f110 (dy (m+1)) n)] (dy (m+1)) (.func 194 [] [e,a]) [x] H=f194 (dy m) m [x,e,a] H:=rfl
structure EncI (N E:Nat)(A:Nat)(H0 H:AH)(l:Str):Prop where
 prs:Prs H0 H
 n:H0.next=N
 out:zJe (fun B=>B<N\/B=E) H A l
 err:Box H E (.int .i64 (0:Nat))
theorem EncI.step {N E A:Nat}{H0 H H':AH}{l l':Str}(h:EncI N E A H0 H l)(f:zJe (fun B=>B<N\/B=E) H' A l')(a:Stp (fun B=> ¬(B<N\/B=E)) H H'):EncI N E A H0 H' l':=
 ⟨h.prs.fresh a (fun B j=>by rw[h.n];omega),h.n,f,h.err.mono h.prs.ok a (fun i=>i (.inr rfl))⟩
theorem EncI.lt {N E A:Nat}{H0 H:AH}{l:Str}(h:EncI N E A H0 H l): ∀B,(B<N\/B=E)->B<H.next:=by
 rintro B (a | rfl)
 .have:=h.prs.next;rw[h.n]at this;omega
 .exact h.err.lt h.prs.ok
theorem zKB (m n:Nat){N E A X:Nat}{H0 H:AH}{ks vs J:AV}{keys vals:List Str}(hX:H0.h.get X=some (.cells [.bool true,ks,vs,J] 119 1 false))(v:H0.ok)(K:Strs H0 ks keys)(L:Strs H0 vs vals)(hl:vals.length=keys.length)
  (hb:sumL keys+sumL vals<=10000000) (hd:Str) (a0:hd.length<=1000) (h:EncI N E A H0 H hd) (o:Nat) (x:keys.length<o):
  ∃H',yF o (vX (dy (m+1)) n) [.ptr X 0, .ptr A 0, .ptr E 0, .func 193 [] [.ptr A 0], .func 194 [] [.ptr E 0, .ptr A 0],ks, .int .i64 (keys.length:Nat), .int .i64 (0:Nat)] H=some (.exit 0 [.ptr A 0, .ptr E 0],H')/\EncI N E A H0 H' (hd++Nd.encL keys vals):=by
 have a1:=Nd.sumL_ge keys;have key:=wI (b:=vX (dy (m+1)) n) keys.length (fun i t H'=>t=[.ptr X 0, .ptr A 0, .ptr E 0, .func 193 [] [.ptr A 0], .func 194 [] [.ptr E 0, .ptr A 0],ks, .int .i64 (keys.length:Nat), .int .i64 (i:Nat)]/\EncI N E A H0 H' (hd++Nd.encL (keys.take i) (vals.take i)))
  (fun i t H1 hi ⟨y,a⟩=>by
   subst y;have j:i<vals.length:=by omega
   obtain⟨p,O,S⟩:=(K.prs a.prs).at hi;obtain⟨_,a2⟩:=JI keys i hi;obtain⟨_,a3⟩:=JI vals i j;have u:(Nd.encL (keys.take i) (vals.take i)).length=sumL (keys.take i)+sumL (vals.take i):=Nd.encL_length _ _ (by simp[hl]);obtain⟨H2,T,U,st2⟩:=zC2 (dy m) m (s:=keys[i]) a.out a.prs.ok a.lt (by simp only[zL,u];omega);have f:=a.step U st2;obtain⟨q,q1,q2⟩:=(L.prs f.prs).at j;obtain⟨V,W,Y,z⟩:=zC2 (dy m) m (s:=vals[i]) f.out f.prs.ok f.lt (by simp only[zL,u,Nd.encT,zO];omega);have C:=f.step Y z;have F:((i:Nat):Int)< ((keys.length:Nat):Int):=by omega
   refine⟨_,V, ?_,rfl, ?_⟩
   .simp(disch:=omega) only[vX,eZ,F,O,S,zPS,T,qT (f.prs.get v hX),q1,q2,W,ZD,Int.natCast_add]
   .rw[jP keys i hi,jP vals i j,Nd.encL_snoc _ _ _ _ (by simp[hl])];simpa using C) o _ H ⟨rfl,by simpa[Nd.encL]using h⟩ x
 obtain⟨k,t,H',Z,rfl,a⟩:=key;refine⟨H', ?_,by rw[zP (Nat.le_refl _),zP (by omega)]at a;exact a⟩;rw[Z];exact y7 (by simp only[vX,eZ,qB])
theorem zKC (m n:Nat)(hm:100<=m){N E A X:Nat}{H0 H:AH}{ks vs x:AV}{keys:List Str}{T:Ptr}{kids:List Ptr}(hX:H0.h.get X=some (.cells [.bool false,ks,vs,x] 119 1 false))(z:H0.ok)(U:Strs H0 ks keys)(V:u4 H0 x (T::kids))(hl:kids.length=keys.length)
  (y: ∀p∈kids,Nd.mayP p=true/\Nd.sumOk p) (hb:sumL keys+16*kids.length<=10000000) (hd:Str) (a0:hd.length<=1000) (h:EncI N E A H0 H hd) (o:Nat) (C:keys.length<o):
  ∃H',yF o (vX (dy (m+1)) n) [.ptr X 0, .ptr A 0, .ptr E 0, .func 193 [] [.ptr A 0], .func 194 [] [.ptr E 0, .ptr A 0],ks, .int .i64 (keys.length:Nat), .int .i64 (0:Nat)] H=some (.exit 0 [.ptr A 0, .ptr E 0],H')/\EncI N E A H0 H' (hd++Nd.encI keys kids):=by
 have a1:=Nd.sumL_ge keys;have key:=wI (b:=vX (dy (m+1)) n) keys.length (fun i t H'=>t=[.ptr X 0, .ptr A 0, .ptr E 0, .func 193 [] [.ptr A 0], .func 194 [] [.ptr E 0, .ptr A 0],ks, .int .i64 (keys.length:Nat), .int .i64 (i:Nat)]/\EncI N E A H0 H' (hd++Nd.encI (keys.take i) (kids.take i)))
  (fun i t H1 hi ⟨F,a⟩=>by
   subst F;have j:i<kids.length:=by omega
   obtain⟨p,W,Y⟩:=(U.prs a.prs).at hi;obtain⟨_,a2⟩:=JI keys i hi;have u:(Nd.encI (keys.take i) (kids.take i)).length=sumL (keys.take i)+16*(kids.take i).length:=Nd.encI_length _ _ (by simp[hl]);have v:(kids.take i).length=i:=by simp;omega
   obtain⟨H2,Z,o2,st2⟩:=zC2 (dy m) m (s:=keys[i]) a.out a.prs.ok a.lt (by simp only[zL,u,v];omega);have f:=a.step o2 st2;obtain⟨q,q1,q2⟩:=u4.at (V.prs f.prs) (i:=i+1) (by simpa using j);obtain⟨J,K⟩:=y _ (qE j);obtain⟨H3,e3,o3,L⟩:=zLI (dy m) m (E:=E) (p:=kids[i]) f.out f.prs.ok f.lt J K (by simp only[zL,u,v,Nd.encT,zO];omega) hm;have O:=f.step o3 L;have S:((i:Nat):Int)< ((keys.length:Nat):Int):=by omega
   simp only[List.getElem_cons_succ]at q2;refine⟨_,H3, ?_,rfl, ?_⟩
   .simp(disch:=omega) only[vX,eZ,S,W,Y,zPS,Z,qT (f.prs.get z hX),q1,q2,zMg,e3,ZD,Int.natCast_add]
   .rw[jP keys i hi,jP kids i j,Nd.encI_snoc _ _ _ _ (by simp[hl])];simpa using O) o _ H ⟨rfl,by simpa[Nd.encI]using h⟩ C
 obtain⟨k,t,H',e1,rfl,a⟩:=key;refine⟨H', ?_,by rw[zP (Nat.le_refl _),zP (by omega)]at a;exact a⟩;rw[e1];exact y7 (by simp only[vX,eZ,qB])
theorem Box.new (H:AH)(v:AV)(e:TypeId):Box (H.push (.cells [v] e 1 false)) H.next v:=⟨e,AH.push_get_eq _ _⟩
theorem zNT {H:AH}(N:H.ok)(k:Nat): ∃a j,stN 1 (.ptr (H.next+1) 0) (.slice H.next 0 2 4) ((H.push (.cells [.int .u8 (((UInt8.ofNat (k / 256)).toNat:Nat):Int), .int .u8 (((UInt8.ofNat k).toNat:Nat):Int)] 5 1 false)).push (.cells [.nilSlice] 216 1 false))=some (qX,a)/\a.ok/\a.next=H.next+2/\
  stN 1 (.ptr (H.next+2) 0) (.int .i64 (0:Nat)) (a.push (.cells [.int .i64 (0:Nat)] 32 1 false))=some (qX,j)/\EncI H.next (H.next+2) (H.next+1) H j (Nd.be 2 k):=by
 have m:Prs H (H.push (.cells [.int .u8 (((UInt8.ofNat (k / 256)).toNat:Nat):Int), .int .u8 (((UInt8.ofNat k).toNat:Nat):Int)] 5 1 false)):=(Stp.refl N).push _;have y:(H.push (.cells [.int .u8 (((UInt8.ofNat (k / 256)).toNat:Nat):Int), .int .u8 (((UInt8.ofNat k).toNat:Nat):Int)] 5 1 false)).h.get H.next=some (.cells (qU (Nd.be 2 k)) 5 1 false):=AH.push_get_eq _ _
 have z:(H.push (.cells [.int .u8 (((UInt8.ofNat (k / 256)).toNat:Nat):Int), .int .u8 (((UInt8.ofNat k).toNat:Nat):Int)] 5 1 false)).next=H.next+1:=rfl
 generalize H.push (.cells [.int .u8 (((UInt8.ofNat (k / 256)).toNat:Nat):Int), .int .u8 (((UInt8.ofNat k).toNat:Nat):Int)] 5 1 false)=H4 at m y z;have p:=Box.new H4 .nilSlice 216;have q:Prs H4 (H4.push (.cells [.nilSlice] 216 1 false)):=(Stp.refl m.ok).push _;have C:(H4.push (.cells [.nilSlice] 216 1 false)).next=H4.next+1:=rfl
 have F:=q.get m.ok y;generalize H4.push (.cells [.nilSlice] 216 1 false)=H5 at q p C F;rw[z]at p C;obtain⟨a,s,O,f⟩:=p.st q.ok (x:= .slice H.next 0 2 4) rfl
 have Z:=f.next
 have S:a.h.get H.next=some (.cells (qU (Nd.be 2 k)) 5 1 false):=by rw[f.keep _ (by omega) (by omega)];exact F
 have u:a.next=H.next+2:=by
  have:a.next=H5.next:=by
   obtain⟨e,hb⟩:=p;have:=bF (x:= .slice H.next 0 2 4) (o:=0) hb (by decide) rfl (by simp)
   rw[this]at s;simp only[zB,zK,true_and]at s;rw[<-s];rfl
  omega
 have T:Prs H a:=(m.trans q).fresh f (fun A U=>by omega);have t:=Box.new a (.int .i64 (0:Nat)) 32;have i:Prs a (a.push (.cells [.int .i64 (0:Nat)] 32 1 false)):=(Stp.refl f.ok).push _;have J:(a.push (.cells [.int .i64 (0:Nat)] 32 1 false)).next=a.next+1:=rfl
 have K:=i.get f.ok S;have v:=O.mono f.ok i (fun x=>x);generalize L:a.push (.cells [.int .i64 (0:Nat)] 32 1 false)=H7 at i t J K v;rw[u]at t J;obtain⟨j,V,W,s8⟩:=t.st i.ok (x:= .int .i64 (0:Nat)) rfl;have n8:=s8.next
 refine⟨a,j,s,f.ok,u,by rw[L];exact V,⟨(T.trans i).fresh s8 (fun A U=>by omega),rfl,⟨_,v.mono i.ok s8 (by omega), .inr ⟨rfl,H.next,5,false,rfl,by omega,by rw[s8.keep _ (by omega) (by omega)];exact K⟩, ?_,by omega⟩,W⟩⟩
 intro B Y;rw[Blk.slice]at Y;omega
theorem cG (a b c d:AV):xX [a,b,c,d] 0 4=some [a,b,c,d]:=rfl
def zMb (nd:Nd.Node):Str×Nat:=if Nd.shaped ltS nd then if Nd.size nd<=500 then(Nd.encN nd,0)else([],40)else([],4)
theorem zIf (m n:Nat)(hm:100<=m)(hn:200000000<=n){H:AH}(O:H.ok){v:AV}{nd:Nd.Node}(h:bE H v nd)(hs:small nd)(a0: ∀p∈nd.kids,Nd.sumOk p):
  ∃H',f149 (dy (m+1)) n [v] H=some (.tuple [S (zMb nd).1, .int .i64 ((zMb nd).2:Nat)],H')/\Prs H H':=by
 obtain⟨leaf,keys,vals,kids⟩:=nd;have h0:=h;obtain⟨ks,vs,ps,rfl,T,h2,h3⟩:=h;simp only at h0 T h2 h3 a0⊢;have U:Prs H (H.push (.cells [.bool leaf,ks,vs,ps] 119 1 false)):=(Stp.refl O).push _;have Z:(H.push (.cells [.bool leaf,ks,vs,ps] 119 1 false)).h.get H.next=some (.cells [.bool leaf,ks,vs,ps] 119 1 false):=AH.push_get_eq _ _
 obtain⟨H2,e2,L⟩:=vD (dy (m+1)) n U.ok (h0.prs U) hs hn;have a5:(AV.str 0 0)=S []:=rfl
 cases J:Nd.shaped ltS ⟨leaf,keys,vals,kids⟩with
 | false=>
  refine⟨H2, ?_,U.trans L⟩;simp only[f149,eZ,yU O,cG,Option.map_some,e2,J,zMb,a5]
 | true=>
  have W:=L.get U.ok Z;have a1:Prs H H2:=U.trans L;obtain⟨z,o,e3,rfl,f⟩:=JN (dy (m+1)) n L.ok (h0.prs a1) hs hn;have K:=f.get L.ok W;have t:Prs H o:=a1.trans f;by_cases Y:Nd.size ⟨leaf,keys,vals,kids⟩<=500
  .have V: ¬((500:Nat):Int)< ((Nd.size ⟨leaf,keys,vals,kids⟩:Nat):Int):=by omega
   obtain⟨H6,H8,e6,a6,n6,e8,j⟩:=zNT f.ok keys.length;have b5:=Nd.be_length 2 keys.length;have w1:IntKind.wrap .u8 (((keys.length:Nat):Int) / 2 ^ 8)=(((UInt8.ofNat (keys.length / 256)).toNat:Nat):Int):=by rw[wrap_u8,UInt8.toNat_ofNat'];omega
   have w2:IntKind.wrap .u8 ((keys.length:Nat):Int)=(((UInt8.ofNat keys.length).toNat:Nat):Int):=by rw[wrap_u8,UInt8.toNat_ofNat'];omega
   have a7: ∀x y:Int,d7 5 1 2 [.int .u8 ((0:Nat):Int)] [(0, .int .u8 x),(1, .int .u8 y)]=some (.cells [.int .u8 x, .int .u8 y] 5 1 false,fun A=> .slice A 0 2 4):=fun x y=>rfl
   have C:=J;simp only[Nd.shaped,zC]at C;have b6:=Nd.sumL_ge keys;have a2:=Y;simp only[Nd.size]at a2;have a8:=zEi .i64 .u64 (a:=((keys.length:Nat):Int)) (s:=8) (by omega) (by decide);have a9:y6 AV.nilSlice=[AV.nilSlice]:=rfl;have b0: ∀z:Int,y6 (AV.int .i64 z)=[AV.int .i64 z]:=fun _=>rfl
   have a3: ∀(F:AH) (l:Str),EncI o.next (o.next+2) (o.next+1) o F l-> ∃v,ld1 (.ptr (o.next+2) 0) F=some (.int .i64 (0:Nat))/\ld1 (.ptr (o.next+1) 0) F=some v/\zBx v F=some (S l):=by
    intro F l j;obtain⟨v,hb,Z,_⟩:=j.out;refine⟨v,j.err.ld,hb.ld,ZK Z.row ?_⟩;rcases Z with⟨_,⟨rfl,_⟩ | ⟨A,rfl,_⟩⟩ | ⟨_,A,e',g,rfl,_⟩<;>simp
   cases leaf with
   | true=>
    simp only[if_true,zC,zJ]at C;obtain⟨F,e9,N⟩:=zKB m n K f.ok (T.prs t) (h2.prs t) C.2.1.1 (by omega) _ (by omega) j n (by omega);obtain⟨u,u1,u2,u3⟩:=a3 _ _ N;refine⟨F, ?_,t.trans N.prs⟩;simp(disch:=omega) only[f149,eZ,yU O,cG,Option.map_some,e2,J,qY W,e3,V,qT K,T.lnSl,a8,w1,w2,a7,yU f.ok,yU (f.ok.push _),AH.push_next,a9,e6,yU a6,n6,b0,e8,VL,qT (j.prs.get f.ok K),e9,W0,u1,u2,u3,ne_eq,not_true_eq_false];simp only[zMb,J,if_true,if_pos Y,Nd.encN,Nd.encB]
   | false=>
    simp only[Bool.false_eq_true,if_false,zC,zJ,List.all_eq_true]at C
    cases kids with
    | nil=>simp at C
    | cons k0 kids=>
     simp only[zO]at a2 C;have b1:=C.2.2 k0 (zF ..);obtain⟨p,p1,p2⟩:=u4.at (h3.prs (t.trans j.prs)) (i:=0) (by simp);simp only[List.getElem_cons_zero]at p2;obtain⟨F,e9,o9,b2⟩:=zLI (dy m) m (E:=o.next+2) (p:=k0) j.out j.prs.ok j.lt (Nd.kidOk_may b1) (a0 k0 (zF ..)) (by omega) hm
     have N:=j.step o9 b2;obtain⟨b3,b4,a4⟩:=zKC m n hm K f.ok (T.prs t) (h3.prs t) (by omega) (fun q hq=>⟨Nd.kidOk_may (C.2.2 q (zE _ hq)),a0 q (zE _ hq)⟩) (by omega) _ (by rw[zL,Nd.encP_length];omega) N n (by omega);obtain⟨u,u1,u2,u3⟩:=a3 _ _ a4;refine⟨b3, ?_,t.trans a4.prs⟩;simp(disch:=omega) only[f149,eZ,yU O,cG,Option.map_some,e2,J,qY W,e3,V,qT K,T.lnSl,a8,w1,w2,a7,yU f.ok,yU (f.ok.push _),AH.push_next,a9,e6,yU a6,n6,b0,e8,qT (j.prs.get f.ok K),p1,p2,zMg,e9,VL,qT (N.prs.get f.ok K),b4,W0,u1,u2,u3,ne_eq,not_true_eq_false];simp only[zMb,J,if_true,if_pos Y,Nd.encN,Nd.encB,Bool.false_eq_true,if_false,List.append_assoc]
  .have V:((500:Nat):Int)< ((Nd.size ⟨leaf,keys,vals,kids⟩:Nat):Int):=by omega
   refine⟨o, ?_,t⟩;simp only[f149,eZ,yU O,cG,Option.map_some,e2,J,qY W,e3,V,zMb,Y,a5]
open Go.Nd (bee mayP k9)
theorem zCU {a b:Nat}(t:a<18446744073709551616)(hb:b<256):jM .or (.int .u64 ((a*256:Nat):Int)) (.int .u64 (b:Int))=some (.int .u64 (((a*256+b):Nat):Int))\/18446744073709551616<=a*256:=by
 by_cases h:a*256<18446744073709551616
 .left;have f:Nat.blt (a*256) (YX .u64)=true:=by rw[zR];exact h
  have j:Nat.blt b (YX .u64)=true:=by rw[zR];exact Nat.lt_trans hb (by decide)
  have m:Nat.lor (a*256) b=a*256+b:=by
   have:=Nat.two_pow_add_eq_or_of_lt (b:=b) (i:=8) (by omega) a;rw[Nat.mul_comm a 256];exact this.symm
  have o:keq .u64 .u64=true:=rfl;have p:IntKind.wrap .u64 ((a*256+b:Nat):Int)=((a*256+b:Nat):Int):=by rw[wrap_u64];omega
  have q:aC .or .u64 (.ofNat (a*256)) (.ofNat b)=some (.int .u64 ((a*256+b:Nat):Int)):=by
   simp only[aC,IntKind.signed,Bool.not_false,f,j,Bool.and_self,cond_true,m,wQ,Int.ofNat_eq_natCast,p]
  have s:jM .or (.int .u64 (.ofNat (a*256))) (.int .u64 (.ofNat b))=aC .or .u64 (.ofNat (a*256)) (.ofNat b):=by simp only[jM,uA,o,cond_true]
  exact s.trans q
 .right;omega
theorem zFf (l:Str)(i:Nat)(h:i<l.length):(qU l)[i]? =some (.int .u8 ((l[i].toNat:Nat):Int)):=by simp[qU,h]
theorem zL2 (l:Str)(i:Nat)(h:i<l.length):bee (l.take (i+1))=bee (l.take i)*256+l[i].toNat:=by rw[jP l i h,Nd.bee_snoc]
theorem zBf (D:Dyn)(n:Nat){H:AH}{v:AV}{l:Str}(h:Rw 1 H v l.length (qU l))(hl:l.length<=8)(K:100<=n):f226 D n [v] H=some (.int .u64 (bee l:Nat),H):=by
 have key:=kH (b:=dQ D n) (H:=H) (r:=some (.exit 0 [.int .u64 (bee l:Nat)],H)) (fun i=>[.int .u64 (bee (l.take i):Nat),v, .int .i64 (l.length:Nat), .int .i64 (i:Nat)]) l.length (fun i hi=>by
  obtain⟨p,x,u,y,f⟩:=h.ld1 hi;rw[zFf l i hi]at f;simp only[zB]at f;subst f;have o:=Nd.bee_lt (l.take i);have m:(l.take i).length=i:=by simp;omega
  have hp:256 ^ i<=256 ^ 7:=Nat.pow_le_pow_right (by omega) (by omega);rw[m]at o;have hb:bee (l.take i)<72057594037927936:=by
   have:(256:Nat) ^ 7=72057594037927936:=by decide
   omega
  have z:l[i].toNat<256:=l[i].toNat_lt;have q:((i:Nat):Int)< ((l.length:Nat):Int):=by omega
  have C:IntKind.wrap .u64 (((bee (l.take i):Nat):Int)*2 ^ 8)=((bee (l.take i)*256:Nat):Int):=by rw[wrap_u64];omega
  have F:IntKind.wrap .u64 ((l[i].toNat:Nat):Int)=((l[i].toNat:Nat):Int):=by rw[wrap_u64];omega
  have t:=(zCU (a:=bee (l.take i)) (b:=l[i].toNat) (by omega) z).resolve_right (by omega);have j:=zEj .u64 .u64 ((bee (l.take i):Nat):Int) (s:=8) (by decide);rw[C]at j;simp(disch:=omega) only[dQ,eZ,q,u,y,j,F,t,zL2 l i hi];simp only[Int.natCast_add]) (fun n=>y7 (by
  simp only[dQ,eZ,qB,zP (Nat.le_refl _)])) n (by omega)
 have J:f226 D n [v] H=gP (jb 0 (yF n (dQ D n) [.int .u64 (bee (l.take 0):Nat),v, .int .i64 (l.length:Nat), .int .i64 (0:Nat)] H) (KS D n)):=by
  simp only[f226,eZ,h.lnSl];rfl
 rw[J,key];simp only[eZ,KS]
theorem zMc (s:Str)(h:s.length<4611686018427387904):zMd 5 (S s)=some (.cells (qU s) 5 1 true,fun A=> .slice A 0 s.length 1):=by
 have:Nat.blt s.length 4611686018427387904=true:=by rw[zR];exact h
 simp only[zMd,S,this,cond_true,WP]
theorem y9 {H:AH}(a:H.ok){A:Nat}{l l':List AV}{e:TypeId}(h:H.h.get A=some (.cells l e 1 false))(hl:l'.length=l.length)(f:qW l'=true):
  ∃H',stN l.length (.ptr A 0) (.agg l') H=some (qX,H')/\H'.h.get A=some (.cells l' e 1 false)/\Stp (fun B=>B=A) H H'/\H'.next=H.next:=by
 refine⟨_,JL h (by decide) hl f (by omega), ?_,(Stp.refl a).put (a.lt h) _ (.inr rfl),rfl⟩;rw[AH.put_get,if_pos rfl];simp[y6]
theorem zIr (D:Dyn)(n:Nat){H:AH}(x:H.ok){s:Str}(a:s.length=16)(y:100<=n):
  ∃H',zJj D n [S s] H=some (.tuple [.agg (qZ (if mayP (k9 s)then k9 s else pz)), .int .i64 ((if mayP (k9 s)then 0 else 4:Nat):Int)],H')/\Prs H H':=by
 have W: ¬(((s.length:Nat):Int)≠((16:Nat):Int)):=by omega
 have i:Prs H (H.push (.cells (qZ pz) 42 1 false)):=(Stp.refl x).push _;have g1:(H.push (.cells (qZ pz) 42 1 false)).h.get H.next=some (.cells (qZ pz) 42 1 false):=AH.push_get_eq _ _
 have n1:(H.push (.cells (qZ pz) 42 1 false)).next=H.next+1:=rfl
 generalize Y:H.push (.cells (qZ pz) 42 1 false)=H1 at i g1 n1;have j:Prs H1 (H1.push (.cells (qU s) 5 1 true)):=(Stp.refl i.ok).push _;have g2:(H1.push (.cells (qU s) 5 1 true)).h.get H1.next=some (.cells (qU s) 5 1 true):=AH.push_get_eq _ _
 have n2:(H1.push (.cells (qU s) 5 1 true)).next=H1.next+1:=rfl
 generalize a0:H1.push (.cells (qU s) 5 1 true)=H2 at j g2 n2;have O:ldN 16 (.ptr H1.next 0) H2=some (.agg (qU s)):=by
  rw[qY g2,yY _ _ _ (.inr (by simp[qU,a])),List.drop_zero,zP (by simp[qU,a])];rfl
 have z:Prs H2 (H2.push (.cells (Z 16) 232 1 false)):=(Stp.refl j.ok).push _;have g3:(H2.push (.cells (Z 16) 232 1 false)).h.get H2.next=some (.cells (Z 16) 232 1 false):=AH.push_get_eq _ _
 have n3:(H2.push (.cells (Z 16) 232 1 false)).next=H2.next+1:=rfl
 generalize a1:H2.push (.cells (Z 16) 232 1 false)=H3 at z g3 n3;obtain⟨f,e4,g4,m,n4⟩:=y9 z.ok g3 (l':=qU s) (by simp[qU,Z,a]) (bytesV_cells s);have a2:stN 16 (.ptr H2.next 0) (.agg (qU s)) H3=some (qX,f):=e4
 have t:Prs f (f.push (.cells (qZ pz) 42 1 false)):=(Stp.refl m.ok).push _;have g5:(f.push (.cells (qZ pz) 42 1 false)).h.get f.next=some (.cells (qZ pz) 42 1 false):=AH.push_get_eq _ _
 have n5:(f.push (.cells (qZ pz) 42 1 false)).next=f.next+1:=rfl
 have p:=t.get m.ok g4;generalize a3:f.push (.cells (qZ pz) 42 1 false)=H5 at t g5 n5 p;have a9:Rw 1 H5 (.slice H2.next 0 4 32) (s.take 4).length (qU (s.take 4)):=by
  refine⟨by simp[qU], .inr (.inr ⟨H2.next,0,32,_,_,_,_, ?_,p,by omega,by simp[qU];omega, ?_⟩)⟩
  .simp[a]
  .simp[qU,a]
 have b0:Rw 1 H5 (.slice H2.next 4 4 24) ((s.drop 4).take 4).length (qU ((s.drop 4).take 4)):=by
  refine⟨by simp[qU], .inr (.inr ⟨H2.next,4,24,_,_,_,_, ?_,p,by omega,by simp[qU];omega, ?_⟩)⟩
  .simp[a]
  .simp[qU,a]
 have b3:Rw 1 H5 (.slice H2.next 8 8 16) (s.drop 8).length (qU (s.drop 8)):=by
  refine⟨by simp[qU], .inr (.inr ⟨H2.next,8,16,_,_,_,_, ?_,p,by omega,by simp[qU];omega, ?_⟩)⟩
  .simp[a]
  .rw[zP (by simp[qU,a])];simp[qU]
 have q1:=zBf D n a9 (by simp;omega) y;have q2:=zBf D n b0 (by simp;omega) y;have q3:=zBf D n b3 (by simp;omega) y;have b1:=Nd.bee_lt (s.take 4);have b2:=Nd.bee_lt ((s.drop 4).take 4);rw[show(s.take 4).length=4 by simp;omega]at b1;rw[show((s.drop 4).take 4).length=4 by simp;omega]at b2;have w1:IntKind.wrap .i64 ((bee (s.take 4):Nat):Int)=((bee (s.take 4):Nat):Int):=wrap_i64 (by omega) (by omega);have w2:IntKind.wrap .i64 ((bee ((s.drop 4).take 4):Nat):Int)=((bee ((s.drop 4).take 4):Nat):Int):=wrap_i64 (by omega) (by omega);obtain⟨H6,e6,C,u,n6⟩:=y9 t.ok g5 (l':=qZ (k9 s)) rfl rfl;have a4:stN 3 (.ptr f.next 0) (.agg (qZ (k9 s))) H5=some (qX,H6):=e6
 obtain⟨F,e7,J⟩:=zLH D n u.ok (k9 s);have g7:=J.get u.ok C;have T:Prs H1 H6:=((((j.trans z).fresh m (fun B K=>by omega)).trans t).fresh u (fun B K=>by omega));have a5:=J.get u.ok (T.get i.ok g1);have q:Prs H F:=(i.trans T).trans J;have U:xX (qZ (k9 s)) 0 3=some (qZ (k9 s)):=rfl;have b5:(AV.agg [.int .i64 ((0:Nat):Int), .int .i64 ((0:Nat):Int), .int .u64 ((0:Nat):Int)])= .agg (qZ pz):=rfl;have V:([.int .i64 ((0:Nat):Int), .int .i64 ((0:Nat):Int), .int .u64 ((0:Nat):Int)]:List AV)=qZ pz:=rfl;have b4:wY [(0,1),(1,1),(2,1)] (qZ pz) []=some (.agg (qZ pz)):=rfl;have a6:wY [(0,1),(1,1),(2,1)] (qZ pz) [(0, .int .i64 ((bee (s.take 4):Nat):Int)),(1, .int .i64 ((bee ((s.drop 4).take 4):Nat):Int)),(2, .int .u64 ((bee (s.drop 8):Nat):Int))]=some (.agg (qZ (k9 s))):=rfl;have a7: ∀A:Nat,s2a 16 (.slice A 0 16 1)=some (.ptr A 0):=fun _=>rfl
 have a8:xX (qZ pz) 0 3=some (qZ pz):=rfl
 cases hm:mayP (k9 s)with
 | false=>
  obtain⟨o,L,N,s8,n8⟩:=y9 q.ok a5 (l':=qZ pz) rfl rfl;have v:stN 3 (.ptr H.next 0) (.agg (qZ pz)) F=some (qX,o):=L
  refine⟨o, ?_,q.fresh s8 (fun B K=>by omega)⟩;simp(disch:=omega) only[zJj,eZ,V,yU x,Y,W,zMc s (by omega),a,yU i.ok,a0,a7,O,yU j.ok,zMX,a1,a2,zG6,zG5,slA _ 4 8 (by omega) (by omega) (by omega),yU m.ok,a3,q1,w1,q2,w2,q3,a6,a4,qY C,U,Option.map_some,e7,hm,b4,v,qY N,a8];rfl
 | true=>
  obtain⟨o,L,N,s8,n8⟩:=y9 q.ok a5 (l':=qZ (k9 s)) rfl rfl;have v:stN 3 (.ptr H.next 0) (.agg (qZ (k9 s))) F=some (qX,o):=L
  refine⟨o, ?_,q.fresh s8 (fun B K=>by omega)⟩;simp(disch:=omega) only[zJj,eZ,V,yU x,Y,W,zMc s (by omega),a,yU i.ok,a0,a7,O,yU j.ok,zMX,a1,a2,zG6,zG5,slA _ 4 8 (by omega) (by omega) (by omega),yU m.ok,a3,q1,w1,q2,w2,q3,a6,a4,qY C,U,Option.map_some,e7,hm,qY g7,v,qY N];rfl
open Go.Nd (kI uR)
theorem Stp.via {S T:Nat->Prop}{H0 H a:AH}(h:Stp S H0 H)(k:Stp T H a)(f: ∀A,T A->H0.next<=A\/S A):Stp S H0 a:=
 ⟨k.ok,Nat.le_trans h.next k.next,fun A i j=>by
  rw[k.keep A (zY i h.next) (fun x=>by rcases f A x with y | y;omega;exact j y),h.keep A i j]⟩
structure RdI (R:Nat)(H0 H:AH)(rest:Str)(bad leaf:Bool)(kv vv pv:AV)(ks vs:List Str)(ps:List Ptr):Prop where
 prs:Stp (fun B=>B=R) H0 H
 get: ∃e,H.h.get R=some (.cells [S rest, .bool bad, .bool leaf,kv,vv,pv] e 1 false)
 k:Own 1 9 H kv ks.length (ks.map S)
 v:Own 1 9 H vv vs.length (vs.map S)
 p:Own 3 42 H pv ps.length (ps.flatMap qZ)
 kb: ∀B,Blk kv B->H0.next<=B/\B≠R/\ ¬Blk vv B/\ ¬Blk pv B
 vb: ∀B,Blk vv B->H0.next<=B/\B≠R/\ ¬Blk pv B
 pb: ∀B,Blk pv B->H0.next<=B/\B≠R
 small:rest.length<=10000/\ks.length<=1000000/\vs.length<=1000000/\ps.length<=1000000
theorem RdI.put {R:Nat}{H0 H:AH}{rest:Str}{m leaf:Bool}{kv a f:AV}{ks vs:List Str}{q:List Ptr}(h:RdI R H0 H rest m leaf kv a f ks vs q){o:Nat}{x:AV}(u:isCell x=true)(y:o<6){rest':Str}{bad':Bool}(hr:rest'.length<=10000)
  (hl:[S rest, .bool m, .bool leaf,kv,a,f].set o x=[S rest', .bool bad', .bool leaf,kv,a,f]): ∃H',stN 1 (.ptr R o) x H=some (qX,H')/\RdI R H0 H' rest' bad' leaf kv a f ks vs q:=by
 obtain⟨e,s⟩:=h.get;have t:=h.prs.ok.lt s;have j:Stp (fun B=>B=R) H (H.put R (.cells ([S rest, .bool m, .bool leaf,kv,a,f].set o x) e 1 false)):=(Stp.refl h.prs.ok).put t _ (.inr rfl);refine⟨_,bF s (by decide) u y,⟨h.prs.trans j,⟨e,by rw[AH.put_get,if_pos rfl,hl]⟩,h.k.mono j (fun B i=>(h.kb B i).2.1),h.v.mono j (fun B i=>(h.vb B i).2.1),h.p.mono j (fun B i=>(h.pb B i).2),h.kb,h.vb,h.pb,hr,h.small.2⟩⟩
def jE (rest:Str)(a:Bool)(k:Nat):Str×Str×Bool:=if a then([],rest,true)else if rest.length<k then([],rest,true)else(rest.take k,rest.drop k,false)
theorem zOi:S []= .str 0 0:=rfl
theorem UH (D:Dyn)(n:Nat){R:Nat}{H0 H:AH}{rest:Str}{a leaf:Bool}{kv q s:AV}{ks vs:List Str}{t:List Ptr}(h:RdI R H0 H rest a leaf kv q s ks vs t)(k:Nat):
  ∃H',f172 D n [.ptr R 0, .int .i64 (k:Nat)] H=some (S (jE rest a k).1,H')/\RdI R H0 H' (jE rest a k).2.1 (jE rest a k).2.2 leaf kv q s ks vs t:=by
 obtain⟨e,p⟩:=h.get
 cases a with
 | true=>
  obtain⟨f,i,j⟩:=h.put (o:=1) (x:= .bool true) rfl (by decide) (rest':=rest) (bad':=true) h.small.1 rfl;refine⟨f, ?_,j⟩;simp only[f172,eZ,qT p,i,jE,zOi]
 | false=>
  by_cases u:rest.length<k
  .obtain⟨f,i,j⟩:=h.put (o:=1) (x:= .bool true) rfl (by decide) (rest':=rest) (bad':=true) h.small.1 rfl;have m:((rest.length:Nat):Int)< ((k:Nat):Int):=by omega
   simp only[jE,u,if_true,Bool.false_eq_true,if_false];refine⟨f, ?_,j⟩;simp only[f172,eZ,qT p,i,m,zOi]
  .obtain⟨f,i,j⟩:=h.put (o:=0) (x:=S (rest.drop k)) rfl (by decide) (rest':=rest.drop k) (bad':=false) (by have:=h.small.1;simp;omega) rfl;have m: ¬((rest.length:Nat):Int)< ((k:Nat):Int):=by omega
   have v:=UN rest .i64 (z:=((k:Nat):Int)) (by omega) (by omega);have y:=zJD rest .i64 (z:=((k:Nat):Int)) (by omega) (by omega);simp only[qA]at v y;simp only[jE,u,Bool.false_eq_true,if_false];refine⟨f, ?_,j⟩;simp only[f172,eZ,qT p,i,m,v,y]
def wC (rest:Str)(a:Bool):Str×Str×Bool:=if(jE rest a 1).2.2 then([],(jE rest a 1).2)else jE (jE rest a 1).2.1 false ((jE rest a 1).1.getD 0 0).toNat
theorem zAk (rest:Str):(wC rest true).2.2=true:=by simp[wC,jE]
theorem uE {rest a r:Str}(h:kI rest=some (a,r)):wC rest false=(a,r,false):=by
 cases rest with
 | nil=>simp[kI]at h
 | cons c s=>
  simp only[kI]at h;split at h
  .rename_i f;simp only[zB,zK]at h;obtain⟨rfl,rfl⟩:=h;simp[wC,jE];omega
  .simp at h
theorem ZV {rest:Str}(h:kI rest=none):(wC rest false).2.2=true:=by
 cases rest with
 | nil=>simp[wC,jE]
 | cons c s=>
  simp only[kI]at h;split at h
  .simp at h
  .rename_i f;have i: ¬(c::s).length<1:=by simp
   have a:s.length<c.toNat:=by omega
   simp[wC,jE,a]
theorem zLs (D:Dyn)(n:Nat){R:Nat}{H0 H:AH}{rest:Str}{a leaf:Bool}{kv p q:AV}{ks vs:List Str}{s:List Ptr}(h:RdI R H0 H rest a leaf kv p q ks vs s):
  ∃H',f210 D n [.ptr R 0] H=some (S (wC rest a).1,H')/\RdI R H0 H' (wC rest a).2.1 (wC rest a).2.2 leaf kv p q ks vs s:=by
 obtain⟨x,t,f⟩:=UH D n h 1;obtain⟨e,i⟩:=f.get;by_cases hb:(jE rest a 1).2.2=true
 .rw[hb]at f i;refine⟨x, ?_,by simp only[wC,hb,if_true];exact f⟩;simp only[f210,eZ,t,qT i,wC,hb,zOi]
 .have j:(jE rest a 1).2.2=false:=by simpa using hb
  have m:(jE rest a 1).1.length=1:=by
   revert j;unfold jE;split
   .intro h;simp at h
   .split
    .intro h;simp at h
    .intro _;simp;omega
  rw[j]at f i;obtain⟨y,C,F⟩:=UH D n f ((jE rest a 1).1.getD 0 0).toNat;have o:=KA (jE rest a 1).1 .i64 (z:=((0:Nat):Int)) (by omega) (by simp[m]);have u:(jE rest a 1).1[(((0:Nat):Int)).toNat]'(by simp[m])=(jE rest a 1).1.getD 0 0:=by
   rw[zT,zH (by omega)];rfl
  rw[u]at o;have J:IntKind.wrap .i64 ((((jE rest a 1).1.getD 0 0).toNat:Nat):Int)=((((jE rest a 1).1.getD 0 0).toNat:Nat):Int):=wrap_i64 (by omega) (by have:=((jE rest a 1).1.getD 0 0).toNat_lt;omega);have v:wC rest a=jE (jE rest a 1).2.1 false ((jE rest a 1).1.getD 0 0).toNat:=by simp only[wC,j,Bool.false_eq_true,if_false]
  rw[v];refine⟨y, ?_,F⟩;simp only[f210,eZ,t,qT i,o,J,C]
theorem zPY (x:AV)(h:isCell x=true):d7 9 1 1 [.str 0 0] [(0,x)]=some (.cells [x] 9 1 false,fun A=> .slice A 0 1 2):=zPZ 9 1 _ x h
theorem zEp {k e n:Nat}{H:AH}{v:AV}{l:List AV}(h:Own k e H v n l):aveq v v=true:=yL h.row
theorem RdI.prsH {R:Nat}{H0 H H':AH}{rest:Str}{a leaf:Bool}{kv f i:AV}{ks vs:List Str}{j:List Ptr}(h:RdI R H0 H rest a leaf kv f i ks vs j)(s:Prs H H'):RdI R H0 H' rest a leaf kv f i ks vs j:=by
 obtain⟨e,m⟩:=h.get;exact⟨h.prs.trans (Prs.stp s),⟨e,s.get h.prs.ok m⟩,h.k.mono s (fun _ _ x=>x),h.v.mono s (fun _ _ x=>x),h.p.mono s (fun _ _ x=>x),h.kb,h.vb,h.pb,h.small⟩
theorem RdI.lt {R:Nat}{H0 H:AH}{rest:Str}{a leaf:Bool}{kv f i:AV}{ks vs:List Str}{j:List Ptr}(h:RdI R H0 H rest a leaf kv f i ks vs j):R<H.next:=by
 obtain⟨e,m⟩:=h.get;exact h.prs.ok.lt m
theorem Own.lt {k e n:Nat}{H:AH}{v:AV}{l:List AV}(h:Own k e H v n l){B:Nat}(a:Blk v B):B<H.next:=(yV.lt (.inl h) a)
theorem zLw (H:AH)(x:AV)(e:Nat):Prs H (H.push (.cells [x] e 1 false))->srcOf 1 (.slice H.next 0 1 2) (H.push (.cells [x] e 1 false))=some (1,[x]):=fun _=>JM H [x] e 1 false 1 2 rfl
theorem zB9 (D:Dyn)(n:Nat){R:Nat}{H0 H:AH}{rest:Str}{s leaf:Bool}{kv u y:AV}{ks vs:List Str}{T:List Ptr}(h:RdI R H0 H rest s leaf kv u y ks vs T)(hs:ks.length<1000000):
  ∃H' m,f173 D n [.ptr R 0] H=some (.tuple [],H')/\RdI R H0 H' (wC rest s).2.1 (wC rest s).2.2 leaf m u y (ks++[(wC rest s).1]) vs T:=by
 obtain⟨j,U,i⟩:=zLs D n h;generalize wC rest s=t at U i⊢;obtain⟨e,g0⟩:=h.get;obtain⟨e',g1⟩:=i.get;have J:Prs j (j.push (.cells [S t.1] 9 1 false)):=(Stp.refl i.prs.ok).push _;have f:=i.prsH J;obtain⟨K,V,L,q,n3⟩:=vS (bytes:=16) J.ok (by decide) f.k (zLw j (S t.1) 9 J) rfl rfl (Nat.le_refl 1) (by omega) (by decide);generalize a1:AV.slice (j.push (.cells [S t.1] 9 1 false)).next 0 (ks.length+1) 1=m at V L
 have O: ∀B,Blk m B->B=j.next+1:=fun B a=>by rw[<-a1,Blk.slice]at a;exact a
 have a3:=i.lt;have n2:(j.push (.cells [S t.1] 9 1 false)).next=j.next+1:=rfl
 have a4:=i.prs.next
 obtain⟨F,g2⟩:=f.get;have W:K.h.get R=some (.cells [S t.2.1, .bool t.2.2, .bool leaf,kv,u,y] F 1 false):=by rw[q.keep _ (by omega) (fun z=>(f.kb _ z).2.1 rfl)];exact g2
 have Y:=q.ok.lt W;have C:Stp (fun B=>B=R) K (K.put R (.cells ([S t.2.1, .bool t.2.2, .bool leaf,kv,u,y].set 3 m) F 1 false)):=(Stp.refl q.ok).put Y _ (.inr rfl);have Z:=bF (o:=3) (x:=m) W (by decide) L.row.isCell (by simp);have a2: ∀B,Blk u B-> ¬Blk kv B:=fun B a N=>(f.kb B N).2.2.1 a
 have a0: ∀B,Blk y B-> ¬Blk kv B:=fun B a N=>(f.kb B N).2.2.2 a
 refine⟨_,m, ?_,⟨(Stp.via f.prs q (fun B a=> .inl (f.kb B a).1)).trans C,⟨F,by rw[AH.put_get,if_pos rfl];rfl⟩, ?_,(f.v.mono q a2).mono C (fun B a=>(f.vb B a).2.1),(f.p.mono q a0).mono C (fun B a=>(f.pb B a).2), ?_,f.vb,f.pb,⟨i.small.1,by simp;omega,h.small.2.2⟩⟩⟩
 .simp only[f173,eZ,qT g0,U];rw[j8 (by rw[qT g1];rfl) (zEp h.k),zPY _ rfl];simp only[eZ,yU i.prs.ok,V];rw[Z];simp only[eZ]
 .have:=L.mono C (fun B a=>by have:=O B a;omega);simpa using this
 .intro B a;have:=O B a;refine⟨by omega,by omega,fun z=> ?_,fun z=> ?_⟩
  .have:=Own.lt i.v z;omega
  .have:=Own.lt i.p z;omega
theorem zD4 (D:Dyn)(n:Nat){R:Nat}{H0 H:AH}{rest:Str}{u leaf:Bool}{kv y z:AV}{ks vs:List Str}{T:List Ptr}(h:RdI R H0 H rest u leaf kv y z ks vs T)(hs:vs.length<1000000):
  ∃H' q,f175 D n [.ptr R 0] H=some (.tuple [],H')/\RdI R H0 H' (wC rest u).2.1 (wC rest u).2.2 leaf kv q z ks (vs++[(wC rest u).1]) T:=by
 obtain⟨j,U,i⟩:=zLs D n h;generalize wC rest u=t at U i⊢;obtain⟨e,g0⟩:=h.get;obtain⟨e',g1⟩:=i.get;have L:Prs j (j.push (.cells [S t.1] 9 1 false)):=(Stp.refl i.prs.ok).push _;have f:=i.prsH L;obtain⟨N,V,O,s,n3⟩:=vS (bytes:=16) L.ok (by decide) f.v (zLw j (S t.1) 9 L) rfl rfl (Nat.le_refl 1) (by omega) (by decide);generalize a1:AV.slice (j.push (.cells [S t.1] 9 1 false)).next 0 (vs.length+1) 1=q at V O
 have J: ∀B,Blk q B->B=j.next+1:=fun B a=>by rw[<-a1,Blk.slice]at a;exact a
 have a3:=i.lt;have n2:(j.push (.cells [S t.1] 9 1 false)).next=j.next+1:=rfl
 have a4:=i.prs.next
 obtain⟨K,g2⟩:=f.get;have W:N.h.get R=some (.cells [S t.2.1, .bool t.2.2, .bool leaf,kv,y,z] K 1 false):=by rw[s.keep _ (by omega) (fun C=>(f.vb _ C).2.1 rfl)];exact g2
 have Y:=s.ok.lt W;have F:Stp (fun B=>B=R) N (N.put R (.cells ([S t.2.1, .bool t.2.2, .bool leaf,kv,y,z].set 4 q) K 1 false)):=(Stp.refl s.ok).put Y _ (.inr rfl);have Z:=bF (o:=4) (x:=q) W (by decide) O.row.isCell (by simp);have a2: ∀B,Blk kv B-> ¬Blk y B:=fun B a m=>(f.kb B a).2.2.1 m
 have a0: ∀B,Blk z B-> ¬Blk y B:=fun B a m=>(f.vb B m).2.2 a
 refine⟨_,q, ?_,⟨(Stp.via f.prs s (fun B a=> .inl (f.vb B a).1)).trans F,⟨K,by rw[AH.put_get,if_pos rfl];rfl⟩,(f.k.mono s a2).mono F (fun B a=>(f.kb B a).2.1), ?_,(f.p.mono s a0).mono F (fun B a=>(f.pb B a).2), ?_, ?_,f.pb,⟨i.small.1,h.small.2.1,by simp;omega,h.small.2.2.2⟩⟩⟩
 .simp only[f175,eZ,qT g0,U];rw[j8 (by rw[qT g1];rfl) (zEp h.v),zPY _ rfl];simp only[eZ,yU i.prs.ok,V];rw[Z];simp only[eZ]
 .have:=O.mono F (fun B a=>by have:=J B a;omega);simpa using this
 .intro B a;have m:=f.kb B a;refine⟨m.1,m.2.1,fun C=> ?_,m.2.2.2⟩;have:=J B C;have:=Own.lt i.k a;omega
 .intro B a;have:=J B a;refine⟨by omega,by omega,fun C=> ?_⟩;have:=Own.lt i.p C;omega
def zCo (rest:Str)(a:Bool)(f:List Ptr):Str×Bool×List Ptr:=if(jE rest a 16).2.2 then((jE rest a 16).2.1,true,f)else if mayP (k9 (jE rest a 16).1)then((jE rest a 16).2.1,false,f++[k9 (jE rest a 16).1])else((jE rest a 16).2.1,true,f)
theorem zDG (rest:Str)(a:List Ptr):(zCo rest true a).2.1=true:=by simp[zCo,jE]
theorem zB5 {rest r:Str}{p:Ptr}(f:List Ptr)(h:uR rest=some (p,r)):zCo rest false f=(r,false,f++[p]):=by
 simp only[uR,Nd.decP]at h;split at h
 .rename_i hl;split at h
  .rename_i q a;simp only[zB,zK]at h;obtain⟨rfl,rfl⟩:=h;split at a
   .rename_i hm;simp only[zB]at a;subst a;have: ¬rest.length<16:=by omega
    simp[zCo,jE,this,hm]
   .simp at a
  .simp at h
 .simp at h
theorem zB6 {rest:Str}(f:List Ptr)(h:uR rest=none):(zCo rest false f).2.1=true:=by
 simp only[uR,Nd.decP]at h;split at h
 .rename_i hl;split at h
  .simp at h
  .rename_i a;split at a
   .simp at a
   .rename_i hm;have: ¬rest.length<16:=by omega
    simp[zCo,jE,this,hm]
 .rename_i hl;have:rest.length<16:=by omega
  simp[zCo,jE,this]
theorem BB (D:Dyn)(n:Nat)(hn:100<=n){R:Nat}{H0 H:AH}{rest:Str}{u leaf:Bool}{kv K y:AV}{ks vs:List Str}{C:List Ptr}(h:RdI R H0 H rest u leaf kv K y ks vs C)(hs:C.length<1000000):
  ∃H' z,f174 D n [.ptr R 0] H=some (.tuple [],H')/\RdI R H0 H' (zCo rest u C).1 (zCo rest u C).2.1 leaf kv K z ks vs (zCo rest u C).2.2:=by
 obtain⟨H1,L,q⟩:=UH D n h 16;obtain⟨e,N⟩:=q.get;have Y:(jE rest u 16).2.2=false->(jE rest u 16).1.length=16:=by
  unfold jE;split
  .intro h;simp at h
  .split
   .intro h;simp at h
   .intro _;simp;omega
 simp only[zCo];generalize jE rest u 16=t at L q N Y⊢;obtain⟨s,r,b⟩:=t;simp only at L q N Y⊢
 cases b with
 | true=>
  refine⟨H1,y, ?_,by simpa using q⟩;simp only[f174,eZ,L,qT N]
 | false=>
  obtain⟨O,F,p2⟩:=zIr D n q.prs.ok (Y rfl) hn;have T:=q.prsH p2;have a0: ∀x:Ptr,∃f,stN 3 (.ptr O.next 0) (.agg (qZ x)) (O.push (.cells [.int .i64 (0:Nat), .int .i64 (0:Nat), .int .u64 (0:Nat)] 42 1 false))=some (qX,f)/\Prs O f/\f.next=O.next+1/\f.h.get O.next=some (.cells (qZ x) 42 1 false):=zCS T.prs.ok
  cases hm:mayP (k9 s)with
  | false=>
   obtain⟨f,e3,p3,n3,g3⟩:=a0 pz;have j:=T.prsH p3;obtain⟨H4,e4,i⟩:=j.put (o:=1) (x:= .bool true) rfl (by decide) (rest':=r) (bad':=true) q.small.1 rfl;refine⟨H4,y, ?_,by simpa using i⟩;rw[hm]at F;simp only[if_false,Bool.false_eq_true]at F;have a5:(((4:Nat):Int)≠((0:Nat):Int)):=by omega
   simp only[f174,eZ,L,qT N,F,qV,nth,yU T.prs.ok,e3,a5,e4,ne_eq,not_false_eq_true]
  | true=>
   obtain⟨f,e3,p3,n3,g3⟩:=a0 (k9 s);have j:=T.prsH p3;rw[hm]at F;simp only[if_true]at F;have p4:Prs f (f.push (.cells (qZ (k9 s)) 42 3 false)):=(Stp.refl j.prs.ok).push _;have i:=j.prsH p4;have n4:(f.push (.cells (qZ (k9 s)) 42 3 false)).next=f.next+1:=rfl
   have a1:srcOf 3 (.slice f.next 0 1 2) (f.push (.cells (qZ (k9 s)) 42 3 false))=some (1,qZ (k9 s)):=JM f _ 42 3 false 1 2 rfl
   obtain⟨H5,e5,o5,J,n5⟩:=vS (bytes:=24) p4.ok (by decide) i.p a1 rfl rfl (Nat.le_refl 1) (by omega) (by decide);generalize a6:AV.slice (f.push (.cells (qZ (k9 s)) 42 3 false)).next 0 (C.length+1) 1=z at e5 o5
   have V: ∀B,Blk z B->B=f.next+1:=fun B a=>by rw[<-a6,Blk.slice]at a;exact a
   have b2:=j.lt;have b3:=j.prs.next
   obtain⟨b4,a7⟩:=j.get;obtain⟨Z,g4⟩:=i.get;have g5:H5.h.get R=some (.cells [S r, .bool false, .bool leaf,kv,K,y] Z 1 false):=by rw[J.keep _ (by omega) (fun U=>(i.pb _ U).2 rfl)];exact g4
   have a2:=J.ok.lt g5;have W:Stp (fun B=>B=R) H5 (H5.put R (.cells ([S r, .bool false, .bool leaf,kv,K,y].set 5 z) Z 1 false)):=(Stp.refl J.ok).put a2 _ (.inr rfl);have a3:=bF (o:=5) (x:=z) g5 (by decide) o5.row.isCell (by simp);have a8: ∀B,Blk kv B-> ¬Blk y B:=fun B a m=>(i.kb B a).2.2.2 m
   have a4: ∀B,Blk K B-> ¬Blk y B:=fun B a m=>(i.vb B a).2.2 m
   have a9:d7 42 3 1 [.int .i64 ((0:Nat):Int), .int .i64 ((0:Nat):Int), .int .u64 ((0:Nat):Int)] [(0, .agg (qZ (k9 s)))]=some (.cells (qZ (k9 s)) 42 3 false,fun A=> .slice A 0 1 2):=rfl;have b0: ¬(((0:Nat):Int)≠((0:Nat):Int)):=by omega
   refine⟨_,z, ?_,⟨(Stp.via i.prs J (fun B a=> .inl (i.pb B a).1)).trans W,⟨Z,by rw[AH.put_get,if_pos rfl];rfl⟩,(i.k.mono J a8).mono W (fun B a=>(i.kb B a).2.1),(i.v.mono J a4).mono W (fun B a=>(i.vb B a).2.1), ?_, ?_, ?_, ?_,⟨q.small.1,h.small.2.1,h.small.2.2.1,by simp;omega⟩⟩⟩
   .have b1:xX (qZ (k9 s)) 0 3=some (qZ (k9 s)):=rfl;simp only[f174,eZ,L,qT N,F,qV,nth,yU T.prs.ok,e3,b0,qT a7,qY g3,b1,Option.map_some,a9,yU j.prs.ok,e5];rw[a3];simp only[eZ]
   .have:=o5.mono W (fun B a=>by have:=V B a;omega);simpa using this
   .intro B a;have m:=i.kb B a;refine⟨m.1,m.2.1,m.2.2.1,fun U=> ?_⟩;have:=V B U;have:=Own.lt j.k a;omega
   .intro B a;have m:=i.vb B a;refine⟨m.1,m.2.1,fun U=> ?_⟩;have:=V B U;have:=Own.lt j.v a;omega
   .intro B a;have:=V B a;exact⟨by omega,by omega⟩
open Go.Nd (YN YO)
theorem WO (m n R:Nat)(H:AH):callV [(172,f172 (dy (m+1)) n),(174,f174 (dy (m+1)) n),(62,f62 (dy (m+1)) n)] (dy (m+1)) (.func 173 [.ptr R 0] []) [] H=f173 (dy m) m [.ptr R 0] H:=rfl
theorem zIK (m n R:Nat)(H:AH):callV [(172,f172 (dy (m+1)) n),(174,f174 (dy (m+1)) n),(62,f62 (dy (m+1)) n)] (dy (m+1)) (.func 175 [.ptr R 0] []) [] H=f175 (dy m) m [.ptr R 0] H:=rfl
theorem zCR (m n R:Nat)(H:AH):callV [(172,f172 (dy (m+1)) n),(174,f174 (dy (m+1)) n),(62,f62 (dy (m+1)) n)] (dy (m+1)) (.func 174 [.ptr R 0] []) [] H=f174 (dy (m+1)) n [.ptr R 0] H:=rfl
theorem ix2 (a:Nat)(i:Nat)(h:i<2):hU 1 (.slice a 0 2 4) (.int .i64 ((i:Nat):Int))=some (.ptr a i):=by
 have hb:Nat.blt i 2=true:=by rw[zR];exact h
 simp only[hU,yK _ (show(0:Int)<=((i:Nat):Int)by omega),qA,hb,cond_true,yG,Nat.zero_add,Nat.mul_one]
theorem inner (m n:Nat){R f:Nat}{q s:AV}{H p t:AH}{a k i:AV}{e:TypeId}(z:H.h.get f=some (.cells [q,s] e 1 false))(u:p.h.get f=some (.cells [q,s] e 1 false))
  (C:callV [(172,f172 (dy (m+1)) n),(174,f174 (dy (m+1)) n),(62,f62 (dy (m+1)) n)] (dy (m+1)) q [] H=some (.tuple [],p)) (F:callV [(172,f172 (dy (m+1)) n),(174,f174 (dy (m+1)) n),(62,f62 (dy (m+1)) n)] (dy (m+1)) s [] p=some (.tuple [],t)) (o:Nat) (N:3<=o):
  yF o (uL (dy (m+1)) n) [a, .ptr R 0, .slice f 0 2 4,k,i, .slice f 0 2 4, .int .i64 (2:Nat), .int .i64 (0:Nat)] H=some (.exit 2 [a, .ptr R 0, .slice f 0 2 4,k,i],t):=by
 obtain⟨o,rfl⟩: ∃j,o=j+3:=⟨o - 3,by omega⟩;have v:((0:Nat):Int)< ((2:Nat):Int):=by omega
 have x:((1:Nat):Int)< ((2:Nat):Int):=by omega
 have y: ¬((2:Nat):Int)< ((2:Nat):Int):=by omega
 have J:((0:Nat):Int)+((1:Nat):Int)=((1:Nat):Int):=rfl;have K:((1:Nat):Int)+((1:Nat):Int)=((2:Nat):Int):=rfl;have L:=ix2 f 0 (by omega);have x1:=ix2 f 1 (by omega);rw[jF (vs':=[a, .ptr R 0, .slice f 0 2 4,k,i, .slice f 0 2 4, .int .i64 (2:Nat), .int .i64 (1:Nat)]) (H':=p) (by
  simp(disch:=omega) only[uL,eZ,v,L,qT z,C,J])]
 rw[jF (vs':=[a, .ptr R 0, .slice f 0 2 4,k,i, .slice f 0 2 4, .int .i64 (2:Nat), .int .i64 (2:Nat)]) (H':=t) (by
  simp(disch:=omega) only[uL,eZ,x,x1,qT u,F,K])]
 exact y7 (by simp only[uL,eZ,y])
theorem zPf (m n:Nat)(hn:3<=n){R o A4:Nat}{p:AH}{e:TypeId}(t:p.h.get o=some (.cells [.func 173 [.ptr R 0] [], .func 175 [.ptr R 0] []] e 1 false))(L:p.ok)(hR:o≠R)
  {F:Str} (K:Nat) (hK:K<1000000) (h0:RdI R p p F false true .nilSlice .nilSlice .nilSlice [] [] []) (U:Nat) (a1:K<U):
  ∃H',yF U (kZ (dy (m+1)) n) [.ptr A4 0, .ptr R 0, .slice o 0 2 4, .int .i64 (K:Nat), .int .i64 (0:Nat)] p=some (.exit 0 [.ptr A4 0, .ptr R 0],H')/\
   ∃kv f ks vs rest,(match YN K F with | some (a,b,r)=>ks=a/\vs=b/\rest=r/\RdI R p H' rest false true kv f .nilSlice ks vs [] | none=>RdI R p H' rest true true kv f .nilSlice ks vs []):=by
 have key:=aY (b:=kZ (dy (m+1)) n) K (fun i=>(YN (i+1) F).isSome)
  (fun i N H=>N=[.ptr A4 0, .ptr R 0, .slice o 0 2 4, .int .i64 (K:Nat), .int .i64 (i:Nat)]/\ ∃kv f ks vs rest,YN i F=some (ks,vs,rest)/\RdI R p H rest false true kv f .nilSlice ks vs [])
  (fun x H'=>x= .exit 0 [.ptr A4 0, .ptr R 0]/\ ∃kv f ks vs rest,YN K F=some (ks,vs,rest)/\RdI R p H' rest false true kv f .nilSlice ks vs [])
  (fun x H'=>x= .exit 0 [.ptr A4 0, .ptr R 0]/\ ∃kv f ks vs rest,RdI R p H' rest true true kv f .nilSlice ks vs []) ?_ ?_ ?_ U _ p ⟨rfl,_,_,_,_,_,rfl,h0⟩ a1
 .obtain⟨x,H',k1,v⟩:=key;rw[Nd.decL_all]at v
  cases hd:YN K F with
  | none=>
   rw[hd]at v;simp only[Option.isSome_none,Bool.false_eq_true,if_false]at v;obtain⟨rfl,kv,f,ks,vs,rest,h⟩:=v;exact⟨H',k1,kv,f,ks,vs,rest,h⟩
  | some y=>
   rw[hd]at v;simp only[qS,if_true]at v;obtain⟨rfl,kv,f,ks,vs,rest,q,h⟩:=v;simp only[zB]at q;subst q;exact⟨H',k1,kv,f,ks,vs,rest,rfl,rfl,rfl,h⟩
 .rintro i N H hi ⟨rfl,kv,f,ks,vs,rest,hd,z⟩ j
  obtain⟨_,a2,a3⟩:=Nd.decL_eq hd;obtain⟨J,a4,V,q⟩:=zB9 (dy m) m z (by omega);obtain⟨W,a5,Y,s⟩:=zD4 (dy m) m q (by omega);have hp:H.h.get o=_:=(z.prs.keep o (L.lt t) hR).trans t;have O:J.h.get o=_:=(q.prs.keep o (L.lt t) hR).trans t;have S:=inner m n (R:=R) (a:= .ptr A4 0) (k:= .int .i64 (K:Nat)) (i:= .int .i64 (i:Nat)) hp O ((WO m n R H).trans V) ((zIK m n R J).trans Y) n hn;rw[Nd.decL_snoc,hd]at j;simp only[Option.bind_some]at j;have T:((i:Nat):Int)< ((K:Nat):Int):=by omega
  cases u:kI rest with
  | none=>rw[u]at j;simp at j
  | some a=>
   obtain⟨a,Z⟩:=a;rw[u]at j;simp only[Option.bind_some]at j;rw[uE u]at q s;simp only at q s
   cases C:kI Z with
   | none=>rw[C]at j;simp at j
   | some b=>
    obtain⟨b,r2⟩:=b;rw[uE C]at s;simp only at s;obtain⟨ee,g2⟩:=s.get;refine⟨_,W, ?_,rfl,_,_,_,_,_, ?_,s⟩
    .simp(disch:=omega) only[kZ,eZ,T,lnSl,S,uM,qT g2,Int.natCast_add]
    .rw[Nd.decL_snoc,hd];simp only[Option.bind_some,u,C]
 .rintro i N H hi ⟨rfl,kv,f,ks,vs,rest,hd,z⟩ j
  obtain⟨_,a2,a3⟩:=Nd.decL_eq hd;obtain⟨J,a4,V,q⟩:=zB9 (dy m) m z (by omega);obtain⟨W,a5,Y,s⟩:=zD4 (dy m) m q (by omega);have hp:H.h.get o=_:=(z.prs.keep o (L.lt t) hR).trans t;have O:J.h.get o=_:=(q.prs.keep o (L.lt t) hR).trans t;have S:=inner m n (R:=R) (a:= .ptr A4 0) (k:= .int .i64 (K:Nat)) (i:= .int .i64 (i:Nat)) hp O ((WO m n R H).trans V) ((zIK m n R J).trans Y) n hn;rw[Nd.decL_snoc,hd]at j;simp only[Option.bind_some]at j;have T:((i:Nat):Int)< ((K:Nat):Int):=by omega
  have a0:(wC (wC rest false).2.1 (wC rest false).2.2).2.2=true:=by
   cases u:kI rest with
   | none=>rw[ZV u];exact zAk _
   | some a=>
    obtain⟨a,Z⟩:=a;rw[u]at j;simp only[Option.bind_some]at j;rw[uE u]
    cases C:kI Z with
    | none=>exact ZV C
    | some b=>rw[C]at j;simp at j
  rw[a0]at s;obtain⟨ee,g2⟩:=s.get;refine⟨.exit 0 [.ptr A4 0, .ptr R 0],W, ?_,rfl,rfl,_,_,_,_,_,s⟩;simp(disch:=omega) only[kZ,eZ,T,lnSl,S,uM,qT g2]
 .rintro N H ⟨rfl,kv,f,ks,vs,rest,hd,z⟩
  refine⟨.exit 0 [.ptr A4 0, .ptr R 0],H, ?_,rfl,rfl,_,_,_,_,_,hd,z⟩;simp only[kZ,eZ,qB]
theorem zPg (m n:Nat)(hn:100<=n){R p A4:Nat}{u W:AH}{e:TypeId}(t:u.h.get p=some (.cells [.func 173 [.ptr R 0] [], .func 174 [.ptr R 0] []] e 1 false))(O:u.ok)(hR:p≠R)
  {J:Str} {a1:AV} {L:Ptr} (K:Nat) (hK:K<1000000) (h0:RdI R u W J false false .nilSlice .nilSlice a1 [] [] [L]) (Y:Nat) (a2:K<Y):
  ∃H',yF Y (kZ (dy (m+1)) n) [.ptr A4 0, .ptr R 0, .slice p 0 2 4, .int .i64 (K:Nat), .int .i64 (0:Nat)] W=some (.exit 0 [.ptr A4 0, .ptr R 0],H')/\
   ∃kv j ks f rest,(match YO K J with | some (a,b,r)=>ks=a/\f=L::b/\rest=r/\RdI R u H' rest false false kv .nilSlice j ks [] f | none=>RdI R u H' rest true false kv .nilSlice j ks [] f):=by
 have key:=aY (b:=kZ (dy (m+1)) n) K (fun i=>(YO (i+1) J).isSome)
  (fun i S H=>S=[.ptr A4 0, .ptr R 0, .slice p 0 2 4, .int .i64 (K:Nat), .int .i64 (i:Nat)]/\ ∃kv j ks f rest,YO i J=some (ks,f,rest)/\RdI R u H rest false false kv .nilSlice j ks [] (L::f))
  (fun x H'=>x= .exit 0 [.ptr A4 0, .ptr R 0]/\ ∃kv j ks f rest,YO K J=some (ks,f,rest)/\RdI R u H' rest false false kv .nilSlice j ks [] (L::f))
  (fun x H'=>x= .exit 0 [.ptr A4 0, .ptr R 0]/\ ∃kv j ks f rest,RdI R u H' rest true false kv .nilSlice j ks [] f) ?_ ?_ ?_ Y _ W ⟨rfl,_,_,_,_,_,rfl,h0⟩ a2
 .obtain⟨x,H',k1,z⟩:=key;rw[Nd.decI_all]at z
  cases hd:YO K J with
  | none=>
   rw[hd]at z;simp only[Option.isSome_none,Bool.false_eq_true,if_false]at z;obtain⟨rfl,kv,j,ks,f,rest,h⟩:=z;exact⟨H',k1,kv,j,ks,f,rest,h⟩
  | some y=>
   rw[hd]at z;simp only[qS,if_true]at z;obtain⟨rfl,kv,j,ks,f,rest,q,h⟩:=z;simp only[zB]at q;subst q;exact⟨H',k1,kv,j,ks,L::f,rest,rfl,rfl,rfl,h⟩
 .rintro i S H hi ⟨rfl,kv,j,ks,f,rest,hd,C⟩ o
  obtain⟨_,a3,a4,_⟩:=Nd.decI_eq hd;obtain⟨N,a5,Z,q⟩:=zB9 (dy m) m C (by omega);obtain⟨H2,a6,e2,s⟩:=BB (dy (m+1)) n hn q (by simp;omega);have hp:H.h.get p=_:=(C.prs.keep p (O.lt t) hR).trans t;have T:N.h.get p=_:=(q.prs.keep p (O.lt t) hR).trans t;have U:=inner m n (R:=R) (a:= .ptr A4 0) (k:= .int .i64 (K:Nat)) (i:= .int .i64 (i:Nat)) hp T ((WO m n R H).trans Z) ((zCR m n R N).trans e2) n (by omega);rw[Nd.decI_snoc,hd]at o;simp only[Option.bind_some]at o;have V:((i:Nat):Int)< ((K:Nat):Int):=by omega
  cases v:kI rest with
  | none=>rw[v]at o;simp at o
  | some a=>
   obtain⟨a,r1⟩:=a;rw[v]at o;simp only[Option.bind_some]at o;rw[uE v]at q s;simp only at q s
   cases F:uR r1 with
   | none=>rw[F]at o;simp at o
   | some b=>
    obtain⟨b,r2⟩:=b;rw[zB5 _ F]at s;simp only at s;obtain⟨ee,g2⟩:=s.get;refine⟨_,H2, ?_,rfl,_,_,_,_,_, ?_,s⟩
    .simp(disch:=omega) only[kZ,eZ,V,lnSl,U,uM,qT g2,Int.natCast_add]
    .rw[Nd.decI_snoc,hd];simp only[Option.bind_some,v,F];rfl
 .rintro i S H hi ⟨rfl,kv,j,ks,f,rest,hd,C⟩ o
  obtain⟨_,a3,a4,_⟩:=Nd.decI_eq hd;obtain⟨N,a5,Z,q⟩:=zB9 (dy m) m C (by omega);obtain⟨H2,a6,e2,s⟩:=BB (dy (m+1)) n hn q (by simp;omega);have hp:H.h.get p=_:=(C.prs.keep p (O.lt t) hR).trans t;have T:N.h.get p=_:=(q.prs.keep p (O.lt t) hR).trans t;have U:=inner m n (R:=R) (a:= .ptr A4 0) (k:= .int .i64 (K:Nat)) (i:= .int .i64 (i:Nat)) hp T ((WO m n R H).trans Z) ((zCR m n R N).trans e2) n (by omega);rw[Nd.decI_snoc,hd]at o;simp only[Option.bind_some]at o;have V:((i:Nat):Int)< ((K:Nat):Int):=by omega
  have a0:(zCo (wC rest false).2.1 (wC rest false).2.2 (L::f)).2.1=true:=by
   cases v:kI rest with
   | none=>rw[ZV v];exact zDG _ _
   | some a=>
    obtain⟨a,r1⟩:=a;rw[v]at o;simp only[Option.bind_some]at o;rw[uE v]
    cases F:uR r1 with
    | none=>exact zB6 _ F
    | some b=>rw[F]at o;simp at o
  rw[a0]at s;obtain⟨ee,g2⟩:=s.get;refine⟨.exit 0 [.ptr A4 0, .ptr R 0],H2, ?_,rfl,rfl,_,_,_,_,_,s⟩;simp(disch:=omega) only[kZ,eZ,V,lnSl,U,uM,qT g2]
 .rintro S H ⟨rfl,kv,j,ks,f,rest,hd,C⟩
  refine⟨.exit 0 [.ptr A4 0, .ptr R 0],H, ?_,rfl,rfl,_,_,_,_,_,hd,C⟩;simp only[kZ,eZ,qB]
end Go.Eng.Sh
end

