/- A checked evaluator for the program, and what it tells, part 4: no condition. -/
import Derived.Test.YtaaflpnhdkoaeaaGreatO3
import Derived.Test.YtaaflpnhdkoaeaaGreatProg
import Derived.KernelRfl
set_option linter.all false
set_option linter.unusedVariables false
set_option linter.unusedSimpArgs false
set_option maxHeartbeats 8000000
set_option maxRecDepth 20000
section
noncomputable section
namespace Go.Eng.Sh
open Go.Proofs
set_option maxRecDepth 100000
set_option maxHeartbeats 4000000
variable (D:Dyn)(n:Nat)
attribute [local irreducible] bV bR hd cnd jn jb jY wnt chk VQ bA kI aV K0 bZ eqP eqS eqM eqF eqA zPA ldN ld1 stN cvI zPE zFb zNa VT vY xF fJ uX XA zBZ zG1 fd1 fdN fAd X3 lnSl QK apP apZ cpy vR zM0 pk3 s2a bxV dL zIa lkM upM dlM mkM callV nl dH tld zN7 uM YE fQ zEG rfC mn2 mx2 aun jM v6 jO isW aveq bF
def h85:Hint:=(.s .o Hr)
def f85:=(⟨_,by conv=>rhs;reduce⟩:FD ⟨X,[]⟩ D n 85 Tryz.f85 h85 []).1
theorem zMQ {D:Dyn}(a:DG D)(n:Nat):FI 85 (f85 D n):=fk n (ms h85) a sn Tryz.func85
attribute [local irreducible] f85
def s32:Tb:=⟨X,[(85,f85 D n)]⟩
def h32:Hint:=(.s .o (.s Hq Hr))
def f32:=(⟨_,by conv=>rhs;reduce⟩:FD (s32 D n) D n 32 Tryz.f32 h32 []).1
theorem zEX {D:Dyn}(a:DG D)(n:Nat):FI 32 (f32 D n):=fk n (ms h32) a (sc (zMQ a n) sn) Tryz.func32
attribute [local irreducible] f32
def h86:Hint:=(.s (.b [15,32767] .o) (.s (.b [10,1023] .o) .o))
def f86:=(⟨_,by conv=>rhs;reduce⟩:FD ⟨X,[]⟩ D n 86 Tryz.f86 h86 []).1
theorem zEP {D:Dyn}(a:DG D)(n:Nat):FI 86 (f86 D n):=fk n (ms h86) a sn Tryz.func86
attribute [local irreducible] f86
def s34:Tb:=⟨X,[(86,f86 D n)]⟩
def JZ (D:Dyn)(n:Nat)(vs:List AV)(H:AH):Rs:=
 hd vs fun x4 vs=>hd vs fun a vs=>
 bV (kI .lss a (.int .i64 (.ofNat 2))) fun f=>
 cnd f (bR (f86 D n [x4,a,(.int .u8 (.ofNat 1))] H) fun i H=>
 bV (kI .add a (.int .i64 (.ofNat 1))) fun h=>
 some (.norm [x4,h],H))
 (some (.exit 0 [x4],H))
def zGb (D:Dyn)(n:Nat)(vs:List AV)(H:AH):Rs:=
 hd vs fun a vs=>
 bV (some a) fun f=>bV (some (.int .i64 (.ofNat 0))) fun h=>some (.ret (.tuple [f,h]),H)
def f34 (D:Dyn)(n:Nat)(vs:List AV)(H:AH):Option (AV×AH):=
 dH (hd vs fun a vs=>nl vs <|
 bV (kI .lss a (.int .i64 (.ofNat 64))) fun h=>
 jn (wnt h false (bV (kI .gtr a (.int .i64 (.ofNat 8192))) fun j=>
 some (.norm [j],H)) (some (.norm [jO],H))) fun vs H=>hd vs fun i vs=>
 bV (pk3 (some h) (some (.bool true)) (some i)) fun m=>
 cnd m (bV (some .nilPtr) fun t=>bV (some (.int .i64 (.ofNat 1))) fun u=>some (.ret (.tuple [t,u]),H))
 (bV (vR [(0,1),(1,1),(2,8192),(8194,4)] ([(.int .i64 (.ofNat 0)),(.int .i64 (.ofNat 0))]++rep 8192 [(.int .u8 (.ofNat 0))]++[(.int .i64 (.ofNat 0)),(.int .i64 (.ofNat 0)),(.int .i64 (.ofNat 0)),(.int .i64 (.ofNat 0))]) [(0,a)]) fun o=>
 bA (bxV 145 o) H fun f H=>
 bV (v6 f) fun p=>
 bV (fAd 8194 p) fun q=>
 bV (fJ 4 1 q (.int .u8 (.ofNat 0))) fun s=>
 bR (stN 1 s a H) fun v H=>
 jb 0 (jY n (JZ D n) [f,(.int .i64 (.ofNat 0))] H) (zGb D n)))
def h34:Hint:=(.s .o (.s Hq (.s .o (.s .o (.s (.s .o (.b [4] (.l [4,20] (.s .o (.s (.cr .o .o) (.s (.b0 Hr) .o)))))) Hr)))))
theorem zN2 {D:Dyn}(a:DG D)(n:Nat):FI 34 (f34 D n):=fk n h34 a (sc (zEP a n) sn) Tryz.func34
attribute [local irreducible] JZ zGb f34
def h118:Hint:=(.s .o (.s Hq Hr))
def f118:=(⟨_,by conv=>rhs;reduce⟩:FD ⟨X,[]⟩ D n 118 Tryz.f118 h118 []).1
theorem zDF {D:Dyn}(a:DG D)(n:Nat):FI 118 (f118 D n):=fk n (ms h118) a sn Tryz.func118
attribute [local irreducible] f118
def h119:Hint:=(.s .o (.b [1] (.l [0,0,1,6,7] (.s .o (.s (.cr .o .o) (.s (.b0 Hr) .o))))))
def ZD:=(⟨_,by conv=>rhs;reduce⟩:PD ⟨X,[]⟩ D n 119 Tryz.f119 h119 [] 0).1
attribute [local irreducible] ZD
def BG:=(⟨_,by conv=>rhs;reduce⟩:PD ⟨X,[]⟩ D n 119 Tryz.f119 h119 [ZD D n] 1).1
attribute [local irreducible] BG
def f119:=(⟨_,by conv=>rhs;reduce⟩:FD ⟨X,[]⟩ D n 119 Tryz.f119 h119 [ZD D n,BG D n]).1
theorem zDE {D:Dyn}(a:DG D)(n:Nat):FI 119 (f119 D n):=fk n (ms h119) a sn Tryz.func119
attribute [local irreducible] f119
def s72:Tb:=⟨X,[(118,f118 D n),(119,f119 D n)]⟩
def f72 (D:Dyn)(n:Nat)(vs:List AV)(H:AH):Option (AV×AH):=
 dH (hd vs fun y vs=>nl vs <|
 bA (bxV 42 y) H fun a H=>
 bV (ldN 3 a H) fun z=>
 bR (f118 D n [z] H) fun x6 H=>
 bV (aun .not x6) fun C=>
 cnd C (bV (some (.str 0 0)) fun F=>bV (some (.int .i64 (.ofNat 4))) fun J=>some (.ret (.tuple [F,J]),H))
 (bA (bxV 232 (.agg (rep 16 [(.int .u8 (.ofNat 0))]))) H fun x4 H=>
 bV (xF 16 1 x4 none (some (.int .i64 (.ofNat 4))) none) fun K=>
 bV (fAd 0 a) fun L=>
 bV (ld1 L H) fun i=>
 bV (cvI .u64 i) fun j=>
 bR (f119 D n [K,j] H) fun N H=>
 bV (xF 16 1 x4 (some (.int .i64 (.ofNat 4))) (some (.int .i64 (.ofNat 8))) none) fun m=>
 bV (fAd 1 a) fun o=>
 bV (ld1 o H) fun p=>
 bV (cvI .u64 p) fun q=>
 bR (f119 D n [m,q] H) fun O H=>
 bV (xF 16 1 x4 (some (.int .i64 (.ofNat 8))) none none) fun s=>
 bV (fAd 2 a) fun t=>
 bV (ld1 t H) fun u=>
 bR (f119 D n [s,u] H) fun S H=>
 bV (xF 16 1 x4 none none none) fun v=>
 bV (zFb v H) fun x=>
 bV (some x) fun f=>bV (some (.int .i64 (.ofNat 0))) fun h=>some (.ret (.tuple [f,h]),H)))
def h72:Hint:=(.s .o (.s Hq (.s .o (.s .o (.s .o (.s .o Hr))))))
theorem zIJ {D:Dyn}(a:DG D)(n:Nat):FI 72 (f72 D n):=fk n h72 a (sc (zDF a n) (sc (zDE a n) sn)) Tryz.func72
attribute [local irreducible] f72
def s18:Tb:=⟨X,[(72,f72 D n)]⟩
def h18:Hint:=(.s .o (.s Hq (.s (.s .o Hq) Hr)))
def f18:=(⟨_,by conv=>rhs;reduce⟩:FD (s18 D n) D n 18 Tryz.f18 h18 []).1
theorem zCe {D:Dyn}(a:DG D)(n:Nat):FI 18 (f18 D n):=fk n (ms h18) a (sc (zIJ a n) sn) Tryz.func18
attribute [local irreducible] f18
def h73:Hint:=(.s .o Hr)
def f73:=(⟨_,by conv=>rhs;reduce⟩:FD ⟨X,[]⟩ D n 73 Tryz.f73 h73 []).1
theorem XL {D:Dyn}(a:DG D)(n:Nat):FI 73 (f73 D n):=fk n (ms h73) a sn Tryz.func73
attribute [local irreducible] f73
def h127:Hint:=(.s .o (.s .o (.s (.b [9,511] .o) Hr)))
def f127:=(⟨_,by conv=>rhs;reduce⟩:FD ⟨X,[]⟩ D n 127 Tryz.f127 h127 []).1
theorem zAJ {D:Dyn}(a:DG D)(n:Nat):FI 127 (f127 D n):=fk n (ms h127) a sn Tryz.func127
attribute [local irreducible] f127
def zOr:Hint:=(.s .o (.s .o (.s (.s .o (.b [2,0,3,4] (.l [1,0,3,4,16,17,18] (.s .o (.s (.cr .o .o) (.s (.b0 (.s .o (.s .o (.c [0,0,3,4,16,17,18] (.b [6,63] .o) (.b [7,126,10,1023] .o))))) .o)))))) (.s (.t [0,3,4] bF) Hr))))
def QV:=(⟨_,by conv=>rhs;reduce⟩:PD ⟨X,[]⟩ D n 126 Tryz.f126 zOr [] 0).1
attribute [local irreducible] QV
def cS:=(⟨_,by conv=>rhs;reduce⟩:PD ⟨X,[]⟩ D n 126 Tryz.f126 zOr [QV D n] 1).1
attribute [local irreducible] cS
def BD:=(⟨_,by conv=>rhs;reduce⟩:PD ⟨X,[]⟩ D n 126 Tryz.f126 zOr [QV D n,cS D n] 2).1
attribute [local irreducible] BD
def f126:=(⟨_,by conv=>rhs;reduce⟩:FD ⟨X,[]⟩ D n 126 Tryz.f126 zOr [QV D n,cS D n,BD D n]).1
theorem zOF (D:Dyn)(n:Nat):f126 D n=zPy ⟨X,[]⟩ D n 126 Tryz.f126 (ms zOr):=by kernel_rfl
theorem zGc:zE6 Tryz.f126 (ms zOr)=[(UH.code,[0,3,4],bF)]:=by kernel_rfl
theorem zJd: ∀x∈zE6 Tryz.f126 (ms zOr),VM PP Tryz.f126.ntmps 126 x.1 x.2.1 x.2.2:=by
 rw[zGc];intro x a;simp only[zP,List.not_mem_nil,or_false]at a;subst a;exact zGL
theorem zDD {D:Dyn}(a:DG D)(n:Nat):FI 126 (f126 D n):=zOt X_ok a sn Tryz.func126 (zHh (by kernel_rfl) zJd) (zOF D n)
attribute [local irreducible] f126
def zPx:Hint:=(.s .o (.s .o (.s (.s .o (.b [3,1,3] (.l [0,1,3,14,15,16] (.s .o (.s (.cr .o .o) (.s (.b0 Hr) .o)))))) (.s (.s .o (.b [2,3] (.l [1,3,27,28,29] (.s .o (.s (.cr .o .o) (.s (.b0 Hr) .o)))))) Hr))))
def dD:=(⟨_,by conv=>rhs;reduce⟩:PD ⟨X,[]⟩ D n 110 Tryz.f110 zPx [] 0).1
attribute [local irreducible] dD
def cT:=(⟨_,by conv=>rhs;reduce⟩:PD ⟨X,[]⟩ D n 110 Tryz.f110 zPx [dD D n] 1).1
attribute [local irreducible] cT
def V1:=(⟨_,by conv=>rhs;reduce⟩:PD ⟨X,[]⟩ D n 110 Tryz.f110 zPx [dD D n,cT D n] 2).1
attribute [local irreducible] V1
def BI:=(⟨_,by conv=>rhs;reduce⟩:PD ⟨X,[]⟩ D n 110 Tryz.f110 zPx [dD D n,cT D n,V1 D n] 3).1
attribute [local irreducible] BI
def f110:=(⟨_,by conv=>rhs;reduce⟩:FD ⟨X,[]⟩ D n 110 Tryz.f110 zPx [dD D n,cT D n,V1 D n,BI D n]).1
theorem YZ {D:Dyn}(a:DG D)(n:Nat):FI 110 (f110 D n):=fk n (ms zPx) a sn Tryz.func110
attribute [local irreducible] f110
def h137:Hint:=(.s .o Hr)
def f137:=(⟨_,by conv=>rhs;reduce⟩:FD ⟨X,[]⟩ D n 137 Tryz.f137 h137 []).1
theorem zAH {D:Dyn}(a:DG D)(n:Nat):FI 137 (f137 D n):=fk n (ms h137) a sn Tryz.func137
attribute [local irreducible] f137
def zNM:Tb:=⟨X,[(137,f137 D n)]⟩
def zMM:Hint:=(.s .o (.s (.s .o (.b [5,1] (.l [0,1,10,11,12] (.s .o (.s (.cr .o .o) (.s (.b0 (.s .o Hq)) .o)))))) (.s (.s .o (.cl (.s Hq (.s (.s .o (.b [2] (.l [1,51,52,53] (.s .o (.s (.cr .o .o) (.s (.b0 (.s .o Hq)) .o)))))) Hr)) .o)) (.s Hq (.s (.s .o (.b [4] (.l [3,82,83,84] (.s .o (.s (.cr .o .o) (.s (.b0 (.s .o Hq)) .o)))))) Hr)))))
def uD:=(⟨_,by conv=>rhs;reduce⟩:PD (zNM D n) D n 109 Tryz.f109 zMM [] 0).1
attribute [local irreducible] uD
def fP:=(⟨_,by conv=>rhs;reduce⟩:PD (zNM D n) D n 109 Tryz.f109 zMM [uD D n] 1).1
attribute [local irreducible] fP
def ZF:=(⟨_,by conv=>rhs;reduce⟩:PD (zNM D n) D n 109 Tryz.f109 zMM [uD D n,fP D n] 2).1
attribute [local irreducible] ZF
def cU:=(⟨_,by conv=>rhs;reduce⟩:PD (zNM D n) D n 109 Tryz.f109 zMM [uD D n,fP D n,ZF D n] 3).1
attribute [local irreducible] cU
def JP:=(⟨_,by conv=>rhs;reduce⟩:PD (zNM D n) D n 109 Tryz.f109 zMM [uD D n,fP D n,ZF D n,cU D n] 4).1
attribute [local irreducible] JP
def dG:=(⟨_,by conv=>rhs;reduce⟩:PD (zNM D n) D n 109 Tryz.f109 zMM [uD D n,fP D n,ZF D n,cU D n,JP D n] 5).1
attribute [local irreducible] dG
def f109:=(⟨_,by conv=>rhs;reduce⟩:FD (zNM D n) D n 109 Tryz.f109 zMM [uD D n,fP D n,ZF D n,cU D n,JP D n,dG D n]).1
theorem ZS {D:Dyn}(a:DG D)(n:Nat):FI 109 (f109 D n):=fk n (ms zMM) a (sc (zAH a n) sn) Tryz.func109
attribute [local irreducible] f109
def zPZ:Tb:=⟨X,[(110,f110 D n)]⟩
def zPv:Hint:=(.s .o (.s .o (.s .o (.s .o (.s (.s .o (.c [3,1,3,4,5] Hr .o)) (.s (.s .o (.b [2,4] (.l [1,1,3,4,5,20,21] (.s .o (.s (.cr .o .o) (.s (.b0 (.s .o (.s .o (.s (.s .o (.c [0,1,3,4,5,6,20,21] .o .o)) Hq)))) .o)))))) Hr))))))
def bN:=(⟨_,by conv=>rhs;reduce⟩:PD (zPZ D n) D n 227 Tryz.f227 zPv [] 0).1
attribute [local irreducible] bN
def fL:=(⟨_,by conv=>rhs;reduce⟩:PD (zPZ D n) D n 227 Tryz.f227 zPv [bN D n] 1).1
attribute [local irreducible] fL
def JG:=(⟨_,by conv=>rhs;reduce⟩:PD (zPZ D n) D n 227 Tryz.f227 zPv [bN D n,fL D n] 2).1
attribute [local irreducible] JG
def QQ:=(⟨_,by conv=>rhs;reduce⟩:PD (zPZ D n) D n 227 Tryz.f227 zPv [bN D n,fL D n,JG D n] 3).1
attribute [local irreducible] QQ
def f227:=(⟨_,by conv=>rhs;reduce⟩:FD (zPZ D n) D n 227 Tryz.f227 zPv [bN D n,fL D n,JG D n,QQ D n]).1
theorem zIU {D:Dyn}(a:DG D)(n:Nat):FI 227 (f227 D n):=fk n (ms zPv) a (sc (YZ a n) sn) Tryz.func227
attribute [local irreducible] f227
def h108:Hint:=(.s .o (.s Hq Hr))
def f108:=(⟨_,by conv=>rhs;reduce⟩:FD ⟨X,[]⟩ D n 108 Tryz.f108 h108 []).1
theorem zAK {D:Dyn}(a:DG D)(n:Nat):FI 108 (f108 D n):=fk n (ms h108) a sn Tryz.func108
attribute [local irreducible] f108
def h81:Hint:=(.s .o (.s Hq Hr))
def f81:=(⟨_,by conv=>rhs;reduce⟩:FD ⟨X,[]⟩ D n 81 Tryz.f81 h81 []).1
theorem zIH {D:Dyn}(a:DG D)(n:Nat):FI 81 (f81 D n):=fk n (ms h81) a sn Tryz.func81
attribute [local irreducible] f81
def s213:Tb:=⟨X,[(109,f109 D n),(227,f227 D n),(108,f108 D n),(81,f81 D n)]⟩
def h213:Hint:=(.s .o (.s Hq (.s .o (.s (.b [5,19,7,127] .o) (.s .o (.s (.s .o (.c [0,1,2,4,6] (.s .o (.c [5,31,10,1023,12,4095,14,16383] (.l [0,1,2,3,4,6,7,8,9,5,11,10,12,13,14] .o) .o)) (.s .o (.c [7,127,13,8191,15,32767,17,131071] (.l [0,1,2,3,4,5,6,8,9,10,11,12,7,14,13,15,16,17] .o) .o)))) (.s (.b [7,1,9,511] .o) .o)))))))
def XS:=(⟨_,by conv=>rhs;reduce⟩:PD (s213 D n) D n 213 Tryz.f213 h213 [] 0).1
attribute [local irreducible] XS
def f213:=(⟨_,by conv=>rhs;reduce⟩:FD (s213 D n) D n 213 Tryz.f213 h213 [XS D n]).1
theorem zIX {D:Dyn}(a:DG D)(n:Nat):FI 213 (f213 D n):=fk n (ms h213) a (sc (ZS a n) (sc (zIU a n) (sc (zAK a n) (sc (zIH a n) sn)))) Tryz.func213
attribute [local irreducible] f213
def s177:Tb:=⟨X,[(110,f110 D n),(213,f213 D n)]⟩
def h177:Hint:=(.s .o (.s .o (.s .o (.s (.b [1,1,5,6] (.l [0,1,5,6] (.s (.s .o (.cr .o .o)) (.b0 (.s .o (.s Hq (.s .o Hr))))))) Hr))))
def QR:=(⟨_,by conv=>rhs;reduce⟩:PD (s177 D n) D n 177 Tryz.f177 h177 [] 0).1
attribute [local irreducible] QR
def B9:=(⟨_,by conv=>rhs;reduce⟩:PD (s177 D n) D n 177 Tryz.f177 h177 [QR D n] 1).1
attribute [local irreducible] B9
def f177:=(⟨_,by conv=>rhs;reduce⟩:FD (s177 D n) D n 177 Tryz.f177 h177 [QR D n,B9 D n]).1
theorem zDz {D:Dyn}(a:DG D)(n:Nat):FI 177 (f177 D n):=fk n (ms h177) a (sc (YZ a n) (sc (zIX a n) sn)) Tryz.func177
attribute [local irreducible] f177
def s179:Tb:=⟨X,[(127,f127 D n)]⟩
def h179:Hint:=(.s .o (.s .o (.s (.s .o (.b [1,5] (.l [0,0,5,8,9,10] (.s .o (.s (.cr .o .o) (.s (.b0 Hr) .o)))))) Hr)))
def Z9:=(⟨_,by conv=>rhs;reduce⟩:PD (s179 D n) D n 179 Tryz.f179 h179 [] 0).1
attribute [local irreducible] Z9
def UZ:=(⟨_,by conv=>rhs;reduce⟩:PD (s179 D n) D n 179 Tryz.f179 h179 [Z9 D n] 1).1
attribute [local irreducible] UZ
def f179:=(⟨_,by conv=>rhs;reduce⟩:FD (s179 D n) D n 179 Tryz.f179 h179 [Z9 D n,UZ D n]).1
theorem zDx {D:Dyn}(a:DG D)(n:Nat):FI 179 (f179 D n):=fk n (ms h179) a (sc (zAJ a n) sn) Tryz.func179
attribute [local irreducible] f179
def s131:Tb:=⟨X,[(126,f126 D n),(177,f177 D n),(179,f179 D n),(127,f127 D n)]⟩
def h131:Hint:=(.s .o (.s (.s .o (.cl (.s (.s .o (.c [0] .o .o)) Hr) .o)) (.s .o (.s Hq (.s .o (.s (.s .o (.c [1] .o .o)) Hr))))))
def JL:=(⟨_,by conv=>rhs;reduce⟩:PD (s131 D n) D n 131 Tryz.f131 h131 [] 0).1
attribute [local irreducible] JL
def XZ:=(⟨_,by conv=>rhs;reduce⟩:PD (s131 D n) D n 131 Tryz.f131 h131 [JL D n] 1).1
attribute [local irreducible] XZ
def f131:=(⟨_,by conv=>rhs;reduce⟩:FD (s131 D n) D n 131 Tryz.f131 h131 [JL D n,XZ D n]).1
theorem zJb {D:Dyn}(a:DG D)(n:Nat):FI 131 (f131 D n):=fk n (ms h131) a (sc (zDD a n) (sc (zDz a n) (sc (zDx a n) (sc (zAJ a n) sn)))) Tryz.func131
attribute [local irreducible] f131
def h76:Hint:=(.s .o Hr)
def f76:=(⟨_,by conv=>rhs;reduce⟩:FD ⟨X,[]⟩ D n 76 Tryz.f76 h76 []).1
theorem zMS {D:Dyn}(a:DG D)(n:Nat):FI 76 (f76 D n):=fk n (ms h76) a sn Tryz.func76
attribute [local irreducible] f76
def h230:Hint:=(.s .o (.s (.s .o (.b [1,0] (.l [0,0,1,7,8] (.s .o (.s (.cr .o .o) (.s (.b0 Hr) .o)))))) Hr))
def QP:=(⟨_,by conv=>rhs;reduce⟩:PD ⟨X,[]⟩ D n 230 Tryz.f230 h230 [] 0).1
attribute [local irreducible] QP
def UX:=(⟨_,by conv=>rhs;reduce⟩:PD ⟨X,[]⟩ D n 230 Tryz.f230 h230 [QP D n] 1).1
attribute [local irreducible] UX
def f230:=(⟨_,by conv=>rhs;reduce⟩:FD ⟨X,[]⟩ D n 230 Tryz.f230 h230 [QP D n,UX D n]).1
theorem zIT {D:Dyn}(a:DG D)(n:Nat):FI 230 (f230 D n):=fk n (ms h230) a sn Tryz.func230
attribute [local irreducible] f230
def s225:Tb:=⟨X,[(230,f230 D n)]⟩
def h225:Hint:=(.s .o Hr)
def f225:=(⟨_,by conv=>rhs;reduce⟩:FD (s225 D n) D n 225 Tryz.f225 h225 []).1
theorem zIV {D:Dyn}(a:DG D)(n:Nat):FI 225 (f225 D n):=fk n (ms h225) a (sc (zIT a n) sn) Tryz.func225
attribute [local irreducible] f225
def s208:Tb:=⟨X,[(225,f225 D n)]⟩
def h208:Hint:=(.s .o Hr)
def f208:=(⟨_,by conv=>rhs;reduce⟩:FD (s208 D n) D n 208 Tryz.f208 h208 []).1
theorem zDw {D:Dyn}(a:DG D)(n:Nat):FI 208 (f208 D n):=fk n (ms h208) a (sc (zIV a n) sn) Tryz.func208
attribute [local irreducible] f208
def h226:Hint:=(.s .o (.s .o (.s (.s .o (.b [1,3] (.l [0,3,6,7,8] (.s .o (.s (.cr .o .o) (.s (.b0 Hr) .o)))))) Hr)))
def Z7:=(⟨_,by conv=>rhs;reduce⟩:PD ⟨X,[]⟩ D n 226 Tryz.f226 h226 [] 0).1
attribute [local irreducible] Z7
def XQ:=(⟨_,by conv=>rhs;reduce⟩:PD ⟨X,[]⟩ D n 226 Tryz.f226 h226 [Z7 D n] 1).1
attribute [local irreducible] XQ
def f226:=(⟨_,by conv=>rhs;reduce⟩:FD ⟨X,[]⟩ D n 226 Tryz.f226 h226 [Z7 D n,XQ D n]).1
theorem zDt {D:Dyn}(a:DG D)(n:Nat):FI 226 (f226 D n):=fk n (ms h226) a sn Tryz.func226
attribute [local irreducible] f226
def s150:Tb:=⟨X,[(119,f119 D n)]⟩
def zGt (D:Dyn)(n:Nat)(vs:List AV)(H:AH):Option (AV×AH):=
 dH (hd vs fun U vs=>hd vs fun f vs=>hd vs fun h vs=>nl vs <|
 bA (bxV 55 (.agg (rep 512 [(.int .u8 (.ofNat 0))]))) H fun x6 H=>
 bV (kI .lss f (.int .i64 (.ofNat 0))) fun i=>
 jn (wnt i false (bV (kI .gtr f (.int .i64 (.ofNat 2147483647))) fun t=>
 some (.norm [t],H)) (some (.norm [jO],H))) fun vs H=>hd vs fun o vs=>
 bV (pk3 (some i) (some (.bool true)) (some o)) fun u=>
 cnd u (bV (zM0 1 (rep 512 [(.int .u8 (.ofNat 0))]) []) fun v=>
 bR (stN 512 x6 v H) fun a0 H=>
 bV (ldN 512 x6 H) fun p=>bV (some (.int .i64 (.ofNat 1))) fun V=>some (.ret (.tuple [p,V]),H))
 (bV (X3 h) fun x=>
 bV (kI .gtr x (.int .i64 (.ofNat 500))) fun y=>
 cnd y (bV (zM0 1 (rep 512 [(.int .u8 (.ofNat 0))]) []) fun z=>
 bR (stN 512 x6 z H) fun W H=>
 bV (ldN 512 x6 H) fun j=>bV (some (.int .i64 (.ofNat 40))) fun q=>some (.ret (.tuple [j,q]),H))
 (bA (bxV 55 (.agg (rep 512 [(.int .u8 (.ofNat 0))]))) H fun a H=>
 bV (xF 512 1 a none none none) fun C=>
 bR (cpy 1 C (.str 4 2037675114) H) fun a1 H=>
 bV (fJ 512 1 a (.int .i64 (.ofNat 4))) fun F=>
 bR (stN 1 F U H) fun Y H=>
 bV (xF 512 1 a (some (.int .i64 (.ofNat 6))) (some (.int .i64 (.ofNat 8))) none) fun J=>
 bV (X3 h) fun K=>
 bV (cvI .u64 K) fun L=>
 bR (f119 D n [J,L] H) fun a2 H=>
 bV (xF 512 1 a (some (.int .i64 (.ofNat 8))) (some (.int .i64 (.ofNat 12))) none) fun N=>
 bV (cvI .u64 f) fun O=>
 bR (f119 D n [N,O] H) fun a3 H=>
 bV (xF 512 1 a (some (.int .i64 (.ofNat 12))) none none) fun S=>
 bR (cpy 1 S h H) fun a4 H=>
 bV (ldN 512 a H) fun T=>
 bR (stN 512 x6 T H) fun Z H=>
 bV (ldN 512 x6 H) fun m=>bV (some (.int .i64 (.ofNat 0))) fun s=>some (.ret (.tuple [m,s]),H))))
def h150:Hint:=(.s .o (.s Hq (.s Hq (.s .o (.s .o (.s .o (.s .o (.s .o (.s .o Hr)))))))))
theorem zDB {D:Dyn}(a:DG D)(n:Nat):FI 150 (zGt D n):=fk n h150 a (sc (zDE a n) sn) Tryz.func150
attribute [local irreducible] zGt
def s209:Tb:=⟨X,[(226,f226 D n),(150,zGt D n)]⟩
def zKn (D:Dyn)(n:Nat)(vs:List AV)(H:AH):Option (AV×AH):=
 dH (hd vs fun Z vs=>nl vs <|
 bA (bxV 55 Z) H fun a H=>
 bV (xF 512 1 a (some (.int .i64 (.ofNat 6))) (some (.int .i64 (.ofNat 8))) none) fun x8=>
 bR (f226 D n [x8] H) fun o H=>
 bV (kI .gtr o (.int .u64 (.ofNat 500))) fun F=>
 cnd F (bV (some (.int .u8 (.ofNat 0))) fun x2=>bV (some (.int .i64 (.ofNat 0))) fun x3=>bV (some (.str 0 0)) fun x4=>bV (some (.int .i64 (.ofNat 4))) fun x5=>some (.ret (.tuple [x2,x3,x4,x5]),H))
 (bV (fJ 512 1 a (.int .i64 (.ofNat 4))) fun J=>
 bV (ld1 J H) fun f=>
 bV (xF 512 1 a (some (.int .i64 (.ofNat 8))) (some (.int .i64 (.ofNat 12))) none) fun K=>
 bR (f226 D n [K] H) fun L H=>
 bV (cvI .i64 L) fun h=>
 bV (kI .add (.int .u64 (.ofNat 12)) o) fun N=>
 bV (xF 512 1 a (some (.int .i64 (.ofNat 12))) (some N) none) fun O=>
 bV (zFb O H) fun i=>
 bR (zGt D n [f,h,i] H) fun j H=>
 bV (jM j 0) fun S=>
 bV (jM j 1) fun T=>
 bA (bxV 55 (.agg (rep 512 [(.int .u8 (.ofNat 0))]))) H fun p H=>
 bR (stN 512 p S H) fun a0 H=>
 bV (kI .neq T (.int .i64 (.ofNat 0))) fun m=>
 jn (wnt m false (bV (ldN 512 p H) fun U=>
 bV (ldN 512 a H) fun V=>
 bV (bZ .neq (eqA (List.replicate 512 7) U V)) fun W=>
 some (.norm [W],H)) (some (.norm [jO],H))) fun vs H=>hd vs fun q vs=>
 bV (pk3 (some m) (some (.bool true)) (some q)) fun Y=>
 cnd Y (bV (some (.int .u8 (.ofNat 0))) fun s=>bV (some (.int .i64 (.ofNat 0))) fun t=>bV (some (.str 0 0)) fun u=>bV (some (.int .i64 (.ofNat 4))) fun v=>some (.ret (.tuple [s,t,u,v]),H))
 (bV (some f) fun x=>bV (some h) fun y=>bV (some i) fun z=>bV (some (.int .i64 (.ofNat 0))) fun C=>some (.ret (.tuple [x,y,z,C]),H))))
def h209:Hint:=(.s .o (.s .o (.s Hq (.s .o (.s .o (.s .o (.s .o (.s Hq Hr))))))))
theorem zDv {D:Dyn}(a:DG D)(n:Nat):FI 209 (zKn D n):=fk n h209 a (sc (zDt a n) (sc (zDB a n) sn)) Tryz.func209
attribute [local irreducible] zKn
def s171:Tb:=⟨X,[(208,f208 D n),(209,zKn D n)]⟩
def h171:Hint:=(.s .o (.s (.s (.c [5,31] (.l [0,1,2,3,4,6,7,5,8,9] .o) .o) (.cl Hr .o)) (.s .o (.s Hq (.s Hq Hr)))))
def f171:=(⟨_,by conv=>rhs;reduce⟩:FD (s171 D n) D n 171 Tryz.f171 h171 []).1
theorem zJ6 {D:Dyn}(a:DG D)(n:Nat):FI 171 (f171 D n):=fk n (ms h171) a (sc (zDw a n) (sc (zDv a n) sn)) Tryz.func171
attribute [local irreducible] f171
def h120:Hint:=(.s .o (.s Hq (.s Hq Hr)))
def f120:=(⟨_,by conv=>rhs;reduce⟩:FD ⟨X,[]⟩ D n 120 Tryz.f120 h120 []).1
theorem zJg {D:Dyn}(a:DG D)(n:Nat):FI 120 (f120 D n):=fk n (ms h120) a sn Tryz.func120
attribute [local irreducible] f120
def s74:Tb:=⟨X,[(120,f120 D n)]⟩
def h74:Hint:=(.s .o (.s (.s .o Hq) (.s Hq Hr)))
def f74:=(⟨_,by conv=>rhs;reduce⟩:FD (s74 D n) D n 74 Tryz.f74 h74 []).1
theorem zII {D:Dyn}(a:DG D)(n:Nat):FI 74 (f74 D n):=fk n (ms h74) a (sc (zJg a n) sn) Tryz.func74
attribute [local irreducible] f74
def s25:Tb:=⟨X,[(74,f74 D n)]⟩
def f25 (D:Dyn)(n:Nat)(vs:List AV)(H:AH):Option (AV×AH):=
 dH (hd vs fun a vs=>hd vs fun f vs=>nl vs <|
 bA (bxV 55 (.agg (rep 512 [(.int .u8 (.ofNat 0))]))) H fun x4 H=>
 bR (f74 D n [a,f] H) fun h H=>
 bV (kI .neq h (.int .i64 (.ofNat 0))) fun s=>
 cnd s (bV (zM0 1 (rep 512 [(.int .u8 (.ofNat 0))]) []) fun t=>
 bR (stN 512 x4 t H) fun Z H=>
 bV (ldN 512 x4 H) fun o=>bV (some h) fun V=>some (.ret (.tuple [o,V]),H))
 (bV (v6 a) fun u=>
 bV (fAd 3 u) fun v=>
 bV (ld1 v H) fun x=>
 bV (lkM [6] (.int .i64 (.ofNat 0)) true x f H) fun i=>
 bV (jM i 0) fun y=>
 bV (jM i 1) fun z=>
 cnd z (bV (v6 a) fun C=>
 bV (fAd 2 C) fun F=>
 bV (ld1 F H) fun J=>
 bV (uX 513 J y) fun K=>
 bV (fAd 1 K) fun L=>
 bV (ldN 512 L H) fun N=>
 bR (stN 512 x4 N H) fun W H=>
 bV (ldN 512 x4 H) fun j=>bV (some (.int .i64 (.ofNat 0))) fun p=>some (.ret (.tuple [j,p]),H))
 (bV (v6 a) fun O=>
 bV (fAd 1 O) fun S=>
 bV (ld1 S H) fun T=>
 bV (lkM [6] (.agg (rep 512 [(.int .u8 (.ofNat 0))])) false T f H) fun U=>
 bR (stN 512 x4 U H) fun Y H=>
 bV (ldN 512 x4 H) fun m=>bV (some (.int .i64 (.ofNat 0))) fun q=>some (.ret (.tuple [m,q]),H))))
def h25:Hint:=(.s .o (.s (.s .o Hq) (.s (.s .o Hq) Hr)))
theorem zEZ {D:Dyn}(a:DG D)(n:Nat):FI 25 (f25 D n):=fk n h25 a (sc (zII a n) sn) Tryz.func25
attribute [local irreducible] f25
def s122:Tb:=⟨X,[(171,f171 D n),(25,f25 D n)]⟩
def zCf (D:Dyn)(n:Nat)(vs:List AV)(H:AH):Rs:=
 hd vs fun a vs=>hd vs fun f vs=>
 some (.norm [a,f],H)
def BF (D:Dyn)(n:Nat)(vs:List AV)(H:AH):Rs:=
 hd vs fun i vs=>hd vs fun j vs=>
 bV (some i) fun a=>bV (some j) fun f=>bV (some (.int .i64 (.ofNat 0))) fun h=>some (.ret (.tuple [a,f,h]),H)
def BE (D:Dyn)(n:Nat)(vs:List AV)(H:AH):Rs:=
 hd vs fun a vs=>hd vs fun f vs=>
 bV (v6 a) fun z=>
 bV (fAd 0 z) fun C=>
 bV (ld1 C H) fun F=>
 bV (fAd 0 f) fun J=>
 bV (ld1 J H) fun K=>
 bA (bxV 55 (.agg (rep 512 [(.int .u8 (.ofNat 0))]))) H fun h H=>
 bR (f25 D n [F,K] H) fun j H=>
 bV (jM j 0) fun L=>
 bV (jM j 1) fun m=>
 bR (stN 512 h L H) fun a5 H=>
 bV (kI .neq m (.int .i64 (.ofNat 0))) fun N=>
 cnd N (bV (some (.int .u8 (.ofNat 0))) fun s=>bV (some (.str 0 0)) fun t=>bV (some m) fun u=>some (.ret (.tuple [s,t,u]),H))
 (bV (ldN 3 f H) fun O=>
 bV (ldN 512 h H) fun S=>
 bR (f171 D n [O,S] H) fun i H=>
 bV (jM i 0) fun o=>
 bV (jM i 1) fun p=>
 bV (jM i 2) fun q=>
 bV (kI .neq q (.int .i64 (.ofNat 0))) fun T=>
 cnd T (bV (some (.int .u8 (.ofNat 0))) fun v=>bV (some (.str 0 0)) fun x=>bV (some q) fun y=>some (.ret (.tuple [v,x,y]),H))
 (bV (v6 a) fun U=>
 bV (fAd 1 U) fun V=>
 bV (ld1 V H) fun W=>
 bV (bZ .neq (eqP W .nilPtr)) fun Y=>
 jn (cnd Y (bV (v6 a) fun Z=>
 bV (fAd 1 Z) fun a0=>
 bV (ld1 a0 H) fun a1=>
 bV (fAd 0 f) fun a2=>
 bV (ld1 a2 H) fun a3=>
 bV (ldN 512 h H) fun a4=>
 bR (D.fn 97 [a1,a3,a4] H) fun a6 H=>
 some (.norm [o,p],H))
 (some (.norm [o,p],H))) (BF D n)))
def zLC (D:Dyn)(n:Nat)(vs:List AV)(H:AH):Option (AV×AH):=
 dH (hd vs fun a vs=>hd vs fun S vs=>nl vs <|
 bA (bxV 42 S) H fun f H=>
 bV (v6 a) fun m=>
 bV (fAd 1 m) fun o=>
 bV (ld1 o H) fun p=>
 bV (bZ .neq (eqP p .nilPtr)) fun q=>
 jn (cnd q (bV (v6 a) fun s=>
 bV (fAd 1 s) fun t=>
 bV (ld1 t H) fun u=>
 bV (fAd 0 f) fun v=>
 bV (ld1 v H) fun x=>
 bA (bxV 55 (.agg (rep 512 [(.int .u8 (.ofNat 0))]))) H fun j H=>
 bR (D.fn 170 [u,x] H) fun i H=>
 bV (jM i 0) fun y=>
 bV (jM i 1) fun z=>
 bR (stN 512 j y H) fun U H=>
 bV (kI .eql z (.int .i64 (.ofNat 0))) fun C=>
 jn (cnd C (bV (ldN 3 f H) fun F=>
 bV (ldN 512 j H) fun J=>
 bR (f171 D n [F,J] H) fun h H=>
 bV (jM h 0) fun K=>
 bV (jM h 1) fun L=>
 bV (jM h 2) fun N=>
 bV (kI .eql N (.int .i64 (.ofNat 0))) fun O=>
 cnd O (bV (some K) fun x4=>bV (some L) fun T=>bV (some (.int .i64 (.ofNat 0))) fun x6=>some (.ret (.tuple [x4,T,x6]),H))
 (some (.norm [a,f],H)))
 (some (.norm [a,f],H))) (zCf D n))
 (some (.norm [a,f],H))) (BE D n))
def h122:Hint:=(.s .o (.s (.s .o (.c [0,3] (.s .o (.s .o (.c [0,3] (.s .o Hq) .o))) .o)) (.s .o (.s Hq (.s .o (.s Hq (.s (.s .o (.c [14,15] .o .o)) Hr)))))))
theorem zJf {D:Dyn}(a:DG D)(n:Nat):FI 122 (zLC D n):=fk n h122 a (sc (zJ6 a n) (sc (zEZ a n) sn)) Tryz.func122
attribute [local irreducible] zCf BF BE zLC
def h172:Hint:=(.s .o (.s (.s .o (.cl (.s .o Hr) .o)) (.s .o (.s .o Hr))))
def f172:=(⟨_,by conv=>rhs;reduce⟩:FD ⟨X,[]⟩ D n 172 Tryz.f172 h172 []).1
theorem zAG {D:Dyn}(a:DG D)(n:Nat):FI 172 (f172 D n):=fk n (ms h172) a sn Tryz.func172
attribute [local irreducible] f172
def s211:Tb:=⟨X,[(226,f226 D n),(118,f118 D n)]⟩
def zKm (D:Dyn)(n:Nat)(vs:List AV)(H:AH):Option (AV×AH):=
 dH (hd vs fun h vs=>nl vs <|
 bA (bxV 42 (.agg [(.int .i64 (.ofNat 0)),(.int .i64 (.ofNat 0)),(.int .u64 (.ofNat 0))])) H fun a H=>
 bV (X3 h) fun U=>
 bV (kI .neq U (.int .i64 (.ofNat 16))) fun V=>
 cnd V (bV (vR [(0,1),(1,1),(2,1)] [(.int .i64 (.ofNat 0)),(.int .i64 (.ofNat 0)),(.int .u64 (.ofNat 0))] []) fun W=>
 bR (stN 3 a W H) fun a3 H=>
 bV (ldN 3 a H) fun m=>bV (some (.int .i64 (.ofNat 4))) fun Y=>some (.ret (.tuple [m,Y]),H))
 (bA (zNa 5 h) H fun q H=>
 bV (s2a 16 q) fun s=>
 bV (ldN 16 s H) fun t=>
 bA (bxV 232 (.agg (rep 16 [(.int .u8 (.ofNat 0))]))) H fun x4 H=>
 bR (stN 16 x4 t H) fun Z H=>
 bV (xF 16 1 x4 none (some (.int .i64 (.ofNat 4))) none) fun u=>
 bV (xF 16 1 x4 (some (.int .i64 (.ofNat 4))) (some (.int .i64 (.ofNat 8))) none) fun v=>
 bV (xF 16 1 x4 (some (.int .i64 (.ofNat 8))) none none) fun x=>
 bA (bxV 42 (.agg [(.int .i64 (.ofNat 0)),(.int .i64 (.ofNat 0)),(.int .u64 (.ofNat 0))])) H fun f H=>
 bR (f226 D n [u] H) fun y H=>
 bV (cvI .i64 y) fun z=>
 bR (f226 D n [v] H) fun C H=>
 bV (cvI .i64 C) fun F=>
 bR (f226 D n [x] H) fun J H=>
 bV (vR [(0,1),(1,1),(2,1)] [(.int .i64 (.ofNat 0)),(.int .i64 (.ofNat 0)),(.int .u64 (.ofNat 0))] [(0,z),(1,F),(2,J)]) fun K=>
 bR (stN 3 f K H) fun a0 H=>
 bV (ldN 3 f H) fun L=>
 bR (f118 D n [L] H) fun N H=>
 bV (aun .not N) fun O=>
 cnd O (bV (vR [(0,1),(1,1),(2,1)] [(.int .i64 (.ofNat 0)),(.int .i64 (.ofNat 0)),(.int .u64 (.ofNat 0))] []) fun S=>
 bR (stN 3 a S H) fun a1 H=>
 bV (ldN 3 a H) fun i=>bV (some (.int .i64 (.ofNat 4))) fun o=>some (.ret (.tuple [i,o]),H))
 (bV (ldN 3 f H) fun T=>
 bR (stN 3 a T H) fun a2 H=>
 bV (ldN 3 a H) fun j=>bV (some (.int .i64 (.ofNat 0))) fun p=>some (.ret (.tuple [j,p]),H))))
def h211:Hint:=(.s .o (.s Hq (.s .o (.s .o (.s Hq Hr)))))
theorem zIZ {D:Dyn}(a:DG D)(n:Nat):FI 211 (zKm D n):=fk n h211 a (sc (zDt a n) (sc (zDF a n) sn)) Tryz.func211
attribute [local irreducible] zKm
def s174:Tb:=⟨X,[(172,f172 D n),(211,zKm D n)]⟩
def h174:Hint:=(.s .o (.s (.s .o (.cl .o .o)) (.s .o (.s Hq (.b [8,254,12,4095] .o)))))
def f174:=(⟨_,by conv=>rhs;reduce⟩:FD (s174 D n) D n 174 Tryz.f174 h174 []).1
theorem zJ5 {D:Dyn}(a:DG D)(n:Nat):FI 174 (f174 D n):=fk n (ms h174) a (sc (zAG a n) (sc (zIZ a n) sn)) Tryz.func174
attribute [local irreducible] f174
def s62:Tb:=⟨X,[(109,f109 D n),(110,f110 D n)]⟩
def h62:Hint:=(.s .o Hr)
def f62:=(⟨_,by conv=>rhs;reduce⟩:FD (s62 D n) D n 62 Tryz.f62 h62 []).1
theorem zER {D:Dyn}(a:DG D)(n:Nat):FI 62 (f62 D n):=fk n (ms h62) a (sc (ZS a n) (sc (YZ a n) sn)) Tryz.func62
attribute [local irreducible] f62
def s210:Tb:=⟨X,[(172,f172 D n)]⟩
def h210:Hint:=(.s .o (.s .o (.s Hq Hr)))
def f210:=(⟨_,by conv=>rhs;reduce⟩:FD (s210 D n) D n 210 Tryz.f210 h210 []).1
theorem zDu {D:Dyn}(a:DG D)(n:Nat):FI 210 (f210 D n):=fk n (ms h210) a (sc (zAG a n) sn) Tryz.func210
attribute [local irreducible] f210
def s173:Tb:=⟨X,[(210,f210 D n)]⟩
def h173:Hint:=(.b [7,64,9,510,13,8191] .o)
def f173:=(⟨_,by conv=>rhs;reduce⟩:FD (s173 D n) D n 173 Tryz.f173 h173 []).1
theorem zOA {D:Dyn}(a:DG D)(n:Nat):FI 173 (f173 D n):=fk n (ms h173) a (sc (zDu a n) sn) Tryz.func173
attribute [local irreducible] f173
def s175:Tb:=⟨X,[(210,f210 D n)]⟩
def h175:Hint:=(.b [7,64,9,510,13,8191] .o)
def f175:=(⟨_,by conv=>rhs;reduce⟩:FD (s175 D n) D n 175 Tryz.f175 h175 []).1
theorem zOz {D:Dyn}(a:DG D)(n:Nat):FI 175 (f175 D n):=fk n (ms h175) a (sc (zDu a n) sn) Tryz.func175
attribute [local irreducible] f175
def zPr:Tb:=⟨X,[(172,f172 D n),(174,f174 D n),(62,f62 D n)]⟩
def zOs:Hint:=(.s .o (.s Hq (.s .o (.s .o (.s Hq (.s .o (.s (.s .o (.c [4,4,6,7,8] .o .o)) (.s (.s (.b [] .o) (.b [3,4,6] (.l [2,4,6,8,47,48] (.s .o (.s (.cr .o .o) (.s (.b0 (.s (.s .o (.b [1,4,6,8,47,48] (.l [0,4,6,8,47,48,50,51,52] (.s .o (.s (.cr .o .o) (.s (.b0 Hr) .o)))))) (.s .o (.cl .o .o)))) .o)))))) (.s Hq Hr)))))))))
def fM:=(⟨_,by conv=>rhs;reduce⟩:PD (zPr D n) D n 123 Tryz.f123 zOs [] 0).1
attribute [local irreducible] fM
def fO:=(⟨_,by conv=>rhs;reduce⟩:PD (zPr D n) D n 123 Tryz.f123 zOs [fM D n] 1).1
attribute [local irreducible] fO
def vC:=(⟨_,by conv=>rhs;reduce⟩:PD (zPr D n) D n 123 Tryz.f123 zOs [fM D n,fO D n] 2).1
attribute [local irreducible] vC
def bQ:=(⟨_,by conv=>rhs;reduce⟩:PD (zPr D n) D n 123 Tryz.f123 zOs [fM D n,fO D n,vC D n] 3).1
attribute [local irreducible] bQ
def JN:=(⟨_,by conv=>rhs;reduce⟩:PD (zPr D n) D n 123 Tryz.f123 zOs [fM D n,fO D n,vC D n,bQ D n] 4).1
attribute [local irreducible] JN
def f123:=(⟨_,by conv=>rhs;reduce⟩:FD (zPr D n) D n 123 Tryz.f123 zOs [fM D n,fO D n,vC D n,bQ D n,JN D n]).1
theorem zJe {D:Dyn}(a:DG D)(n:Nat):FI 123 (f123 D n):=fk n (ms zOs) a (sc (zAG a n) (sc (zJ5 a n) (sc (zER a n) sn))) Tryz.func123
attribute [local irreducible] f123
def s77:Tb:=⟨X,[(122,zLC D n),(123,f123 D n)]⟩
def h77:Hint:=(.s .o (.s (.s .o (.cl (.s (.b [11,1535] .o) (.s Hq Hr)) .o)) (.s .o (.s Hq (.s Hq Hr)))))
def f77:=(⟨_,by conv=>rhs;reduce⟩:FD (s77 D n) D n 77 Tryz.f77 h77 []).1
theorem zC9 {D:Dyn}(a:DG D)(n:Nat):FI 77 (f77 D n):=fk n (ms h77) a (sc (zJf a n) (sc (zJe a n) sn)) Tryz.func77
attribute [local irreducible] f77
def h79:Hint:=(.s .o (.s .o (.s (.s .o (.b [2,5] (.l [1,1,2,5,9,10,11] (.s .o (.s (.cr .o .o) (.s (.b0 (.s .o (.s .o (.c [0,1,2,5,9,10,11] .o .o)))) .o)))))) Hr)))
def XJ:=(⟨_,by conv=>rhs;reduce⟩:PD ⟨X,[]⟩ D n 79 Tryz.f79 h79 [] 0).1
attribute [local irreducible] XJ
def JY:=(⟨_,by conv=>rhs;reduce⟩:PD ⟨X,[]⟩ D n 79 Tryz.f79 h79 [XJ D n] 1).1
attribute [local irreducible] JY
def zG9:=(⟨_,by conv=>rhs;reduce⟩:PD ⟨X,[]⟩ D n 79 Tryz.f79 h79 [XJ D n,JY D n] 2).1
attribute [local irreducible] zG9
def f79:=(⟨_,by conv=>rhs;reduce⟩:FD ⟨X,[]⟩ D n 79 Tryz.f79 h79 [XJ D n,JY D n,zG9 D n]).1
theorem XK {D:Dyn}(a:DG D)(n:Nat):FI 79 (f79 D n):=fk n (ms h79) a sn Tryz.func79
attribute [local irreducible] f79
def h130:Hint:=(.s .o (.b [7,126,10,1023] .o))
def f130:=(⟨_,by conv=>rhs;reduce⟩:FD ⟨X,[]⟩ D n 130 Tryz.f130 h130 []).1
theorem zDC {D:Dyn}(a:DG D)(n:Nat):FI 130 (f130 D n):=fk n (ms h130) a sn Tryz.func130
attribute [local irreducible] f130
def s212:Tb:=⟨X,[(137,f137 D n)]⟩
def h212:Hint:=(.s .o (.s Hq (.s (.s .o Hq) (.s Hq Hr))))
def f212:=(⟨_,by conv=>rhs;reduce⟩:FD (s212 D n) D n 212 Tryz.f212 h212 []).1
theorem zIY {D:Dyn}(a:DG D)(n:Nat):FI 212 (f212 D n):=fk n (ms h212) a (sc (zAH a n) sn) Tryz.func212
attribute [local irreducible] f212
def h180:Hint:=(.s .o (.s (.s .o (.c [1,0,1] .o .o)) (.s (.s .o (.s .o (.c [0,0] .o .o))) Hr)))
def JI:=(⟨_,by conv=>rhs;reduce⟩:PD ⟨X,[]⟩ D n 180 Tryz.f180 h180 [] 0).1
attribute [local irreducible] JI
def XT:=(⟨_,by conv=>rhs;reduce⟩:PD ⟨X,[]⟩ D n 180 Tryz.f180 h180 [JI D n] 1).1
attribute [local irreducible] XT
def f180:=(⟨_,by conv=>rhs;reduce⟩:FD ⟨X,[]⟩ D n 180 Tryz.f180 h180 [JI D n,XT D n]).1
theorem zJ3 {D:Dyn}(a:DG D)(n:Nat):FI 180 (f180 D n):=fk n (ms h180) a sn Tryz.func180
attribute [local irreducible] f180
def zPq:Tb:=⟨X,[(180,f180 D n)]⟩
def zOq:Hint:=(.s .o (.s .o (.s (.s .o (.b [4,0,3] (.l [1,0,3,9,10,11] (.s .o (.s (.cr .o .o) (.s (.b0 (.s .o (.s .o (.s .o (.c [0,0,3,9,10,11] .o .o))))) .o)))))) (.s .o (.s (.s .o (.b [3,6] (.l [2,6,25,26,27] (.s .o (.s (.cr .o .o) (.s (.b0 Hr) .o)))))) Hr)))))
def ZB:=(⟨_,by conv=>rhs;reduce⟩:PD (zPq D n) D n 132 Tryz.f132 zOq [] 0).1
attribute [local irreducible] ZB
def cR:=(⟨_,by conv=>rhs;reduce⟩:PD (zPq D n) D n 132 Tryz.f132 zOq [ZB D n] 1).1
attribute [local irreducible] cR
def cQ:=(⟨_,by conv=>rhs;reduce⟩:PD (zPq D n) D n 132 Tryz.f132 zOq [ZB D n,cR D n] 2).1
attribute [local irreducible] cQ
def XY:=(⟨_,by conv=>rhs;reduce⟩:PD (zPq D n) D n 132 Tryz.f132 zOq [ZB D n,cR D n,cQ D n] 3).1
attribute [local irreducible] XY
def BC:=(⟨_,by conv=>rhs;reduce⟩:PD (zPq D n) D n 132 Tryz.f132 zOq [ZB D n,cR D n,cQ D n,XY D n] 4).1
attribute [local irreducible] BC
def f132:=(⟨_,by conv=>rhs;reduce⟩:FD (zPq D n) D n 132 Tryz.f132 zOq [ZB D n,cR D n,cQ D n,XY D n,BC D n]).1
theorem zAI {D:Dyn}(a:DG D)(n:Nat):FI 132 (f132 D n):=fk n (ms zOq) a (sc (zJ3 a n) sn) Tryz.func132
attribute [local irreducible] f132
def h214:Hint:=(.s .o (.s (.s .o (.c [1,0,1] .o .o)) (.s (.s .o (.s .o (.c [0,0] .o .o))) Hr)))
def JH:=(⟨_,by conv=>rhs;reduce⟩:PD ⟨X,[]⟩ D n 214 Tryz.f214 h214 [] 0).1
attribute [local irreducible] JH
def XR:=(⟨_,by conv=>rhs;reduce⟩:PD ⟨X,[]⟩ D n 214 Tryz.f214 h214 [JH D n] 1).1
attribute [local irreducible] XR
def f214:=(⟨_,by conv=>rhs;reduce⟩:FD ⟨X,[]⟩ D n 214 Tryz.f214 h214 [JH D n,XR D n]).1
theorem zIW {D:Dyn}(a:DG D)(n:Nat):FI 214 (f214 D n):=fk n (ms h214) a sn Tryz.func214
attribute [local irreducible] f214
def zPo:Tb:=⟨X,[(214,f214 D n)]⟩
def zOp:Hint:=(.s .o (.s .o (.s (.s .o (.b [4,0,3] (.l [1,0,3,9,10,11] (.s .o (.s (.cr .o .o) (.s (.b0 (.s .o (.s .o (.s .o (.c [0,0,3,9,10,11] .o .o))))) .o)))))) (.s .o (.s (.s .o (.b [3,6] (.l [2,6,25,26,27] (.s .o (.s (.cr .o .o) (.s (.b0 Hr) .o)))))) Hr)))))
def ZA:=(⟨_,by conv=>rhs;reduce⟩:PD (zPo D n) D n 178 Tryz.f178 zOp [] 0).1
attribute [local irreducible] ZA
def cP:=(⟨_,by conv=>rhs;reduce⟩:PD (zPo D n) D n 178 Tryz.f178 zOp [ZA D n] 1).1
attribute [local irreducible] cP
def cO:=(⟨_,by conv=>rhs;reduce⟩:PD (zPo D n) D n 178 Tryz.f178 zOp [ZA D n,cP D n] 2).1
attribute [local irreducible] cO
def XU:=(⟨_,by conv=>rhs;reduce⟩:PD (zPo D n) D n 178 Tryz.f178 zOp [ZA D n,cP D n,cO D n] 3).1
attribute [local irreducible] XU
def B0:=(⟨_,by conv=>rhs;reduce⟩:PD (zPo D n) D n 178 Tryz.f178 zOp [ZA D n,cP D n,cO D n,XU D n] 4).1
attribute [local irreducible] B0
def f178:=(⟨_,by conv=>rhs;reduce⟩:FD (zPo D n) D n 178 Tryz.f178 zOp [ZA D n,cP D n,cO D n,XU D n,B0 D n]).1
theorem zDy {D:Dyn}(a:DG D)(n:Nat):FI 178 (f178 D n):=fk n (ms zOp) a (sc (zIW a n) sn) Tryz.func178
attribute [local irreducible] f178
def s176:Tb:=⟨X,[(109,f109 D n),(212,f212 D n),(132,f132 D n),(178,f178 D n)]⟩
def h176:Hint:=(.s .o (.s Hq (.s (.s .o (.cl (.s (.c [5,31,11,2047,13,8191] (.l [0,1,2,3,4,6,7,8,9,10,5,11,12,13,14] .o) .o) .o) .o)) (.s (.c [7,127,13,8191,15,32767] (.l [0,1,2,3,4,5,6,8,9,10,11,12,7,13,14,15,16] .o) .o) .o))))
def f176:=(⟨_,by conv=>rhs;reduce⟩:FD (s176 D n) D n 176 Tryz.f176 h176 []).1
theorem zJ4 {D:Dyn}(a:DG D)(n:Nat):FI 176 (f176 D n):=fk n (ms h176) a (sc (ZS a n) (sc (zIY a n) (sc (zAI a n) (sc (zDy a n) sn)))) Tryz.func176
attribute [local irreducible] f176
def s129:Tb:=⟨X,[(110,f110 D n),(77,f77 D n),(130,f130 D n),(176,f176 D n),(177,f177 D n),(132,f132 D n),(179,f179 D n),(178,f178 D n)]⟩
def zQz:Hint:=(.s .o (.s .o (.s (.s .o (.c [2,0,5,7,8,10,11] (.s .o (.s (.s .o (.c [1,0,2,5,7,8,12] .o .o)) (.s (.c [9,511,14,12287] (.l [0,1,2,3,4,5,6,7,8,13,9,10,11,12,14,15] .o) .o) (.s Hq (.s .o (.s .o (.s (.s .o (.c [0,0,5,7,8,10,11,14] (.b [7,127,11,1023] .o) (.b [7,127,11,1023] .o))) Hq))))))) .o)) (.s .o (.s Hq (.s (.c [12,4095,20,794623,26,67108863,28,268435455] (.l [0,1,2,3,4,5,6,7,8,9,10,11,13,14,15,16,17,18,19,21,22,23,24,12,20,25,26,27,28,29] .o) .o) .o))))))
def QU:=(⟨_,by conv=>rhs;reduce⟩:PD (s129 D n) D n 129 Tryz.f129 zQz [] 0).1
attribute [local irreducible] QU
def JM:=(⟨_,by conv=>rhs;reduce⟩:PD (s129 D n) D n 129 Tryz.f129 zQz [QU D n] 1).1
attribute [local irreducible] JM
def QT:=(⟨_,by conv=>rhs;reduce⟩:PD (s129 D n) D n 129 Tryz.f129 zQz [QU D n,JM D n] 2).1
attribute [local irreducible] QT
def f129:=(⟨_,by conv=>rhs;reduce⟩:FD (s129 D n) D n 129 Tryz.f129 zQz [QU D n,JM D n,QT D n]).1
theorem zJc {D:Dyn}(a:DG D)(n:Nat):FI 129 (f129 D n):=fk n (ms zQz) a (sc (YZ a n) (sc (zC9 a n) (sc (zDC a n) (sc (zJ4 a n) (sc (zDz a n) (sc (zAI a n) (sc (zDx a n) (sc (zDy a n) sn)))))))) Tryz.func129
attribute [local irreducible] f129
def s128:Tb:=⟨X,[(76,f76 D n),(77,f77 D n),(79,f79 D n),(129,f129 D n),(130,f130 D n)]⟩
def h128:Hint:=(.s .o (.s (.s .o (.s (.b [2,2] .o) (.cl Hr .o))) (.s .o (.s Hq (.s (.s .o (.c [1,6,7,8,10,11] .o (.s .o (.s .o (.s (.b [6,63,10,511] .o) (.s .o (.c [0,6,7,8,10,11] .o .o))))))) (.s Hq (.s .o Hr)))))))
def ZC:=(⟨_,by conv=>rhs;reduce⟩:PD (s128 D n) D n 128 Tryz.f128 h128 [] 0).1
attribute [local irreducible] ZC
def dB:=(⟨_,by conv=>rhs;reduce⟩:PD (s128 D n) D n 128 Tryz.f128 h128 [ZC D n] 1).1
attribute [local irreducible] dB
def f128:=(⟨_,by conv=>rhs;reduce⟩:FD (s128 D n) D n 128 Tryz.f128 h128 [ZC D n,dB D n]).1
theorem zOE {D:Dyn}(a:DG D)(n:Nat):FI 128 (f128 D n):=fk n (ms h128) a (sc (zMS a n) (sc (zC9 a n) (sc (XK a n) (sc (zJc a n) (sc (zDC a n) sn))))) Tryz.func128
attribute [local irreducible] f128
def s82:Tb:=⟨X,[(127,f127 D n),(126,f126 D n),(131,f131 D n)]⟩
def h82:Hint:=(.s .o (.s (.b [9,511] .o) (.s (.s .o (.cl (.s .o (.s Hq (.s (.b [3,6,4,15] .o) Hr))) .o)) (.s .o (.s .o (.s .o (.s (.c [5,31,10,767] (.l [0,1,2,3,4,9,5,6,7,8,10,11] .o) .o) (.s Hq Hr))))))))
def f82:=(⟨_,by conv=>rhs;reduce⟩:FD (s82 D n) D n 82 Tryz.f82 h82 []).1
theorem zIG {D:Dyn}(a:DG D)(n:Nat):FI 82 (f82 D n):=fk n (ms h82) a (sc (zAJ a n) (sc (zDD a n) (sc (zJb a n) sn))) Tryz.func82
attribute [local irreducible] f82
end Go.Eng.Sh
end
end
section
noncomputable section
namespace Go.Eng.Sh
open Go.Proofs
set_option maxRecDepth 100000
set_option maxHeartbeats 4000000
variable (D:Dyn)(n:Nat)
attribute [local irreducible] bV bR hd cnd jn jb jY wnt chk VQ bA kI aV K0 bZ eqP eqS eqM eqF eqA zPA ldN ld1 stN cvI zPE zFb zNa VT vY xF fJ uX XA zBZ zG1 fd1 fdN fAd X3 lnSl QK apP apZ cpy vR zM0 pk3 s2a bxV dL zIa lkM upM dlM mkM callV nl dH tld zN7 uM YE fQ zEG rfC mn2 mx2 aun jM v6 jO isW aveq bF f85 f32 f86 JZ zGb f34 f118 ZD BG f119 f72 f18 f73 f127 QV cS BD f126 dD cT V1 BI f110 f137 uD fP ZF cU JP dG f109 bN fL JG QQ f227 f108 f81 XS f213 QR B9 f177 Z9 UZ f179 JL XZ f131 f76 QP UX f230 f225 f208 Z7 XQ f226 zGt zKn f171 f120 f74 f25 zCf BF BE zLC f172 zKm f174 f62 f210 f173 f175 fM fO vC bQ JN f123 f77 XJ JY zG9 f79 f130 f212 JI XT f180 ZB cR cQ XY BC f132 JH XR f214 ZA cP cO XU B0 f178 f176 QU JM QT f129 ZC dB f128 f82
def h138:Hint:=(.s .o (.s .o (.s .o (.s Hq (.s .o (.s Hq (.s (.s .o (.cl (.s .o (.s .o (.s (.b [8,255] .o) Hr))) .o)) (.s .o (.s (.s .o (.cl (.s (.b [8,255] .o) (.s .o Hr)) .o)) (.s .o (.s .o Hr)))))))))))
def f138:=(⟨_,by conv=>rhs;reduce⟩:FD ⟨X,[]⟩ D n 138 Tryz.f138 h138 []).1
theorem zOD {D:Dyn}(a:DG D)(n:Nat):FI 138 (f138 D n):=fk n (ms h138) a sn Tryz.func138
def zOb (D:Dyn)(n:Nat)(vs:List AV)(H:AH):Option (AV×AH):=zOn (f138 D n) vs H
theorem zId {D:Dyn}(a:DG D)(n:Nat):FI 138 (zOb D n):=zOm (by kernel_rfl) (zOD a n)
attribute [local irreducible] f138 zOb
def s89:Tb:=⟨X,[(109,f109 D n),(137,f137 D n),(108,f108 D n),(79,f79 D n),(138,zOb D n)]⟩
def h89:Hint:=(.s .o (.s Hq (.s (.c [2,3,5,31,8,255] (.l [0,1,3,4,7,2,5,6,8] .o) .o) (.s .o (.s (.s .o (.cl (.s .o Hr) .o)) (.s .o (.s .o Hr)))))))
def f89:=(⟨_,by conv=>rhs;reduce⟩:FD (s89 D n) D n 89 Tryz.f89 h89 []).1
theorem zMP {D:Dyn}(a:DG D)(n:Nat):FI 89 (f89 D n):=fk n (ms h89) a (sc (ZS a n) (sc (zAH a n) (sc (zAK a n) (sc (XK a n) (sc (zId a n) sn))))) Tryz.func89
attribute [local irreducible] f89
def s88:Tb:=⟨X,[(89,f89 D n)]⟩
def h88:Hint:=(.s .o Hr)
def f88:=(⟨_,by conv=>rhs;reduce⟩:FD (s88 D n) D n 88 Tryz.f88 h88 []).1
theorem zQD {D:Dyn}(a:DG D)(n:Nat):FI 88 (f88 D n):=fk n (ms h88) a (sc (zMP a n) sn) Tryz.func88
attribute [local irreducible] f88
def s38:Tb:=⟨X,[(73,f73 D n),(82,f82 D n)]⟩
def h38:Hint:=(.s .o (.s Hq (.s Hq Hr)))
def f38:=(⟨_,by conv=>rhs;reduce⟩:FD (s38 D n) D n 38 Tryz.f38 h38 []).1
theorem zN1 {D:Dyn}(a:DG D)(n:Nat):FI 38 (f38 D n):=fk n (ms h38) a (sc (XL a n) (sc (zIG a n) sn)) Tryz.func38
attribute [local irreducible] f38
def h69:Hint:=(.s .o (.s .o (.s (.s .o (.b [2,5] (.l [1,0,1,5,6] (.s (.s .o (.cr .o .o)) (.s (.b0 (.s .o (.c [0,0,1,5,6] .o .o))) .o))))) Hr)))
def zCa:=(⟨_,by conv=>rhs;reduce⟩:PD ⟨X,[]⟩ D n 69 Tryz.f69 h69 [] 0).1
attribute [local irreducible] zCa
def VX:=(⟨_,by conv=>rhs;reduce⟩:PD ⟨X,[]⟩ D n 69 Tryz.f69 h69 [zCa D n] 1).1
attribute [local irreducible] VX
def zIK:=(⟨_,by conv=>rhs;reduce⟩:PD ⟨X,[]⟩ D n 69 Tryz.f69 h69 [zCa D n,VX D n] 2).1
attribute [local irreducible] zIK
def f69:=(⟨_,by conv=>rhs;reduce⟩:FD ⟨X,[]⟩ D n 69 Tryz.f69 h69 [zCa D n,VX D n,zIK D n]).1
theorem zEQ {D:Dyn}(a:DG D)(n:Nat):FI 69 (f69 D n):=fk n (ms h69) a sn Tryz.func69
attribute [local irreducible] f69
def s68:Tb:=⟨X,[(69,f69 D n)]⟩
def h68:Hint:=(.s .o (.s .o (.s .o (.s (.b [1,0,1,2,7] (.l [0,0,1,2,7] (.s (.s .o (.cr .o .o)) (.b0 .o)))) (.s .o (.s .o Hr))))))
def zAF:=(⟨_,by conv=>rhs;reduce⟩:PD (s68 D n) D n 68 Tryz.f68 h68 [] 0).1
attribute [local irreducible] zAF
def zIL:=(⟨_,by conv=>rhs;reduce⟩:PD (s68 D n) D n 68 Tryz.f68 h68 [zAF D n] 1).1
attribute [local irreducible] zIL
def f68:=(⟨_,by conv=>rhs;reduce⟩:FD (s68 D n) D n 68 Tryz.f68 h68 [zAF D n,zIL D n]).1
theorem zMU {D:Dyn}(a:DG D)(n:Nat):FI 68 (f68 D n):=fk n (ms h68) a (sc (zEQ a n) sn) Tryz.func68
attribute [local irreducible] f68
def s84:Tb:=⟨X,[(109,f109 D n),(79,f79 D n),(132,f132 D n)]⟩
def h84:Hint:=(.s .o (.s Hq (.s .o (.s Hq (.s (.c [11,2047,23,8388607,25,33554431] (.l [0,1,2,3,4,5,6,7,8,9,10,12,13,14,15,16,17,18,19,20,21,22,11,23,24,25,26] .o) .o) .o)))))
def f84:=(⟨_,by conv=>rhs;reduce⟩:FD (s84 D n) D n 84 Tryz.f84 h84 []).1
theorem zMR {D:Dyn}(a:DG D)(n:Nat):FI 84 (f84 D n):=fk n (ms h84) a (sc (ZS a n) (sc (XK a n) (sc (zAI a n) sn))) Tryz.func84
attribute [local irreducible] f84
def s83:Tb:=⟨X,[(84,f84 D n)]⟩
def h83:Hint:=(.s .o Hr)
def f83:=(⟨_,by conv=>rhs;reduce⟩:FD (s83 D n) D n 83 Tryz.f83 h83 []).1
theorem zQE {D:Dyn}(a:DG D)(n:Nat):FI 83 (f83 D n):=fk n (ms h83) a (sc (zMR a n) sn) Tryz.func83
attribute [local irreducible] f83
def s29:Tb:=⟨X,[(73,f73 D n),(82,f82 D n)]⟩
def h29:Hint:=(.s .o (.s Hq (.s Hq Hr)))
def f29:=(⟨_,by conv=>rhs;reduce⟩:FD (s29 D n) D n 29 Tryz.f29 h29 []).1
theorem zN3 {D:Dyn}(a:DG D)(n:Nat):FI 29 (f29 D n):=fk n (ms h29) a (sc (XL a n) (sc (zIG a n) sn)) Tryz.func29
attribute [local irreducible] f29
def s111:Tb:=⟨X,[(69,f69 D n)]⟩
def h111:Hint:=(.s .o Hr)
def f111:=(⟨_,by conv=>rhs;reduce⟩:FD (s111 D n) D n 111 Tryz.f111 h111 []).1
theorem zJh {D:Dyn}(a:DG D)(n:Nat):FI 111 (f111 D n):=fk n (ms h111) a (sc (zEQ a n) sn) Tryz.func111
attribute [local irreducible] f111
def h23:Hint:=(.s .o (.s Hq Hr))
def f23:=(⟨_,by conv=>rhs;reduce⟩:FD ⟨X,[]⟩ D n 23 Tryz.f23 h23 []).1
theorem zN4 {D:Dyn}(a:DG D)(n:Nat):FI 23 (f23 D n):=fk n (ms h23) a sn Tryz.func23
attribute [local irreducible] f23
def h193:Hint:=Hr
def f193:=(⟨_,by conv=>rhs;reduce⟩:FD ⟨X,[]⟩ D n 193 Tryz.f193 h193 []).1
theorem zOy {D:Dyn}(a:DG D)(n:Nat):FI 193 (f193 D n):=fk n (ms h193) a sn Tryz.func193
attribute [local irreducible] f193
def s194:Tb:=⟨X,[(72,f72 D n)]⟩
def h194:Hint:=(.s .o (.s .o (.s (.s .o (.c [0,2,4] .o .o)) .o)))
def zCd:=(⟨_,by conv=>rhs;reduce⟩:PD (s194 D n) D n 194 Tryz.f194 h194 [] 0).1
attribute [local irreducible] zCd
def f194:=(⟨_,by conv=>rhs;reduce⟩:FD (s194 D n) D n 194 Tryz.f194 h194 [zCd D n]).1
theorem zOx {D:Dyn}(a:DG D)(n:Nat):FI 194 (f194 D n):=fk n (ms h194) a (sc (zIJ a n) sn) Tryz.func194
attribute [local irreducible] f194
def zQ1:Tb:=⟨X,[(109,f109 D n),(110,f110 D n)]⟩
def zPw:Hint:=(.s .o (.s Hq (.s Hq (.s .o (.s .o (.s .o (.s .o (.s (.s .o (.c [3,1,4,5,6,7] .o .o)) (.s (.s .o (.b [2,4,5] (.l [1,1,4,5,6,7,38,39,40] (.s .o (.s (.cr .o .o) (.s (.b0 (.s .o (.s .o (.s .o (.c [0,1,4,5,6,7,38,39,40] .o .o))))) .o)))))) (.s (.s .o (.cl (.s (.b [] .o) .o) .o)) Hr))))))))))
def QS:=(⟨_,by conv=>rhs;reduce⟩:PD (zQ1 D n) D n 149 Tryz.f149 zPw [] 0).1
attribute [local irreducible] QS
def gJ:=(⟨_,by conv=>rhs;reduce⟩:PD (zQ1 D n) D n 149 Tryz.f149 zPw [QS D n] 1).1
attribute [local irreducible] gJ
def XX:=(⟨_,by conv=>rhs;reduce⟩:PD (zQ1 D n) D n 149 Tryz.f149 zPw [QS D n,gJ D n] 2).1
attribute [local irreducible] XX
def BB:=(⟨_,by conv=>rhs;reduce⟩:PD (zQ1 D n) D n 149 Tryz.f149 zPw [QS D n,gJ D n,XX D n] 3).1
attribute [local irreducible] BB
def f149:=(⟨_,by conv=>rhs;reduce⟩:FD (zQ1 D n) D n 149 Tryz.f149 zPw [QS D n,gJ D n,XX D n,BB D n]).1
theorem zJa {D:Dyn}(a:DG D)(n:Nat):FI 149 (f149 D n):=fk n (ms zPw) a (sc (ZS a n) (sc (YZ a n) sn)) Tryz.func149
attribute [local irreducible] f149
def h207:Hint:=(.s (.s (.b [] .o) (.cl .o .o)) (.s .o (.b [1] (.l [0,0,1,2,5] (.s (.s .o (.cr .o .o)) (.s (.b0 (.s (.b [11,2047] .o) (.cl .o .o))) .o))))))
def cL:=(⟨_,by conv=>rhs;reduce⟩:PD ⟨X,[]⟩ D n 207 Tryz.f207 h207 [] 0).1
attribute [local irreducible] cL
def zCc:=(⟨_,by conv=>rhs;reduce⟩:PD ⟨X,[]⟩ D n 207 Tryz.f207 h207 [cL D n] 1).1
attribute [local irreducible] zCc
def f207:=(⟨_,by conv=>rhs;reduce⟩:FD ⟨X,[]⟩ D n 207 Tryz.f207 h207 [cL D n,zCc D n]).1
theorem zOw {D:Dyn}(a:DG D)(n:Nat):FI 207 (f207 D n):=fk n (ms h207) a sn Tryz.func207
attribute [local irreducible] f207
def h168:Hint:=(.s .o Hr)
def f168:=(⟨_,by conv=>rhs;reduce⟩:FD ⟨X,[]⟩ D n 168 Tryz.f168 h168 []).1
theorem zDA {D:Dyn}(a:DG D)(n:Nat):FI 168 (f168 D n):=fk n (ms h168) a sn Tryz.func168
attribute [local irreducible] f168
def zQ0:Tb:=⟨X,[(168,f168 D n),(86,f86 D n)]⟩
def h195:Hint:=(.s .o (.s Hq (.s (.s .o (.b [1,2,3] (.l [0,1,2,3,13,14] (.s .o (.s (.cr .o .o) (.s (.b0 (.s .o (.s .o (.b0 (.rf 0 [1,2,3]))))) .o)))))) Hr)))
def cN:=(⟨_,by conv=>rhs;reduce⟩:PD (zQ0 D n) D n 195 Tryz.f195 h195 [] 0).1
attribute [local irreducible] cN
def zF1:=(⟨_,by conv=>rhs;reduce⟩:PD (zQ0 D n) D n 195 Tryz.f195 h195 [cN D n] 1).1
attribute [local irreducible] zF1
def f195:=(⟨_,by conv=>rhs;reduce⟩:FD (zQ0 D n) D n 195 Tryz.f195 h195 [cN D n,zF1 D n]).1
theorem zJ2 {D:Dyn}(a:DG D)(n:Nat):FI 195 (f195 D n):=fk n (ms h195) a (sc (zDA a n) (sc (zEP a n) sn)) Tryz.func195
def zHE:Hint:= .o
def zHD:Hint:=(.b0 (.s .o (.s .o (.s .o .o))))
def QG:=(⟨_,by conv=>rhs;reduce⟩:RD (zQ0 D n) D n 195 0 [1,2,3] [0] zHE zHD []).1
theorem zHG (D:Dyn)(n:Nat):QG D n=zKk (zQ0 D n) D n 195 0 [1,2,3] [0] (ms zHE) (ms zHD):=by kernel_rfl
theorem zHF {D:Dyn}(a:DG D)(n:Nat):RS 195 0 (QG D n):=fU X_ok a (sc (zDA a n) (sc (zEP a n) sn)) (by kernel_rfl) (zHG D n)
attribute [local irreducible] f195 QG
def h75:Hint:=(.s .o (.s Hq (.s .o (.s Hq (.s .o Hr)))))
def f75:=(⟨_,by conv=>rhs;reduce⟩:FD ⟨X,[]⟩ D n 75 Tryz.f75 h75 []).1
theorem zMT {D:Dyn}(a:DG D)(n:Nat):FI 75 (f75 D n):=fk n (ms h75) a sn Tryz.func75
attribute [local irreducible] f75
def s26:Tb:=⟨X,[(74,f74 D n),(75,f75 D n)]⟩
def f26 (D:Dyn)(n:Nat)(vs:List AV)(H:AH):Option (AV×AH):=
 dH (hd vs fun a vs=>hd vs fun f vs=>hd vs fun O vs=>nl vs <|
 bA (bxV 55 O) H fun S H=>
 bR (f74 D n [a,f] H) fun h H=>
 bV (kI .neq h (.int .i64 (.ofNat 0))) fun j=>
 cnd j (bV (some h) fun x6=>some (.ret x6,H))
 (bV (v6 a) fun m=>
 bV (fAd 3 m) fun o=>
 bV (ld1 o H) fun p=>
 bV (v6 a) fun q=>
 bV (fAd 2 q) fun s=>
 bV (ld1 s H) fun t=>
 bV (lnSl t) fun u=>
 bR (upM [6] p f u H) fun U H=>
 bV (v6 a) fun v=>
 bV (fAd 2 v) fun x=>
 bV (ld1 x H) fun y=>
 bV (ldN 512 S H) fun z=>
 bV (vR [(0,1),(1,512)] ([(.int .i64 (.ofNat 0))]++rep 512 [(.int .u8 (.ofNat 0))]) [(0,f),(1,z)]) fun C=>
 bA (dL 153 513 1 ([(.int .i64 (.ofNat 0))]++rep 512 [(.int .u8 (.ofNat 0))]) [(0,C)]) H fun F H=>
 bR (apP 153 513 520 y F H) fun J H=>
 bV (v6 a) fun K=>
 bV (fAd 2 K) fun L=>
 bR (stN 1 L J H) fun T H=>
 bR (f75 D n [a] H) fun N H=>
 bV (some N) fun i=>some (.ret i,H)))
def h26:Hint:=(.s .o (.s (.s .o Hq) (.s .o (.s .o Hr))))
theorem zEY {D:Dyn}(a:DG D)(n:Nat):FI 26 (f26 D n):=fk n h26 a (sc (zII a n) (sc (zMT a n) sn)) Tryz.func26
attribute [local irreducible] f26
def s196:Tb:=⟨X,[(209,zKn D n),(208,f208 D n)]⟩
def h196:Hint:=(.s .o (.s .o (.s Hq (.s Hq Hr))))
def f196:=(⟨_,by conv=>rhs;reduce⟩:FD (s196 D n) D n 196 Tryz.f196 h196 []).1
theorem zJ1 {D:Dyn}(a:DG D)(n:Nat):FI 196 (f196 D n):=fk n (ms h196) a (sc (zDv a n) (sc (zDw a n) sn)) Tryz.func196
attribute [local irreducible] f196
def s151:Tb:=⟨X,[(195,f195 D n),(26,f26 D n),(196,f196 D n)]⟩
def zLB (D:Dyn)(n:Nat)(vs:List AV)(H:AH):Option (AV×AH):=
 dH (hd vs fun a vs=>hd vs fun x1 vs=>nl vs <|
 bA (bxV 55 x1) H fun h H=>
 bA (bxV 42 (.agg [(.int .i64 (.ofNat 0)),(.int .i64 (.ofNat 0)),(.int .u64 (.ofNat 0))])) H fun x4 H=>
 bV (v6 a) fun v=>
 bV (fAd 1 v) fun x=>
 bV (ld1 x H) fun y=>
 bR (f195 D n [y] H) fun i H=>
 bV (jM i 0) fun f=>
 bV (jM i 1) fun j=>
 bV (kI .neq j (.int .i64 (.ofNat 0))) fun z=>
 cnd z (bV (vR [(0,1),(1,1),(2,1)] [(.int .i64 (.ofNat 0)),(.int .i64 (.ofNat 0)),(.int .u64 (.ofNat 0))] []) fun C=>
 bR (stN 3 x4 C H) fun b9 H=>
 bV (ldN 3 x4 H) fun s=>bV (some j) fun x5=>some (.ret (.tuple [s,x5]),H))
 (bV (v6 a) fun F=>
 bV (fAd 4 F) fun J=>
 bV (ld1 J H) fun K=>
 bA (dL 3 1 1 [(.int .i64 (.ofNat 0))] [(0,f)]) H fun L H=>
 bR (apP 3 1 8 K L H) fun N H=>
 bV (v6 a) fun O=>
 bV (fAd 4 O) fun S=>
 bR (stN 1 S N H) fun b5 H=>
 bV (v6 a) fun T=>
 bV (fAd 0 T) fun U=>
 bV (ld1 U H) fun V=>
 bV (v6 V) fun W=>
 bV (fAd 0 W) fun Y=>
 bV (ld1 Y H) fun Z=>
 bV (ldN 512 h H) fun a0=>
 bR (f26 D n [Z,f,a0] H) fun m H=>
 bV (kI .neq m (.int .i64 (.ofNat 0))) fun a1=>
 cnd a1 (bV (vR [(0,1),(1,1),(2,1)] [(.int .i64 (.ofNat 0)),(.int .i64 (.ofNat 0)),(.int .u64 (.ofNat 0))] []) fun a2=>
 bR (stN 3 x4 a2 H) fun b6 H=>
 bV (ldN 3 x4 H) fun p=>bV (some m) fun t=>some (.ret (.tuple [p,t]),H))
 (bV (v6 a) fun a3=>
 bV (fAd 5 a3) fun a4=>
 bV (ld1 a4 H) fun a5=>
 bV (ldN 512 h H) fun a6=>
 bV (vR [(0,1),(1,512)] ([(.int .i64 (.ofNat 0))]++rep 512 [(.int .u8 (.ofNat 0))]) [(0,f),(1,a6)]) fun a7=>
 bA (dL 202 513 1 ([(.int .i64 (.ofNat 0))]++rep 512 [(.int .u8 (.ofNat 0))]) [(0,a7)]) H fun a8 H=>
 bR (apP 202 513 520 a5 a8 H) fun a9 H=>
 bV (v6 a) fun b0=>
 bV (fAd 5 b0) fun b1=>
 bR (stN 1 b1 a9 H) fun b7 H=>
 bV (ldN 512 h H) fun b2=>
 bR (f196 D n [f,b2] H) fun o H=>
 bV (jM o 0) fun b3=>
 bV (jM o 1) fun b4=>
 bR (stN 3 x4 b3 H) fun b8 H=>
 bV (ldN 3 x4 H) fun q=>bV (some b4) fun u=>some (.ret (.tuple [q,u]),H))))
def h151:Hint:=(.s .o (.s .o (.s Hq (.s .o (.s (.s .o Hq) (.s .o Hr))))))
theorem zJ9 {D:Dyn}(a:DG D)(n:Nat):FI 151 (zLB D n):=fk n h151 a (sc (zJ2 a n) (sc (zEY a n) (sc (zJ1 a n) sn))) Tryz.func151
attribute [local irreducible] zLB
def s96:Tb:=⟨X,[(77,f77 D n),(149,f149 D n),(150,zGt D n),(151,zLB D n)]⟩
def zAE (D:Dyn)(n:Nat)(vs:List AV)(H:AH):Rs:=
 hd vs fun h vs=>hd vs fun a vs=>hd vs fun o vs=>hd vs fun i vs=>hd vs fun j vs=>hd vs fun m vs=>hd vs fun f vs=>
 bV (kI .lss f m) fun v=>
 cnd v (bV (uX 3 j f) fun x=>
 bV (ldN 3 x H) fun y=>
 bA (bxV 42 (.agg [(.int .i64 (.ofNat 0)),(.int .i64 (.ofNat 0)),(.int .u64 (.ofNat 0))])) H fun p H=>
 bR (stN 3 p y H) fun N H=>
 bV (ldN 3 p H) fun z=>
 bR (D.fn 96 [h,z] H) fun q H=>
 bV (jM q 0) fun C=>
 bV (jM q 1) fun s=>
 bV (uX 3 i f) fun F=>
 bR (stN 3 F C H) fun O H=>
 bV (kI .neq s (.int .i64 (.ofNat 0))) fun J=>
 cnd J (bV (vR [(0,1),(1,1),(2,1)] [(.int .i64 (.ofNat 0)),(.int .i64 (.ofNat 0)),(.int .u64 (.ofNat 0))] []) fun K=>
 bR (stN 3 a K H) fun S H=>
 bV (ldN 3 a H) fun t=>bV (some s) fun u=>some (.ret (.tuple [t,u]),H))
 (bV (kI .add f (.int .i64 (.ofNat 1))) fun L=>
 some (.norm [h,a,o,i,j,m,L],H)))
 (some (.exit 0 [h,a,o,i],H))
def zG7 (D:Dyn)(n:Nat)(vs:List AV)(H:AH):Rs:=
 hd vs fun f vs=>hd vs fun a vs=>hd vs fun u vs=>hd vs fun F vs=>
 bV (ldN 4 u H) fun J=>
 bR (f149 D n [J] H) fun h H=>
 bV (jM h 0) fun K=>
 bV (jM h 1) fun i=>
 bV (kI .neq i (.int .i64 (.ofNat 0))) fun L=>
 cnd L (bV (vR [(0,1),(1,1),(2,1)] [(.int .i64 (.ofNat 0)),(.int .i64 (.ofNat 0)),(.int .u64 (.ofNat 0))] []) fun N=>
 bR (stN 3 a N H) fun Z H=>
 bV (ldN 3 a H) fun q=>bV (some i) fun v=>some (.ret (.tuple [q,v]),H))
 (bV (v6 f) fun O=>
 bV (fAd 2 O) fun S=>
 bV (ld1 S H) fun T=>
 bR (zGt D n [F,T,K] H) fun j H=>
 bV (jM j 0) fun U=>
 bV (jM j 1) fun m=>
 bA (bxV 55 (.agg (rep 512 [(.int .u8 (.ofNat 0))]))) H fun o H=>
 bR (stN 512 o U H) fun a0 H=>
 bV (kI .neq m (.int .i64 (.ofNat 0))) fun V=>
 cnd V (bV (vR [(0,1),(1,1),(2,1)] [(.int .i64 (.ofNat 0)),(.int .i64 (.ofNat 0)),(.int .u64 (.ofNat 0))] []) fun W=>
 bR (stN 3 a W H) fun a1 H=>
 bV (ldN 3 a H) fun s=>bV (some m) fun x=>some (.ret (.tuple [s,x]),H))
 (bV (ldN 512 o H) fun Y=>
 bR (zLB D n [f,Y] H) fun p H=>
 bV (jM p 0) fun y=>
 bV (jM p 1) fun z=>
 bR (stN 3 a y H) fun a2 H=>
 bV (ldN 3 a H) fun t=>bV (some z) fun C=>some (.ret (.tuple [t,C]),H)))
def zG8 (D:Dyn)(n:Nat)(vs:List AV)(H:AH):Rs:=
 hd vs fun f vs=>hd vs fun h vs=>hd vs fun a vs=>hd vs fun i vs=>
 bV (fAd 3 a) fun j=>
 bR (stN 1 j i H) fun p H=>
 bV (fAd 0 a) fun m=>
 bV (ld1 m H) fun o=>
 jn (cnd o (some (.norm [f,h,a,(.int .u8 (.ofNat 1))],H))
 (some (.norm [f,h,a,(.int .u8 (.ofNat 2))],H))) (zG7 D n)
def f96 (D:Dyn)(n:Nat)(vs:List AV)(H:AH):Option (AV×AH):=
 dH (hd vs fun a vs=>hd vs fun x1 vs=>nl vs <|
 bA (bxV 42 x1) H fun f H=>
 bA (bxV 42 (.agg [(.int .i64 (.ofNat 0)),(.int .i64 (.ofNat 0)),(.int .u64 (.ofNat 0))])) H fun x4 H=>
 bV (fAd 0 f) fun u=>
 bV (ld1 u H) fun v=>
 bV (kI .neq v (.int .i64 (.ofNat 1))) fun x=>
 cnd x (bV (ldN 3 f H) fun y=>
 bR (stN 3 x4 y H) fun b2 H=>
 bV (ldN 3 x4 H) fun q=>bV (some (.int .i64 (.ofNat 0))) fun x5=>some (.ret (.tuple [q,x5]),H))
 (bV (v6 a) fun z=>
 bV (fAd 3 z) fun C=>
 bV (ld1 C H) fun F=>
 bV (kI .sub F (.int .i64 (.ofNat 1))) fun J=>
 bV (v6 a) fun K=>
 bV (fAd 3 K) fun L=>
 bR (stN 1 L J H) fun a8 H=>
 bV (v6 a) fun N=>
 bV (fAd 3 N) fun O=>
 bV (ld1 O H) fun S=>
 bV (kI .lss S (.int .i64 (.ofNat 0))) fun T=>
 cnd T (bV (vR [(0,1),(1,1),(2,1)] [(.int .i64 (.ofNat 0)),(.int .i64 (.ofNat 0)),(.int .u64 (.ofNat 0))] []) fun U=>
 bR (stN 3 x4 U H) fun a9 H=>
 bV (ldN 3 x4 H) fun o=>bV (some (.int .i64 (.ofNat 4))) fun s=>some (.ret (.tuple [o,s]),H))
 (bV (v6 a) fun V=>
 bV (fAd 0 V) fun W=>
 bV (ld1 W H) fun Y=>
 bV (ldN 3 f H) fun Z=>
 bA (bxV 119 (.agg [(.bool false), .nilSlice, .nilSlice, .nilSlice])) H fun x6 H=>
 bR (f77 D n [Y,Z] H) fun h H=>
 bV (jM h 0) fun a0=>
 bV (jM h 1) fun i=>
 bR (stN 4 x6 a0 H) fun b0 H=>
 bV (kI .neq i (.int .i64 (.ofNat 0))) fun a1=>
 cnd a1 (bV (vR [(0,1),(1,1),(2,1)] [(.int .i64 (.ofNat 0)),(.int .i64 (.ofNat 0)),(.int .u64 (.ofNat 0))] []) fun a2=>
 bR (stN 3 x4 a2 H) fun b1 H=>
 bV (ldN 3 x4 H) fun p=>bV (some i) fun t=>some (.ret (.tuple [p,t]),H))
 (bV (fAd 3 x6) fun a3=>
 bV (ld1 a3 H) fun a4=>
 bV (lnSl a4) fun j=>
 bA (zIa 42 3 24 [(.int .i64 (.ofNat 0)),(.int .i64 (.ofNat 0)),(.int .u64 (.ofNat 0))] j j) H fun a5 H=>
 bV (fAd 3 x6) fun a6=>
 bV (ld1 a6 H) fun m=>
 bV (lnSl m) fun a7=>
 jb 0 (jY n (zAE D n) [a,x4,x6,a5,m,a7,(.int .i64 (.ofNat 0))] H) (zG8 D n)))))
def h96:Hint:=(.s .o (.s Hq (.s (.s .o Hq) (.s .o (.s Hq (.s .o (.s (.s .o (.b [0,4,6,8] (.l [0,4,6,8,49,50,51] (.s .o (.s (.cr .o .o) (.s (.b0 (.s .o (.s .o Hq))) .o)))))) (.s .o (.s .o (.s (.s .o (.c [0,4,6,11] .o .o)) (.s .o (.s Hq (.s .o (.s Hq Hr))))))))))))))
theorem zMO {D:Dyn}(a:DG D)(n:Nat):FI 96 (f96 D n):=fk n h96 a (sc (zC9 a n) (sc (zJa a n) (sc (zDB a n) (sc (zJ9 a n) sn)))) Tryz.func96
attribute [local irreducible] zAE zG7 zG8 f96
def s43:Tb:=⟨X,[(73,f73 D n),(23,f23 D n),(96,f96 D n)]⟩
def zLy (D:Dyn)(n:Nat)(vs:List AV)(H:AH):Rs:=
 hd vs fun i vs=>hd vs fun j vs=>hd vs fun m vs=>hd vs fun f vs=>hd vs fun h vs=>hd vs fun a vs=>
 bV (kI .lss a h) fun o=>
 cnd o (bV (uX 1 f a) fun p=>
 bV (ld1 p H) fun q=>
 bR (D.fn 70 [i,q] H) fun t H=>
 bV (kI .add a (.int .i64 (.ofNat 1))) fun s=>
 some (.norm [i,j,m,f,h,s],H))
 (some (.exit 0 [j,m],H))
def zLA (D:Dyn)(n:Nat)(vs:List AV)(H:AH):Rs:=
 hd vs fun a vs=>hd vs fun h vs=>
 bV (vR [(0,1),(1,1),(2,1)] [(.int .i64 (.ofNat 0)),(.int .i64 (.ofNat 0)),(.int .u64 (.ofNat 0))] []) fun m=>
 bR (stN 3 a m H) fun o H=>
 bV (ldN 3 a H) fun f=>bV (some .nilSlice) fun i=>bV (some h) fun j=>some (.ret (.tuple [f,i,j]),H)
def zLx (D:Dyn)(n:Nat)(vs:List AV)(H:AH):Rs:=
 hd vs fun a vs=>hd vs fun o vs=>hd vs fun i vs=>hd vs fun j vs=>hd vs fun m vs=>hd vs fun f vs=>
 bV (kI .lss f m) fun p=>
 cnd p (bV (uX 513 j f) fun q=>
 bV (ldN 513 q H) fun s=>
 bA (bxV 202 (.agg ([(.int .i64 (.ofNat 0))]++rep 512 [(.int .u8 (.ofNat 0))]))) H fun h H=>
 bR (stN 513 h s H) fun J H=>
 bV (v6 a) fun t=>
 bV (fAd 1 t) fun u=>
 bV (ld1 u H) fun v=>
 bV (fAd 0 h) fun x=>
 bV (ld1 x H) fun y=>
 bV (fAd 1 h) fun z=>
 bV (ldN 512 z H) fun C=>
 bR (D.fn 97 [v,y,C] H) fun K H=>
 bV (kI .add f (.int .i64 (.ofNat 1))) fun F=>
 some (.norm [a,o,i,j,m,F],H))
 (some (.exit 2 [a,o,i],H))
def zLz (D:Dyn)(n:Nat)(vs:List AV)(H:AH):Rs:=
 hd vs fun f vs=>hd vs fun h vs=>hd vs fun a vs=>
 some (.norm [f,h,a],H)
def zIS (D:Dyn)(n:Nat)(vs:List AV)(H:AH):Rs:=
 hd vs fun a vs=>hd vs fun h vs=>hd vs fun f vs=>
 bV (v6 a) fun j=>
 bV (fAd 7 j) fun m=>
 bV (ld1 m H) fun o=>
 bV (ldN 3 f H) fun p=>
 bV (v6 a) fun q=>
 bV (fAd 2 q) fun s=>
 bR (stN 3 s p H) fun K H=>
 bV (v6 a) fun t=>
 bV (fAd 7 t) fun u=>
 bR (stN 1 u .nilSlice H) fun L H=>
 bA (mkM [10]) H fun v H=>
 bV (v6 a) fun x=>
 bV (fAd 5 x) fun y=>
 bR (stN 1 y v H) fun N H=>
 bV (ldN 3 f H) fun z=>
 bR (stN 3 h z H) fun J H=>
 bV (ldN 3 h H) fun i=>bV (some o) fun C=>bV (some (.int .i64 (.ofNat 0))) fun F=>some (.ret (.tuple [i,C,F]),H)
def f43 (D:Dyn)(n:Nat)(vs:List AV)(H:AH):Option (AV×AH):=
 dH (hd vs fun a vs=>hd vs fun f vs=>hd vs fun j vs=>nl vs <|
 bA (bxV 42 (.agg [(.int .i64 (.ofNat 0)),(.int .i64 (.ofNat 0)),(.int .u64 (.ofNat 0))])) H fun x6 H=>
 bR (f73 D n [a] H) fun m H=>
 jn (wnt m false (bV (bZ .eql (eqP f .nilPtr)) fun O=>
 some (.norm [O],H)) (some (.norm [jO],H))) fun vs H=>hd vs fun z vs=>
 bV (pk3 (some m) (some (.bool true)) (some z)) fun S=>
 cnd S (bV (vR [(0,1),(1,1),(2,1)] [(.int .i64 (.ofNat 0)),(.int .i64 (.ofNat 0)),(.int .u64 (.ofNat 0))] []) fun T=>
 bR (stN 3 x6 T H) fun c6 H=>
 bV (ldN 3 x6 H) fun C=>bV (some .nilSlice) fun x7=>bV (some (.int .i64 (.ofNat 2))) fun x8=>some (.ret (.tuple [C,x7,x8]),H))
 (bV (kI .lss j (.int .i64 (.ofNat 1))) fun o=>
 jn (wnt o false (bV (kI .gtr j (.int .i64 (.ofNat 2147483647))) fun U=>
 some (.norm [U],H)) (some (.norm [jO],H))) fun vs H=>hd vs fun F vs=>
 bV (pk3 (some o) (some (.bool true)) (some F)) fun V=>
 cnd V (bV (vR [(0,1),(1,1),(2,1)] [(.int .i64 (.ofNat 0)),(.int .i64 (.ofNat 0)),(.int .u64 (.ofNat 0))] []) fun W=>
 bR (stN 3 x6 W H) fun c3 H=>
 bV (ldN 3 x6 H) fun x=>bV (some .nilSlice) fun J=>bV (some (.int .i64 (.ofNat 1))) fun K=>some (.ret (.tuple [x,J,K]),H))
 (bV (v6 a) fun Y=>
 bV (fAd 5 Y) fun p=>
 bV (ld1 p H) fun q=>
 bR (f23 D n [f] H) fun Z H=>chk (ld1 p H) q <|
 bV (QK q H) fun a0=>
 bV (kI .lss Z a0) fun a1=>
 cnd a1 (bV (vR [(0,1),(1,1),(2,1)] [(.int .i64 (.ofNat 0)),(.int .i64 (.ofNat 0)),(.int .u64 (.ofNat 0))] []) fun a2=>
 bR (stN 3 x6 a2 H) fun c4 H=>
 bV (ldN 3 x6 H) fun y=>bV (some .nilSlice) fun L=>bV (some (.int .i64 (.ofNat 3))) fun N=>some (.ret (.tuple [y,L,N]),H))
 (bV (v6 a) fun a3=>
 bV (fAd 5 a3) fun a4=>
 bV (ld1 a4 H) fun a5=>
 bV (QK a5 H) fun a6=>
 bV (vR [(0,1),(1,1),(2,1),(3,1),(4,1),(5,1)] [.nilPtr, .nilPtr,(.int .i64 (.ofNat 0)),(.int .i64 (.ofNat 0)), .nilSlice, .nilSlice] [(0,a),(1,f),(2,j),(3,a6)]) fun a7=>
 bA (bxV 198 a7) H fun h H=>
 bV (v6 a) fun a8=>
 bV (fAd 2 a8) fun a9=>
 bV (ldN 3 a9 H) fun b0=>
 bR (f96 D n [h,b0] H) fun s H=>
 bV (jM s 0) fun b1=>
 bV (jM s 1) fun t=>
 bA (bxV 42 (.agg [(.int .i64 (.ofNat 0)),(.int .i64 (.ofNat 0)),(.int .u64 (.ofNat 0))])) H fun i H=>
 bR (stN 3 i b1 H) fun c5 H=>
 bV (kI .neq t (.int .i64 (.ofNat 0))) fun b2=>
 cnd b2 (bV (v6 h) fun b3=>
 bV (fAd 4 b3) fun b4=>
 bV (ld1 b4 H) fun u=>
 bV (lnSl u) fun b5=>
 jb 0 (jY n (zLy D n) [f,x6,t,u,b5,(.int .i64 (.ofNat 0))] H) (zLA D n))
 (bV (v6 a) fun b6=>
 bV (fAd 1 b6) fun b7=>
 bV (ld1 b7 H) fun b8=>
 bV (bZ .neq (eqP b8 .nilPtr)) fun b9=>
 jn (cnd b9 (bV (v6 h) fun c0=>
 bV (fAd 5 c0) fun c1=>
 bV (ld1 c1 H) fun v=>
 bV (lnSl v) fun c2=>
 jb 2 (jY n (zLx D n) [a,x6,i,v,c2,(.int .i64 (.ofNat 0))] H) (zLz D n))
 (some (.norm [a,x6,i],H))) (zIS D n))))))
def h43:Hint:=(.s .o (.s Hq (.s Hq (.s Hq (.s .o (.s .o (.s (.s .o (.cl (.s (.s .o (.b [6,11] (.l [1,6,11,64,65,66] (.s .o (.s (.cr .o .o) (.s (.b0 Hr) .o)))))) Hr) .o)) (.s (.s .o (.c [0,6,10] (.s .o (.b [0,6,10] (.l [0,6,10,84,85,86] (.s .o (.s (.cr .o .o) (.s (.b0 Hr) .o)))))) .o)) (.s .o (.s .o (.s .o Hr)))))))))))
theorem zN0 {D:Dyn}(a:DG D)(n:Nat):FI 43 (f43 D n):=fk n h43 a (sc (XL a n) (sc (zN4 a n) (sc (zMO a n) sn))) Tryz.func43
attribute [local irreducible] zLy zLA zLx zLz zIS f43
def s19:Tb:=⟨X,[(73,f73 D n)]⟩
def h19:Hint:=(.s .o (.s Hq Hr))
def f19:=(⟨_,by conv=>rhs;reduce⟩:FD (s19 D n) D n 19 Tryz.f19 h19 []).1
theorem UY {D:Dyn}(a:DG D)(n:Nat):FI 19 (f19 D n):=fk n (ms h19) a (sc (XL a n) sn) Tryz.func19
attribute [local irreducible] f19
def s64:Tb:=⟨X,[(38,f38 D n),(68,f68 D n),(29,f29 D n),(111,f111 D n),(69,f69 D n),(43,f43 D n),(19,f19 D n),(18,f18 D n)]⟩
def h64:Hint:=(.s .o (.s (.s .o (.b [5] (.l [4,0,1,5] (.s (.s .o (.cr .o .o)) (.s (.b [3,0,1,5] (.s .o (.s .o (.b0 (.s .o (.c [2,0,1,5] (.s (.b [8,255] .o) (.c [0,0,1,5] (.b [9,510,12,4095] .o) .o)) (.s .o (.c [1,0,1,5] (.s (.s (.c [6,63,14,16255] (.l [0,1,2,3,4,5,8,9,10,11,12,13,6,7,14,15] .o) .o) (.cl Hr .o)) (.b [7,126,10,1023] .o)) (.s .o (.s (.c [12,4095,18,163839] (.l [0,1,2,3,4,5,6,7,8,9,10,11,17,12,13,14,15,16,18,19,20] .o) .o) (.s (.s .o (.cl .o .o)) (.s (.b [8,240,9,511] .o) (.s Hq .o))))))))))))) .o))))) Hr))
def XN:=(⟨_,by conv=>rhs;reduce⟩:PD (s64 D n) D n 64 Tryz.f64 h64 [] 0).1
attribute [local irreducible] XN
def VY:=(⟨_,by conv=>rhs;reduce⟩:PD (s64 D n) D n 64 Tryz.f64 h64 [XN D n] 1).1
attribute [local irreducible] VY
def XM:=(⟨_,by conv=>rhs;reduce⟩:PD (s64 D n) D n 64 Tryz.f64 h64 [XN D n,VY D n] 2).1
attribute [local irreducible] XM
def XO:=(⟨_,by conv=>rhs;reduce⟩:PD (s64 D n) D n 64 Tryz.f64 h64 [XN D n,VY D n,XM D n] 3).1
attribute [local irreducible] XO
def QO:=(⟨_,by conv=>rhs;reduce⟩:PD (s64 D n) D n 64 Tryz.f64 h64 [XN D n,VY D n,XM D n,XO D n] 4).1
attribute [local irreducible] QO
def zIM:=(⟨_,by conv=>rhs;reduce⟩:PD (s64 D n) D n 64 Tryz.f64 h64 [XN D n,VY D n,XM D n,XO D n,QO D n] 5).1
attribute [local irreducible] zIM
def f64:=(⟨_,by conv=>rhs;reduce⟩:FD (s64 D n) D n 64 Tryz.f64 h64 [XN D n,VY D n,XM D n,XO D n,QO D n,zIM D n]).1
theorem zMW {D:Dyn}(a:DG D)(n:Nat):FI 64 (f64 D n):=fk n (ms h64) a (sc (zN1 a n) (sc (zMU a n) (sc (zN3 a n) (sc (zJh a n) (sc (zEQ a n) (sc (zN0 a n) (sc (UY a n) (sc (zCe a n) sn)))))))) Tryz.func64
attribute [local irreducible] f64
def s63:Tb:=⟨X,[(18,f18 D n),(64,f64 D n)]⟩
def h63:Hint:=(.s .o (.s .o (.s Hq (.s .o Hr))))
def f63:=(⟨_,by conv=>rhs;reduce⟩:FD (s63 D n) D n 63 Tryz.f63 h63 []).1
theorem zMX {D:Dyn}(a:DG D)(n:Nat):FI 63 (f63 D n):=fk n (ms h63) a (sc (zCe a n) (sc (zMW a n) sn)) Tryz.func63
attribute [local irreducible] f63
def s52:Tb:=⟨X,[(32,f32 D n),(34,f34 D n),(63,f63 D n)]⟩
def h52:Hint:=(.s .o (.s .o (.s .o (.s Hq Hr))))
def f52:=(⟨_,by conv=>rhs;reduce⟩:FD (s52 D n) D n 52 Tryz.f52 h52 []).1
theorem zEV {D:Dyn}(a:DG D)(n:Nat):FI 52 (f52 D n):=fk n (ms h52) a (sc (zEX a n) (sc (zN2 a n) (sc (zMX a n) sn))) Tryz.func52
attribute [local irreducible] f52
def s24:Tb:=⟨X,[(73,f73 D n)]⟩
def h24:Hint:=(.s .o (.s Hq Hr))
def f24:=(⟨_,by conv=>rhs;reduce⟩:FD (s24 D n) D n 24 Tryz.f24 h24 []).1
theorem zF0 {D:Dyn}(a:DG D)(n:Nat):FI 24 (f24 D n):=fk n (ms h24) a (sc (XL a n) sn) Tryz.func24
attribute [local irreducible] f24
def s104:Tb:=⟨X,[(24,f24 D n)]⟩
def h104:Hint:=(.s .o Hr)
def f104:=(⟨_,by conv=>rhs;reduce⟩:FD (s104 D n) D n 104 Tryz.f104 h104 []).1
theorem bT {D:Dyn}(a:DG D)(n:Nat):FI 104 (f104 D n):=fk n (ms h104) a (sc (zF0 a n) sn) Tryz.func104
attribute [local irreducible] f104
def s61:Tb:=⟨X,[(73,f73 D n),(77,f77 D n),(108,f108 D n),(81,f81 D n)]⟩
def h61:Hint:=(.s .o (.s Hq (.s Hq (.s .o (.s Hq (.s (.c [4,12,7,124,10,1020,12,4095] (.l [0,1,2,3,5,6,8,9,4,7,10,11,12,13] .o) .o) .o))))))
def f61:=(⟨_,by conv=>rhs;reduce⟩:FD (s61 D n) D n 61 Tryz.f61 h61 []).1
theorem zES {D:Dyn}(a:DG D)(n:Nat):FI 61 (f61 D n):=fk n (ms h61) a (sc (XL a n) (sc (zC9 a n) (sc (zAK a n) (sc (zIH a n) sn)))) Tryz.func61
attribute [local irreducible] f61
def s166:Tb:=⟨X,[(61,f61 D n),(79,f79 D n)]⟩
def zQy:Hint:=(.s .o (.s Hq (.s (.s .o (.s .o (.cl (.s .o Hr) .o))) (.s (.b [10,767] .o) (.s (.s .o (.c [2,0,2,3,4,5,7,13] (.b [6,62,10,510,13,8191] .o) .o)) (.s Hq (.s Hq (.s .o (.s (.s .o (.b [1] (.l [0,0,2,3,4,5,13,15,16] (.s (.s .o (.cr .o .o)) (.s (.b0 (.s (.s .o (.cl .o .o)) Hq)) .o))))) Hr)))))))))
def bO:=(⟨_,by conv=>rhs;reduce⟩:PD (s166 D n) D n 166 Tryz.f166 zQy [] 0).1
attribute [local irreducible] bO
def JJ:=(⟨_,by conv=>rhs;reduce⟩:PD (s166 D n) D n 166 Tryz.f166 zQy [bO D n] 1).1
attribute [local irreducible] JJ
def XV:=(⟨_,by conv=>rhs;reduce⟩:PD (s166 D n) D n 166 Tryz.f166 zQy [bO D n,JJ D n] 2).1
attribute [local irreducible] XV
def f166:=(⟨_,by conv=>rhs;reduce⟩:FD (s166 D n) D n 166 Tryz.f166 zQy [bO D n,JJ D n,XV D n]).1
theorem zJ8 {D:Dyn}(a:DG D)(n:Nat):FI 166 (f166 D n):=fk n (ms zQy) a (sc (zES a n) (sc (XK a n) sn)) Tryz.func166
attribute [local irreducible] f166
def s165:Tb:=⟨X,[(19,f19 D n),(166,f166 D n)]⟩
def h165:Hint:=(.s .o (.s .o (.c [0] .o .o)))
def JK:=(⟨_,by conv=>rhs;reduce⟩:PD (s165 D n) D n 165 Tryz.f165 h165 [] 0).1
attribute [local irreducible] JK
def f165:=(⟨_,by conv=>rhs;reduce⟩:FD (s165 D n) D n 165 Tryz.f165 h165 [JK D n]).1
theorem zOB {D:Dyn}(a:DG D)(n:Nat):FI 165 (f165 D n):=fk n (ms h165) a (sc (UY a n) (sc (zJ8 a n) sn)) Tryz.func165
attribute [local irreducible] f165
def h107:Hint:=(.s .o Hr)
def f107:=(⟨_,by conv=>rhs;reduce⟩:FD ⟨X,[]⟩ D n 107 Tryz.f107 h107 []).1
theorem ZT {D:Dyn}(a:DG D)(n:Nat):FI 107 (f107 D n):=fk n (ms h107) a sn Tryz.func107
attribute [local irreducible] f107
def zPp:Tb:=⟨X,[(107,f107 D n),(79,f79 D n)]⟩
def h164:Hint:=(.s .o (.s .o (.b0 (.rf 0 [2,3,5]))))
def f164:=(⟨_,by conv=>rhs;reduce⟩:FD (zPp D n) D n 164 Tryz.f164 h164 []).1
theorem zOC {D:Dyn}(a:DG D)(n:Nat):FI 164 (f164 D n):=fk n (ms h164) a (sc (ZT a n) (sc (XK a n) sn)) Tryz.func164
def zHH:Hint:= .o
def WM:Hint:=(.b [2] (.s (.s .o (.cl .o .o)) (.s .o (.b [1] (.l [0,3,5,7,8] (.s (.s .o (.cr .o .o)) (.s (.b0 (.s (.b [24,16777215] .o) (.cl .o .o))) .o)))))))
def d9:=(⟨_,by conv=>rhs;reduce⟩:QD (zPp D n) D n 164 0 [] WM [] 0).1
attribute [local irreducible] d9
def XW:=(⟨_,by conv=>rhs;reduce⟩:QD (zPp D n) D n 164 0 [] WM [d9 D n] 1).1
attribute [local irreducible] XW
def BA:=(⟨_,by conv=>rhs;reduce⟩:QD (zPp D n) D n 164 0 [] WM [d9 D n,XW D n] 2).1
attribute [local irreducible] BA
def aZ:=(⟨_,by conv=>rhs;reduce⟩:RD (zPp D n) D n 164 0 [2,3,5] [] zHH WM [d9 D n,XW D n,BA D n]).1
theorem zHJ (D:Dyn)(n:Nat):aZ D n=zKk (zPp D n) D n 164 0 [2,3,5] [] (ms zHH) (ms WM):=by kernel_rfl
theorem zHI {D:Dyn}(a:DG D)(n:Nat):RS 164 0 (aZ D n):=fU X_ok a (sc (ZT a n) (sc (XK a n) sn)) (by kernel_rfl) (zHJ D n)
attribute [local irreducible] f164 aZ
def h105:Hint:=(.s .o Hr)
def f105:=(⟨_,by conv=>rhs;reduce⟩:FD ⟨X,[]⟩ D n 105 Tryz.f105 h105 []).1
theorem ZU {D:Dyn}(a:DG D)(n:Nat):FI 105 (f105 D n):=fk n (ms h105) a sn Tryz.func105
attribute [local irreducible] f105
def h106:Hint:=(.s .o Hr)
def f106:=(⟨_,by conv=>rhs;reduce⟩:FD ⟨X,[]⟩ D n 106 Tryz.f106 h106 []).1
theorem zOR {D:Dyn}(a:DG D)(n:Nat):FI 106 (f106 D n):=fk n (ms h106) a sn Tryz.func106
attribute [local irreducible] f106
def s53:Tb:=⟨X,[(104,f104 D n),(105,f105 D n)]⟩
def h53:Hint:=(.s .o (.s Hq (.s Hq (.s .o (.s .o (.s .o (.s (.s .o (.b [0,11,12,13] (.rf 0 [7,12,13]))) (.s (.s .o (.cl (.s (.b [] .o) .o) .o)) (.s (.b [] .o) .o)))))))))
def zIP:=(⟨_,by conv=>rhs;reduce⟩:PD (s53 D n) D n 53 Tryz.f53 h53 [] 0).1
attribute [local irreducible] zIP
def f53:=(⟨_,by conv=>rhs;reduce⟩:FD (s53 D n) D n 53 Tryz.f53 h53 [zIP D n]).1
theorem zEU {D:Dyn}(a:DG D)(n:Nat):FI 53 (f53 D n):=fk n (ms h53) a (sc (bT a n) (sc (ZU a n) sn)) Tryz.func53
def zMH:Hint:= .o
def zMG:Hint:=(.b0 (.s (.s .o (.cl (.s .o .o) .o)) .o))
def zAl:=(⟨_,by conv=>rhs;reduce⟩:RD (s53 D n) D n 53 0 [7,12,13] [0] zMH zMG []).1
theorem zKY (D:Dyn)(n:Nat):zAl D n=zKk (s53 D n) D n 53 0 [7,12,13] [0] (ms zMH) (ms zMG):=by kernel_rfl
theorem zKX {D:Dyn}(a:DG D)(n:Nat):RS 53 0 (zAl D n):=fU X_ok a (sc (bT a n) (sc (ZU a n) sn)) (by kernel_rfl) (zKY D n)
attribute [local irreducible] f53 zAl
def s56:Tb:=⟨X,[(104,f104 D n),(105,f105 D n)]⟩
def h56:Hint:=(.s .o (.s Hq (.s .o (.s .o (.s (.s .o (.b0 (.rf 0 [9]))) (.s (.s .o (.cl (.s (.b [] .o) .o) .o)) Hr))))))
def f56:=(⟨_,by conv=>rhs;reduce⟩:FD (s56 D n) D n 56 Tryz.f56 h56 []).1
theorem zMZ {D:Dyn}(a:DG D)(n:Nat):FI 56 (f56 D n):=fk n (ms h56) a (sc (bT a n) (sc (ZU a n) sn)) Tryz.func56
def zMF:Hint:= .o
def zME:Hint:=(.b0 .o)
def zFO:=(⟨_,by conv=>rhs;reduce⟩:RD (s56 D n) D n 56 0 [9] [] zMF zME []).1
theorem zKW (D:Dyn)(n:Nat):zFO D n=zKk (s56 D n) D n 56 0 [9] [] (ms zMF) (ms zME):=by kernel_rfl
theorem zKV {D:Dyn}(a:DG D)(n:Nat):RS 56 0 (zFO D n):=fU X_ok a (sc (bT a n) (sc (ZU a n) sn)) (by kernel_rfl) (zKW D n)
attribute [local irreducible] f56 zFO
def s112:Tb:=⟨X,[(104,f104 D n),(105,f105 D n)]⟩
def h112:Hint:=(.s .o (.s .o (.s .o (.s .o (.s (.s .o (.b0 (.rf 0 [9]))) (.s (.b [] .o) .o))))))
def f112:=(⟨_,by conv=>rhs;reduce⟩:FD (s112 D n) D n 112 Tryz.f112 h112 []).1
theorem zDH {D:Dyn}(a:DG D)(n:Nat):FI 112 (f112 D n):=fk n (ms h112) a (sc (bT a n) (sc (ZU a n) sn)) Tryz.func112
def zHL:Hint:= .o
def zHK:Hint:=(.b0 .o)
def UG:=(⟨_,by conv=>rhs;reduce⟩:RD (s112 D n) D n 112 0 [9] [] zHL zHK []).1
theorem zHN (D:Dyn)(n:Nat):UG D n=zKk (s112 D n) D n 112 0 [9] [] (ms zHL) (ms zHK):=by kernel_rfl
theorem zHM {D:Dyn}(a:DG D)(n:Nat):RS 112 0 (UG D n):=fU X_ok a (sc (bT a n) (sc (ZU a n) sn)) (by kernel_rfl) (zHN D n)
attribute [local irreducible] f112 UG
def h206:Hint:=(.s .o Hr)
def f206:=(⟨_,by conv=>rhs;reduce⟩:FD ⟨X,[]⟩ D n 206 Tryz.f206 h206 []).1
theorem zJ0 {D:Dyn}(a:DG D)(n:Nat):FI 206 (f206 D n):=fk n (ms h206) a sn Tryz.func206
attribute [local irreducible] f206
def s167:Tb:=⟨X,[(206,f206 D n)]⟩
def h167:Hint:=(.s .o (.s .o (.s .o (.s (.s .o (.cl (.s Hq Hr) .o)) (.s Hq (.s Hq (.s Hq Hr)))))))
def f167:=(⟨_,by conv=>rhs;reduce⟩:FD (s167 D n) D n 167 Tryz.f167 h167 []).1
theorem zJ7 {D:Dyn}(a:DG D)(n:Nat):FI 167 (f167 D n):=fk n (ms h167) a (sc (zJ0 a n) sn) Tryz.func167
attribute [local irreducible] f167
def zMy:Tb:=⟨X,[(167,f167 D n)]⟩
def zLp:Hint:=(.s .o (.s .o (.s (.b [6,5] (.l [5,0,1,5] (.s (.s .o (.cr .o .o)) (.b0 (.s .o (.s (.b0 (.s .o (.c [4,0,1,5,6] .o (.s .o (.c [0,0,1,5,6] .o (.b [8,255] .o)))))) (.s .o (.s (.s .o (.c [3,0,1,5,6,7] (.s (.b [9,271,11,2047,13,8191] .o) .o) .o)) (.s (.s .o (.c [2,0,1,5,6,7] (.s (.b [9,271,11,2047,13,8191] .o) .o) .o)) (.s .o (.c [1,0,1,5] .o .o))))))))))) Hr)))
def ZE:=(⟨_,by conv=>rhs;reduce⟩:PD (zMy D n) D n 115 Tryz.f115 zLp [] 0).1
attribute [local irreducible] ZE
def QW:=(⟨_,by conv=>rhs;reduce⟩:PD (zMy D n) D n 115 Tryz.f115 zLp [ZE D n] 1).1
attribute [local irreducible] QW
def JO:=(⟨_,by conv=>rhs;reduce⟩:PD (zMy D n) D n 115 Tryz.f115 zLp [ZE D n,QW D n] 2).1
attribute [local irreducible] JO
def V0:=(⟨_,by conv=>rhs;reduce⟩:PD (zMy D n) D n 115 Tryz.f115 zLp [ZE D n,QW D n,JO D n] 3).1
attribute [local irreducible] V0
def BH:=(⟨_,by conv=>rhs;reduce⟩:PD (zMy D n) D n 115 Tryz.f115 zLp [ZE D n,QW D n,JO D n,V0 D n] 4).1
attribute [local irreducible] BH
def zCg:=(⟨_,by conv=>rhs;reduce⟩:PD (zMy D n) D n 115 Tryz.f115 zLp [ZE D n,QW D n,JO D n,V0 D n,BH D n] 5).1
attribute [local irreducible] zCg
def zF2:=(⟨_,by conv=>rhs;reduce⟩:PD (zMy D n) D n 115 Tryz.f115 zLp [ZE D n,QW D n,JO D n,V0 D n,BH D n,zCg D n] 6).1
attribute [local irreducible] zF2
def f115:=(⟨_,by conv=>rhs;reduce⟩:FD (zMy D n) D n 115 Tryz.f115 zLp [ZE D n,QW D n,JO D n,V0 D n,BH D n,zCg D n,zF2 D n]).1
theorem zDG {D:Dyn}(a:DG D)(n:Nat):FI 115 (f115 D n):=fk n (ms zLp) a (sc (zJ7 a n) sn) Tryz.func115
attribute [local irreducible] f115
def h113:Hint:=(.s .o (.s .o (.s (.s .o (.s .o (.c [0,6] .o .o))) Hr)))
def zF3:=(⟨_,by conv=>rhs;reduce⟩:PD ⟨X,[]⟩ D n 113 Tryz.f113 h113 [] 0).1
attribute [local irreducible] zF3
def f113:=(⟨_,by conv=>rhs;reduce⟩:FD ⟨X,[]⟩ D n 113 Tryz.f113 h113 [zF3 D n]).1
theorem zOH {D:Dyn}(a:DG D)(n:Nat):FI 113 (f113 D n):=fk n (ms h113) a sn Tryz.func113
attribute [local irreducible] f113
def h114:Hint:=(.s .o (.s .o Hr))
def f114:=(⟨_,by conv=>rhs;reduce⟩:FD ⟨X,[]⟩ D n 114 Tryz.f114 h114 []).1
theorem zOG {D:Dyn}(a:DG D)(n:Nat):FI 114 (f114 D n):=fk n (ms h114) a sn Tryz.func114
attribute [local irreducible] f114
def s65:Tb:=⟨X,[(104,f104 D n),(107,f107 D n),(112,f112 D n),(115,f115 D n)]⟩
def h65:Hint:=(.s .o (.s Hq (.s .o (.s .o (.s (.s .o (.b0 (.rf 0 [6]))) (.s (.s .o (.cl (.s (.b [] .o) .o) .o)) (.s .o (.s .o (.s Hq (.s .o (.s Hq Hr)))))))))))
def f65:=(⟨_,by conv=>rhs;reduce⟩:FD (s65 D n) D n 65 Tryz.f65 h65 []).1
theorem zMV {D:Dyn}(a:DG D)(n:Nat):FI 65 (f65 D n):=fk n (ms h65) a (sc (bT a n) (sc (ZT a n) (sc (zDH a n) (sc (zDG a n) sn)))) Tryz.func65
def zMC:Hint:=(.s .o .o)
def zMB:Hint:=(.b0 .o)
def zFN:=(⟨_,by conv=>rhs;reduce⟩:RD (s65 D n) D n 65 0 [6] [] zMC zMB []).1
theorem zKS (D:Dyn)(n:Nat):zFN D n=zKk (s65 D n) D n 65 0 [6] [] (ms zMC) (ms zMB):=by kernel_rfl
theorem zKR {D:Dyn}(a:DG D)(n:Nat):RS 65 0 (zFN D n):=fU X_ok a (sc (bT a n) (sc (ZT a n) (sc (zDH a n) (sc (zDG a n) sn)))) (by kernel_rfl) (zKS D n)
attribute [local irreducible] f65 zFN
def s60:Tb:=⟨X,[(104,f104 D n),(107,f107 D n)]⟩
def h60:Hint:=(.s .o (.s Hq (.s .o (.s .o (.s (.s .o (.b0 (.rf 0 [5]))) (.s (.s .o (.cl (.s (.b [] .o) .o) .o)) Hr))))))
def f60:=(⟨_,by conv=>rhs;reduce⟩:FD (s60 D n) D n 60 Tryz.f60 h60 []).1
theorem zET {D:Dyn}(a:DG D)(n:Nat):FI 60 (f60 D n):=fk n (ms h60) a (sc (bT a n) (sc (ZT a n) sn)) Tryz.func60
def zMD:Hint:= .o
def zHC:Hint:=(.b0 (.s .o (.c [0] .o .o)))
def zGa:=(⟨_,by conv=>rhs;reduce⟩:QD (s60 D n) D n 60 0 [] zHC [] 0).1
attribute [local irreducible] zGa
def zAk:=(⟨_,by conv=>rhs;reduce⟩:RD (s60 D n) D n 60 0 [5] [] zMD zHC [zGa D n]).1
theorem zKU (D:Dyn)(n:Nat):zAk D n=zKk (s60 D n) D n 60 0 [5] [] (ms zMD) (ms zHC):=by kernel_rfl
theorem zKT {D:Dyn}(a:DG D)(n:Nat):RS 60 0 (zAk D n):=fU X_ok a (sc (bT a n) (sc (ZT a n) sn)) (by kernel_rfl) (zKU D n)
attribute [local irreducible] f60 zAk
def h58:Hint:=(.s .o (.s (.s .o (.b [1] (.l [0,0,3] (.s (.s .o (.cr .o .o)) (.s (.b0 (.s .o (.cl (.s (.b [] .o) .o) .o))) .o))))) Hr))
def zIN:=(⟨_,by conv=>rhs;reduce⟩:PD ⟨X,[]⟩ D n 58 Tryz.f58 h58 [] 0).1
attribute [local irreducible] zIN
def zLv:=(⟨_,by conv=>rhs;reduce⟩:PD ⟨X,[]⟩ D n 58 Tryz.f58 h58 [zIN D n] 1).1
attribute [local irreducible] zLv
def f58:=(⟨_,by conv=>rhs;reduce⟩:FD ⟨X,[]⟩ D n 58 Tryz.f58 h58 [zIN D n,zLv D n]).1
theorem zMY {D:Dyn}(a:DG D)(n:Nat):FI 58 (f58 D n):=fk n (ms h58) a sn Tryz.func58
attribute [local irreducible] f58
def s51:Tb:=⟨X,[(52,f52 D n),(53,f53 D n),(56,f56 D n),(65,f65 D n),(60,f60 D n),(19,f19 D n),(58,f58 D n)]⟩
def h51:Hint:=(.s .o (.s .o (.s .o (.s Hq (.s .o (.s .o (.s .o (.s (.b [8,255] .o) (.s .o (.s (.b [74,17856448263350845964287,82,4835703278458516698824703] .o) .o))))))))))
def f51:=(⟨_,by conv=>rhs;reduce⟩:FD (s51 D n) D n 51 Tryz.f51 h51 []).1
theorem zEW {D:Dyn}(a:DG D)(n:Nat):FI 51 (f51 D n):=fk n (ms h51) a (sc (zEV a n) (sc (zEU a n) (sc (zMZ a n) (sc (zMV a n) (sc (zET a n) (sc (UY a n) (sc (zMY a n) sn))))))) Tryz.func51
attribute [local irreducible] f51
end Go.Eng.Sh
end
end
section
noncomputable section
namespace Go.Eng.Sh
open Go.Proofs
set_option maxRecDepth 100000
set_option maxHeartbeats 4000000
variable (D:Dyn)(n:Nat)
attribute [local irreducible] bV bR hd cnd jn jb jY wnt chk VQ bA kI aV K0 bZ eqP eqS eqM eqF eqA zPA ldN ld1 stN cvI zPE zFb zNa VT vY xF fJ uX XA zBZ zG1 fd1 fdN fAd X3 lnSl QK apP apZ cpy vR zM0 pk3 s2a bxV dL zIa lkM upM dlM mkM callV nl dH tld zN7 uM YE fQ zEG rfC mn2 mx2 aun jM v6 jO isW aveq bF f85 f32 f86 JZ zGb f34 f118 ZD BG f119 f72 f18 f73 f127 QV cS BD f126 dD cT V1 BI f110 f137 uD fP ZF cU JP dG f109 bN fL JG QQ f227 f108 f81 XS f213 QR B9 f177 Z9 UZ f179 JL XZ f131 f76 QP UX f230 f225 f208 Z7 XQ f226 zGt zKn f171 f120 f74 f25 zCf BF BE zLC f172 zKm f174 f62 f210 f173 f175 fM fO vC bQ JN f123 f77 XJ JY zG9 f79 f130 f212 JI XT f180 ZB cR cQ XY BC f132 JH XR f214 ZA cP cO XU B0 f178 f176 QU JM QT f129 ZC dB f128 f82 f138 zOb f89 f88 f38 zCa VX zIK f69 zAF zIL f68 f84 f83 f29 f111 f23 f193 zCd f194 QS gJ XX BB f149 cL zCc f207 f168 cN zF1 f195 QG f75 f26 f196 zLB zAE zG7 zG8 f96 zLy zLA zLx zLz zIS f43 f19 XN VY XM XO QO zIM f64 f63 f52 f24 f104 f61 bO JJ XV f166 JK f165 f107 f164 d9 XW BA aZ f105 f106 zIP f53 zAl f56 zFO f112 UG f206 f167 ZE QW JO V0 BH zCg zF2 f115 zF3 f113 f114 f65 zFN f60 zGa zAk zIN zLv f58 f51
def h50:Hint:=(.s .o (.s Hq (.s (.s .o (.b [1] (.l [0,0,3] (.s (.s .o (.cr .o .o)) (.s (.b0 Hq) .o))))) Hr)))
def zCb:=(⟨_,by conv=>rhs;reduce⟩:PD ⟨X,[]⟩ D n 50 Tryz.f50 h50 [] 0).1
attribute [local irreducible] zCb
def zIQ:=(⟨_,by conv=>rhs;reduce⟩:PD ⟨X,[]⟩ D n 50 Tryz.f50 h50 [zCb D n] 1).1
attribute [local irreducible] zIQ
def f50:=(⟨_,by conv=>rhs;reduce⟩:FD ⟨X,[]⟩ D n 50 Tryz.f50 h50 [zCb D n,zIQ D n]).1
theorem zIR {D:Dyn}(a:DG D)(n:Nat):FI 50 (f50 D n):=fk n (ms h50) a sn Tryz.func50
attribute [local irreducible] f50
def h55:Hint:=(.s .o (.s Hq (.s (.s .o (.b [1] (.l [0,0,1,5] (.s (.s .o (.cr .o .o)) (.s (.b0 (.s (.b [] .o) (.cl Hr .o))) .o))))) Hr)))
def zDs:=(⟨_,by conv=>rhs;reduce⟩:PD ⟨X,[]⟩ D n 55 Tryz.f55 h55 [] 0).1
attribute [local irreducible] zDs
def zLw:=(⟨_,by conv=>rhs;reduce⟩:PD ⟨X,[]⟩ D n 55 Tryz.f55 h55 [zDs D n] 1).1
attribute [local irreducible] zLw
def f55:=(⟨_,by conv=>rhs;reduce⟩:FD ⟨X,[]⟩ D n 55 Tryz.f55 h55 [zDs D n,zLw D n]).1
theorem zIO {D:Dyn}(a:DG D)(n:Nat):FI 55 (f55 D n):=fk n (ms h55) a sn Tryz.func55
attribute [local irreducible] f55
def s10:Tb:=⟨X,[(50,f50 D n),(51,f51 D n),(52,f52 D n),(24,f24 D n),(60,f60 D n),(32,f32 D n),(25,f25 D n),(26,f26 D n),(19,f19 D n),(18,f18 D n),(53,f53 D n),(55,f55 D n),(61,f61 D n),(62,f62 D n)]⟩
def zOL (D:Dyn)(n:Nat)(vs:List AV)(H:AH):Rs:=
 hd vs fun i vs=>hd vs fun a vs=>hd vs fun j vs=>hd vs fun h vs=>hd vs fun f vs=>
 bV (lnSl a) fun N=>
 bV (kI .lss f N) fun O=>
 cnd O (bV (uX 3 a f) fun S=>
 bV (fAd 0 S) fun T=>
 bV (ld1 T H) fun p=>
 bV (lkM [6] (.int .i64 (.ofNat 0)) false h p H) fun U=>
 bV (kI .add U (.int .i64 (.ofNat 1))) fun V=>
 bR (upM [6] h p V H) fun b1 H=>
 bV (v6 i) fun W=>
 bV (fAd 2 W) fun Y=>
 bV (ld1 Y H) fun Z=>
 bV (uX 3 a f) fun a0=>
 bV (fAd 0 a0) fun a1=>
 bV (ld1 a1 H) fun a2=>
 bA (bxV 55 (.agg (rep 512 [(.int .u8 (.ofNat 0))]))) H fun q H=>
 bR (f25 D n [Z,a2] H) fun s H=>
 bV (jM s 0) fun a3=>
 bV (jM s 1) fun a4=>
 bR (stN 512 q a3 H) fun b0 H=>
 bV (uX 3 a f) fun a5=>
 bV (fAd 0 a5) fun a6=>
 bV (ld1 a6 H) fun a7=>
 bV (lkM [6] (.int .i64 (.ofNat 0)) false h a7 H) fun a8=>
 bV (kI .neq a8 (.int .i64 (.ofNat 1))) fun m=>
 jn (wnt m false (bV (kI .neq a4 (.int .i64 (.ofNat 0))) fun v=>
 some (.norm [v],H)) (some (.norm [jO],H))) fun vs H=>hd vs fun t vs=>
 bV (pk3 (some m) (some (.bool true)) (some t)) fun o=>
 jn (wnt o false (bV (uX 3 a f) fun x=>
 bV (fAd 0 x) fun y=>
 bV (ld1 y H) fun z=>
 bV (ldN 512 q H) fun C=>
 bR (f26 D n [j,z,C] H) fun F H=>
 bV (kI .neq F (.int .i64 (.ofNat 0))) fun J=>
 some (.norm [J],H)) (some (.norm [jO],H))) fun vs H=>hd vs fun u vs=>
 bV (pk3 (some o) (some (.bool true)) (some u)) fun K=>
 cnd K (bV (some (.bool false)) fun L=>some (.ret L,H))
 (bV (kI .add f (.int .i64 (.ofNat 1))) fun a9=>
 some (.norm [i,a,j,h,a9],H)))
 (some (.exit 0 [i,a,j],H))
def zOK (D:Dyn)(n:Nat)(vs:List AV)(H:AH):Rs:=
 hd vs fun p vs=>hd vs fun a vs=>hd vs fun j vs=>hd vs fun m vs=>hd vs fun o vs=>hd vs fun h vs=>hd vs fun i vs=>hd vs fun f vs=>
 bV (lnSl a) fun t=>
 bV (kI .lss f t) fun q=>
 jn (wnt q true (bV (uX 3 a f) fun u=>
 bV (ldN 3 u H) fun v=>
 bV (fAd 3 h) fun x=>
 bV (ld1 x H) fun y=>
 bV (uX 3 y i) fun z=>
 bV (ldN 3 z H) fun C=>
 bV (bZ .neq (eqA [6,6,10] v C)) fun F=>
 some (.norm [F],H)) (some (.norm [jO],H))) fun vs H=>hd vs fun s vs=>
 bV (pk3 (some q) (some s) (some (.bool false))) fun J=>
 cnd J (bV (kI .add f (.int .i64 (.ofNat 1))) fun K=>
 some (.norm [p,a,j,m,o,h,i,K],H))
 (some (.exit 6 [p,a,j,m,o,h,i,f],H))
def zOQ (D:Dyn)(n:Nat)(vs:List AV)(H:AH):Rs:=
 hd vs fun s vs=>hd vs fun h vs=>hd vs fun m vs=>hd vs fun o vs=>hd vs fun a vs=>hd vs fun p vs=>hd vs fun q vs=>hd vs fun f vs=>
 bV (lnSl h) fun t=>
 bV (kI .eql f t) fun i=>
 jn (wnt i false (bV (kI .leq f a) fun u=>
 some (.norm [u],H)) (some (.norm [jO],H))) fun vs H=>hd vs fun j vs=>
 bV (pk3 (some i) (some (.bool true)) (some j)) fun v=>
 cnd v (bV (some (.bool false)) fun x=>some (.ret x,H))
 (bV (kI .add q (.int .i64 (.ofNat 1))) fun y=>
 some (.norm [s,h,m,o,a,p,y],H))
def zOJ (D:Dyn)(n:Nat)(vs:List AV)(H:AH):Rs:=
 hd vs fun j vs=>hd vs fun m vs=>hd vs fun a vs=>hd vs fun f vs=>hd vs fun h vs=>hd vs fun i vs=>hd vs fun o vs=>
 bV (fAd 3 i) fun p=>
 bV (ld1 p H) fun q=>
 bV (lnSl q) fun s=>
 bV (kI .lss o s) fun t=>
 cnd t (jb 6 (jY n (zOK D n) [j,m,a,f,h,i,o,(.int .i64 (.ofNat 0))] H) (zOQ D n))
 (some (.exit 4 [j,m,a,f,h],H))
def zOP (D:Dyn)(n:Nat)(vs:List AV)(H:AH):Rs:=
 hd vs fun i vs=>hd vs fun j vs=>hd vs fun a vs=>hd vs fun f vs=>hd vs fun h vs=>
 bV (kI .add h (.int .i64 (.ofNat 1))) fun m=>
 some (.norm [i,j,a,f,m],H)
def zOI (D:Dyn)(n:Nat)(vs:List AV)(H:AH):Rs:=
 hd vs fun m vs=>hd vs fun a vs=>hd vs fun i vs=>hd vs fun j vs=>hd vs fun h vs=>
 bV (lnSl a) fun s=>
 bV (kI .lss h s) fun t=>
 cnd t (bV (uX 3 a h) fun u=>
 bV (ldN 3 u H) fun v=>
 bR (f61 D n [i,v] H) fun o H=>
 bV (jM o 0) fun x=>
 bV (jM o 1) fun y=>
 bA (bxV 119 (.agg [(.bool false), .nilSlice, .nilSlice, .nilSlice])) H fun f H=>
 bR (stN 4 f x H) fun T H=>
 bV (kI .neq y (.int .i64 (.ofNat 0))) fun p=>
 jn (wnt p false (bV (ldN 4 f H) fun z=>
 bR (f62 D n [z] H) fun C H=>
 bV (aun .not C) fun F=>
 some (.norm [F],H)) (some (.norm [jO],H))) fun vs H=>hd vs fun q vs=>
 bV (pk3 (some p) (some (.bool true)) (some q)) fun J=>
 cnd J (bV (some (.bool false)) fun K=>some (.ret K,H))
 (bV (fAd 3 f) fun L=>
 bV (ld1 L H) fun N=>
 bV (lnSl N) fun O=>
 bV (kI .add j O) fun S=>
 jb 4 (jY n (zOJ D n) [m,a,i,S,h,f,(.int .i64 (.ofNat 0))] H) (zOP D n)))
 (some (.exit 2 [m,a,j],H))
def zOO (D:Dyn)(n:Nat)(vs:List AV)(H:AH):Rs:=
 hd vs fun q vs=>hd vs fun a vs=>hd vs fun p vs=>
 bV (lnSl a) fun s=>
 bV (kI .eql p s) fun f=>
 jn (wnt f true (bV (lnSl a) fun t=>
 bV (kI .eql t (.int .i64 (.ofNat 0))) fun u=>
 some (.norm [u],H)) (some (.norm [jO],H))) fun vs H=>hd vs fun h vs=>
 jn (wnt h false (bV (uX 3 a (.int .i64 (.ofNat 0))) fun i=>
 bV (ldN 3 i H) fun j=>
 bV (v6 q) fun v=>
 bV (fAd 0 v) fun x=>
 bV (ld1 x H) fun y=>
 bR (f19 D n [y] H) fun z H=>chk (ldN 3 i H) j <|
 bV (bZ .eql (eqA [6,6,10] j z)) fun C=>
 some (.norm [C],H)) (some (.norm [jO],H))) fun vs H=>hd vs fun m vs=>
 jn (wnt f true (bV (pk3 (some h) (some (.bool true)) (some m)) fun F=>
 some (.norm [F],H)) (some (.norm [jO],H))) fun vs H=>hd vs fun o vs=>
 bV (pk3 (some f) (some o) (some (.bool false))) fun J=>
 bV (some J) fun K=>some (.ret K,H)
def zOM (D:Dyn)(n:Nat)(vs:List AV)(H:AH):Rs:=
 hd vs fun a vs=>hd vs fun f vs=>hd vs fun h vs=>hd vs fun i vs=>
 jb 2 (jY n (zOI D n) [a,f,h,i,(.int .i64 (.ofNat 0))] H) (zOO D n)
def zON (D:Dyn)(n:Nat)(vs:List AV)(H:AH):Rs:=
 hd vs fun a vs=>hd vs fun i vs=>hd vs fun t vs=>
 bV (v6 a) fun u=>
 bV (fAd 0 u) fun v=>
 bV (ld1 v H) fun x=>
 bR (f19 D n [x] H) fun y H=>
 bR (f18 D n [t, .nilPtr,y] H) fun j H=>
 bV (jM j 0) fun f=>
 bV (jM j 1) fun z=>
 bR (f53 D n [f,(.str 0 0),(.str 0 0),(.int .i64 (.ofNat 999))] H) fun h H=>
 bV (jM h 0) fun C=>
 bV (jM h 1) fun F=>
 bV (jM h 2) fun J=>
 bV (kI .neq z (.int .i64 (.ofNat 0))) fun m=>
 jn (wnt m false (bV (kI .neq J (.int .i64 (.ofNat 0))) fun K=>
 some (.norm [K],H)) (some (.norm [jO],H))) fun vs H=>hd vs fun q vs=>
 bV (pk3 (some m) (some (.bool true)) (some q)) fun o=>
 jn (wnt o false (some (.norm [F],H)) (some (.norm [jO],H))) fun vs H=>hd vs fun L vs=>
 bV (pk3 (some o) (some (.bool true)) (some L)) fun p=>
 jn (wnt p false (bV (v6 a) fun N=>
 bV (fAd 1 N) fun O=>
 bV (ld1 O H) fun S=>
 bR (f55 D n [C,S] H) fun T H=>
 bV (aun .not T) fun U=>
 some (.norm [U],H)) (some (.norm [jO],H))) fun vs H=>hd vs fun s vs=>
 bV (pk3 (some p) (some (.bool true)) (some s)) fun V=>
 cnd V (bV (some (.bool false)) fun W=>some (.ret W,H))
 (bV (v6 a) fun Y=>
 bV (fAd 1 Y) fun Z=>
 bV (ld1 Z H) fun a0=>
 bV (lnSl a0) fun a1=>
 bV (kI .gtr a1 (.int .i64 (.ofNat 0))) fun a2=>
 jn (cnd a2 (some (.norm [a,i,f,(.int .i64 (.ofNat 1))],H))
 (some (.norm [a,i,f,(.int .i64 (.ofNat 0))],H))) (zOM D n))
def f10 (D:Dyn)(n:Nat)(vs:List AV)(H:AH):Option (AV×AH):=
 dH (hd vs fun o vs=>nl vs <|
 bR (f50 D n [o] H) fun f H=>
 jn (wnt f false (bR (f51 D n [] H) fun v H=>
 bV (aun .not v) fun x=>
 some (.norm [x],H)) (some (.norm [jO],H))) fun vs H=>hd vs fun p vs=>
 bV (pk3 (some f) (some (.bool true)) (some p)) fun y=>
 cnd y (bR (f51 D n [] H) fun z H=>
 bV (some z) fun x2=>some (.ret x2,H))
 (bA (dL 113 3 0 [(.int .u8 (.ofNat 0)),(.str 0 0),(.str 0 0)] []) H fun C H=>
 bR (apP 113 3 40 C o H) fun F H=>
 bV (vR [(0,1),(1,1),(2,1)] [(.int .u8 (.ofNat 0)),(.str 0 0),(.str 0 0)] [(0,(.int .u8 (.ofNat 2)))]) fun J=>
 bA (dL 113 3 1 [(.int .u8 (.ofNat 0)),(.str 0 0),(.str 0 0)] [(0,J)]) H fun K H=>
 bR (apP 113 3 40 F K H) fun L H=>
 bR (f52 D n [L] H) fun h H=>
 bV (jM h 0) fun a=>
 bV (jM h 1) fun N=>
 bV (aun .not N) fun O=>
 cnd O (bV (some (.bool false)) fun s=>some (.ret s,H))
 (bV (v6 a) fun S=>
 bV (fAd 0 S) fun T=>
 bV (ld1 T H) fun U=>
 bR (f24 D n [U] H) fun V H=>
 bV (kI .gtr V (.int .i64 (.ofNat 0))) fun W=>
 cnd W (bV (some (.bool true)) fun t=>some (.ret t,H))
 (bV (v6 a) fun Y=>
 bV (fAd 0 Y) fun Z=>
 bV (ld1 Z H) fun a0=>
 bR (f60 D n [a0] H) fun i H=>
 bV (jM i 0) fun a1=>
 bV (jM i 1) fun a2=>
 bR (f32 D n [(.int .i64 (.ofNat 1024))] H) fun j H=>
 bV (jM j 0) fun a3=>
 bV (jM j 1) fun a4=>
 bV (kI .neq a2 (.int .i64 (.ofNat 0))) fun m=>
 jn (wnt m false (bV (kI .neq a4 (.int .i64 (.ofNat 0))) fun a5=>
 some (.norm [a5],H)) (some (.norm [jO],H))) fun vs H=>hd vs fun q vs=>
 bV (pk3 (some m) (some (.bool true)) (some q)) fun a6=>
 cnd a6 (bV (some (.bool false)) fun u=>some (.ret u,H))
 (bA (mkM [6]) H fun a7 H=>
 jb 0 (jY n (zOL D n) [a,a1,a3,a7,(.int .i64 (.ofNat 0))] H) (zON D n))))))
def h10:Hint:=(.s .o (.s Hq (.s .o (.s Hq (.s Hq (.s .o (.s .o (.s Hq (.s .o (.s (.s .o (.b [3,5,7] (.l [3,5,7,9,10] (.s (.s .o (.cr .o .o)) (.s (.b0 (.s .o (.s .o Hq))) .o))))) (.s .o (.s .o (.s Hq (.s .o (.s (.s .o (.c [3,5,13,16] .o .o)) (.s (.s .o (.b [3,5,16] (.l [3,5,13,16,17] (.s (.s .o (.cr .o .o)) (.s (.b0 (.s .o (.s Hq (.s .o (.s .o (.b [3,5,13,16,17] (.l [3,5,13,16,17,18,20] (.s (.s .o (.cr .o .o)) (.s (.b0 (.s .o (.s (.b [3,5,13,16,17,18,20,21] (.l [3,5,13,16,17,18,20,21] (.s (.s .o (.cr .o .o)) (.b0 .o)))) Hq))) .o))))))))) .o))))) Hr))))))))))))))))
theorem zQF {D:Dyn}(a:DG D)(n:Nat):FI 10 (f10 D n):=fk n h10 a (sc (zIR a n) (sc (zEW a n) (sc (zEV a n) (sc (zF0 a n) (sc (zET a n) (sc (zEX a n) (sc (zEZ a n) (sc (zEY a n) (sc (UY a n) (sc (zCe a n) (sc (zEU a n) (sc (zIO a n) (sc (zES a n) (sc (zER a n) sn)))))))))))))) Tryz.func10
attribute [local irreducible] zOL zOK zOQ zOJ zOP zOI zOO zOM zON f10
end Go.Eng.Sh
end
end
section
noncomputable section
namespace Go.Eng.Sh
open Go.Proofs
set_option maxRecDepth 100000
set_option maxHeartbeats 4000000
def tab (D:Dyn)(n:Nat):List (Nat×(List AV->AH->Option (AV×AH))):=[(10,f10 D n),(18,f18 D n),(19,f19 D n),(23,f23 D n),(24,f24 D n),(25,f25 D n),(26,f26 D n),(29,f29 D n),(32,f32 D n),(34,f34 D n),(38,f38 D n),(43,f43 D n),(50,f50 D n),(51,f51 D n),(52,f52 D n),(53,f53 D n),(55,f55 D n),(56,f56 D n),(58,f58 D n),(60,f60 D n),(61,f61 D n),(62,f62 D n),(63,f63 D n),(64,f64 D n),(65,f65 D n),(68,f68 D n),(69,f69 D n),(72,f72 D n),(73,f73 D n),(74,f74 D n),(75,f75 D n),(76,f76 D n),(77,f77 D n),(79,f79 D n),(81,f81 D n),(82,f82 D n),(83,f83 D n),(84,f84 D n),(85,f85 D n),(86,f86 D n),(88,f88 D n),(89,f89 D n),(96,f96 D n),(104,f104 D n),(105,f105 D n),(106,f106 D n),(107,f107 D n),(108,f108 D n),(109,f109 D n),(110,f110 D n),(111,f111 D n),(112,f112 D n),(113,f113 D n),(114,f114 D n),(115,f115 D n),(118,f118 D n),(119,f119 D n),(120,f120 D n),(122,zLC D n),(123,f123 D n),(126,f126 D n),(127,f127 D n),(128,f128 D n),(129,f129 D n),(130,f130 D n),(131,f131 D n),(132,f132 D n),(137,f137 D n),(138,zOb D n),(149,f149 D n),(150,zGt D n),(151,zLB D n),(164,f164 D n),(165,f165 D n),(166,f166 D n),(167,f167 D n),(168,f168 D n),(171,f171 D n),(172,f172 D n),(173,f173 D n),(174,f174 D n),(175,f175 D n),(176,f176 D n),(177,f177 D n),(178,f178 D n),(179,f179 D n),(180,f180 D n),(193,f193 D n),(194,f194 D n),(195,f195 D n),(196,f196 D n),(206,f206 D n),(207,f207 D n),(208,f208 D n),(209,zKn D n),(210,f210 D n),(211,zKm D n),(212,f212 D n),(213,f213 D n),(214,f214 D n),(225,f225 D n),(226,f226 D n),(227,f227 D n),(230,f230 D n)]
def tabR (D:Dyn)(n:Nat):List ((Nat×Nat)×(Nat->ALoop->List AV->AH->Option (AV×AH))):=[((53,0),zAl D n),((56,0),zFO D n),((60,0),zAk D n),((65,0),zFN D n),((112,0),UG D n),((164,0),aZ D n),((195,0),QG D n)]
theorem zPQ (D:Dyn)(n:Nat)(a:DG D):SOk (tab D n):=sc (zQF a n) (sc (zCe a n) (sc (UY a n) (sc (zN4 a n) (sc (zF0 a n) (sc (zEZ a n) (sc (zEY a n) (sc (zN3 a n) (sc (zEX a n) (sc (zN2 a n) (sc (zN1 a n) (sc (zN0 a n) (sc (zIR a n) (sc (zEW a n) (sc (zEV a n) (sc (zEU a n) (sc (zIO a n) (sc (zMZ a n) (sc (zMY a n) (sc (zET a n) (sc (zES a n) (sc (zER a n) (sc (zMX a n) (sc (zMW a n) (sc (zMV a n) (sc (zMU a n) (sc (zEQ a n) (sc (zIJ a n) (sc (XL a n) (sc (zII a n) (sc (zMT a n) (sc (zMS a n) (sc (zC9 a n) (sc (XK a n) (sc (zIH a n) (sc (zIG a n) (sc (zQE a n) (sc (zMR a n) (sc (zMQ a n) (sc (zEP a n) (sc (zQD a n) (sc (zMP a n) (sc (zMO a n) (sc (bT a n) (sc (ZU a n) (sc (zOR a n) (sc (ZT a n) (sc (zAK a n) (sc (ZS a n) (sc (YZ a n) (sc (zJh a n) (sc (zDH a n) (sc (zOH a n) (sc (zOG a n) (sc (zDG a n) (sc (zDF a n) (sc (zDE a n) (sc (zJg a n) (sc (zJf a n) (sc (zJe a n) (sc (zDD a n) (sc (zAJ a n) (sc (zOE a n) (sc (zJc a n) (sc (zDC a n) (sc (zJb a n) (sc (zAI a n) (sc (zAH a n) (sc (zId a n) (sc (zJa a n) (sc (zDB a n) (sc (zJ9 a n) (sc (zOC a n) (sc (zOB a n) (sc (zJ8 a n) (sc (zJ7 a n) (sc (zDA a n) (sc (zJ6 a n) (sc (zAG a n) (sc (zOA a n) (sc (zJ5 a n) (sc (zOz a n) (sc (zJ4 a n) (sc (zDz a n) (sc (zDy a n) (sc (zDx a n) (sc (zJ3 a n) (sc (zOy a n) (sc (zOx a n) (sc (zJ2 a n) (sc (zJ1 a n) (sc (zJ0 a n) (sc (zOw a n) (sc (zDw a n) (sc (zDv a n) (sc (zDu a n) (sc (zIZ a n) (sc (zIY a n) (sc (zIX a n) (sc (zIW a n) (sc (zIV a n) (sc (zDt a n) (sc (zIU a n) (sc (zIT a n) sn)))))))))))))))))))))))))))))))))))))))))))))))))))))))))))))))))))))))))))))))))))))))))))))))))))))))
theorem zNp (D:Dyn)(n:Nat)(a:DG D):ROk (tabR D n):=ROk.cons (zKX a n) (ROk.cons (zKV a n) (ROk.cons (zKT a n) (ROk.cons (zKR a n) (ROk.cons (zHM a n) (ROk.cons (zHI a n) (ROk.cons (zHF a n) (ROk.nil)))))))
def dy (n:Nat):Dyn:=dyOf tab tabR n
theorem dy_ok (n:Nat):DG (dy n):=zJr zPQ zNp n
end Go.Eng.Sh
end
end
section
noncomputable section
namespace Go.Eng.Sh
open Go.Proofs
set_option maxRecDepth 1000000
set_option maxHeartbeats 4000000
theorem c51_r:zNK (f51 (dy 100000) 100000 [] ⟨.leaf,0⟩)=true:=by kernel_rfl
theorem c51 (w:World):Calls PP 51 #[] w fun e a=>e= .returned (.bool true)/\RowKit.Below w.heap.size w a:=zLU (zEW (dy_ok 100000) 100000) c51_r w
end Go.Eng.Sh
end
end
section
noncomputable section
namespace Go.Eng.Sh
open Go.Proofs
set_option maxRecDepth 1000000
set_option maxHeartbeats 4000000
def z51 (D:Dyn)(n:Nat)(vs:List AV)(H:AH):Option (AV×AH):=cloK (f51 D n) vs H
theorem zPI {D:Dyn}(a:DG D)(n:Nat):FI 51 (z51 D n):=zP3 ⟨_,Tryz.func51,rfl⟩ c51 (zEW a n)
variable (D:Dyn)(n:Nat)
attribute [local irreducible] bV bR hd cnd jn jb jY wnt chk VQ bA kI aV K0 bZ eqP eqS eqM eqF eqA zPA ldN ld1 stN cvI zPE zFb zNa VT vY xF fJ uX XA zBZ zG1 fd1 fdN fAd X3 lnSl QK apP apZ cpy vR zM0 pk3 s2a bxV dL zIa lkM upM dlM mkM callV nl dH tld zN7 uM YE fQ zEG rfC mn2 mx2 aun jM v6 jO isW aveq bF f85 f32 f86 JZ zGb f34 f118 ZD BG f119 f72 f18 f73 f127 QV cS BD f126 dD cT V1 BI f110 f137 uD fP ZF cU JP dG f109 bN fL JG QQ f227 f108 f81 XS f213 QR B9 f177 Z9 UZ f179 JL XZ f131 f76 QP UX f230 f225 f208 Z7 XQ f226 zGt zKn f171 f120 f74 f25 zCf BF BE zLC f172 zKm f174 f62 f210 f173 f175 fM fO vC bQ JN f123 f77 XJ JY zG9 f79 f130 f212 JI XT f180 ZB cR cQ XY BC f132 JH XR f214 ZA cP cO XU B0 f178 f176 QU JM QT f129 ZC dB f128 f82 f138 zOb f89 f88 f38 zCa VX zIK f69 zAF zIL f68 f84 f83 f29 f111 f23 f193 zCd f194 QS gJ XX BB f149 cL zCc f207 f168 cN zF1 f195 QG f75 f26 f196 zLB zAE zG7 zG8 f96 zLy zLA zLx zLz zIS f43 f19 XN VY XM XO QO zIM f64 f63 f52 f24 f104 f61 bO JJ XV f166 JK f165 f107 f164 d9 XW BA aZ f105 f106 zIP f53 zAl f56 zFO f112 UG f206 f167 ZE QW JO V0 BH zCg zF2 f115 zF3 f113 f114 f65 zFN f60 zGa zAk zIN zLv f58 f51 zCb zIQ f50 zDs zLw f55 zOL zOK zOQ zOJ zOP zOI zOO zOM zON f10 z51
def s10z:Tb:=⟨X,[(50,f50 D n),(51,z51 D n),(52,f52 D n),(24,f24 D n),(60,f60 D n),(32,f32 D n),(25,f25 D n),(26,f26 D n),(19,f19 D n),(18,f18 D n),(53,f53 D n),(55,f55 D n),(61,f61 D n),(62,f62 D n)]⟩
def V3 (D:Dyn)(n:Nat)(vs:List AV)(H:AH):Rs:=
 hd vs fun i vs=>hd vs fun a vs=>hd vs fun j vs=>hd vs fun h vs=>hd vs fun f vs=>
 bV (lnSl a) fun N=>
 bV (kI .lss f N) fun O=>
 cnd O (bV (uX 3 a f) fun S=>
 bV (fAd 0 S) fun T=>
 bV (ld1 T H) fun p=>
 bV (lkM [6] (.int .i64 (.ofNat 0)) false h p H) fun U=>
 bV (kI .add U (.int .i64 (.ofNat 1))) fun V=>
 bR (upM [6] h p V H) fun b1 H=>
 bV (v6 i) fun W=>
 bV (fAd 2 W) fun Y=>
 bV (ld1 Y H) fun Z=>
 bV (uX 3 a f) fun a0=>
 bV (fAd 0 a0) fun a1=>
 bV (ld1 a1 H) fun a2=>
 bA (bxV 55 (.agg (rep 512 [(.int .u8 (.ofNat 0))]))) H fun q H=>
 bR (f25 D n [Z,a2] H) fun s H=>
 bV (jM s 0) fun a3=>
 bV (jM s 1) fun a4=>
 bR (stN 512 q a3 H) fun b0 H=>
 bV (uX 3 a f) fun a5=>
 bV (fAd 0 a5) fun a6=>
 bV (ld1 a6 H) fun a7=>
 bV (lkM [6] (.int .i64 (.ofNat 0)) false h a7 H) fun a8=>
 bV (kI .neq a8 (.int .i64 (.ofNat 1))) fun m=>
 jn (wnt m false (bV (kI .neq a4 (.int .i64 (.ofNat 0))) fun v=>
 some (.norm [v],H)) (some (.norm [jO],H))) fun vs H=>hd vs fun t vs=>
 bV (pk3 (some m) (some (.bool true)) (some t)) fun o=>
 jn (wnt o false (bV (uX 3 a f) fun x=>
 bV (fAd 0 x) fun y=>
 bV (ld1 y H) fun z=>
 bV (ldN 512 q H) fun C=>
 bR (f26 D n [j,z,C] H) fun F H=>
 bV (kI .neq F (.int .i64 (.ofNat 0))) fun J=>
 some (.norm [J],H)) (some (.norm [jO],H))) fun vs H=>hd vs fun u vs=>
 bV (pk3 (some o) (some (.bool true)) (some u)) fun K=>
 cnd K (bV (some (.bool false)) fun L=>some (.ret L,H))
 (bV (kI .add f (.int .i64 (.ofNat 1))) fun a9=>
 some (.norm [i,a,j,h,a9],H)))
 (some (.exit 0 [i,a,j],H))
def zCi (D:Dyn)(n:Nat)(vs:List AV)(H:AH):Rs:=
 hd vs fun p vs=>hd vs fun a vs=>hd vs fun j vs=>hd vs fun m vs=>hd vs fun o vs=>hd vs fun h vs=>hd vs fun i vs=>hd vs fun f vs=>
 bV (lnSl a) fun t=>
 bV (kI .lss f t) fun q=>
 jn (wnt q true (bV (uX 3 a f) fun u=>
 bV (ldN 3 u H) fun v=>
 bV (fAd 3 h) fun x=>
 bV (ld1 x H) fun y=>
 bV (uX 3 y i) fun z=>
 bV (ldN 3 z H) fun C=>
 bV (bZ .neq (eqA [6,6,10] v C)) fun F=>
 some (.norm [F],H)) (some (.norm [jO],H))) fun vs H=>hd vs fun s vs=>
 bV (pk3 (some q) (some s) (some (.bool false))) fun J=>
 cnd J (bV (kI .add f (.int .i64 (.ofNat 1))) fun K=>
 some (.norm [p,a,j,m,o,h,i,K],H))
 (some (.exit 6 [p,a,j,m,o,h,i,f],H))
def zJj (D:Dyn)(n:Nat)(vs:List AV)(H:AH):Rs:=
 hd vs fun s vs=>hd vs fun h vs=>hd vs fun m vs=>hd vs fun o vs=>hd vs fun a vs=>hd vs fun p vs=>hd vs fun q vs=>hd vs fun f vs=>
 bV (lnSl h) fun t=>
 bV (kI .eql f t) fun i=>
 jn (wnt i false (bV (kI .leq f a) fun u=>
 some (.norm [u],H)) (some (.norm [jO],H))) fun vs H=>hd vs fun j vs=>
 bV (pk3 (some i) (some (.bool true)) (some j)) fun v=>
 cnd v (bV (some (.bool false)) fun x=>some (.ret x,H))
 (bV (kI .add q (.int .i64 (.ofNat 1))) fun y=>
 some (.norm [s,h,m,o,a,p,y],H))
def zCh (D:Dyn)(n:Nat)(vs:List AV)(H:AH):Rs:=
 hd vs fun j vs=>hd vs fun m vs=>hd vs fun a vs=>hd vs fun f vs=>hd vs fun h vs=>hd vs fun i vs=>hd vs fun o vs=>
 bV (fAd 3 i) fun p=>
 bV (ld1 p H) fun q=>
 bV (lnSl q) fun s=>
 bV (kI .lss o s) fun t=>
 cnd t (jb 6 (jY n (zCi D n) [j,m,a,f,h,i,o,(.int .i64 (.ofNat 0))] H) (zJj D n))
 (some (.exit 4 [j,m,a,f,h],H))
def zJi (D:Dyn)(n:Nat)(vs:List AV)(H:AH):Rs:=
 hd vs fun i vs=>hd vs fun j vs=>hd vs fun a vs=>hd vs fun f vs=>hd vs fun h vs=>
 bV (kI .add h (.int .i64 (.ofNat 1))) fun m=>
 some (.norm [i,j,a,f,m],H)
def V2 (D:Dyn)(n:Nat)(vs:List AV)(H:AH):Rs:=
 hd vs fun m vs=>hd vs fun a vs=>hd vs fun i vs=>hd vs fun j vs=>hd vs fun h vs=>
 bV (lnSl a) fun s=>
 bV (kI .lss h s) fun t=>
 cnd t (bV (uX 3 a h) fun u=>
 bV (ldN 3 u H) fun v=>
 bR (f61 D n [i,v] H) fun o H=>
 bV (jM o 0) fun x=>
 bV (jM o 1) fun y=>
 bA (bxV 119 (.agg [(.bool false), .nilSlice, .nilSlice, .nilSlice])) H fun f H=>
 bR (stN 4 f x H) fun T H=>
 bV (kI .neq y (.int .i64 (.ofNat 0))) fun p=>
 jn (wnt p false (bV (ldN 4 f H) fun z=>
 bR (f62 D n [z] H) fun C H=>
 bV (aun .not C) fun F=>
 some (.norm [F],H)) (some (.norm [jO],H))) fun vs H=>hd vs fun q vs=>
 bV (pk3 (some p) (some (.bool true)) (some q)) fun J=>
 cnd J (bV (some (.bool false)) fun K=>some (.ret K,H))
 (bV (fAd 3 f) fun L=>
 bV (ld1 L H) fun N=>
 bV (lnSl N) fun O=>
 bV (kI .add j O) fun S=>
 jb 4 (jY n (zCh D n) [m,a,i,S,h,f,(.int .i64 (.ofNat 0))] H) (zJi D n)))
 (some (.exit 2 [m,a,j],H))
def zF4 (D:Dyn)(n:Nat)(vs:List AV)(H:AH):Rs:=
 hd vs fun q vs=>hd vs fun a vs=>hd vs fun p vs=>
 bV (lnSl a) fun s=>
 bV (kI .eql p s) fun f=>
 jn (wnt f true (bV (lnSl a) fun t=>
 bV (kI .eql t (.int .i64 (.ofNat 0))) fun u=>
 some (.norm [u],H)) (some (.norm [jO],H))) fun vs H=>hd vs fun h vs=>
 jn (wnt h false (bV (uX 3 a (.int .i64 (.ofNat 0))) fun i=>
 bV (ldN 3 i H) fun j=>
 bV (v6 q) fun v=>
 bV (fAd 0 v) fun x=>
 bV (ld1 x H) fun y=>
 bR (f19 D n [y] H) fun z H=>chk (ldN 3 i H) j <|
 bV (bZ .eql (eqA [6,6,10] j z)) fun C=>
 some (.norm [C],H)) (some (.norm [jO],H))) fun vs H=>hd vs fun m vs=>
 jn (wnt f true (bV (pk3 (some h) (some (.bool true)) (some m)) fun F=>
 some (.norm [F],H)) (some (.norm [jO],H))) fun vs H=>hd vs fun o vs=>
 bV (pk3 (some f) (some o) (some (.bool false))) fun J=>
 bV (some J) fun K=>some (.ret K,H)
def zCj (D:Dyn)(n:Nat)(vs:List AV)(H:AH):Rs:=
 hd vs fun a vs=>hd vs fun f vs=>hd vs fun h vs=>hd vs fun i vs=>
 jb 2 (jY n (V2 D n) [a,f,h,i,(.int .i64 (.ofNat 0))] H) (zF4 D n)
def zCk (D:Dyn)(n:Nat)(vs:List AV)(H:AH):Rs:=
 hd vs fun a vs=>hd vs fun i vs=>hd vs fun t vs=>
 bV (v6 a) fun u=>
 bV (fAd 0 u) fun v=>
 bV (ld1 v H) fun x=>
 bR (f19 D n [x] H) fun y H=>
 bR (f18 D n [t, .nilPtr,y] H) fun j H=>
 bV (jM j 0) fun f=>
 bV (jM j 1) fun z=>
 bR (f53 D n [f,(.str 0 0),(.str 0 0),(.int .i64 (.ofNat 999))] H) fun h H=>
 bV (jM h 0) fun C=>
 bV (jM h 1) fun F=>
 bV (jM h 2) fun J=>
 bV (kI .neq z (.int .i64 (.ofNat 0))) fun m=>
 jn (wnt m false (bV (kI .neq J (.int .i64 (.ofNat 0))) fun K=>
 some (.norm [K],H)) (some (.norm [jO],H))) fun vs H=>hd vs fun q vs=>
 bV (pk3 (some m) (some (.bool true)) (some q)) fun o=>
 jn (wnt o false (some (.norm [F],H)) (some (.norm [jO],H))) fun vs H=>hd vs fun L vs=>
 bV (pk3 (some o) (some (.bool true)) (some L)) fun p=>
 jn (wnt p false (bV (v6 a) fun N=>
 bV (fAd 1 N) fun O=>
 bV (ld1 O H) fun S=>
 bR (f55 D n [C,S] H) fun T H=>
 bV (aun .not T) fun U=>
 some (.norm [U],H)) (some (.norm [jO],H))) fun vs H=>hd vs fun s vs=>
 bV (pk3 (some p) (some (.bool true)) (some s)) fun V=>
 cnd V (bV (some (.bool false)) fun W=>some (.ret W,H))
 (bV (v6 a) fun Y=>
 bV (fAd 1 Y) fun Z=>
 bV (ld1 Z H) fun a0=>
 bV (lnSl a0) fun a1=>
 bV (kI .gtr a1 (.int .i64 (.ofNat 0))) fun a2=>
 jn (cnd a2 (some (.norm [a,i,f,(.int .i64 (.ofNat 1))],H))
 (some (.norm [a,i,f,(.int .i64 (.ofNat 0))],H))) (zCj D n))
def zPz (D:Dyn)(n:Nat)(vs:List AV)(H:AH):Option (AV×AH):=
 dH (hd vs fun o vs=>nl vs <|
 bR (f50 D n [o] H) fun f H=>
 jn (wnt f false (bR (z51 D n [] H) fun v H=>
 bV (aun .not v) fun x=>
 some (.norm [x],H)) (some (.norm [jO],H))) fun vs H=>hd vs fun p vs=>
 bV (pk3 (some f) (some (.bool true)) (some p)) fun y=>
 cnd y (bR (z51 D n [] H) fun z H=>
 bV (some z) fun x2=>some (.ret x2,H))
 (bA (dL 113 3 0 [(.int .u8 (.ofNat 0)),(.str 0 0),(.str 0 0)] []) H fun C H=>
 bR (apP 113 3 40 C o H) fun F H=>
 bV (vR [(0,1),(1,1),(2,1)] [(.int .u8 (.ofNat 0)),(.str 0 0),(.str 0 0)] [(0,(.int .u8 (.ofNat 2)))]) fun J=>
 bA (dL 113 3 1 [(.int .u8 (.ofNat 0)),(.str 0 0),(.str 0 0)] [(0,J)]) H fun K H=>
 bR (apP 113 3 40 F K H) fun L H=>
 bR (f52 D n [L] H) fun h H=>
 bV (jM h 0) fun a=>
 bV (jM h 1) fun N=>
 bV (aun .not N) fun O=>
 cnd O (bV (some (.bool false)) fun s=>some (.ret s,H))
 (bV (v6 a) fun S=>
 bV (fAd 0 S) fun T=>
 bV (ld1 T H) fun U=>
 bR (f24 D n [U] H) fun V H=>
 bV (kI .gtr V (.int .i64 (.ofNat 0))) fun W=>
 cnd W (bV (some (.bool true)) fun t=>some (.ret t,H))
 (bV (v6 a) fun Y=>
 bV (fAd 0 Y) fun Z=>
 bV (ld1 Z H) fun a0=>
 bR (f60 D n [a0] H) fun i H=>
 bV (jM i 0) fun a1=>
 bV (jM i 1) fun a2=>
 bR (f32 D n [(.int .i64 (.ofNat 1024))] H) fun j H=>
 bV (jM j 0) fun a3=>
 bV (jM j 1) fun a4=>
 bV (kI .neq a2 (.int .i64 (.ofNat 0))) fun m=>
 jn (wnt m false (bV (kI .neq a4 (.int .i64 (.ofNat 0))) fun a5=>
 some (.norm [a5],H)) (some (.norm [jO],H))) fun vs H=>hd vs fun q vs=>
 bV (pk3 (some m) (some (.bool true)) (some q)) fun a6=>
 cnd a6 (bV (some (.bool false)) fun u=>some (.ret u,H))
 (bA (mkM [6]) H fun a7 H=>
 jb 0 (jY n (V3 D n) [a,a1,a3,a7,(.int .i64 (.ofNat 0))] H) (zCk D n))))))
def h10z:Hint:=(.s .o (.s Hq (.s .o (.s Hq (.s Hq (.s .o (.s .o (.s Hq (.s .o (.s (.s .o (.b [3,5,7] (.l [3,5,7,9,10] (.s (.s .o (.cr .o .o)) (.s (.b0 (.s .o (.s .o Hq))) .o))))) (.s .o (.s .o (.s Hq (.s .o (.s (.s .o (.c [3,5,13,16] .o .o)) (.s (.s .o (.b [3,5,16] (.l [3,5,13,16,17] (.s (.s .o (.cr .o .o)) (.s (.b0 (.s .o (.s Hq (.s .o (.s .o (.b [3,5,13,16,17] (.l [3,5,13,16,17,18,20] (.s (.s .o (.cr .o .o)) (.s (.b0 (.s .o (.s (.b [3,5,13,16,17,18,20,21] (.l [3,5,13,16,17,18,20,21] (.s (.s .o (.cr .o .o)) (.b0 .o)))) Hq))) .o))))))))) .o))))) Hr))))))))))))))))
theorem f10z_ok {D:Dyn}(a:DG D)(n:Nat):FI 10 (zPz D n):=fk n h10z a (sc (zIR a n) (sc (zPI a n) (sc (zEV a n) (sc (zF0 a n) (sc (zET a n) (sc (zEX a n) (sc (zEZ a n) (sc (zEY a n) (sc (UY a n) (sc (zCe a n) (sc (zEU a n) (sc (zIO a n) (sc (zES a n) (sc (zER a n) sn)))))))))))))) Tryz.func10
attribute [local irreducible] V3 zCi zJj zCh zJi V2 zF4 zCj zCk zPz
end Go.Eng.Sh
end
end
section
namespace Go.Nd
abbrev Str:=List UInt8
structure Ptr where
 at_:Int
 birth:Int
 sum:Int
 deriving DecidableEq
structure Node where
 leaf:Bool
 keys:List Str
 vals:List Str
 kids:List Ptr
 deriving DecidableEq
def be:Nat->Nat->Str
 | 0,_=>[]
 | k+1,n=>be k (n / 256)++[UInt8.ofNat n]
def bee (l:Str):Nat:=l.foldl (fun n c=>n*256+c.toNat) 0
theorem be_length: ∀k n,(be k n).length=k
 | 0,_=>rfl
 | k+1,n=>by simp[be,be_length k]
theorem bee_snoc (l:Str)(c:UInt8):bee (l++[c])=bee l*256+c.toNat:=by simp[bee]
theorem bee_be: ∀k n,bee (be k n)=n % 256 ^ k
 | 0,n=>by simp[be,bee,Nat.mod_one]
 | k+1,n=>by
  rw[be,bee_snoc,bee_be k,Nat.pow_succ,Nat.mul_comm (256 ^ k) 256,Nat.mod_mul];simp[UInt8.toNat_ofNat'];omega
theorem zCF (l:Str):be l.length (bee l)=l:=by
 suffices h: ∀(m:Nat) (l:Str),l.length=m->be m (bee l)=l from h _ l rfl
 intro m
 induction m with
 | zero=>intro l h;rw[zV h];rfl
 | succ m ih=>
  intro l h;obtain⟨l',c,rfl⟩: ∃l' c,l=l'++[c]:=⟨l.dropLast,l.getLast (by intro e;simp[e]at h),(List.dropLast_concat_getLast _).symm⟩;simp only[zT,yL,Nat.add_right_cancel_iff]at h;have a:c.toNat<256:=c.toNat_lt;rw[bee_snoc,be,show(bee l'*256+c.toNat) / 256=bee l' from by omega,ih l' h];congr 2;apply UInt8.toNat_inj.1;rw[UInt8.toNat_ofNat'];omega
theorem bee_lt (l:Str):bee l<256 ^ l.length:=by
 have:=bee_be l.length (bee l);rw[zCF]at this;rw[this];exact Nat.mod_lt _ (Nat.pow_pos (by omega))
def mayP (p:Ptr):Bool:=if p.at_=0 then decide (p.birth=0)&&decide (p.sum=0)else decide (0<p.at_)&&decide (p.at_<8192)&&decide (0<=p.birth)&&decide (p.birth<=2147483647)
def encP (p:Ptr):Str:=be 4 p.at_.toNat++(be 4 p.birth.toNat++be 8 p.sum.toNat)
def xI (s:Str):Ptr:=⟨(bee (s.take 4):Nat),(bee ((s.drop 4).take 4):Nat),(bee (s.drop 8):Nat)⟩
def decP (s:Str):Option Ptr:=if mayP (xI s)then some (xI s)else none
theorem encP_length (p:Ptr):(encP p).length=16:=by simp[encP,be_length]
def sumOk (p:Ptr):Prop:=0<=p.sum/\p.sum<18446744073709551616
theorem zFQ {p:Ptr}(h:mayP p=true)(f:sumOk p):xI (encP p)=p:=by
 obtain⟨a,b,s⟩:=p;have i:(encP ⟨a,b,s⟩).take 4=be 4 a.toNat:=by simp[encP,be_length]
 have j:((encP ⟨a,b,s⟩).drop 4).take 4=be 4 b.toNat:=by
  rw[encP,yY (by simp[be_length]),j9 (by simp[be_length])]
 have m:(encP ⟨a,b,s⟩).drop 8=be 8 s.toNat:=by
  rw[encP,<-qI,yY (by simp[be_length])]
 simp only[xI,i,j,m,bee_be];simp only[sumOk]at f;simp only[mayP]at h;split at h
 .simp only[zE,zR]at h;simp_all
 .simp only[zE,zR]at h;congr 1<;>omega
theorem zGd {s:Str}(h:s.length=16):encP (xI s)=s:=by
 have a:=zCF (s.take 4);have f:=zCF ((s.drop 4).take 4);have i:=zCF (s.drop 8);rw[show(s.take 4).length=4 from by simp;omega]at a;rw[show((s.drop 4).take 4).length=4 from by simp;omega]at f;rw[show(s.drop 8).length=8 from by simp;omega]at i;simp only[encP,xI,y7,a,f,i];rw[show s.drop 8=(s.drop 4).drop 4 from by rw[List.drop_drop],qM,qM]
theorem zHP {s:Str}(h:s.length=16):sumOk (xI s):=by
 have:=bee_lt (s.drop 8);rw[show(s.drop 8).length=8 from by simp;omega]at this;simp only[sumOk,xI];omega
def encT (s:Str):Str:=UInt8.ofNat s.length::s
def mayK (k:Str):Bool:=decide (1<=k.length)&&decide (k.length<=40)
def rising (lt:Str->Str->Bool):List Str->Bool
 | []=>true
 | [_]=>true
 | a::b::l=>lt a b&&rising lt (b::l)
def kidOk (p:Ptr):Bool:=decide (1<=p.at_)&&decide (p.at_<8192)&&decide (0<=p.birth)&&decide (p.birth<=2147483647)
theorem kidOk_may {p:Ptr}(h:kidOk p=true):mayP p=true:=by
 simp only[kidOk,zE,zR]at h;simp only[mayP];rw[if_neg (by omega)];simp only[zE,zR];omega
def shaped (lt:Str->Str->Bool)(n:Node):Bool:=
 n.keys.all mayK&&rising lt n.keys&&
 (if n.leaf then decide (n.vals.length=n.keys.length)&&decide (n.kids=[])&&n.vals.all (fun v=>decide (v.length<=200))
  else decide (n.keys≠[])&&decide (n.vals=[])&&decide (n.kids.length=n.keys.length+1)&&n.kids.all kidOk)
def sumL (l:List Str):Nat:=l.foldl (fun n s=>n+(1+s.length)) 0
theorem zBj (l:List Str)(a:Nat):l.foldl (fun n s=>n+(1+s.length)) a=a+sumL l:=by
 induction l generalizing a with
 | nil=>simp[sumL]
 | cons s l ih=>simp only[List.foldl_cons,sumL];rw[ih,ih];omega
theorem sumL_cons (s:Str)(l:List Str):sumL (s::l)=1+s.length+sumL l:=by
 simp only[sumL,List.foldl_cons];rw[zBj,zBj];simp[sumL]
theorem sumL_append (l m:List Str):sumL (l++m)=sumL l+sumL m:=by
 induction l with
 | nil=>simp[sumL]
 | cons s l ih=>rw[qF,sumL_cons,sumL_cons,ih];omega
def size (n:Node):Nat:=2+16*n.kids.length+sumL n.keys+sumL n.vals
def may (lt:Str->Str->Bool)(n:Node):Bool:=shaped lt n&&decide (size n<=500)
def encL:List Str->List Str->Str
 | k::ks,v::vs=>encT k++(encT v++encL ks vs)
 | _,_=>[]
def encI:List Str->List Ptr->Str
 | k::ks,p::ps=>encT k++(encP p++encI ks ps)
 | _,_=>[]
def encB (n:Node):Str:=if n.leaf then encL n.keys n.vals else match n.kids with
 | p::ps=>encP p++encI n.keys ps
 | []=>[]
def encN (n:Node):Str:=be 2 n.keys.length++encB n
def xR:Str->Option (Str×Str)
 | []=>none
 | c::r=>if c.toNat<=r.length then some (r.take c.toNat,r.drop c.toNat)else none
def fT (s:Str):Option (Ptr×Str):=if 16<=s.length then match decP (s.take 16)with | some p=>some (p,s.drop 16) | none=>none else none
def KE:Nat->Str->Option (List Str×List Str×Str)
 | 0,s=>some ([],[],s)
 | k+1,s=>match xR s with
  | some (a,s)=>match xR s with
   | some (b,s)=>match KE k s with
    | some (ks,vs,s)=>some (a::ks,b::vs,s)
    | none=>none
   | none=>none
  | none=>none
def KF:Nat->Str->Option (List Str×List Ptr×Str)
 | 0,s=>some ([],[],s)
 | k+1,s=>match xR s with
  | some (a,s)=>match fT s with
   | some (b,s)=>match KF k s with
    | some (ks,vs,s)=>some (a::ks,b::vs,s)
    | none=>none
   | none=>none
  | none=>none
theorem decL_snoc: ∀(k:Nat) (s:Str),KE (k+1) s=(KE k s).bind fun x=>(xR x.2.2).bind fun a=>(xR a.2).bind fun b=>some (x.1++[a.1],x.2.1++[b.1],b.2)
 | 0,s=>by
  simp only[KE,yI]
  cases xR s with
  | none=>rfl
  | some a=>obtain⟨a,f⟩:=a;simp only[yI];cases xR f with
   | none=>rfl
   | some b=>rfl
 | k+1,s=>by
  rw[KE]
  conv=>rhs;rw[KE]
  cases xR s with
  | none=>rfl
  | some a=>
   obtain⟨a,f⟩:=a;simp only
   cases xR f with
   | none=>rfl
   | some b=>
    obtain⟨b,h⟩:=b;simp only;rw[decL_snoc k h]
    cases KE k h with
    | none=>rfl
    | some x=>
     obtain⟨ks,vs,r⟩:=x;simp only[yI]
     cases xR r with
     | none=>rfl
     | some c=>obtain⟨c,i⟩:=c;simp only[yI];cases xR i with
      | none=>rfl
      | some d=>rfl
theorem decI_snoc: ∀(k:Nat) (s:Str),KF (k+1) s=(KF k s).bind fun x=>(xR x.2.2).bind fun a=>(fT a.2).bind fun b=>some (x.1++[a.1],x.2.1++[b.1],b.2)
 | 0,s=>by
  simp only[KF,yI]
  cases xR s with
  | none=>rfl
  | some a=>obtain⟨a,f⟩:=a;simp only[yI];cases fT f with
   | none=>rfl
   | some b=>rfl
 | k+1,s=>by
  rw[KF]
  conv=>rhs;rw[KF]
  cases xR s with
  | none=>rfl
  | some a=>
   obtain⟨a,f⟩:=a;simp only
   cases fT f with
   | none=>rfl
   | some b=>
    obtain⟨b,h⟩:=b;simp only;rw[decI_snoc k h]
    cases KF k h with
    | none=>rfl
    | some x=>
     obtain⟨ks,vs,r⟩:=x;simp only[yI]
     cases xR r with
     | none=>rfl
     | some c=>obtain⟨c,i⟩:=c;simp only[yI];cases fT i with
      | none=>rfl
      | some d=>rfl
theorem decL_all (s:Str)(k:Nat):(List.range k).all (fun i=>(KE (i+1) s).isSome)=(KE k s).isSome:=by
 induction k with
 | zero=>simp[KE]
 | succ k ih=>
  rw[List.range_succ,List.all_append,ih];simp only[List.all_cons,List.all_nil,Bool.and_true];rw[decL_snoc]
  cases KE k s<;>simp
theorem decI_all (s:Str)(k:Nat):(List.range k).all (fun i=>(KF (i+1) s).isSome)=(KF k s).isSome:=by
 induction k with
 | zero=>simp[KF]
 | succ k ih=>
  rw[List.range_succ,List.all_append,ih];simp only[List.all_cons,List.all_nil,Bool.and_true];rw[decI_snoc]
  cases KF k s<;>simp
def decB (leaf:Bool)(k:Nat)(s:Str):Option (Node×Str):=
 if leaf then match KE k s with
  | some (ks,vs,s)=>some (⟨true,ks,vs,[]⟩,s)
  | none=>none
 else match fT s with
  | some (p,s)=>match KF k s with
   | some (ks,ps,s)=>some (⟨false,ks,[],p::ps⟩,s)
   | none=>none
  | none=>none
def decN (lt:Str->Str->Bool)(leaf:Bool)(s:Str):Option Node:=
 if s.length<=500/\2<=s.length then match decB leaf (bee (s.take 2)) (s.drop 2)with
  | some (n,r)=>if r=[]/\may lt n=true then some n else none
  | none=>none
 else none
theorem KZ (s r:Str)(h:s.length<256):xR (encT s++r)=some (s,r):=by
 have e:(UInt8.ofNat s.length).toNat=s.length:=by rw[UInt8.toNat_ofNat'];omega
 simp only[encT,qF,xR,e];rw[if_pos (by simp)];simp
theorem zA8 {s a r:Str}(h:xR s=some (a,r)):s=encT a++r/\a.length<256:=by
 cases s with
 | nil=>simp[xR]at h
 | cons c s=>
  simp only[xR]at h;split at h
  .simp only[zB,zU]at h;obtain⟨rfl,rfl⟩:=h;have f:c.toNat<256:=c.toNat_lt;have hl:(s.take c.toNat).length=c.toNat:=by simp;omega
   refine⟨?_,by omega⟩;simp only[encT,hl,qF,qM];congr 1;apply UInt8.toNat_inj.1;rw[UInt8.toNat_ofNat'];omega
  .simp at h
theorem zBe {p:Ptr}(r:Str)(h:mayP p=true)(a:sumOk p):fT (encP p++r)=some (p,r):=by
 have hl:=encP_length p;have f:(encP p++r).take 16=encP p:=j9 hl;have i:(encP p++r).drop 16=r:=yY hl;simp only[fT,f,i];rw[if_pos (by simp[hl])];simp only[decP,zFQ h a,h,if_true]
theorem takeP_eq {s r:Str}{p:Ptr}(h:fT s=some (p,r)):s=encP p++r/\mayP p=true/\sumOk p:=by
 simp only[fT]at h;split at h
 .rename_i hl;split at h
  .rename_i q a;simp only[zB,zU]at h;obtain⟨rfl,rfl⟩:=h;have f:(s.take 16).length=16:=by simp;omega
   simp only[decP]at a;split at a
   .rename_i hm;simp only[zB]at a;subst a;exact⟨by rw[zGd f,qM],hm,zHP f⟩
   .simp at a
  .simp at h
 .simp at h
theorem encL_snoc: ∀(ks vs:List Str) (k v:Str),ks.length=vs.length->encL (ks++[k]) (vs++[v])=encL ks vs++(encT k++encT v)
 | [],[],k,v,_=>by simp[encL]
 | [],_::_,_,_,h=>by simp at h
 | _::_,[],_,_,h=>by simp at h
 | a::ks,b::vs,k,v,h=>by simp[encL,encL_snoc ks vs k v (by simpa using h)]
theorem encI_snoc: ∀(ks:List Str) (vs:List Ptr) (k:Str) (v:Ptr),ks.length=vs.length->encI (ks++[k]) (vs++[v])=encI ks vs++(encT k++encP v)
 | [],[],k,v,_=>by simp[encI]
 | [],_::_,_,_,h=>by simp at h
 | _::_,[],_,_,h=>by simp at h
 | a::ks,b::vs,k,v,h=>by simp[encI,encI_snoc ks vs k v (by simpa using h)]
theorem zF9: ∀(ks vs:List Str),ks.length=vs.length->(∀k∈ks,k.length<256)->(∀v∈vs,v.length<256)->KE ks.length (encL ks vs)=some (ks,vs,[])
 | [],[],_,_,_=>rfl
 | [],_::_,h,_,_=>by simp at h
 | _::_,[],h,_,_=>by simp at h
 | k::ks,v::vs,h,hk,hv=>by
  have f:=zF9 ks vs (by simpa using h) (fun x a=>hk x (zC _ a)) (fun x a=>hv x (zC _ a));simp only[zW,KE,encL,KZ k _ (hk k (zK ..)),KZ v _ (hv v (zK ..)),f]
theorem zFa: ∀(ks:List Str) (a:List Ptr),ks.length=a.length->(∀k∈ks,k.length<256)->(∀p∈a,mayP p=true/\sumOk p)->KF ks.length (encI ks a)=some (ks,a,[])
 | [],[],_,_,_=>rfl
 | [],_::_,h,_,_=>by simp at h
 | _::_,[],h,_,_=>by simp at h
 | k::ks,v::vs,h,hk,hv=>by
  have j:=zFa ks vs (by simpa using h) (fun x f=>hk x (zC _ f)) (fun x f=>hv x (zC _ f));have i:=hv v (zK ..);simp only[zW,KF,encI,KZ k _ (hk k (zK ..)),zBe _ i.1 i.2,j]
theorem decL_eq: ∀ {k:Nat} {s:Str} {ks vs:List Str} {r:Str},KE k s=some (ks,vs,r)->s=encL ks vs++r/\ks.length=k/\vs.length=k
 | 0,s,ks,vs,r,h=>by
  simp only[KE,zB,zU]at h;obtain⟨rfl,rfl,rfl⟩:=h;simp[encL]
 | k+1,s,ks,vs,r,h=>by
  simp only[KE]at h;split at h
  .rename_i a q f;split at h
   .rename_i b t i;split at h
    .rename_i p vs' u j;simp only[zB,zU]at h;obtain⟨rfl,rfl,rfl⟩:=h;obtain⟨rfl,_⟩:=zA8 f;obtain⟨rfl,_⟩:=zA8 i;obtain⟨rfl,m,o⟩:=decL_eq j;exact⟨by simp[encL],by simp[m],by simp[o]⟩
    .simp at h
   .simp at h
  .simp at h
theorem decI_eq: ∀ {k:Nat} {s:Str} {ks:List Str} {vs:List Ptr} {r:Str},KF k s=some (ks,vs,r)->s=encI ks vs++r/\ks.length=k/\vs.length=k/\ ∀p∈vs,sumOk p
 | 0,s,ks,vs,r,h=>by
  simp only[KF,zB,zU]at h;obtain⟨rfl,rfl,rfl⟩:=h;simp[encI]
 | k+1,s,ks,vs,r,h=>by
  simp only[KF]at h;split at h
  .rename_i a v f;split at h
   .rename_i b x i;split at h
    .rename_i u vs' y j;simp only[zB,zU]at h;obtain⟨rfl,rfl,rfl⟩:=h;obtain⟨rfl,_⟩:=zA8 f;obtain⟨rfl,_,m⟩:=takeP_eq i;obtain⟨rfl,o,q,t⟩:=decI_eq j;exact⟨by simp[encI],by simp[o],by simp[q],by simpa using⟨m,t⟩⟩
    .simp at h
   .simp at h
  .simp at h
theorem encL_length: ∀(ks vs:List Str),ks.length=vs.length->(encL ks vs).length=sumL ks+sumL vs
 | [],[],_=>rfl
 | [],_::_,h=>by simp at h
 | _::_,[],h=>by simp at h
 | k::ks,v::vs,h=>by
  simp only[encL,zT,encT,zW,encL_length ks vs (by simpa using h),sumL_cons];omega
theorem encI_length: ∀(ks:List Str) (vs:List Ptr),ks.length=vs.length->(encI ks vs).length=sumL ks+16*vs.length
 | [],[],_=>rfl
 | [],_::_,h=>by simp at h
 | _::_,[],h=>by simp at h
 | k::ks,v::vs,h=>by
  simp only[encI,zT,encT,zW,encP_length,encI_length ks vs (by simpa using h),sumL_cons];omega
theorem encN_length {lt:Str->Str->Bool}{n:Node}(h:shaped lt n=true):(encN n).length=size n:=by
 obtain⟨leaf,ks,vs,a⟩:=n;simp only[shaped,zE]at h;obtain⟨_,h⟩:=h
 cases leaf with
 | true=>
  simp only[if_true,zE,zR]at h;simp only[encN,encB,if_true,zT,be_length,encL_length _ _ h.1.1.symm,size,h.1.2,yJ];omega
 | false=>
  simp only[zL,qC,zE,zR]at h
  cases a with
  | nil=>simp at h
  | cons p a=>
   have e:ks.length=a.length:=by have:=h.1.2;simp at this;omega
   simp only[encN,encB,zL,qC,zT,be_length,encP_length,encI_length _ _ e,size,zW,h.1.1.2];simp[sumL];omega
theorem zG0 {lt:Str->Str->Bool}{n:Node}(h:shaped lt n=true): ∀k∈n.keys,k.length<256:=by
 intro k a;simp only[shaped,zE,y9]at h;have:=h.1.1 k a;simp only[mayK,zE,zR]at this;omega
theorem sumL_ge (l:List Str):l.length<=sumL l:=by
 induction l with
 | nil=>simp
 | cons s l ih=>rw[sumL_cons,zW];omega
theorem decN_encN {lt:Str->Str->Bool}{n:Node}(h:may lt n=true)(i: ∀p∈n.kids,sumOk p):decN lt n.leaf (encN n)=some n:=by
 have hm:=h;simp only[may,zE,zR]at h;obtain⟨a,s⟩:=h;have o:=encN_length a;have j:=zG0 a;have z:n.keys.length<=500:=by have:=sumL_ge n.keys;simp only[size]at s;omega
 have t:(encN n).take 2=be 2 n.keys.length:=by simp[encN,be_length]
 have u:(encN n).drop 2=encB n:=by rw[encN,yY (be_length 2 _)]
 have x:bee (be 2 n.keys.length)=n.keys.length:=by rw[bee_be];omega
 simp only[decN];rw[if_pos ⟨by omega,by rw[o,size];omega⟩,t,u,x];have key:decB n.leaf n.keys.length (encB n)=some (n,[]):=by
  obtain⟨leaf,ks,vs,f⟩:=n;simp only[shaped,zE]at a;obtain⟨_,a⟩:=a
  cases leaf with
  | true=>
   simp only[if_true,zE,zR,y9]at a;simp only[decB,encB,if_true];rw[zF9 ks vs a.1.1.symm j (fun v y=>by have:=a.2 v y;omega)];simp[a.1.2]
  | false=>
   simp only[zL,qC,zE,zR,y9]at a
   cases f with
   | nil=>simp at a
   | cons p f=>
    have e:ks.length=f.length:=by have:=a.1.2;simp at this;omega
    simp only[decB,encB,zL,qC];rw[zBe _ (kidOk_may (a.2 p (zK ..))) (i p (zK ..))];simp only;rw[zFa ks f e j (fun q m=>⟨kidOk_may (a.2 q (zC _ m)),i q (zC _ m)⟩)];simp[a.1.1.2]
 rw[key];simp[hm]
theorem encN_decN {lt:Str->Str->Bool}{leaf:Bool}{s:Str}{n:Node}(h:decN lt leaf s=some n):may lt n=true/\encN n=s/\n.leaf=leaf/\ ∀p∈n.kids,sumOk p:=by
 simp only[decN]at h;split at h
 .rename_i hl;split at h
  .rename_i m r hm;split at h
   .rename_i o;simp only[zB]at h;subst h;obtain⟨rfl,j⟩:=o;have q:(s.take 2).length=2:=by simp;omega
    have hb:=zCF (s.take 2);rw[q]at hb;have key:encB m=s.drop 2/\m.keys.length=bee (s.take 2)/\m.leaf=leaf/\ ∀p∈m.kids,sumOk p:=by
     simp only[decB]at hm;split at hm
     .rename_i f;split at hm
      .rename_i ks vs r hd;simp only[zB,zU]at hm;obtain⟨rfl,rfl⟩:=hm;obtain⟨a,i,t⟩:=decL_eq hd;simp only[qX]at a;exact⟨by simp[encB,a],i,by simp[f],by simp⟩
      .simp at hm
     .rename_i f;split at hm
      .rename_i p y hp;split at hm
       .rename_i ks z r hd;simp only[zB,zU]at hm;obtain⟨rfl,rfl⟩:=hm;obtain⟨u,_,v⟩:=takeP_eq hp;obtain⟨a,i,t,x⟩:=decI_eq hd;simp only[qX]at a;exact⟨by simp[encB,u,a],i,by simpa using f,by simpa using⟨v,x⟩⟩
       .simp at hm
      .simp at hm
    refine⟨j, ?_,key.2.2.1,key.2.2.2⟩;rw[encN,key.1,key.2.1,hb,qM]
   .simp at h
  .simp at h
 .simp at h
end Go.Nd
end
section
namespace Go.Eng
theorem vK {b:List AV->AH->Rs}{H:AH}{r:Rs}(st:Nat->List AV)(N:Nat)(step: ∀i,i<N->b (st i) H=some (.norm (st (i+1)),H))(f: ∀n,jY (n+1) b (st N) H=r): ∀n,N<n->jY n b (st 0) H=r:=by
 suffices h: ∀(m i n:Nat),i+m=N->m<n->jY n b (st i) H=r from fun n a=>h N 0 n (by omega) a
 intro m
 induction m with
 | zero=>
  intro i n hi a;obtain⟨n,rfl⟩: ∃k,n=k+1:=⟨n - 1,by omega⟩;rw[show i=N by omega];exact f n
 | succ m ih=>
  intro i n hi a;obtain⟨n,rfl⟩: ∃k,n=k+1:=⟨n - 1,by omega⟩;rw[wR (step i (by omega))];exact ih (i+1) n (by omega) (by omega)
theorem wW {α:Type}(l:List α)(i:Nat)(h:i<l.length):l.take (i+1)=l.take i++[l[i]]:=by
 rw[qJ h]
theorem K8 (H:AH)(l:List AV)(e sz o:Nat)(g:Bool):ld1 (.ptr H.next o) (H.push (.cells l e sz g))=l[o]? :=by simp only[ld1,zR8,QI]
theorem zLk (H:AH)(l:List AV)(e sz o n:Nat)(g:Bool):ldN n (.ptr H.next o) (H.push (.cells l e sz g))=(uU l o n).map .agg:=by
 simp only[ldN,zR8];cases uU l o n<;>rfl
theorem zDk {H:AH}{A:Nat}(o:Nat)(x:AObj)(h:A<H.next):ld1 (.ptr A o) (H.push x)=ld1 (.ptr A o) H:=by simp only[ld1,AH.push_get_ne _ _ h]
theorem zOf {H:AH}{A:Nat}(o n:Nat)(x:AObj)(h:A<H.next):ldN n (.ptr A o) (H.push x)=ldN n (.ptr A o) H:=by simp only[ldN,AH.push_get_ne _ _ h]
theorem vJ {b:List AV->AH->Rs}(N:Nat)(I:Nat->List AV->AH->Prop)(step: ∀i vs H,i<N->I i vs H-> ∃vs' H',b vs H=some (.norm vs',H')/\I (i+1) vs' H'):
  ∀(n:Nat) (vs:List AV) (H:AH),I 0 vs H->N<n-> ∃m vs' H',jY n b vs H=jY (m+1) b vs' H'/\I N vs' H':=by
 suffices h: ∀(m i n:Nat) (vs:List AV) (H:AH),i+m=N->m<n->I i vs H-> ∃m vs' H',jY n b vs H=jY (m+1) b vs' H'/\I N vs' H' from fun n vs H j a=>h N 0 n vs H (by omega) a j
 intro m
 induction m with
 | zero=>
  intro i n vs H hi a f;obtain⟨n,rfl⟩: ∃k,n=k+1:=⟨n - 1,by omega⟩;exact⟨n,vs,H,rfl,by rw[show N=i by omega];exact f⟩
 | succ m ih=>
  intro i n vs H hi a f;obtain⟨n,rfl⟩: ∃k,n=k+1:=⟨n - 1,by omega⟩;obtain⟨vs',H',o,p⟩:=step i vs H (by omega) f;rw[wR o];exact ih (i+1) n vs' H' (by omega) (by omega) p
def notN:Ex->Bool
 | .norm _=>false
 | _=>true
theorem zIm {e:Ex}{H:AH}{K:List AV->AH->Rs}(h:notN e=true):jn (some (e,H)) K=some (e,H):=by cases e<;>first | rfl | (simp[notN]at h)
theorem QJ {b:List AV->AH->Rs}(N:Nat)(good:Nat->Bool)(I:Nat->List AV->AH->Prop)(Good s:Ex->AH->Prop)
  (step: ∀i vs H,i<N->I i vs H->good i=true-> ∃vs' H',b vs H=some (.norm vs',H')/\I (i+1) vs' H')
  (y: ∀i vs H,i<N->I i vs H->good i=false-> ∃e H',b vs H=some (e,H')/\notN e=true/\s e H')
  (x: ∀vs H,I N vs H-> ∃e H',b vs H=some (e,H')/\notN e=true/\Good e H'):
  ∀(n:Nat) (vs:List AV) (H:AH),I 0 vs H->N<n-> ∃e H',jY n b vs H=some (e,H')/\if(List.range N).all good then Good e H' else s e H':=by
 suffices h: ∀(m i n:Nat) (vs:List AV) (H:AH),i+m=N->m<n->I i vs H->(∀j,j<i->good j=true)-> ∃e H',jY n b vs H=some (e,H')/\if(List.range N).all good then Good e H' else s e H' from
  fun n vs H z t=>h N 0 n vs H (by omega) t z (fun j v=>by omega)
 intro m
 induction m with
 | zero=>
  intro i n vs H hi t a q;obtain⟨n,rfl⟩: ∃k,n=k+1:=⟨n - 1,by omega⟩;rw[show i=N by omega]at a q;obtain⟨e,H',f,o,u⟩:=x vs H a;refine⟨e,H', ?_, ?_⟩
  .show jn (b vs H) _=_;rw[f,zIm o]
  .rw[if_pos (by simpa[y9]using q)];exact u
 | succ m ih=>
  intro i n vs H hi t a q;obtain⟨n,rfl⟩: ∃k,n=k+1:=⟨n - 1,by omega⟩
  cases p:good i with
  | true=>
   obtain⟨vs',H',f,o⟩:=step i vs H (by omega) a p;rw[wR f];exact ih (i+1) n vs' H' (by omega) (by omega) o (fun j v=>by
    rcases Nat.lt_succ_iff_lt_or_eq.1 v with h | rfl
    .exact q j h
    .exact p)
  | false=>
   obtain⟨e,H',f,o,u⟩:=y i vs H (by omega) a p;refine⟨e,H', ?_, ?_⟩
   .show jn (b vs H) _=_;rw[f,zIm o]
   .rw[if_neg (by
     simp only[y9,List.mem_range];intro h;have:=h i (by omega);rw[p]at this;cases this)];exact u
theorem zGv (a:Bool)(x y:Rs):wnt jO a x y=y:=by cases a<;>rfl
theorem zFl (k k':IntKind){a:Int}{s:Nat}(h:0<=a)(f:s<=k.bits):kI .shr (.int k a) (.int k' (s:Int))=some (.int k (a / 2 ^ s)):=by
 show fI (a.fdiv ((2 ^ (Nat.min s k.bits):Nat):Int)) (fun r=>some (AV.int k r))=_;rw[zG6,show Nat.min s k.bits=s from Nat.min_eq_left f,Int.fdiv_eq_ediv_of_nonneg _ (Int.natCast_nonneg _)];simp
theorem zFm (k k':IntKind)(a:Int){s:Nat}(f:s<=k.bits):kI .shl (.int k a) (.int k' (s:Int))=some (.int k (k.wrap (a*2 ^ s))):=by
 show mkI k (a*(2 ^ (Nat.min s k.bits):Nat))=_;rw[vX,show Nat.min s k.bits=s from Nat.min_eq_left f];simp
theorem kP {v:AV}(h:isCell v=true):jT v=[v]:=by cases v<;>first | rfl | (simp[isCell]at h)
theorem Rw.isCell {k n:Nat}{H:AH}{v:AV}{l:List AV}(h:Rw k H v n l):Eng.isCell v=true:=by
 obtain⟨_,⟨rfl,_⟩ | ⟨rfl,_⟩ | ⟨A,off,cc,c,e,sz,g,rfl,_⟩⟩:=h<;>rfl
theorem J4 (k:IntKind)(a b:Int):VB (ZQ k) (.int k a) (.int k b)=some (decide (a=b)):=by
 have:keq k k=true:=by rw[xP];simp
 simp only[VB,yF,this,qN,zM,xQ];congr 1
theorem kH {k n:Nat}{H:AH}{v:AV}{l:List AV}(h:Rw k H v n l):aveq v v=true:=by
 obtain⟨_,⟨rfl,_⟩ | ⟨rfl,_⟩ | ⟨A,off,cc,c,e,sz,g,rfl,_⟩⟩:=h
 .rfl
 .rfl
 .simp[aveq]
theorem wC {x:Option AV}{v:AV}{K:Rs}(h:x=some v)(a:aveq v v=true):chk x v K=K:=by subst h;simp[chk,a]
theorem jL {H:AH}{A:Nat}{l:List AV}{e:TypeId}{sz:Nat}{g:Bool}(h:H.h.get A=some (.cells l e sz g))(o:Nat):ld1 (.ptr A o) H=l[o]? :=by simp only[ld1,h,QI]
theorem jQ {H:AH}{A:Nat}{l:List AV}{e:TypeId}{sz:Nat}{g:Bool}(h:H.h.get A=some (.cells l e sz g))(o n:Nat):ldN n (.ptr A o) H=(uU l o n).map .agg:=by simp only[ldN,h];cases uU l o n<;>rfl
theorem zQp (b c:Bool)(H:AH)(K:AV->AH->Rs):
  jn (if b=false then some (.norm [.bool c],H)else some (.norm [jO],H)) (fun vs H=>hd vs fun y _=>bV (if b=true then some (.bool true)else some y) fun x=>K x H)=K (.bool (b||c)) H:=by
 cases b<;>simp[jn,hd,bV]
theorem zQo (p:Prop)[Decidable p](b:Bool)(H:AH)(K:AV->AH->Rs):
  jn (if ¬p then some (.norm [.bool b],H)else some (.norm [jO],H)) (fun vs H=>hd vs fun y _=>bV (if p then some (.bool true)else some y) fun x=>K x H)=K (.bool (decide p||b)) H:=by
 by_cases h:p<;>simp[h,jn,hd,bV]
theorem lg:(∀(p:Prop) [Decidable p] (b:Bool) (H:AH) (K:AV->AH->Rs),jn (if ¬p then some (.norm [.bool b],H)else some (.norm [jO],H)) (fun vs H=>hd vs fun y _=>bV (if p then some (.bool true)else some y) fun x=>K x H)=K (.bool (decide p||b)) H)/\
  (∀(p:Prop) [Decidable p] (b:Bool) (H:AH) (K:AV->AH->Rs),jn (if p then some (.norm [.bool b],H)else some (.norm [jO],H)) (fun vs H=>hd vs fun y _=>bV (if p then some y else some (.bool false)) fun x=>K x H)=K (.bool (decide p&&b)) H)/\
  (∀(p:Prop) [Decidable p] (b:Bool) (H:AH) (K:AV->AH->Rs),jn (if p then some (.norm [jO],H)else some (.norm [.bool b],H)) (fun vs H=>hd vs fun y _=>bV (if p then some (.bool true)else some y) fun x=>K x H)=K (.bool (decide p||b)) H)/\
  (∀(b c:Bool) (H:AH) (K:AV->AH->Rs),jn (if b=false then some (.norm [.bool c],H)else some (.norm [jO],H)) (fun vs H=>hd vs fun y _=>bV (if b=true then some (.bool true)else some y) fun x=>K x H)=K (.bool (b||c)) H)/\
  (∀(p:Prop) [Decidable p],(decide p=true)=p)/\(∀(p:Prop) [Decidable p],(decide p=false)= ¬p)/\(∀(b:Bool),decide (b=true)=b):=
 ⟨fun p _ b H K=>zQo p b H K,fun p _ b H K=>zQr p b H K,fun p _ b H K=>jn_or p b H K,zQp,fun p _=>zR,fun p _=>by simp,fun b=>by simp⟩
theorem ev:(∀(v:AV) (vs:List AV) (K:AV->List AV->Rs),hd (v::vs) K=K v vs)/\
 (∀(K:Rs),nl [] K=K)/\
 (∀(v:AV) (K:AV->Rs),bV (some v) K=K v)/\
 (∀(v:AV) (H:AH) (K:AV->AH->Rs),bR (some (v,H)) K=K v H)/\
 (∀(vs:List AV) (H:AH) (K:List AV->AH->Rs),jn (some (.norm vs,H)) K=K vs H)/\
 (∀(v:AV) (H:AH) (K:List AV->AH->Rs),jn (some (.ret v,H)) K=some (.ret v,H))/\
 (∀(i:Nat) (vs:List AV) (H:AH) (K:List AV->AH->Rs),jn (some (.exit i vs,H)) K=some (.exit i vs,H))/\
 (∀(id:Nat) (vs:List AV) (H:AH) (K:List AV->AH->Rs),jb id (some (.norm vs,H)) K=K vs H)/\
 (∀(id:Nat) (v:AV) (H:AH) (K:List AV->AH->Rs),jb id (some (.ret v,H)) K=some (.ret v,H))/\
 (∀(id:Nat) (vs:List AV) (H:AH) (K:List AV->AH->Rs),jb id (some (.exit id vs,H)) K=K vs H)/\
 (∀(v:AV) (H:AH),dH (some (.ret v,H))=some (v,H))/\
 (∀(b:Bool) (x y:Rs),cnd (.bool b) x y=if b then x else y)/\
 (∀(b h:Bool) (x y:Rs),wnt (.bool b) h x y=if b=h then x else y)/\
 (∀(b:Bool) (x y:Option AV),pk3 (some (.bool b)) x y=if b then x else y)/\
 (∀(k:IntKind) (a b:Int),kI .add (.int k a) (.int k b)=some (.int k (k.wrap (a+b))))/\
 (∀(k:IntKind) (a b:Int),kI .sub (.int k a) (.int k b)=some (.int k (k.wrap (a - b))))/\
 (∀(k:IntKind) (a b:Int),kI .mul (.int k a) (.int k b)=some (.int k (k.wrap (a*b))))/\
 (∀(k:IntKind) (a b:Int),kI .eql (.int k a) (.int k b)=some (.bool (decide (a=b))))/\
 (∀(k:IntKind) (a b:Int),kI .neq (.int k a) (.int k b)=some (.bool (decide (a≠b))))/\
 (∀(k:IntKind) (a b:Int),kI .lss (.int k a) (.int k b)=some (.bool (decide (a<b))))/\
 (∀(k:IntKind) (a b:Int),kI .leq (.int k a) (.int k b)=some (.bool (decide (a<=b))))/\
 (∀(k:IntKind) (a b:Int),kI .gtr (.int k a) (.int k b)=some (.bool (decide (b<a))))/\
 (∀(k:IntKind) (a b:Int),kI .geq (.int k a) (.int k b)=some (.bool (decide (b<=a))))/\
 (∀(k k':IntKind) (z:Int),cvI k (.int k' z)=some (.int k (k.wrap z)))/\
 (∀(a b:Bool),K0 .eql (.bool a) (.bool b)=some (.bool (a==b)))/\
 (∀(a b:Bool),K0 .neq (.bool a) (.bool b)=some (.bool (!(a==b))))/\
 (∀(b:Bool),aun .not (.bool b)=some (.bool !b))/\
 (∀(l:Str),X3 (S l)=some (.int .i64 (l.length:Nat)))/\
 (∀(l m:Str),aV .eql (S l) (S m)=some (.bool (decide (l=m))))/\
 (∀(l m:Str),aV .neq (S l) (S m)=some (.bool (decide (l≠m))))/\
 (∀(l m:Str),aV .lss (S l) (S m)=some (.bool (ltS l m)))/\
 (∀(l m:Str),aV .geq (S l) (S m)=some (.bool (!ltS l m)))/\
 (∀(A o:Nat),v6 (.ptr A o)=some (.ptr A o))/\
 (∀(f A o:Nat),fAd f (.ptr A o)=some (.ptr A (o+f)))/\
 (∀(e:TypeId) (x:AV),bxV e x=some (.cells (jT x) e 1 false,fun A=> .ptr A 0))/\
 (∀(l:List AV),jT (.agg l)=l)/\
 (∀(H:AH) (l:List AV) (e sz o:Nat) (g:Bool),ld1 (.ptr H.next o) (H.push (.cells l e sz g))=l[o]?)/\
 (∀(H:AH) (l:List AV) (e sz o n:Nat) (g:Bool),ldN n (.ptr H.next o) (H.push (.cells l e sz g))=(uU l o n).map .agg)/\
 (∀(a:AV) (l:List AV),(a::l)[0]? =some a)/\
 (∀(a:AV) (l:List AV) (i:Nat),(a::l)[i+1]? =l[i]?)/\
 (∀(n:Nat),0+n=n)/\
 (∀(n:Nat),Int.ofNat n=(n:Int))/\
 (∀(z:Int), -9223372036854775808<=z->z<=9223372036854775807->IntKind.wrap .i64 z=z):=
 ⟨ZR,zI8,bVs,bRs,zAx,zQn,zOi,zOj,zQs,zOk,zEr,zGg,zPK,zQ7,KM,zM4,zFo,zM6,zFn,Y8,zFp,zFq,zFr,zDK,zJV,zCH,zP8,cG,KL,uT,Y6,Y7,zL4,zOv,fun _ _=>rfl,fun _=>rfl,K8,zLk,fun _ _=>List.getElem?_cons_zero,fun _ _ _=>yV,yW,fun _=>rfl,fun _ j p=>wrap_i64 j p⟩
def eZ:=And.intro zGv (And.intro ev (And.intro lg ew))
def kZ (k e:Nat)(H:AH)(v:AV)(n:Nat)(l:List AV):Prop:=
 Own k e H v n l\/(l.length=n*k/\ ∃A a g,v= .slice A 0 n (2*n)/\A<H.next/\H.h.get A=some (.cells l a k g)/\n=0)
theorem kZ.len {k e n:Nat}{H:AH}{v:AV}{l:List AV}(h:kZ k e H v n l):l.length=n*k:=by
 rcases h with h | h
 .exact h.1
 .exact h.1
theorem kZ.row {k e n:Nat}{H:AH}{v:AV}{l:List AV}(h:kZ k e H v n l):Rw k H v n l:=by
 rcases h with h | ⟨a,A,f,g,rfl,i,j,m⟩
 .exact h.row
 .exact⟨a, .inr (.inr ⟨A,0,2*n,l,f,k,g,rfl,j,i,by omega,by rw[yB,zX (by omega)]⟩)⟩
theorem kZ.mono {k e n:Nat}{S:Nat->Prop}{H H':AH}{v:AV}{l:List AV}(h:kZ k e H v n l)(s:Stp S H H')(a: ∀A,Blk v A-> ¬S A):kZ k e H' v n l:=by
 rcases h with h | ⟨j,A,m,g,rfl,f,o,i⟩
 .exact .inl (h.mono s a)
 .exact .inr ⟨j,A,m,g,rfl,qQ f s.next,by rw[s.keep A f (a A (zRd.2 rfl))];exact o,i⟩
theorem kZ.lt {k e n:Nat}{H:AH}{v:AV}{l:List AV}(h:kZ k e H v n l){B:Nat}(a:Blk v B):B<H.next:=by
 rcases h with⟨_,⟨rfl,_⟩ | ⟨A,rfl,f,_⟩⟩ | ⟨_,A,i,g,rfl,f,_⟩
 .exact(zRl.1 a).elim
 .rw[zRd.1 a];exact f
 .rw[zRd.1 a];exact f
theorem kZ.app1 {k e bytes n m:Nat}{H:AH}{v:AV}{l new:List AV}(i:H.ok)(o:0<k)(h:kZ k e H v n l)(hm:new.length=m*k)(z:n+m<=1000000000)(hb:bytes<=1000):
  ∃p H',Eng.app1 e k bytes m new v H=some (p,H')/\kZ k e H' p (n+m) (l++new)/\Stp (Blk v) H H'/\(∀B,Blk p B->Blk v B\/H.next<=B):=by
 by_cases q:m=0
 .subst q;have:new=[]:=zV (by simpa using hm);subst this;rcases h with h | ⟨q,A,j,g,rfl,s,t,J⟩
  .obtain⟨H',f,u,y,L⟩:=VG (bytes:=bytes) i o h;exact⟨v,H',f, .inl (by simpa using u),y.mono (fun _ _ x=>x.elim),fun B a=> .inl a⟩
  .have C:kL l g k 0 (2*n) k=n:=by
    simp only[kL,show((2*n) % 2).beq 0=true by rw[jC];rfl,zM,yQ n (show 0<2 by omega)]
   have N:Nat.blt 0 k=true:=by rw[qD];exact o
   have F:setAt l (0+n*k) []=some l:=by rw[xD (by simp;omega)];simp
   have K:(H.put A (.cells l j k g)).h.get A=some (.cells l j k g):=by rw[zRc,if_pos rfl]
   refine⟨.slice A 0 n (2*n),H.put A (.cells l j k g), ?_, .inr ⟨by simpa using q,A,j,g,rfl,s,by simpa using K,by omega⟩,(zRf i).put s _ (.inr (zRd.2 rfl)),fun B a=> .inl a⟩;simp only[Eng.app1,t,zGu,C,Nat.add_zero,Nat.ble_eq_true_of_le (zQ n),zM,N,F,zCN,kO,kD]
 .rcases h with h | ⟨hl,A,j,g,rfl,s,t,J⟩
  .obtain⟨H',f,u,y,L⟩:=KN (bytes:=bytes) i o h hm (by omega) z hb;exact⟨_,H',f, .inl u,y,fun B a=> .inr (by rw[zRd.1 a];exact zQ _)⟩
  .have f:=VH (k:=k) (e:=e) (bytes:=bytes) (n:=n) (m:=m) (off:=0) (new:=new) i t (by omega) (by omega) z hb;rw[yB,zX (by omega)]at f;refine⟨_,_,f, .inl ⟨by simp[hl,hm,j7], .inr ⟨H.next,rfl,Nat.lt_succ_self _,zR8 _ _⟩⟩,(zRf i).push _,fun B a=> .inr (by rw[zRd.1 a];exact zQ _)⟩
theorem kZ.app {k e bytes n m:Nat}{H:AH}{v s:AV}{l new:List AV}(i:H.ok)(f:0<k)(h:kZ k e H v n l)(j:srcOf k s H=some (m,new))(hm:new.length=m*k)(o:jP new=true)(p:n+m<=1000000000)(hb:bytes<=1000):
  ∃a H',apP e k bytes v s H=some (a,H')/\kZ k e H' a (n+m) (l++new)/\Stp (Blk v) H H'/\(∀B,Blk a B->Blk v B\/H.next<=B):=by
 obtain⟨a,H',q,t⟩:=h.app1 (bytes:=bytes) (e:=e) i f hm p hb;exact⟨a,H',by simp only[apP,j,o,zM,q],t⟩
theorem kZ.isCell {k e n:Nat}{H:AH}{v:AV}{l:List AV}(h:kZ k e H v n l):isCell v=true:=h.row.isCell
def Box (H:AH)(A:Nat)(v:AV):Prop:= ∃e,H.h.get A=some (.cells [v] e 1 false)
theorem Box.ld {H:AH}{A:Nat}{v:AV}(h:Box H A v):ld1 (.ptr A 0) H=some v:=by
 obtain⟨e,h⟩:=h;rw[jL h];rfl
theorem Box.st {H:AH}{A:Nat}{v x:AV}(h:Box H A v)(a:H.ok)(f:Eng.isCell x=true): ∃H',stN 1 (.ptr A 0) x H=some (jO,H')/\Box H' A x/\Stp (fun B=>B=A) H H':=by
 obtain⟨e,h⟩:=h;exact⟨_,dW h (by decide) f (by simp),⟨e,by rw[zRc,if_pos rfl];rfl⟩,(zRf a).put (a.lt h) _ (.inr rfl)⟩
theorem Box.mono {S:Nat->Prop}{H H':AH}{A:Nat}{v:AV}(h:Box H A v)(a:H.ok)(s:Stp S H H')(f: ¬S A):Box H' A v:=by
 obtain⟨e,h⟩:=h;exact⟨e,by rw[s.keep A (a.lt h) f];exact h⟩
theorem Box.lt {H:AH}{A:Nat}{v:AV}(h:Box H A v)(a:H.ok):A<H.next:=by obtain⟨e,h⟩:=h;exact a.lt h
theorem WG {k:Nat}(H:AH)(c:List AV)(e:TypeId)(sz:Nat)(g:Bool)(m cc:Nat)(a:c.length=m*k):srcOf k (.slice H.next 0 m cc) (H.push (.cells c e sz g))=some (m,c):=by
 simp only[srcOf,zR8];rw[kW _ _ _ (.inr (by omega)),yB,zX (by omega)]
end Go.Eng
end
section
namespace Go.Nd
theorem rising_ix (lt:Str->Str->Bool): ∀l:List Str,rising lt l=true↔ ∀i (h:i+1<l.length),lt l[i] l[i+1]=true
 | []=>by simp[rising]
 | [a]=>by simp[rising]
 | a::b::l=>by
  have f:=rising_ix lt (b::l);simp only[rising,zE,f];constructor
  .rintro⟨h1,h2⟩ i h
   cases i with
   | zero=>exact h1
   | succ i=>exact h2 i (by simpa using h)
  .intro h;exact⟨h 0 (by simp),fun i hi=>h (i+1) (by simpa using hi)⟩
theorem rising_take {lt:Str->Str->Bool}{l:List Str}(h:rising lt l=true)(k:Nat):rising lt (l.take k)=true:=by
 rw[rising_ix]at h⊢;intro i hi;simp only[qA]at hi;simp only[List.getElem_take];exact h i (by omega)
theorem rising_drop {lt:Str->Str->Bool}{l:List Str}(h:rising lt l=true)(k:Nat):rising lt (l.drop k)=true:=by
 rw[rising_ix]at h⊢;intro i hi;simp only[qK]at hi;simp only[List.getElem_drop];exact h (k+i) (by omega)
theorem KO {α:Type}{f:α->Bool}{l:List α}(h:l.all f=true)(k:Nat):(l.take k).all f=true:=by
 simp only[y9]at h⊢;exact fun x a=>h x (List.mem_of_mem_take a)
theorem KP {α:Type}{f:α->Bool}{l:List α}(h:l.all f=true)(k:Nat):(l.drop k).all f=true:=by
 simp only[y9]at h⊢;exact fun x a=>h x (List.mem_of_mem_drop a)
def cutA (n:Node)(k:Nat):Node:=if n.leaf then⟨true,n.keys.take k,n.vals.take k,[]⟩else⟨false,n.keys.take k,[],n.kids.take (k+1)⟩
def Q4 (n:Node)(k:Nat):Node:=if n.leaf then⟨true,n.keys.drop k,n.vals.drop k,[]⟩else⟨false,n.keys.drop (k+1),[],n.kids.drop (k+1)⟩
def cJ (a:Node)(sep:Str)(b:Node):Node:=if a.leaf then⟨true,a.keys++b.keys,a.vals++b.vals,[]⟩else⟨false,a.keys++([sep]++b.keys),[],a.kids++b.kids⟩
def cutOk (n:Node)(k:Nat):Prop:=1<=k/\k+(if n.leaf then 1 else 2)<=n.keys.length
theorem cut_shaped {lt:Str->Str->Bool}{n:Node}{k:Nat}(h:shaped lt n=true)(p:cutOk n k):shaped lt (cutA n k)=true/\shaped lt (Q4 n k)=true:=by
 obtain⟨leaf,keys,vals,kids⟩:=n;obtain⟨s,m⟩:=p
 cases leaf with
 | true=>
  simp only[shaped,if_true,zE,zR]at h m;obtain⟨⟨a,f⟩,⟨i,q⟩,j⟩:=h;simp only[shaped,cutA,Q4,if_true,zE,zR];exact⟨⟨⟨KO a k,rising_take f k⟩,⟨by simp[i],trivial⟩,KO j k⟩,⟨KP a k,rising_drop f k⟩,⟨by simp[i],trivial⟩,KP j k⟩
 | false=>
  simp only[shaped,zL,qC,zE,zR]at h m;obtain⟨⟨a,f⟩,⟨⟨i,q⟩,j⟩,o⟩:=h;simp only[shaped,cutA,Q4,zL,qC,zE,zR];refine⟨⟨⟨KO a k,rising_take f k⟩,⟨⟨?_,trivial⟩, ?_⟩,KO o _⟩,⟨KP a _,rising_drop f _⟩,⟨⟨?_,trivial⟩, ?_⟩,KP o _⟩
  .intro e;have:=congrArg List.length e;rw[qA]at this;simp only[yJ]at this;omega
  .rw[qA,qA];omega
  .intro e;have:=congrArg List.length e;rw[qK]at this;simp only[yJ]at this;omega
  .rw[qK,qK];omega
theorem sumL_drop_le (l:List Str)(k:Nat):sumL (l.drop k)<=sumL l:=by
 have:sumL l=sumL (l.take k)+sumL (l.drop k):=by rw[<-sumL_append,qM]
 omega
theorem sumL_take_le (l:List Str)(k:Nat):sumL (l.take k)<=sumL l:=by
 have:sumL l=sumL (l.take k)+sumL (l.drop k):=by rw[<-sumL_append,qM]
 omega
theorem YI (l:List Str)(k:Nat):sumL l=sumL (l.take k)+sumL (l.drop k):=by rw[<-sumL_append,qM]
theorem cut_size {lt:Str->Str->Bool}{n:Node}{k:Nat}(h:shaped lt n=true)(f:cutOk n k):size (cutA n k)<size n/\size (Q4 n k)<size n:=by
 obtain⟨leaf,keys,vals,kids⟩:=n;obtain⟨o,a⟩:=f;have p:=YI keys k;have i:=sumL_ge (keys.take k);have j:=sumL_ge (keys.drop k);simp only[qA,qK]at i j
 cases leaf with
 | true=>
  simp only[if_true]at a;simp only[shaped,if_true,zE,zR]at h;have q:=YI vals k;simp only[cutA,Q4,if_true,size,yJ,h.2.1.2];omega
 | false=>
  simp only[zL,qC]at a;simp only[shaped,zL,qC,zE,zR]at h;have s:=h.2.1.2;have t:=YI keys (k+1);have m:=sumL_ge (keys.take (k+1));simp only[qA]at m;simp only[cutA,Q4,zL,qC,size,h.2.1.1.2,qA,qK];have:sumL []=0:=rfl;omega
end Go.Nd
end
section
namespace Go.Eng.Sh
open Go.Nd (Ptr sumL)
theorem wE (D:Dyn)(n:Nat)(s:Str)(H:AH):f137 D n [S s] H=some (.bool (Nd.mayK s),H):=by
 simp only[f137,ZR,zI8,cG,bVs,zFr,zFp,zPK,zQq,zAx,zQ7,zL5,zEr];have a:(Int.ofNat 1<=((s.length:Nat):Int))=(1<=s.length):=by simp;omega
 have f:(((s.length:Nat):Int)<=Int.ofNat 40)=(s.length<=40):=by simp;omega
 simp only[a,f,Nd.mayK];by_cases h:1<=s.length<;>simp[h,bVs,dH]
theorem sumL_nil:sumL []=0:=rfl
theorem WA (l:List Str)(i:Nat)(hi:i<l.length):sumL (l.take (i+1))=sumL (l.take i)+(1+l[i].length)/\sumL (l.take i)+(1+l[i].length)<=sumL l:=by
 have a:sumL l=sumL (l.take i)+(1+l[i].length+sumL (l.drop (i+1))):=by
  rw[<-Nd.sumL_cons,<-qL hi,<-Nd.sumL_append,qM]
 refine⟨?_,by omega⟩;rw[wW l i hi,Nd.sumL_append,Nd.sumL_cons];simp[sumL]
theorem size0 (D:Dyn)(f:Nat){H:AH}{ks:AV}{l:List Str}(h:Strs H ks l)(x:AV)(a:Int)(n:Nat)(t:0<=a)(m:l.length<n)(hb:a+sumL l<=1000000000000):
  jY n (dD D f) [x, .int .i64 a,ks, .int .i64 (l.length:Nat), .int .i64 (0:Nat)] H=some (.exit 0 [x, .int .i64 (a+sumL l)],H):=by
 have key:=vK (b:=dD D f) (H:=H) (r:=some (.exit 0 [x, .int .i64 (a+sumL l)],H)) (fun i=>[x, .int .i64 (a+sumL (l.take i)),ks, .int .i64 (l.length:Nat), .int .i64 (i:Nat)]) l.length (fun i hi=>by
  obtain⟨p,o,q⟩:=h.at hi;obtain⟨j,u⟩:=WA l i hi;have s:=Nd.sumL_ge l;simp(disch:=omega) [dD,ZR,bVs,Y8,zGg,hi,o,q,cG,KM,wrap_i64,j,Int.add_assoc]) (fun n=>jU (by
  simp[dD,ZR,bVs,Y8,zGg])) n m
 simpa[sumL_nil]using key
theorem size1 (D:Dyn)(f:Nat){H:AH}{ks:AV}{l:List Str}(h:Strs H ks l)(a:Int)(n:Nat)(t:0<=a)(m:l.length<n)(hb:a+sumL l<=1000000000000):
  jY n (cT D f) [.int .i64 a,ks, .int .i64 (l.length:Nat), .int .i64 (0:Nat)] H=some (.exit 2 [.int .i64 (a+sumL l)],H):=by
 have key:=vK (b:=cT D f) (H:=H) (r:=some (.exit 2 [.int .i64 (a+sumL l)],H)) (fun i=>[.int .i64 (a+sumL (l.take i)),ks, .int .i64 (l.length:Nat), .int .i64 (i:Nat)]) l.length (fun i hi=>by
  obtain⟨p,o,q⟩:=h.at hi;obtain⟨j,u⟩:=WA l i hi;have s:=Nd.sumL_ge l;simp(disch:=omega) [cT,ZR,bVs,Y8,zGg,hi,o,q,cG,KM,wrap_i64,j,Int.add_assoc]) (fun n=>jU (by
  simp[cT,ZR,bVs,Y8,zGg])) n m
 simpa[sumL_nil]using key
def jR (p:Ptr):List AV:=[.int .i64 p.at_, .int .i64 p.birth, .int .u64 p.sum]
def vS (H:AH)(v:AV)(l:List Ptr):Prop:=Rw 3 H v l.length (l.flatMap jR)
def hU (H:AH)(v:AV)(n:Nd.Node):Prop:= ∃ks vs a,v= .agg [.bool n.leaf,ks,vs,a]/\Strs H ks n.keys/\Strs H vs n.vals/\vS H a n.kids
theorem vS.lnSl {H:AH}{v:AV}{l:List Ptr}(h:vS H v l):Eng.lnSl v=some (.int .i64 (l.length:Int)):=zRm h
theorem vS.prs {H H':AH}{v:AV}{l:List Ptr}(h:vS H v l)(s:Prs H H'):vS H' v l:=Rw.prs h s
theorem zQC: ∀(l:List Ptr) (i:Nat) (hi:i<l.length),((l.flatMap jR).drop (i*3)).take 3=jR l[i]
 | [],i,hi=>by simp at hi
 | p::l,0,_=>rfl
 | p::l,i+1,hi=>by
  have:=zQC l i (by simpa using hi);rw[show(i+1)*3=i*3+3 from by omega];exact this
theorem vS.at {H:AH}{v:AV}{l:List Ptr}(h:vS H v l){i:Nat}(hi:i<l.length): ∃p,(∀κ (z:Int),z=(i:Int)->uX 3 v (.int κ z)=some p)/\Eng.ldN 3 p H=some (.agg (jR l[i])):=by
 obtain⟨p,f,a⟩:=Rw.ldN h hi;rw[zQC l i hi]at a;exact⟨p,f,a⟩
theorem hU.prs {H H':AH}{v:AV}{n:Nd.Node}(h:hU H v n)(s:Prs H H'):hU H' v n:=by
 obtain⟨ks,vs,a,rfl,f,i,j⟩:=h;exact⟨ks,vs,a,rfl,f.prs s,i.prs s,j.prs s⟩
def small (n:Nd.Node):Prop:=n.kids.length<=100000/\sumL n.keys<=100000000/\sumL n.vals<=100000000
theorem WH (D:Dyn)(n:Nat){H:AH}(f:H.ok){v:AV}{nd:Nd.Node}(h:hU H v nd)(m:small nd)(t:200000000<=n):
  Ret (f110 D n [v] H) fun r H'=>r= .int .i64 (Nd.size nd:Nat)/\Prs H H':=by
 obtain⟨ks,vs,o,rfl,i,j,p⟩:=h;obtain⟨u,x,y⟩:=m;have a:Prs H (H.push (.cells [.bool nd.leaf,ks,vs,o] 119 1 false)):=(zRf f).push _;have q:=Nd.sumL_ge nd.keys;have s:=Nd.sumL_ge nd.vals;simp(disch:=omega) only[f110,ev,kT f,i.lnSl,j.lnSl,p.lnSl,size0 D n (i.prs a),BI,size1 D n (j.prs a),V1];apply Ret.pure;refine⟨?_,a⟩;simp only[Nd.size,AV.int.injEq,true_and];omega
open Go.Nd (be mayP encP)
theorem zJT: ∀(i n:Nat),be (i+1) n=UInt8.ofNat (n / 256 ^ i)::be i n
 | 0,n=>by simp[be]
 | i+1,n=>by
  rw[be,zJT i (n / 256),Nat.div_div_eq_div_mul,Nat.mul_comm 256,<-Nat.pow_succ];rfl
theorem zNI {c m:List AV}{o:Nat}{x:AV}(h:o<c.length):(c.take (o+1)++m).set o x=c.take o++(x::m):=by
 have hl:(c.take o).length=o:=by simp;omega
 rw[wW c o h,qI,List.set_append_right _ _ (by omega),hl];simp
theorem zHO (D:Dyn)(n:Nat){H:AH}(q:H.ok){A off k cc:Nat}{c:List AV}{e:TypeId}{g:Bool}(z:Nat)(t:H.h.get A=some (.cells c e 1 g))(U:off+k<=c.length)(S:k<=8)(V:100<=n):
  ∃H',f119 D n [.slice A off k cc, .int .u64 (z:Nat)] H=some (.tuple [],H')/\H'.h.get A=some (.cells (c.take off++(jN (be k z)++c.drop (off+k))) e 1 g)/\Stp (fun B=>B=A) H H'/\H'.next=H.next:=by
 have T:=q.lt t;have key:=vJ (b:=ZD D n) k (fun i vs H'=>vs=[.slice A off k cc, .int .u64 (z:Nat), .int .i64 (k:Nat), .int .i64 (i:Nat)]/\i<=k/\H'.h.get A=some (.cells (c.take (off+(k - i))++(jN (be i z)++c.drop (off+k))) e 1 g)/\Stp (fun B=>B=A) H H'/\H'.next=H.next)
  (fun i vs H' hi ⟨v,hik,hg,hst,hnx⟩=>by
   subst v;have hb:Nat.blt (k - 1 - i) k=true:=by rw[qD];omega
   have O:(((k:Nat):Int) - 1 - (i:Int))=((k - 1 - i:Nat):Int):=by omega
   have y:uX 1 (.slice A off k cc) (.int .i64 ((k - 1 - i:Nat):Int))=some (.ptr A (off+(k - 1 - i))):=by
    simp only[uX,kK _ (show(0:Int)<=((k - 1 - i:Nat):Int)by omega),y7,hb,zM,kD,Nat.mul_one]
   have j:=dW (x:= .int .u8 ((((z / 256 ^ i % 256:Nat):Nat)):Int)) (o:=off+(k - 1 - i)) hg (by decide) rfl (by simp[jN,Nd.be_length];omega);have u:(c.take (off+(k - i))++(jN (be i z)++c.drop (off+k))).set (off+(k - 1 - i)) (.int .u8 (((z / 256 ^ i % 256:Nat)):Int))=c.take (off+(k - (i+1)))++(jN (be (i+1) z)++c.drop (off+k)):=by
    rw[show off+(k - i)=off+(k - 1 - i)+1 by omega,zNI (by omega),zJT,show k - (i+1)=k - 1 - i by omega];simp[jN]
   have C:((z:Nat):Int) / 2 ^ (8*i)=((z / 256 ^ i:Nat):Int):=by
    rw[<-zMI];simp
   refine⟨_,H'.put A (.cells (c.take (off+(k - (i+1)))++(jN (be (i+1) z)++c.drop (off+k))) e 1 g), ?_,rfl,by omega,by rw[zRc,if_pos rfl], ?_,hnx⟩
   .rw[u]at j;have p:=zFl .u64 .i64 (a:=(z:Nat)) (s:=8*i) (by omega) (by simp[IntKind.bits];omega);rw[C]at p;have F:(((8:Nat):Int)*(i:Int))=((8*i:Nat):Int):=by omega
    have J:IntKind.wrap .u8 ((z / 256 ^ i:Nat):Int)=((z / 256 ^ i % 256:Nat):Int):=by rw[wrap_u8];omega
    have f:((k:Nat):Int) - ((1:Nat):Int) - (i:Int)=((k - 1 - i:Nat):Int):=by omega
    simp(disch:=omega) only[ZD,ev,lnSl,f,y,F,p,J,j];simp[hi]
   .exact hst.put (by omega) _ (.inr rfl)) n _ H ⟨rfl,Nat.zero_le _,by simpa[be,jN]using t,zRf q,rfl⟩ (by omega)
 obtain⟨m,vs',H',f,rfl,_,K,L,N⟩:=key;refine⟨H', ?_,by simpa using K,L,N⟩;have hl:jY (m+1) (ZD D n) [.slice A off k cc, .int .u64 (z:Nat), .int .i64 (k:Nat), .int .i64 (k:Nat)] H'=some (.exit 0 [],H'):=jU (by simp[ZD,ev]);rw[hl]at f;simp only[f119,ev,lnSl,f,BG]
theorem zAM (p q:Ptr):eqA [6,6,10] (.agg (jR p)) (.agg (jR q))=some (decide (p=q)):=by
 obtain⟨a,b,c⟩:=p;obtain⟨i,b',c'⟩:=q;have f:=fun x y=>J4 .i64 x y
 have h:=fun x y=>J4 .u64 x y
 simp only[ZQ]at f h;simp only[eqA,jR,Z4,Nat.succ_eq_add_one,yF,zW,yJ,qN,zM,u5,f,h];by_cases j:a=i<;>by_cases m:b=b'<;>by_cases o:c=c'<;>simp[j,m,o]
theorem zLQ (b:Bool):bZ .eql (some b)=some (.bool b):=by simp only[bZ,wD]
theorem zMK (D:Dyn)(n:Nat){H:AH}(f:H.ok)(p:Ptr): ∃H',f118 D n [.agg (jR p)] H=some (.bool (mayP p),H')/\Prs H H':=by
 refine⟨H.push (.cells (jR p) 42 1 false), ?_,(zRf f).push _⟩;have h:eqA [6,6,10] (.agg (jR p)) (.agg (jR ⟨0,0,0⟩))=_:=zAM p ⟨0,0,0⟩;obtain⟨a,b,c⟩:=p;simp only[jR]at h;simp only[f118,ev,kT f,jR,uU,takeN,zZ,lg,vR,fK];by_cases i:a=0
 .subst i;simp only[show((0:Nat):Int)=0 from rfl,if_true,h,zLQ,ev,mayP];simp
 .simp only[show((0:Nat):Int)=0 from rfl,if_neg i,ev,mayP];rfl
def Z (n:Nat):List AV:=List.replicate n (.int .u8 ((0:Nat):Int))
theorem zNT:rep 16 [.int .u8 ((0:Nat):Int)]=Z 16:=rfl
theorem zDa (D:Dyn)(n:Nat){H:AH}(m:H.ok){A off k cc:Nat}{pre f a:List AV}{e:TypeId}{g:Bool}(z:Nat)(o:H.h.get A=some (.cells (pre++(f++a)) e 1 g))(hp:pre.length=off)(t:f.length=k)(j:k<=8)(p:100<=n):
  ∃H',f119 D n [.slice A off k cc, .int .u64 (z:Nat)] H=some (.tuple [],H')/\H'.h.get A=some (.cells (pre++(jN (be k z)++a)) e 1 g)/\Stp (fun B=>B=A) H H'/\H'.next=H.next:=by
 obtain⟨H',q,i,s⟩:=zHO D n m (cc:=cc) (k:=k) (off:=off) z o (by simp;omega) j p;refine⟨H',q, ?_,s⟩;have hd:(pre++(f++a)).drop (off+k)=a:=by rw[<-qI,yY (by rw[zT];omega)]
 rw[j9 hp,hd]at i;exact i
theorem slA (A lo hi:Nat)(f:lo<=hi)(i:hi<=16)(o:lo<16):xF 16 1 (.ptr A 0) (some (.int .i64 (lo:Nat))) (some (.int .i64 (hi:Nat))) none=some (.slice A lo (hi - lo) (2*(16 - lo))):=by
 have j:Nat.ble hi 16=true:=by rw[qV];exact i
 have m:Nat.ble lo hi=true:=by rw[qV];exact f
 have a:Nat.beq 16 lo=false:=by rw[y8];intro h;have:=Nat.eq_of_beq_eq_true h;omega
 simp[xF,kX,kK,K1,j,m,a,kD,show((32 % 2).beq 0)=true from rfl,show(32 / 2).beq lo=false from a,show Nat.blt 0 1=true from rfl]
theorem zHf (A:Nat):xF 16 1 (.ptr A 0) none (some (.int .i64 ((4:Nat):Int))) none=some (.slice A 0 4 32):=rfl
theorem zHe (A:Nat):xF 16 1 (.ptr A 0) (some (.int .i64 ((8:Nat):Int))) none none=some (.slice A 8 8 16):=rfl
theorem zPX (A:Nat):xF 16 1 (.ptr A 0) none none none=some (.slice A 0 16 32):=rfl
theorem zCn (D:Dyn)(n:Nat){H:AH}(F:H.ok){p:Ptr}(hp:mayP p=true)(hs:Nd.sumOk p)(o:100<=n): ∃H',f72 D n [.agg (jR p)] H=some (.tuple [S (encP p), .int .i64 (0:Nat)],H')/\Prs H H':=by
 have q:Prs H (H.push (.cells (jR p) 42 1 false)):=(zRf F).push _;obtain⟨f,h2,i⟩:=zMK D n q.ok p;have O:uU (jR p) 0 3=some (jR p):=rfl;have h0: ∃a b s:Nat,p=⟨a,b,s⟩/\a<4294967296/\b<4294967296/\s<18446744073709551616:=by
  obtain⟨a,b,s⟩:=p;simp only[Nd.sumOk]at hs;have h1:0<=a/\a<8192/\0<=b/\b<=2147483647:=by
   simp only[mayP]at hp;split at hp
   .simp only[zE,zR]at hp;omega
   .simp only[zE,zR]at hp;omega
  exact⟨a.toNat,b.toNat,s.toNat,by congr 1<;>omega,by omega,by omega,by omega⟩
 obtain⟨a,b,s,rfl,ha,hb,a1⟩:=h0;have t: ∀x:Nat,x<18446744073709551616->IntKind.wrap .u64 (x:Int)=(x:Int):=fun x hx=>by rw[wrap_u64];omega
 have j:Prs f (f.push (.cells (Z 16) 232 1 false)):=(zRf i.ok).push _;have J:(f.push (.cells (Z 16) 232 1 false)).h.get f.next=some (.cells ([]++(Z 4++Z 12)) 232 1 false):=zR8 _ _
 have T:(f.push (.cells (Z 16) 232 1 false)).next=f.next+1:=rfl
 generalize U:f.push (.cells (Z 16) 232 1 false)=H3 at j J T;obtain⟨H4,e4,K,st4,n4⟩:=zDa D n j.ok (cc:=32) (k:=4) (off:=0) a J rfl (by simp[Z]) (by omega) o;rw[show[]++(jN (be 4 a)++Z 12)=jN (be 4 a)++(Z 4++Z 8)from rfl]at K;obtain⟨H5,e5,L,m,n5⟩:=zDa D n st4.ok (cc:=24) (k:=4) (off:=4) b K (by simp[jN,Nd.be_length]) (by simp[Z]) (by omega) o;rw[<-qI,show Z 8=Z 8++[]from rfl]at L;obtain⟨u,e6,v,y,n6⟩:=zDa D n m.ok (cc:=16) (k:=8) (off:=8) s L (by simp[jN,Nd.be_length]) (by simp[Z]) (by omega) o;have z:H3.h.get H.next=some (.cells (jR ⟨a,b,s⟩) 42 1 false):=j.get i.ok (i.get q.ok (zR8 _ _))
 have a0:H.next<f.next:=by have:=i.next;rw[zR9]at this;omega
 have C:H4.h.get H.next=some (.cells (jR ⟨a,b,s⟩) 42 1 false):=by rw[st4.keep _ (by have:=j.next;omega) (by omega)];exact z
 have V:H5.h.get H.next=some (.cells (jR ⟨a,b,s⟩) 42 1 false):=by rw[m.keep _ (by have:=j.next;omega) (by omega)];exact C
 have N:jN (be 4 a)++jN (be 4 b)++(jN (be 8 s)++[])=jN (encP ⟨a,b,s⟩):=by simp[encP,jN]
 rw[N]at v;have W:zFb (.slice f.next 0 16 32) u=some (S (encP ⟨a,b,s⟩)):=KG ⟨by simp[jN,Nd.encP_length], .inr (.inr ⟨_,_,_,_,_,_,_,rfl,v,by have:=(y.ok).lt v;exact this,by simp[jN,Nd.encP_length],by simp[zX,jN,Nd.encP_length]⟩)⟩ (by simp)
 refine⟨u, ?_, ?_⟩
 .simp only[f72,ev,kT F,O,zZ,h2,hp];simp only[ev,kT i.ok,Bool.not_true,zL,qC,zNT,U,zHf,zHe,zPX,slA _ 4 8 (by omega) (by omega) (by omega),jL z,jL C,jL V,jR,t a (by omega),t b (by omega),t s (by omega),e4,e5,e6,W]
 .have Y:Stp (fun B=>B=f.next) H3 u:=(st4.trans m).trans y
  exact(q.trans i).trans (j.fresh Y (fun A hA=>by omega))
theorem UD (lt:Str->Str->Bool): ∀l:List Str,Nd.rising lt l=true↔ ∀i (h:i+1<l.length),lt l[i] l[i+1]=true
 | []=>by simp[Nd.rising]
 | [a]=>by simp[Nd.rising]
 | a::b::l=>by
  have f:=UD lt (b::l);simp only[Nd.rising,zE,f];constructor
  .rintro⟨h1,h2⟩ i h
   cases i with
   | zero=>exact h1
   | succ i=>exact h2 i (by simpa using h)
  .intro h;exact⟨h 0 (by simp),fun i hi=>h (i+1) (by simpa using hi)⟩
def zG4 (l:List Str)(i:Nat):Bool:=Nd.mayK (l.getD i [])&&(decide (i=0)||ltS (l.getD (i - 1) []) (l.getD i []))
theorem zIz (l:List Str):(List.range l.length).all (zG4 l)=(l.all Nd.mayK&&Nd.rising ltS l):=by
 rw[yK,zE,UD];simp only[y9,List.mem_range,zG4,zE,yO,zR];constructor
 .intro h;refine⟨fun x a=> ?_,fun i hi=> ?_⟩
  .obtain⟨i,hi,rfl⟩:=List.mem_iff_getElem.1 a;have:=(h i hi).1;rwa[qE,zJ hi]at this
  .have:=(h (i+1) hi).2;simp only[Nat.add_eq_zero_iff,Nat.one_ne_zero,and_false,false_or,Nat.add_sub_cancel]at this;rwa[qE,zJ (by omega),qE,zJ hi]at this
 .rintro⟨h1,h2⟩ i hi
  refine⟨?_, ?_⟩
  .rw[qE,zJ hi];exact h1 _ (qY hi)
  .by_cases f:i=0
   .exact .inl f
   .right;have:=h2 (i - 1) (by omega);rw[qE,zJ (show i - 1<l.length by omega),qE,zJ hi];simpa[show i - 1+1=i by omega]using this
theorem zCP {α:Type}(l:List α)(d:α)(f:α->Bool):(List.range l.length).all (fun i=>f (l.getD i d))=l.all f:=by
 rw[yK];simp only[y9,List.mem_range];constructor
 .intro h x a;obtain⟨i,hi,rfl⟩:=List.mem_iff_getElem.1 a;have:=h i hi;rwa[qE,zJ hi]at this
 .intro h i hi;rw[qE,zJ hi];exact h _ (qY hi)
theorem vN {α:Type}{l:List α}{i:Nat}{d:α}(h:i<l.length):l.getD i d=l[i]:=by rw[qE,zJ h];rfl
theorem zNH (D:Dyn)(n:Nat){H:AH}{ks:AV}{l:List Str}(h:Strs H ks l){A e:Nat}{c:List AV}(x:H.h.get A=some (.cells c e 1 false))(y:c[1]? =some ks)(hl:l.length<=1000000000)(v:Nat)(C:l.length<v):
  ∃e H',jY v (uD D n) [.ptr A 0,ks, .int .i64 (l.length:Nat), .int .i64 (0:Nat)] H=some (e,H')/\if(List.range l.length).all (zG4 l)then(e= .exit 0 [.ptr A 0]/\H'=H)else(e= .ret (.bool false)/\H'=H):=by
 refine QJ l.length (zG4 l) (fun i vs H'=>H'=H/\vs=[.ptr A 0,ks, .int .i64 (l.length:Nat), .int .i64 (i:Nat)]) (fun e H'=>e= .exit 0 [.ptr A 0]/\H'=H) (fun e H'=>e= .ret (.bool false)/\H'=H) ?_ ?_ ?_ v _ H ⟨rfl,rfl⟩ C
 .rintro i vs H' hi ⟨rfl,rfl⟩ a
  obtain⟨p,o,s⟩:=h.at hi;simp only[zG4,vN hi,zE,yO,zR]at a;refine⟨_,H', ?_,rfl,rfl⟩;have f:((i:Nat):Int)< ((l.length:Nat):Int):=by omega
  by_cases z:i=0
  .subst z;simp(disch:=omega) only[uD,eZ,f,o,s,wE,a.1,yA,show((0:Nat):Int)+((1:Nat):Int)=((0+1:Nat):Int)from rfl]
  .have j:i - 1<l.length:=by omega
   obtain⟨q,q1,q2⟩:=h.at j;have m:=a.2.resolve_left z;rw[vN j]at m;have t:((i:Nat):Int) - ((1:Nat):Int)=((i - 1:Nat):Int):=by omega
   have u:((0:Nat):Int)< (i:Int):=by omega
   simp(disch:=omega) only[uD,eZ,f,u,o,s,wE,a.1,jL x,y,t,q1,q2,m,yG]
 .rintro i vs H' hi ⟨rfl,rfl⟩ a
  obtain⟨p,o,s⟩:=h.at hi;have f:((i:Nat):Int)< ((l.length:Nat):Int):=by omega
  refine⟨.ret (.bool false),H', ?_,rfl,rfl,rfl⟩;simp only[zG4,vN hi]at a
  cases hm:Nd.mayK l[i]with
  | false=>simp(disch:=omega) only[uD,eZ,f,o,s,wE,hm]
  | true=>
   simp only[hm,Bool.true_and,Bool.or_eq_false_iff,yP]at a;have j:i - 1<l.length:=by omega
   obtain⟨q,q1,q2⟩:=h.at j;have m:=a.2;rw[vN j]at m;have t:((i:Nat):Int) - ((1:Nat):Int)=((i - 1:Nat):Int):=by omega
   have u:((0:Nat):Int)< (i:Int):=by omega
   simp(disch:=omega) only[uD,eZ,f,u,o,s,wE,hm,jL x,y,t,q1,q2,m]
 .rintro vs H' ⟨rfl,rfl⟩
  refine⟨.exit 0 [.ptr A 0],H', ?_,rfl,rfl,rfl⟩;simp only[uD,eZ,yA]
theorem zNG (D:Dyn)(n:Nat){H:AH}{vs:AV}{l:List Str}(h:Strs H vs l)(hl:l.length<=1000000000)(m:Nat)(t:l.length<m):
  ∃e H',jY m (fP D n) [vs, .int .i64 (l.length:Nat), .int .i64 (0:Nat)] H=some (e,H')/\if(List.range l.length).all (fun i=>decide ((l.getD i []).length<=200))then(e= .exit 2 []/\H'=H)else(e= .ret (.bool false)/\H'=H):=by
 refine QJ l.length _ (fun i a H'=>H'=H/\a=[vs, .int .i64 (l.length:Nat), .int .i64 (i:Nat)]) (fun e H'=>e= .exit 2 []/\H'=H) (fun e H'=>e= .ret (.bool false)/\H'=H) ?_ ?_ ?_ m _ H ⟨rfl,rfl⟩ t
 .rintro i a H' hi ⟨rfl,rfl⟩ o
  obtain⟨p,q,s⟩:=h.at hi;simp only[vN hi,zR]at o;refine⟨_,H', ?_,rfl,rfl⟩;have f:((i:Nat):Int)< ((l.length:Nat):Int):=by omega
  have j: ¬((200:Nat):Int)< ((l[i].length:Nat):Int):=by omega
  simp(disch:=omega) only[fP,eZ,f,q,s,j,yG]
 .rintro i a H' hi ⟨rfl,rfl⟩ o
  obtain⟨p,q,s⟩:=h.at hi;simp only[vN hi,yP]at o;refine⟨.ret (.bool false),H', ?_,rfl,rfl,rfl⟩;have f:((i:Nat):Int)< ((l.length:Nat):Int):=by omega
  have j:((200:Nat):Int)< ((l[i].length:Nat):Int):=by omega
  simp(disch:=omega) only[fP,eZ,f,q,s,j,yG]
 .rintro a H' ⟨rfl,rfl⟩
  refine⟨.exit 2 [],H', ?_,rfl,rfl,rfl⟩;simp only[fP,eZ,yA]
def pz:Ptr:=⟨0,0,0⟩
theorem zQl (x:Ptr):(((decide (x.at_< ((1:Nat):Int))||decide (((8192:Nat):Int)<=x.at_))||decide (x.birth< ((0:Nat):Int)))||decide (((2147483647:Nat):Int)<x.birth))= !(Nd.kidOk x):=by
 rw[yK];simp only[Nd.kidOk,yO,zR,yT,Bool.and_eq_false_iff,yP];omega
theorem zDO {H':AH}(f:H'.ok)(x:Ptr): ∃a,stN 3 (.ptr H'.next 0) (.agg (jR x)) (H'.push (.cells [.int .i64 (0:Nat), .int .i64 (0:Nat), .int .u64 (0:Nat)] 42 1 false))=some (jO,a)/\Prs H' a/\a.next=H'.next+1/\a.h.get H'.next=some (.cells (jR x) 42 1 false):=by
 refine⟨_,WE (zR8 _ _) (by decide) rfl rfl (by decide), ?_,rfl,by rw[zRc,if_pos rfl];rfl⟩;exact((zRf f).push _).fresh ((zRf (f.push _)).put (by rw[zR9];omega) _ (.inr rfl)) (fun A i=>by omega)
theorem zNF (D:Dyn)(n:Nat){H:AH}(z:H.ok){vs:AV}{l:List Ptr}(h:vS H vs l)(hl:l.length<=1000000000)(u:Nat)(C:l.length<u):
  ∃e H',jY u (cU D n) [vs, .int .i64 (l.length:Nat), .int .i64 (0:Nat)] H=some (e,H')/\if(List.range l.length).all (fun i=>Nd.kidOk (l.getD i pz))then(e= .exit 4 []/\Prs H H')else(e= .ret (.bool false)/\Prs H H'):=by
 refine QJ l.length _ (fun i q H'=>Prs H H'/\q=[vs, .int .i64 (l.length:Nat), .int .i64 (i:Nat)]) (fun e H'=>e= .exit 4 []/\Prs H H') (fun e H'=>e= .ret (.bool false)/\Prs H H') ?_ ?_ ?_ u _ H ⟨zRf z,rfl⟩ C
 .rintro i q H' hi ⟨a,rfl⟩ f
  obtain⟨p,v,j⟩:=(h.prs a).at hi;simp only[vN hi]at f;generalize l[i]=x at f j;obtain⟨y,m,s,F,o⟩:=zDO a.ok x;have t:((i:Nat):Int)< ((l.length:Nat):Int):=by omega
  have hb:=zQl x;rw[f]at hb;simp only[jR]at o m j;refine⟨_,y, ?_,a.trans s,rfl⟩;simp(disch:=omega) only[cU,eZ,t,v,j,kT a.ok,m,jL o,hb,yG]
 .rintro i q H' hi ⟨a,rfl⟩ f
  obtain⟨p,v,j⟩:=(h.prs a).at hi;simp only[vN hi]at f;generalize l[i]=x at f j;obtain⟨y,m,s,F,o⟩:=zDO a.ok x;have t:((i:Nat):Int)< ((l.length:Nat):Int):=by omega
  have hb:=zQl x;rw[f]at hb;simp only[jR]at o m j;refine⟨.ret (.bool false),y, ?_,rfl,rfl,a.trans s⟩;simp(disch:=omega) only[cU,eZ,t,v,j,kT a.ok,m,jL o,hb]
 .rintro q H' ⟨a,rfl⟩
  refine⟨.exit 4 [],H', ?_,rfl,rfl,a⟩;simp only[cU,eZ,yA]
theorem bE (D:Dyn)(n:Nat){H:AH}(T:H.ok){v:AV}{nd:Nd.Node}(h:hU H v nd)(hs:small nd)(hn:200000000<=n):
  ∃H',f109 D n [v] H=some (.bool (Nd.shaped ltS nd),H')/\Prs H H':=by
 obtain⟨ks,vs,q,rfl,f,m,o⟩:=h;obtain⟨s1,s2,s3⟩:=hs;have a:Prs H (H.push (.cells [.bool nd.leaf,ks,vs,q] 119 1 false)):=(zRf T).push _;have i:(H.push (.cells [.bool nd.leaf,ks,vs,q] 119 1 false)).h.get H.next=some (.cells [.bool nd.leaf,ks,vs,q] 119 1 false):=zR8 _ _
 have W:=Nd.sumL_ge nd.keys;have Y:=Nd.sumL_ge nd.vals;have hf:f109 D n [.agg [.bool nd.leaf,ks,vs,q]] H=dH (jb 0 (jY n (uD D n) [.ptr H.next 0,ks, .int .i64 (nd.keys.length:Nat), .int .i64 (0:Nat)] (H.push (.cells [.bool nd.leaf,ks,vs,q] 119 1 false))) (dG D n)):=by
  simp only[f109,eZ,kT T,f.lnSl]
 rw[hf];generalize H.push (.cells [.bool nd.leaf,ks,vs,q] 119 1 false)=H1 at a i;obtain⟨e0,N,e1,z⟩:=zNH D n (f.prs a) i (by rfl) (by omega) n (by omega);rw[e1];rw[zIz]at z;split at z
 .rename_i O;obtain⟨rfl,rfl⟩:=z;simp only[Nd.shaped,O,Bool.true_and];obtain⟨leaf,keys,vals,kids⟩:=nd;simp only at f m o i W Y s1 s2 s3 O⊢
  cases leaf with
  | true=>
   by_cases t:vals.length=keys.length/\kids.length=0
   .obtain⟨F,J⟩:=t;obtain⟨e3,u,x,j⟩:=zNG D n (m.prs a) (by omega) n (by omega);have y: ¬(((vals.length:Nat):Int)≠((keys.length:Nat):Int)):=by omega
    have s: ¬(((kids.length:Nat):Int)≠((0:Nat):Int)):=by omega
    have K:kids=[]:=zV J;rw[zCP vals ([]:Str) (fun v=>decide (v.length<=200))]at j;split at j
    .rename_i p;obtain⟨rfl,rfl⟩:=j;refine⟨u, ?_,a⟩;have hr:(decide (vals.length=keys.length)&&decide (kids=[])&&vals.all fun v=>decide (v.length<=200))=true:=by simp only[F,K,p,decide_true,qN]
     simp only[dG,eZ,jL i,f.lnSl,m.lnSl,o.lnSl,y,s,x,ZF,hr]
    .rename_i p;obtain⟨rfl,rfl⟩:=j;refine⟨u, ?_,a⟩;have hr:(decide (vals.length=keys.length)&&decide (kids=[])&&vals.all fun v=>decide (v.length<=200))=false:=by simp only[y8.2 p,Bool.and_false]
     simp only[dG,eZ,jL i,f.lnSl,m.lnSl,o.lnSl,y,s,x,ZF,hr]
   .refine⟨N, ?_,a⟩;have hr:(decide (vals.length=keys.length)&&decide (kids=[]))=false:=by
     rw[Bool.and_eq_false_iff,yP,yP];by_cases U:vals.length=keys.length
     .right;intro hb;exact t ⟨U,by rw[hb];rfl⟩
     .exact .inl U
    simp only[dG,eZ,jL i,f.lnSl,m.lnSl,o.lnSl,hr];rw[if_pos (by simp only[yO,zR];omega)];simp only[eZ]
  | false=>
   by_cases t:keys.length≠0/\vals.length=0/\kids.length=keys.length+1
   .obtain⟨F,J,Z⟩:=t;obtain⟨e3,u,x,j⟩:=zNF D n a.ok (o.prs a) (by omega) n (by omega);have y: ¬(((keys.length:Nat):Int)=((0:Nat):Int)):=by omega
    have s: ¬(((vals.length:Nat):Int)≠((0:Nat):Int)):=by omega
    have S: ¬(((kids.length:Nat):Int)≠((keys.length:Nat):Int)+((1:Nat):Int)):=by omega
    have a0:vals=[]:=zV J;have K:keys≠[]:=fun e=>F (by rw[e];rfl)
    rw[zCP kids pz Nd.kidOk]at j;split at j
    .rename_i p;obtain⟨rfl,L⟩:=j;refine⟨u, ?_,a.trans L⟩;have hr:(decide (keys≠[])&&decide (vals=[])&&decide (kids.length=keys.length+1)&&kids.all Nd.kidOk)=true:=by simp only[Z,a0,p,decide_eq_true K,decide_true,qN]
     simp(disch:=omega) only[dG,eZ,jL i,f.lnSl,m.lnSl,o.lnSl,y,s,S,x,JP,hr]
    .rename_i p;obtain⟨rfl,L⟩:=j;refine⟨u, ?_,a.trans L⟩;have hr:(decide (keys≠[])&&decide (vals=[])&&decide (kids.length=keys.length+1)&&kids.all Nd.kidOk)=false:=by simp only[y8.2 p,Bool.and_false]
     simp(disch:=omega) only[dG,eZ,jL i,f.lnSl,m.lnSl,o.lnSl,y,s,S,x,JP,hr]
   .refine⟨N, ?_,a⟩;have hr:(decide (keys≠[])&&decide (vals=[])&&decide (kids.length=keys.length+1))=false:=by
     rw[y8];intro C;simp only[zE,zR]at C;exact t ⟨fun e=>C.1.1 (zV e),by rw[C.1.2];rfl,C.2⟩
    simp(disch:=omega) only[dG,eZ,jL i,f.lnSl,m.lnSl,o.lnSl,hr];rw[if_pos (by simp only[yO,zR];omega)];simp only[eZ]
 .rename_i V;obtain⟨rfl,rfl⟩:=z;refine⟨N, ?_,a⟩;simp only[Nd.shaped,y8.2 V,eZ]
theorem zBL (nd:Nd.Node)(ks vs a:AV):uU [.bool nd.leaf,ks,vs,a] 0 4=some [.bool nd.leaf,ks,vs,a]:=rfl
theorem zIb (D:Dyn)(n:Nat){H:AH}(i:H.ok){v:AV}{nd:Nd.Node}(h:hU H v nd)(o:small nd)(p:200000000<=n):
  ∃H',f62 D n [v] H=some (.bool (Nd.may ltS nd),H')/\Prs H H':=by
 have q:=h;obtain⟨ks,vs,j,rfl,J,K,L⟩:=h;have a:Prs H (H.push (.cells [.bool nd.leaf,ks,vs,j] 119 1 false)):=(zRf i).push _;have x:(H.push (.cells [.bool nd.leaf,ks,vs,j] 119 1 false)).h.get H.next=some (.cells [.bool nd.leaf,ks,vs,j] 119 1 false):=zR8 _ _
 obtain⟨y,s,f⟩:=bE D n a.ok (q.prs a) o p;obtain⟨z,C,F,rfl,t⟩:=WH D n f.ok (q.prs (a.trans f)) o p
 cases m:Nd.shaped ltS nd with
 | true=>
  refine⟨C, ?_,(a.trans f).trans t⟩;have u:(((Nd.size nd:Nat):Int)<=((500:Nat):Int))=(Nd.size nd<=500):=by rw[eq_iff_iff];omega
  simp only[f62,eZ,kT i,zBL,zZ,s,m,jQ (f.get a.ok x),F,u,Nd.may]
 | false=>
  refine⟨y, ?_,a.trans f⟩;simp only[f62,eZ,kT i,zBL,zZ,s,m,Nd.may]
end Go.Eng.Sh
end
section
namespace Go.Eng
def dP (k e:Nat)(H:AH)(v:AV)(n:Nat)(l:List AV):Prop:=
 Own k e H v n l\/(l.length=n*k/\ ∃A a g,v= .slice A 0 n (2*n)/\A<H.next/\H.h.get A=some (.cells l a k g))
theorem dP.len {k e n:Nat}{H:AH}{v:AV}{l:List AV}(h:dP k e H v n l):l.length=n*k:=by
 rcases h with h | h
 .exact h.1
 .exact h.1
theorem dP.row {k e n:Nat}{H:AH}{v:AV}{l:List AV}(h:dP k e H v n l):Rw k H v n l:=by
 rcases h with h | ⟨a,A,f,g,rfl,i,j⟩
 .exact h.row
 .exact⟨a, .inr (.inr ⟨A,0,2*n,l,f,k,g,rfl,j,i,by omega,by rw[yB,zX (by omega)]⟩)⟩
theorem dP.mono {k e n:Nat}{S:Nat->Prop}{H H':AH}{v:AV}{l:List AV}(h:dP k e H v n l)(s:Stp S H H')(a: ∀A,Blk v A-> ¬S A):dP k e H' v n l:=by
 rcases h with h | ⟨i,A,j,g,rfl,f,m⟩
 .exact .inl (h.mono s a)
 .exact .inr ⟨i,A,j,g,rfl,qQ f s.next,by rw[s.keep A f (a A (zRd.2 rfl))];exact m⟩
theorem dP.lt {k e n:Nat}{H:AH}{v:AV}{l:List AV}(h:dP k e H v n l){B:Nat}(a:Blk v B):B<H.next:=by
 rcases h with⟨_,⟨rfl,_⟩ | ⟨A,rfl,f,_⟩⟩ | ⟨_,A,i,g,rfl,f,_⟩
 .exact(zRl.1 a).elim
 .rw[zRd.1 a];exact f
 .rw[zRd.1 a];exact f
theorem dP.app1 {k e bytes n m:Nat}{H:AH}{v:AV}{l new:List AV}(i:H.ok)(o:0<k)(h:dP k e H v n l)(hm:new.length=m*k)(z:n+m<=1000000000)(hb:bytes<=1000):
  ∃p H',Eng.app1 e k bytes m new v H=some (p,H')/\dP k e H' p (n+m) (l++new)/\Stp (Blk v) H H'/\(∀B,Blk p B->Blk v B\/H.next<=B):=by
 by_cases q:m=0
 .subst q;have:new=[]:=zV (by simpa using hm);subst this;rcases h with h | ⟨q,A,j,g,rfl,s,t⟩
  .obtain⟨H',f,u,y,K⟩:=VG (bytes:=bytes) i o h;exact⟨v,H',f, .inl (by simpa using u),y.mono (fun _ _ x=>x.elim),fun B a=> .inl a⟩
  .have C:kL l g k 0 (2*n) k=n:=by
    simp only[kL,show((2*n) % 2).beq 0=true by rw[jC];rfl,zM,yQ n (show 0<2 by omega)]
   have L:Nat.blt 0 k=true:=by rw[qD];exact o
   have F:setAt l (0+n*k) []=some l:=by rw[xD (by simp;omega)];simp
   have J:(H.put A (.cells l j k g)).h.get A=some (.cells l j k g):=by rw[zRc,if_pos rfl]
   refine⟨.slice A 0 n (2*n),H.put A (.cells l j k g), ?_, .inr ⟨by simpa using q,A,j,g,rfl,s,by simpa using J⟩,(zRf i).put s _ (.inr (zRd.2 rfl)),fun B a=> .inl a⟩;simp only[Eng.app1,t,zGu,C,Nat.add_zero,Nat.ble_eq_true_of_le (zQ n),zM,L,F,zCN,kO,kD]
 .rcases h with h | ⟨hl,A,j,g,rfl,s,t⟩
  .obtain⟨H',f,u,y,K⟩:=KN (bytes:=bytes) i o h hm (by omega) z hb;exact⟨_,H',f, .inl u,y,fun B a=> .inr (by rw[zRd.1 a];exact zQ _)⟩
  .have f:=VH (k:=k) (e:=e) (bytes:=bytes) (n:=n) (m:=m) (off:=0) (new:=new) i t (by omega) (by omega) z hb;rw[yB,zX (by omega)]at f;refine⟨_,_,f, .inl ⟨by simp[hl,hm,j7], .inr ⟨H.next,rfl,Nat.lt_succ_self _,zR8 _ _⟩⟩,(zRf i).push _,fun B a=> .inr (by rw[zRd.1 a];exact zQ _)⟩
theorem dP.app {k e bytes n m:Nat}{H:AH}{v s:AV}{l new:List AV}(i:H.ok)(f:0<k)(h:dP k e H v n l)(j:srcOf k s H=some (m,new))(hm:new.length=m*k)(o:jP new=true)(p:n+m<=1000000000)(hb:bytes<=1000):
  ∃a H',apP e k bytes v s H=some (a,H')/\dP k e H' a (n+m) (l++new)/\Stp (Blk v) H H'/\(∀B,Blk a B->Blk v B\/H.next<=B):=by
 obtain⟨a,H',q,t⟩:=h.app1 (bytes:=bytes) (e:=e) i f hm p hb;exact⟨a,H',by simp only[apP,j,o,zM,q],t⟩
theorem dP.isCell {k e n:Nat}{H:AH}{v:AV}{l:List AV}(h:dP k e H v n l):isCell v=true:=h.row.isCell
end Go.Eng
namespace Go.Eng.Sh
open Go.Nd (Ptr sumL encT encP)
def zKi (P:Nat->Prop)(H:AH)(A:Nat)(l:Str):Prop:= ∃v,Box H A v/\dP 1 5 H v l.length (jN l)/\(∀B,Blk v B-> ¬P B/\B≠A)/\ ¬P A
theorem zQY (e sz:Nat)(z x:AV)(h:isCell x=true):dL e 1 1 [z] [(0,x)]=some (.cells [x] e 1 false,fun A=> .slice A 0 1 2):=by
 simp only[dL,fK,kP h,Z4,yF,zM,rep];rfl
theorem zKi.app {P:Nat->Prop}{H:AH}{A:Nat}{l m:Str}(h:zKi P H A l)(o:H.ok)(F: ∀B,P B->B<H.next){s:AV}(J:srcOf 1 s H=some (m.length,jN m))(K:l.length+m.length<=1000000000):
  ∃v f H' i,ld1 (.ptr A 0) H=some v/\apP 5 1 1 v s H=some (f,H')/\stN 1 (.ptr A 0) f H'=some (jO,i)/\zKi P i A (l++m)/\Stp (fun B=> ¬P B) H i:=by
 obtain⟨v,hb,L,j,t⟩:=h;obtain⟨f,H',N,u,p,y⟩:=L.app (bytes:=1) o (by decide) J (by simp[jN]) (bytesV_cells m) K (by decide);have C:Box H' A v:=hb.mono o p (fun x=>(j A x).2 rfl);obtain⟨i,O,b2,z⟩:=C.st p.ok u.isCell;have S:=hb.lt o;have q: ∀B,Blk f B->B≠A:=fun B a e=>by
  rcases y B a with h | h
  .exact(j B h).2 e
  .omega
 refine⟨v,f,H',i,hb.ld,N,O,⟨f,b2, ?_,fun B a=>⟨fun hp=> ?_,q B a⟩,t⟩, ?_⟩
 .have:=u.mono z (fun B a=>q B a);simpa[jN]using this
 .rcases y B a with h | h
  .exact(j B h).1 hp
  .have:=F B hp;omega
 .exact(p.mono (fun B _ a=>(j B a).1)).trans (z.mono (fun B _ a=>by rw[a];exact t))
theorem zCZ (D:Dyn)(n:Nat){P:Nat->Prop}{H:AH}{A:Nat}{l s:Str}(h:zKi P H A l)(f:H.ok)(j: ∀B,P B->B<H.next)(Y:l.length+s.length+1<=1000000000):
  ∃H',f193 D n [S s, .ptr A 0] H=some (.tuple [],H')/\zKi P H' A (l++encT s)/\Stp (fun B=> ¬P B) H H':=by
 have q:IntKind.wrap .u8 ((s.length:Nat):Int)=(((UInt8.ofNat s.length).toNat:Nat):Int):=by rw[wrap_u8,UInt8.toNat_ofNat'];omega
 have a:Prs H (H.push (.cells [.int .u8 (((UInt8.ofNat s.length).toNat:Nat):Int)] 5 1 false)):=(zRf f).push _;have t:zKi P (H.push (.cells [.int .u8 (((UInt8.ofNat s.length).toNat:Nat):Int)] 5 1 false)) A l:=by
  obtain⟨v,hb,y,z,C⟩:=h;exact⟨v,hb.mono f a (fun x=>x),y.mono a (fun _ _ x=>x),z,C⟩
 have o:=WG (k:=1) H (jN [UInt8.ofNat s.length]) 5 1 false 1 2 rfl;obtain⟨v,Z,H1,F,J,K,L,N,st2⟩:=t.app a.ok (fun B i=>Nat.lt_succ_of_lt (j B i)) (m:=[UInt8.ofNat s.length]) o (by simp;omega);obtain⟨u,u',H3,O,T,U,V,W,st4⟩:=N.app st2.ok (fun B i=>qQ (j B i) (qP a.next st2.next)) (m:=s) (zD2 s F) (by simp;omega)
 have p:ld1 (.ptr A 0) H=some v:=by
  have:=J;rw[zDk _ _ (by obtain⟨v,hb,_⟩:=h;exact hb.lt f)]at this;exact this
 refine⟨O, ?_, ?_,(a.stp.trans st2).trans st4⟩
 .simp only[f193,eZ,p,q];rw[zQY 5 1 _ _ rfl];simp only[eZ,kT f,K,L,T,U,V]
 .simpa[encT]using W
theorem zML (D:Dyn)(n:Nat){P:Nat->Prop}{H:AH}{A E:Nat}{l:Str}{p:Ptr}(h:zKi P H A l)(f:H.ok)(q: ∀B,P B->B<H.next)(hp:Nd.mayP p=true)(s:Nd.sumOk p)(T:l.length+16<=1000000000)(j:100<=n):
  ∃H',f194 D n [.agg (jR p), .ptr E 0, .ptr A 0] H=some (.tuple [],H')/\zKi P H' A (l++encP p)/\Stp (fun B=> ¬P B) H H':=by
 have i:Prs H (H.push (.cells (jR p) 42 1 false)):=(zRf f).push _;obtain⟨t,u,o⟩:=zCn D n i.ok hp s j;have a:=i.trans o;have y:zKi P t A l:=by
  obtain⟨v,hb,z,C,F⟩:=h;exact⟨v,hb.mono f a (fun x=>x),z.mono a (fun _ _ x=>x),C,F⟩
 obtain⟨v,U,V,J,K,L,N,O,st4⟩:=y.app a.ok (fun B S=>qQ (q B S) a.next) (m:=encP p) (zD2 _ _) (by rw[Nd.encP_length];omega)
 refine⟨J, ?_,O,(Prs.stp a).trans st4⟩;simp only[f194,eZ,kT f,show uU (jR p) 0 3=some (jR p)from rfl,zZ,u,jM,nth,ne_eq,not_true_eq_false,zCd,K,L,N]
theorem zQR (m n:Nat)(x a:AV)(H:AH):callV [(109,f109 (dy (m+1)) n),(110,f110 (dy (m+1)) n)] (dy (m+1)) (.func 193 [] [a]) [x] H=f193 (dy m) m [x,a] H:=rfl
theorem zNd (m n:Nat)(x e a:AV)(H:AH):callV [(109,f109 (dy (m+1)) n),(110,f110 (dy (m+1)) n)] (dy (m+1)) (.func 194 [] [e,a]) [x] H=f194 (dy m) m [x,e,a] H:=rfl
structure EncI (N E:Nat)(A:Nat)(H0 H:AH)(l:Str):Prop where
 prs:Prs H0 H
 n:H0.next=N
 out:zKi (fun B=>B<N\/B=E) H A l
 err:Box H E (.int .i64 (0:Nat))
theorem EncI.step {N E A:Nat}{H0 H H':AH}{l l':Str}(h:EncI N E A H0 H l)(f:zKi (fun B=>B<N\/B=E) H' A l')(a:Stp (fun B=> ¬(B<N\/B=E)) H H'):EncI N E A H0 H' l':=
 ⟨h.prs.fresh a (fun B j=>by rw[h.n];omega),h.n,f,h.err.mono h.prs.ok a (fun i=>i (.inr rfl))⟩
theorem EncI.lt {N E A:Nat}{H0 H:AH}{l:Str}(h:EncI N E A H0 H l): ∀B,(B<N\/B=E)->B<H.next:=by
 rintro B (a | rfl)
 .have:=h.prs.next;rw[h.n]at this;omega
 .exact h.err.lt h.prs.ok
theorem zLE (m n:Nat){N E A X:Nat}{H0 H:AH}{ks vs J:AV}{keys vals:List Str}(hX:H0.h.get X=some (.cells [.bool true,ks,vs,J] 119 1 false))(v:H0.ok)(K:Strs H0 ks keys)(L:Strs H0 vs vals)(hl:vals.length=keys.length)
  (hb:sumL keys+sumL vals<=10000000) (hd:Str) (a0:hd.length<=1000) (h:EncI N E A H0 H hd) (o:Nat) (x:keys.length<o):
  ∃H',jY o (gJ (dy (m+1)) n) [.ptr X 0, .ptr A 0, .ptr E 0, .func 193 [] [.ptr A 0], .func 194 [] [.ptr E 0, .ptr A 0],ks, .int .i64 (keys.length:Nat), .int .i64 (0:Nat)] H=some (.exit 0 [.ptr A 0, .ptr E 0],H')/\EncI N E A H0 H' (hd++Nd.encL keys vals):=by
 have a1:=Nd.sumL_ge keys;have key:=vJ (b:=gJ (dy (m+1)) n) keys.length (fun i t H'=>t=[.ptr X 0, .ptr A 0, .ptr E 0, .func 193 [] [.ptr A 0], .func 194 [] [.ptr E 0, .ptr A 0],ks, .int .i64 (keys.length:Nat), .int .i64 (i:Nat)]/\EncI N E A H0 H' (hd++Nd.encL (keys.take i) (vals.take i)))
  (fun i t H1 hi ⟨y,a⟩=>by
   subst y;have j:i<vals.length:=by omega
   obtain⟨p,O,S⟩:=(K.prs a.prs).at hi;obtain⟨_,a2⟩:=WA keys i hi;obtain⟨_,a3⟩:=WA vals i j;have u:(Nd.encL (keys.take i) (vals.take i)).length=sumL (keys.take i)+sumL (vals.take i):=Nd.encL_length _ _ (by simp[hl]);obtain⟨H2,T,U,st2⟩:=zCZ (dy m) m (s:=keys[i]) a.out a.prs.ok a.lt (by simp only[zT,u];omega);have f:=a.step U st2;obtain⟨q,q1,q2⟩:=(L.prs f.prs).at j;obtain⟨V,W,Y,z⟩:=zCZ (dy m) m (s:=vals[i]) f.out f.prs.ok f.lt (by simp only[zT,u,Nd.encT,zW];omega);have C:=f.step Y z;have F:((i:Nat):Int)< ((keys.length:Nat):Int):=by omega
   refine⟨_,V, ?_,rfl, ?_⟩
   .simp(disch:=omega) only[gJ,eZ,F,O,S,zQR,T,jL (f.prs.get v hX),q1,q2,W,QS,yG]
   .rw[wW keys i hi,wW vals i j,Nd.encL_snoc _ _ _ _ (by simp[hl])];simpa using C) o _ H ⟨rfl,by simpa[Nd.encL]using h⟩ x
 obtain⟨k,t,H',Z,rfl,a⟩:=key;refine⟨H', ?_,by rw[zX (zQ _),zX (by omega)]at a;exact a⟩;rw[Z];exact jU (by simp only[gJ,eZ,yA])
theorem zLF (m n:Nat)(hm:100<=m){N E A X:Nat}{H0 H:AH}{ks vs x:AV}{keys:List Str}{T:Ptr}{kids:List Ptr}(hX:H0.h.get X=some (.cells [.bool false,ks,vs,x] 119 1 false))(z:H0.ok)(U:Strs H0 ks keys)(V:vS H0 x (T::kids))(hl:kids.length=keys.length)
  (y: ∀p∈kids,Nd.mayP p=true/\Nd.sumOk p) (hb:sumL keys+16*kids.length<=10000000) (hd:Str) (a0:hd.length<=1000) (h:EncI N E A H0 H hd) (o:Nat) (C:keys.length<o):
  ∃H',jY o (gJ (dy (m+1)) n) [.ptr X 0, .ptr A 0, .ptr E 0, .func 193 [] [.ptr A 0], .func 194 [] [.ptr E 0, .ptr A 0],ks, .int .i64 (keys.length:Nat), .int .i64 (0:Nat)] H=some (.exit 0 [.ptr A 0, .ptr E 0],H')/\EncI N E A H0 H' (hd++Nd.encI keys kids):=by
 have a1:=Nd.sumL_ge keys;have key:=vJ (b:=gJ (dy (m+1)) n) keys.length (fun i t H'=>t=[.ptr X 0, .ptr A 0, .ptr E 0, .func 193 [] [.ptr A 0], .func 194 [] [.ptr E 0, .ptr A 0],ks, .int .i64 (keys.length:Nat), .int .i64 (i:Nat)]/\EncI N E A H0 H' (hd++Nd.encI (keys.take i) (kids.take i)))
  (fun i t H1 hi ⟨F,a⟩=>by
   subst F;have j:i<kids.length:=by omega
   obtain⟨p,W,Y⟩:=(U.prs a.prs).at hi;obtain⟨_,a2⟩:=WA keys i hi;have u:(Nd.encI (keys.take i) (kids.take i)).length=sumL (keys.take i)+16*(kids.take i).length:=Nd.encI_length _ _ (by simp[hl]);have v:(kids.take i).length=i:=by simp;omega
   obtain⟨H2,Z,o2,st2⟩:=zCZ (dy m) m (s:=keys[i]) a.out a.prs.ok a.lt (by simp only[zT,u,v];omega);have f:=a.step o2 st2;obtain⟨q,q1,q2⟩:=vS.at (V.prs f.prs) (i:=i+1) (by simpa using j);obtain⟨J,K⟩:=y _ (qY j);obtain⟨H3,e3,o3,L⟩:=zML (dy m) m (E:=E) (p:=kids[i]) f.out f.prs.ok f.lt J K (by simp only[zT,u,v,Nd.encT,zW];omega) hm;have O:=f.step o3 L;have S:((i:Nat):Int)< ((keys.length:Nat):Int):=by omega
   simp only[List.getElem_cons_succ]at q2;refine⟨_,H3, ?_,rfl, ?_⟩
   .simp(disch:=omega) only[gJ,eZ,S,W,Y,zQR,Z,jL (f.prs.get z hX),q1,q2,zNd,e3,QS,yG]
   .rw[wW keys i hi,wW kids i j,Nd.encI_snoc _ _ _ _ (by simp[hl])];simpa using O) o _ H ⟨rfl,by simpa[Nd.encI]using h⟩ C
 obtain⟨k,t,H',e1,rfl,a⟩:=key;refine⟨H', ?_,by rw[zX (zQ _),zX (by omega)]at a;exact a⟩;rw[e1];exact jU (by simp only[gJ,eZ,yA])
theorem Box.new (H:AH)(v:AV)(e:TypeId):Box (H.push (.cells [v] e 1 false)) H.next v:=⟨e,zR8 _ _⟩
theorem zOV {H:AH}(O:H.ok)(k:Nat): ∃a j,stN 1 (.ptr (H.next+1) 0) (.slice H.next 0 2 4) ((H.push (.cells [.int .u8 (((UInt8.ofNat (k / 256)).toNat:Nat):Int), .int .u8 (((UInt8.ofNat k).toNat:Nat):Int)] 5 1 false)).push (.cells [.nilSlice] 216 1 false))=some (jO,a)/\a.ok/\a.next=H.next+2/\
  stN 1 (.ptr (H.next+2) 0) (.int .i64 (0:Nat)) (a.push (.cells [.int .i64 (0:Nat)] 32 1 false))=some (jO,j)/\EncI H.next (H.next+2) (H.next+1) H j (Nd.be 2 k):=by
 have m:Prs H (H.push (.cells [.int .u8 (((UInt8.ofNat (k / 256)).toNat:Nat):Int), .int .u8 (((UInt8.ofNat k).toNat:Nat):Int)] 5 1 false)):=(zRf O).push _;have z:(H.push (.cells [.int .u8 (((UInt8.ofNat (k / 256)).toNat:Nat):Int), .int .u8 (((UInt8.ofNat k).toNat:Nat):Int)] 5 1 false)).h.get H.next=some (.cells (jN (Nd.be 2 k)) 5 1 false):=zR8 _ _
 have C:(H.push (.cells [.int .u8 (((UInt8.ofNat (k / 256)).toNat:Nat):Int), .int .u8 (((UInt8.ofNat k).toNat:Nat):Int)] 5 1 false)).next=H.next+1:=rfl
 generalize H.push (.cells [.int .u8 (((UInt8.ofNat (k / 256)).toNat:Nat):Int), .int .u8 (((UInt8.ofNat k).toNat:Nat):Int)] 5 1 false)=H4 at m z C;have p:=Box.new H4 .nilSlice 216;have q:Prs H4 (H4.push (.cells [.nilSlice] 216 1 false)):=(zRf m.ok).push _;have F:(H4.push (.cells [.nilSlice] 216 1 false)).next=H4.next+1:=rfl
 have J:=q.get m.ok z;generalize H4.push (.cells [.nilSlice] 216 1 false)=H5 at q p F J;rw[C]at p F;obtain⟨a,s,S,f⟩:=p.st q.ok (x:= .slice H.next 0 2 4) rfl
 have n6:=f.next
 have T:a.h.get H.next=some (.cells (jN (Nd.be 2 k)) 5 1 false):=by rw[f.keep _ (by omega) (by omega)];exact J
 have v:a.next=H.next+2:=by
  have:a.next=H5.next:=by
   obtain⟨e,hb⟩:=p;have:=dW (x:= .slice H.next 0 2 4) (o:=0) hb (by decide) rfl (by simp)
   rw[this]at s;simp only[zB,zU,true_and]at s;rw[<-s];rfl
  omega
 have U:Prs H a:=(m.trans q).fresh f (fun A V=>by omega);have u:=Box.new a (.int .i64 (0:Nat)) 32;have i:Prs a (a.push (.cells [.int .i64 (0:Nat)] 32 1 false)):=(zRf f.ok).push _;have K:(a.push (.cells [.int .i64 (0:Nat)] 32 1 false)).next=a.next+1:=rfl
 have L:=i.get f.ok T;have y:=S.mono f.ok i (fun x=>x);generalize N:a.push (.cells [.int .i64 (0:Nat)] 32 1 false)=H7 at i u K L y;rw[v]at u K;obtain⟨j,W,Y,t⟩:=u.st i.ok (x:= .int .i64 (0:Nat)) rfl;have n8:=t.next
 refine⟨a,j,s,f.ok,v,by rw[N];exact W,⟨(U.trans i).fresh t (fun A V=>by omega),rfl,⟨_,y.mono i.ok t (by omega), .inr ⟨rfl,H.next,5,false,rfl,by omega,by rw[t.keep _ (by omega) (by omega)];exact L⟩, ?_,by omega⟩,Y⟩⟩
 intro B Z;rw[zRd]at Z;omega
theorem ZJ (a b c d:AV):uU [a,b,c,d] 0 4=some [a,b,c,d]:=rfl
def zN8 (nd:Nd.Node):Str×Nat:=if Nd.shaped ltS nd then if Nd.size nd<=500 then(Nd.encN nd,0)else([],40)else([],4)
theorem zJo (m n:Nat)(hm:100<=m)(hn:200000000<=n){H:AH}(O:H.ok){v:AV}{nd:Nd.Node}(h:hU H v nd)(hs:small nd)(a0: ∀p∈nd.kids,Nd.sumOk p):
  ∃H',f149 (dy (m+1)) n [v] H=some (.tuple [S (zN8 nd).1, .int .i64 ((zN8 nd).2:Nat)],H')/\Prs H H':=by
 obtain⟨leaf,keys,vals,kids⟩:=nd;have h0:=h;obtain⟨ks,vs,ps,rfl,T,h2,h3⟩:=h;simp only at h0 T h2 h3 a0⊢;have U:Prs H (H.push (.cells [.bool leaf,ks,vs,ps] 119 1 false)):=(zRf O).push _;have Z:(H.push (.cells [.bool leaf,ks,vs,ps] 119 1 false)).h.get H.next=some (.cells [.bool leaf,ks,vs,ps] 119 1 false):=zR8 _ _
 obtain⟨H2,e2,L⟩:=bE (dy (m+1)) n U.ok (h0.prs U) hs hn;have a5:(AV.str 0 0)=S []:=rfl
 cases J:Nd.shaped ltS ⟨leaf,keys,vals,kids⟩with
 | false=>
  refine⟨H2, ?_,U.trans L⟩;simp only[f149,eZ,kT O,ZJ,zZ,e2,J,zN8,a5]
 | true=>
  have W:=L.get U.ok Z;have a1:Prs H H2:=U.trans L;obtain⟨z,o,e3,rfl,f⟩:=WH (dy (m+1)) n L.ok (h0.prs a1) hs hn;have K:=f.get L.ok W;have t:Prs H o:=a1.trans f;by_cases Y:Nd.size ⟨leaf,keys,vals,kids⟩<=500
  .have V: ¬((500:Nat):Int)< ((Nd.size ⟨leaf,keys,vals,kids⟩:Nat):Int):=by omega
   obtain⟨H6,H8,e6,a6,n6,e8,j⟩:=zOV f.ok keys.length;have b5:=Nd.be_length 2 keys.length;have w1:IntKind.wrap .u8 (((keys.length:Nat):Int) / 2 ^ 8)=(((UInt8.ofNat (keys.length / 256)).toNat:Nat):Int):=by rw[wrap_u8,UInt8.toNat_ofNat'];omega
   have w2:IntKind.wrap .u8 ((keys.length:Nat):Int)=(((UInt8.ofNat keys.length).toNat:Nat):Int):=by rw[wrap_u8,UInt8.toNat_ofNat'];omega
   have a7: ∀x y:Int,dL 5 1 2 [.int .u8 ((0:Nat):Int)] [(0, .int .u8 x),(1, .int .u8 y)]=some (.cells [.int .u8 x, .int .u8 y] 5 1 false,fun A=> .slice A 0 2 4):=fun x y=>rfl
   have C:=J;simp only[Nd.shaped,zE]at C;have b6:=Nd.sumL_ge keys;have a2:=Y;simp only[Nd.size]at a2;have a8:=zFl .i64 .u64 (a:=((keys.length:Nat):Int)) (s:=8) (by omega) (by decide);have a9:jT AV.nilSlice=[AV.nilSlice]:=rfl;have b0: ∀z:Int,jT (AV.int .i64 z)=[AV.int .i64 z]:=fun _=>rfl
   have a3: ∀(F:AH) (l:Str),EncI o.next (o.next+2) (o.next+1) o F l-> ∃v,ld1 (.ptr (o.next+2) 0) F=some (.int .i64 (0:Nat))/\ld1 (.ptr (o.next+1) 0) F=some v/\zFb v F=some (S l):=by
    intro F l j;obtain⟨v,hb,Z,_⟩:=j.out;refine⟨v,j.err.ld,hb.ld,KG Z.row ?_⟩;rcases Z with⟨_,⟨rfl,_⟩ | ⟨A,rfl,_⟩⟩ | ⟨_,A,e',g,rfl,_⟩<;>simp
   cases leaf with
   | true=>
    simp only[if_true,zE,zR]at C;obtain⟨F,e9,N⟩:=zLE m n K f.ok (T.prs t) (h2.prs t) C.2.1.1 (by omega) _ (by omega) j n (by omega);obtain⟨u,u1,u2,u3⟩:=a3 _ _ N;refine⟨F, ?_,t.trans N.prs⟩;simp(disch:=omega) only[f149,eZ,kT O,ZJ,zZ,e2,J,jQ W,e3,V,jL K,T.lnSl,a8,w1,w2,a7,kT f.ok,kT (f.ok.push _),zR9,a9,e6,kT a6,n6,b0,e8,BB,jL (j.prs.get f.ok K),e9,XX,u1,u2,u3,ne_eq,not_true_eq_false];simp only[zN8,J,if_true,if_pos Y,Nd.encN,Nd.encB]
   | false=>
    simp only[zL,qC,zE,zR,y9]at C
    cases kids with
    | nil=>simp at C
    | cons k0 kids=>
     simp only[zW]at a2 C;have b1:=C.2.2 k0 (zK ..);obtain⟨p,p1,p2⟩:=vS.at (h3.prs (t.trans j.prs)) (i:=0) (by simp);simp only[List.getElem_cons_zero]at p2;obtain⟨F,e9,o9,b2⟩:=zML (dy m) m (E:=o.next+2) (p:=k0) j.out j.prs.ok j.lt (Nd.kidOk_may b1) (a0 k0 (zK ..)) (by omega) hm
     have N:=j.step o9 b2;obtain⟨b3,b4,a4⟩:=zLF m n hm K f.ok (T.prs t) (h3.prs t) (by omega) (fun q hq=>⟨Nd.kidOk_may (C.2.2 q (zC _ hq)),a0 q (zC _ hq)⟩) (by omega) _ (by rw[zT,Nd.encP_length];omega) N n (by omega);obtain⟨u,u1,u2,u3⟩:=a3 _ _ a4;refine⟨b3, ?_,t.trans a4.prs⟩;simp(disch:=omega) only[f149,eZ,kT O,ZJ,zZ,e2,J,jQ W,e3,V,jL K,T.lnSl,a8,w1,w2,a7,kT f.ok,kT (f.ok.push _),zR9,a9,e6,kT a6,n6,b0,e8,jL (j.prs.get f.ok K),p1,p2,zNd,e9,BB,jL (N.prs.get f.ok K),b4,XX,u1,u2,u3,ne_eq,not_true_eq_false];simp only[zN8,J,if_true,if_pos Y,Nd.encN,Nd.encB,zL,qC,qI]
  .have V:((500:Nat):Int)< ((Nd.size ⟨leaf,keys,vals,kids⟩:Nat):Int):=by omega
   refine⟨o, ?_,t⟩;simp only[f149,eZ,kT O,ZJ,zZ,e2,J,jQ W,e3,V,zN8,Y,a5]
open Go.Nd (bee mayP xI)
theorem zDS {a b:Nat}(t:a<18446744073709551616)(hb:b<256):kI .or (.int .u64 ((a*256:Nat):Int)) (.int .u64 (b:Int))=some (.int .u64 (((a*256+b):Nat):Int))\/18446744073709551616<=a*256:=by
 by_cases h:a*256<18446744073709551616
 .left;have f:Nat.blt (a*256) (KA .u64)=true:=by rw[qD];exact h
  have j:Nat.blt b (KA .u64)=true:=by rw[qD];exact Nat.lt_trans hb (by decide)
  have m:Nat.lor (a*256) b=a*256+b:=by
   have:=Nat.two_pow_add_eq_or_of_lt (b:=b) (i:=8) (by omega) a;rw[Nat.mul_comm a 256];exact this.symm
  have o:keq .u64 .u64=true:=rfl;have p:IntKind.wrap .u64 ((a*256+b:Nat):Int)=((a*256+b:Nat):Int):=by rw[wrap_u64];omega
  have q:Q2 .or .u64 (.ofNat (a*256)) (.ofNat b)=some (.int .u64 ((a*256+b:Nat):Int)):=by
   simp only[Q2,IntKind.signed,Bool.not_false,f,j,qN,zM,m,vX,Int.ofNat_eq_natCast,p]
  have s:kI .or (.int .u64 (.ofNat (a*256))) (.int .u64 (.ofNat b))=Q2 .or .u64 (.ofNat (a*256)) (.ofNat b):=by simp only[kI,gY,o,zM]
  exact s.trans q
 .right;omega
theorem zGi (l:Str)(i:Nat)(h:i<l.length):(jN l)[i]? =some (.int .u8 ((l[i].toNat:Nat):Int)):=by simp[jN,h]
theorem zM3 (l:Str)(i:Nat)(h:i<l.length):bee (l.take (i+1))=bee (l.take i)*256+l[i].toNat:=by rw[wW l i h,Nd.bee_snoc]
theorem zC4 (D:Dyn)(n:Nat){H:AH}{v:AV}{l:Str}(h:Rw 1 H v l.length (jN l))(hl:l.length<=8)(K:100<=n):f226 D n [v] H=some (.int .u64 (bee l:Nat),H):=by
 have key:=vK (b:=Z7 D n) (H:=H) (r:=some (.exit 0 [.int .u64 (bee l:Nat)],H)) (fun i=>[.int .u64 (bee (l.take i):Nat),v, .int .i64 (l.length:Nat), .int .i64 (i:Nat)]) l.length (fun i hi=>by
  obtain⟨p,x,u,y,f⟩:=h.ld1 hi;rw[zGi l i hi]at f;simp only[zB]at f;subst f;have o:=Nd.bee_lt (l.take i);have m:(l.take i).length=i:=by simp;omega
  have hp:256 ^ i<=256 ^ 7:=Nat.pow_le_pow_right (by omega) (by omega);rw[m]at o;have hb:bee (l.take i)<72057594037927936:=by
   have:(256:Nat) ^ 7=72057594037927936:=by decide
   omega
  have z:l[i].toNat<256:=l[i].toNat_lt;have q:((i:Nat):Int)< ((l.length:Nat):Int):=by omega
  have C:IntKind.wrap .u64 (((bee (l.take i):Nat):Int)*2 ^ 8)=((bee (l.take i)*256:Nat):Int):=by rw[wrap_u64];omega
  have F:IntKind.wrap .u64 ((l[i].toNat:Nat):Int)=((l[i].toNat:Nat):Int):=by rw[wrap_u64];omega
  have t:=(zDS (a:=bee (l.take i)) (b:=l[i].toNat) (by omega) z).resolve_right (by omega);have j:=zFm .u64 .u64 ((bee (l.take i):Nat):Int) (s:=8) (by decide);rw[C]at j;simp(disch:=omega) only[Z7,eZ,q,u,y,j,F,t,zM3 l i hi];simp only[yG]) (fun n=>jU (by
  simp only[Z7,eZ,yA,zX (zQ _)])) n (by omega)
 have J:f226 D n [v] H=dH (jb 0 (jY n (Z7 D n) [.int .u64 (bee (l.take 0):Nat),v, .int .i64 (l.length:Nat), .int .i64 (0:Nat)] H) (XQ D n)):=by
  simp only[f226,eZ,h.lnSl];rfl
 rw[J,key];simp only[eZ,XQ]
theorem zN9 (s:Str)(h:s.length<4611686018427387904):zNa 5 (S s)=some (.cells (jN s) 5 1 true,fun A=> .slice A 0 s.length 1):=by
 have:Nat.blt s.length 4611686018427387904=true:=by rw[qD];exact h
 simp only[zNa,S,this,zM,VD]
theorem jW {H:AH}(a:H.ok){A:Nat}{l l':List AV}{e:TypeId}(h:H.h.get A=some (.cells l e 1 false))(hl:l'.length=l.length)(f:jP l'=true):
  ∃H',stN l.length (.ptr A 0) (.agg l') H=some (jO,H')/\H'.h.get A=some (.cells l' e 1 false)/\Stp (fun B=>B=A) H H'/\H'.next=H.next:=by
 refine⟨_,WE h (by decide) hl f (by omega), ?_,(zRf a).put (a.lt h) _ (.inr rfl),rfl⟩;rw[zRc,if_pos rfl];simp[jT]
theorem zJz (D:Dyn)(n:Nat){H:AH}(x:H.ok){s:Str}(a:s.length=16)(y:100<=n):
  ∃H',zKm D n [S s] H=some (.tuple [.agg (jR (if mayP (xI s)then xI s else pz)), .int .i64 ((if mayP (xI s)then 0 else 4:Nat):Int)],H')/\Prs H H':=by
 have Y: ¬(((s.length:Nat):Int)≠((16:Nat):Int)):=by omega
 have i:Prs H (H.push (.cells (jR pz) 42 1 false)):=(zRf x).push _;have g1:(H.push (.cells (jR pz) 42 1 false)).h.get H.next=some (.cells (jR pz) 42 1 false):=zR8 _ _
 have n1:(H.push (.cells (jR pz) 42 1 false)).next=H.next+1:=rfl
 generalize a0:H.push (.cells (jR pz) 42 1 false)=H1 at i g1 n1;have j:Prs H1 (H1.push (.cells (jN s) 5 1 true)):=(zRf i.ok).push _;have g2:(H1.push (.cells (jN s) 5 1 true)).h.get H1.next=some (.cells (jN s) 5 1 true):=zR8 _ _
 have n2:(H1.push (.cells (jN s) 5 1 true)).next=H1.next+1:=rfl
 generalize a1:H1.push (.cells (jN s) 5 1 true)=H2 at j g2 n2;have T:ldN 16 (.ptr H1.next 0) H2=some (.agg (jN s)):=by
  rw[jQ g2,kW _ _ _ (.inr (by simp[jN,a])),yB,zX (by simp[jN,a])];rfl
 have z:Prs H2 (H2.push (.cells (Z 16) 232 1 false)):=(zRf j.ok).push _;have g3:(H2.push (.cells (Z 16) 232 1 false)).h.get H2.next=some (.cells (Z 16) 232 1 false):=zR8 _ _
 have n3:(H2.push (.cells (Z 16) 232 1 false)).next=H2.next+1:=rfl
 generalize a2:H2.push (.cells (Z 16) 232 1 false)=H3 at z g3 n3;obtain⟨f,e4,g4,m,n4⟩:=jW z.ok g3 (l':=jN s) (by simp[jN,Z,a]) (bytesV_cells s);have a3:stN 16 (.ptr H2.next 0) (.agg (jN s)) H3=some (jO,f):=e4
 have t:Prs f (f.push (.cells (jR pz) 42 1 false)):=(zRf m.ok).push _;have g5:(f.push (.cells (jR pz) 42 1 false)).h.get f.next=some (.cells (jR pz) 42 1 false):=zR8 _ _
 have n5:(f.push (.cells (jR pz) 42 1 false)).next=f.next+1:=rfl
 have p:=t.get m.ok g4;generalize a4:f.push (.cells (jR pz) 42 1 false)=H5 at t g5 n5 p;have b0:Rw 1 H5 (.slice H2.next 0 4 32) (s.take 4).length (jN (s.take 4)):=by
  refine⟨by simp[jN], .inr (.inr ⟨H2.next,0,32,_,_,_,_, ?_,p,by omega,by simp[jN];omega, ?_⟩)⟩
  .simp[a]
  .simp[jN,a]
 have b3:Rw 1 H5 (.slice H2.next 4 4 24) ((s.drop 4).take 4).length (jN ((s.drop 4).take 4)):=by
  refine⟨by simp[jN], .inr (.inr ⟨H2.next,4,24,_,_,_,_, ?_,p,by omega,by simp[jN];omega, ?_⟩)⟩
  .simp[a]
  .simp[jN,a]
 have b4:Rw 1 H5 (.slice H2.next 8 8 16) (s.drop 8).length (jN (s.drop 8)):=by
  refine⟨by simp[jN], .inr (.inr ⟨H2.next,8,16,_,_,_,_, ?_,p,by omega,by simp[jN];omega, ?_⟩)⟩
  .simp[a]
  .rw[zX (by simp[jN,a])];simp[jN]
 have q1:=zC4 D n b0 (by simp;omega) y;have q2:=zC4 D n b3 (by simp;omega) y;have q3:=zC4 D n b4 (by simp;omega) y;have b1:=Nd.bee_lt (s.take 4);have b2:=Nd.bee_lt ((s.drop 4).take 4);rw[show(s.take 4).length=4 by simp;omega]at b1;rw[show((s.drop 4).take 4).length=4 by simp;omega]at b2;have w1:IntKind.wrap .i64 ((bee (s.take 4):Nat):Int)=((bee (s.take 4):Nat):Int):=wrap_i64 (by omega) (by omega);have w2:IntKind.wrap .i64 ((bee ((s.drop 4).take 4):Nat):Int)=((bee ((s.drop 4).take 4):Nat):Int):=wrap_i64 (by omega) (by omega);obtain⟨H6,e6,C,u,n6⟩:=jW t.ok g5 (l':=jR (xI s)) rfl rfl;have a5:stN 3 (.ptr f.next 0) (.agg (jR (xI s))) H5=some (jO,H6):=e6
 obtain⟨F,e7,J⟩:=zMK D n u.ok (xI s);have g7:=J.get u.ok C;have U:Prs H1 H6:=((((j.trans z).fresh m (fun B K=>by omega)).trans t).fresh u (fun B K=>by omega));have a6:=J.get u.ok (U.get i.ok g1);have q:Prs H F:=(i.trans U).trans J;have V:uU (jR (xI s)) 0 3=some (jR (xI s)):=rfl;have b6:(AV.agg [.int .i64 ((0:Nat):Int), .int .i64 ((0:Nat):Int), .int .u64 ((0:Nat):Int)])= .agg (jR pz):=rfl;have W:([.int .i64 ((0:Nat):Int), .int .i64 ((0:Nat):Int), .int .u64 ((0:Nat):Int)]:List AV)=jR pz:=rfl;have b5:vR [(0,1),(1,1),(2,1)] (jR pz) []=some (.agg (jR pz)):=rfl;have a7:vR [(0,1),(1,1),(2,1)] (jR pz) [(0, .int .i64 ((bee (s.take 4):Nat):Int)),(1, .int .i64 ((bee ((s.drop 4).take 4):Nat):Int)),(2, .int .u64 ((bee (s.drop 8):Nat):Int))]=some (.agg (jR (xI s))):=rfl;have a8: ∀A:Nat,s2a 16 (.slice A 0 16 1)=some (.ptr A 0):=fun _=>rfl
 have a9:uU (jR pz) 0 3=some (jR pz):=rfl
 cases hm:mayP (xI s)with
 | false=>
  obtain⟨o,L,N,O,n8⟩:=jW q.ok a6 (l':=jR pz) rfl rfl;have v:stN 3 (.ptr H.next 0) (.agg (jR pz)) F=some (jO,o):=L
  refine⟨o, ?_,q.fresh O (fun B K=>by omega)⟩;simp(disch:=omega) only[zKm,eZ,W,kT x,a0,Y,zN9 s (by omega),a,kT i.ok,a1,a8,T,kT j.ok,zNT,a2,a3,zHf,zHe,slA _ 4 8 (by omega) (by omega) (by omega),kT m.ok,a4,q1,w1,q2,w2,q3,a7,a5,jQ C,V,zZ,e7,hm,b5,v,jQ N,a9];rfl
 | true=>
  obtain⟨o,L,N,O,n8⟩:=jW q.ok a6 (l':=jR (xI s)) rfl rfl;have v:stN 3 (.ptr H.next 0) (.agg (jR (xI s))) F=some (jO,o):=L
  refine⟨o, ?_,q.fresh O (fun B K=>by omega)⟩;simp(disch:=omega) only[zKm,eZ,W,kT x,a0,Y,zN9 s (by omega),a,kT i.ok,a1,a8,T,kT j.ok,zNT,a2,a3,zHf,zHe,slA _ 4 8 (by omega) (by omega) (by omega),kT m.ok,a4,q1,w1,q2,w2,q3,a7,a5,jQ C,V,zZ,e7,hm,jQ g7,v,jQ N];rfl
open Go.Nd (xR fT)
theorem Stp.via {S T:Nat->Prop}{H0 H a:AH}(h:Stp S H0 H)(k:Stp T H a)(f: ∀A,T A->H0.next<=A\/S A):Stp S H0 a:=
 ⟨k.ok,qP h.next k.next,fun A i j=>by
  rw[k.keep A (qQ i h.next) (fun x=>by rcases f A x with y | y;omega;exact j y),h.keep A i j]⟩
structure RdI (R:Nat)(H0 H:AH)(rest:Str)(bad leaf:Bool)(kv vv pv:AV)(ks vs:List Str)(ps:List Ptr):Prop where
 prs:Stp (fun B=>B=R) H0 H
 get: ∃e,H.h.get R=some (.cells [S rest, .bool bad, .bool leaf,kv,vv,pv] e 1 false)
 k:Own 1 9 H kv ks.length (ks.map S)
 v:Own 1 9 H vv vs.length (vs.map S)
 p:Own 3 42 H pv ps.length (ps.flatMap jR)
 kb: ∀B,Blk kv B->H0.next<=B/\B≠R/\ ¬Blk vv B/\ ¬Blk pv B
 vb: ∀B,Blk vv B->H0.next<=B/\B≠R/\ ¬Blk pv B
 pb: ∀B,Blk pv B->H0.next<=B/\B≠R
 small:rest.length<=10000/\ks.length<=1000000/\vs.length<=1000000/\ps.length<=1000000
theorem RdI.put {R:Nat}{H0 H:AH}{rest:Str}{m leaf:Bool}{kv a f:AV}{ks vs:List Str}{q:List Ptr}(h:RdI R H0 H rest m leaf kv a f ks vs q){o:Nat}{x:AV}(u:isCell x=true)(y:o<6){rest':Str}{bad':Bool}(hr:rest'.length<=10000)
  (hl:[S rest, .bool m, .bool leaf,kv,a,f].set o x=[S rest', .bool bad', .bool leaf,kv,a,f]): ∃H',stN 1 (.ptr R o) x H=some (jO,H')/\RdI R H0 H' rest' bad' leaf kv a f ks vs q:=by
 obtain⟨e,s⟩:=h.get;have t:=h.prs.ok.lt s;have j:Stp (fun B=>B=R) H (H.put R (.cells ([S rest, .bool m, .bool leaf,kv,a,f].set o x) e 1 false)):=(zRf h.prs.ok).put t _ (.inr rfl);refine⟨_,dW s (by decide) u y,⟨h.prs.trans j,⟨e,by rw[zRc,if_pos rfl,hl]⟩,h.k.mono j (fun B i=>(h.kb B i).2.1),h.v.mono j (fun B i=>(h.vb B i).2.1),h.p.mono j (fun B i=>(h.pb B i).2),h.kb,h.vb,h.pb,hr,h.small.2⟩⟩
def wJ (rest:Str)(a:Bool)(k:Nat):Str×Str×Bool:=if a then([],rest,true)else if rest.length<k then([],rest,true)else(rest.take k,rest.drop k,false)
theorem zPk:S []= .str 0 0:=rfl
theorem zA7 (D:Dyn)(n:Nat){R:Nat}{H0 H:AH}{rest:Str}{a leaf:Bool}{kv q s:AV}{ks vs:List Str}{t:List Ptr}(h:RdI R H0 H rest a leaf kv q s ks vs t)(k:Nat):
  ∃H',f172 D n [.ptr R 0, .int .i64 (k:Nat)] H=some (S (wJ rest a k).1,H')/\RdI R H0 H' (wJ rest a k).2.1 (wJ rest a k).2.2 leaf kv q s ks vs t:=by
 obtain⟨e,p⟩:=h.get
 cases a with
 | true=>
  obtain⟨f,i,j⟩:=h.put (o:=1) (x:= .bool true) rfl (by decide) (rest':=rest) (bad':=true) h.small.1 rfl;refine⟨f, ?_,j⟩;simp only[f172,eZ,jL p,i,wJ,zPk]
 | false=>
  by_cases u:rest.length<k
  .obtain⟨f,i,j⟩:=h.put (o:=1) (x:= .bool true) rfl (by decide) (rest':=rest) (bad':=true) h.small.1 rfl;have m:((rest.length:Nat):Int)< ((k:Nat):Int):=by omega
   simp only[wJ,u,if_true,zL,qC];refine⟨f, ?_,j⟩;simp only[f172,eZ,jL p,i,m,zPk]
  .obtain⟨f,i,j⟩:=h.put (o:=0) (x:=S (rest.drop k)) rfl (by decide) (rest':=rest.drop k) (bad':=false) (by have:=h.small.1;simp;omega) rfl;have m: ¬((rest.length:Nat):Int)< ((k:Nat):Int):=by omega
   have v:=zKH rest .i64 (z:=((k:Nat):Int)) (by omega) (by omega);have y:=zKG rest .i64 (z:=((k:Nat):Int)) (by omega) (by omega);simp only[y7]at v y;simp only[wJ,u,zL,qC];refine⟨f, ?_,j⟩;simp only[f172,eZ,jL p,i,m,v,y]
def vE (rest:Str)(a:Bool):Str×Str×Bool:=if(wJ rest a 1).2.2 then([],(wJ rest a 1).2)else wJ (wJ rest a 1).2.1 false ((wJ rest a 1).1.getD 0 0).toNat
theorem zBb (rest:Str):(vE rest true).2.2=true:=by simp[vE,wJ]
theorem fE {rest a r:Str}(h:xR rest=some (a,r)):vE rest false=(a,r,false):=by
 cases rest with
 | nil=>simp[xR]at h
 | cons c s=>
  simp only[xR]at h;split at h
  .rename_i f;simp only[zB,zU]at h;obtain⟨rfl,rfl⟩:=h;simp[vE,wJ];omega
  .simp at h
theorem YF {rest:Str}(h:xR rest=none):(vE rest false).2.2=true:=by
 cases rest with
 | nil=>simp[vE,wJ]
 | cons c s=>
  simp only[xR]at h;split at h
  .simp at h
  .rename_i f;have i: ¬(c::s).length<1:=by simp
   have a:s.length<c.toNat:=by omega
   simp[vE,wJ,a]
theorem zMv (D:Dyn)(n:Nat){R:Nat}{H0 H:AH}{rest:Str}{a leaf:Bool}{kv p q:AV}{ks vs:List Str}{s:List Ptr}(h:RdI R H0 H rest a leaf kv p q ks vs s):
  ∃H',f210 D n [.ptr R 0] H=some (S (vE rest a).1,H')/\RdI R H0 H' (vE rest a).2.1 (vE rest a).2.2 leaf kv p q ks vs s:=by
 obtain⟨x,t,f⟩:=zA7 D n h 1;obtain⟨e,i⟩:=f.get;by_cases hb:(wJ rest a 1).2.2=true
 .rw[hb]at f i;refine⟨x, ?_,by simp only[vE,hb,if_true];exact f⟩;simp only[f210,eZ,t,jL i,vE,hb,zPk]
 .have j:(wJ rest a 1).2.2=false:=by simpa using hb
  have m:(wJ rest a 1).1.length=1:=by
   revert j;unfold wJ;split
   .intro h;simp at h
   .split
    .intro h;simp at h
    .intro _;simp;omega
  rw[j]at f i;obtain⟨y,C,F⟩:=zA7 D n f ((wJ rest a 1).1.getD 0 0).toNat;have o:=zAy (wJ rest a 1).1 .i64 (z:=((0:Nat):Int)) (by omega) (by simp[m]);have u:(wJ rest a 1).1[(((0:Nat):Int)).toNat]'(by simp[m])=(wJ rest a 1).1.getD 0 0:=by
   rw[qE,zJ (by omega)];rfl
  rw[u]at o;have J:IntKind.wrap .i64 ((((wJ rest a 1).1.getD 0 0).toNat:Nat):Int)=((((wJ rest a 1).1.getD 0 0).toNat:Nat):Int):=wrap_i64 (by omega) (by have:=((wJ rest a 1).1.getD 0 0).toNat_lt;omega);have v:vE rest a=wJ (wJ rest a 1).2.1 false ((wJ rest a 1).1.getD 0 0).toNat:=by simp only[vE,j,zL,qC]
  rw[v];refine⟨y, ?_,F⟩;simp only[f210,eZ,t,jL i,o,J,C]
theorem zQX (x:AV)(h:isCell x=true):dL 9 1 1 [.str 0 0] [(0,x)]=some (.cells [x] 9 1 false,fun A=> .slice A 0 1 2):=zQY 9 1 _ x h
theorem zFs {k e n:Nat}{H:AH}{v:AV}{l:List AV}(h:Own k e H v n l):aveq v v=true:=kH h.row
theorem RdI.prsH {R:Nat}{H0 H H':AH}{rest:Str}{a leaf:Bool}{kv f i:AV}{ks vs:List Str}{j:List Ptr}(h:RdI R H0 H rest a leaf kv f i ks vs j)(s:Prs H H'):RdI R H0 H' rest a leaf kv f i ks vs j:=by
 obtain⟨e,m⟩:=h.get;exact⟨h.prs.trans (Prs.stp s),⟨e,s.get h.prs.ok m⟩,h.k.mono s (fun _ _ x=>x),h.v.mono s (fun _ _ x=>x),h.p.mono s (fun _ _ x=>x),h.kb,h.vb,h.pb,h.small⟩
theorem RdI.lt {R:Nat}{H0 H:AH}{rest:Str}{a leaf:Bool}{kv f i:AV}{ks vs:List Str}{j:List Ptr}(h:RdI R H0 H rest a leaf kv f i ks vs j):R<H.next:=by
 obtain⟨e,m⟩:=h.get;exact h.prs.ok.lt m
theorem Own.lt {k e n:Nat}{H:AH}{v:AV}{l:List AV}(h:Own k e H v n l){B:Nat}(a:Blk v B):B<H.next:=(kZ.lt (.inl h) a)
def zRq:=@Own.lt
theorem zMz (H:AH)(x:AV)(e:Nat):Prs H (H.push (.cells [x] e 1 false))->srcOf 1 (.slice H.next 0 1 2) (H.push (.cells [x] e 1 false))=some (1,[x]):=fun _=>WG H [x] e 1 false 1 2 rfl
theorem zBY (D:Dyn)(n:Nat){R:Nat}{H0 H:AH}{rest:Str}{s leaf:Bool}{kv u y:AV}{ks vs:List Str}{T:List Ptr}(h:RdI R H0 H rest s leaf kv u y ks vs T)(hs:ks.length<1000000):
  ∃H' m,f173 D n [.ptr R 0] H=some (.tuple [],H')/\RdI R H0 H' (vE rest s).2.1 (vE rest s).2.2 leaf m u y (ks++[(vE rest s).1]) vs T:=by
 obtain⟨j,U,i⟩:=zMv D n h;generalize vE rest s=t at U i⊢;obtain⟨e,g0⟩:=h.get;obtain⟨e',g1⟩:=i.get;have J:Prs j (j.push (.cells [S t.1] 9 1 false)):=(zRf i.prs.ok).push _;have f:=i.prsH J;obtain⟨K,V,L,q,n3⟩:=bW (bytes:=16) J.ok (by decide) f.k (zMz j (S t.1) 9 J) rfl rfl (zQ 1) (by omega) (by decide);generalize a1:AV.slice (j.push (.cells [S t.1] 9 1 false)).next 0 (ks.length+1) 1=m at V L
 have O: ∀B,Blk m B->B=j.next+1:=fun B a=>by rw[<-a1,zRd]at a;exact a
 have a3:=i.lt;have n2:(j.push (.cells [S t.1] 9 1 false)).next=j.next+1:=rfl
 have a4:=i.prs.next
 obtain⟨F,g2⟩:=f.get;have W:K.h.get R=some (.cells [S t.2.1, .bool t.2.2, .bool leaf,kv,u,y] F 1 false):=by rw[q.keep _ (by omega) (fun z=>(f.kb _ z).2.1 rfl)];exact g2
 have Y:=q.ok.lt W;have C:Stp (fun B=>B=R) K (K.put R (.cells ([S t.2.1, .bool t.2.2, .bool leaf,kv,u,y].set 3 m) F 1 false)):=(zRf q.ok).put Y _ (.inr rfl);have Z:=dW (o:=3) (x:=m) W (by decide) L.row.isCell (by simp);have a2: ∀B,Blk u B-> ¬Blk kv B:=fun B a N=>(f.kb B N).2.2.1 a
 have a0: ∀B,Blk y B-> ¬Blk kv B:=fun B a N=>(f.kb B N).2.2.2 a
 refine⟨_,m, ?_,⟨(Stp.via f.prs q (fun B a=> .inl (f.kb B a).1)).trans C,⟨F,by rw[zRc,if_pos rfl];rfl⟩, ?_,(f.v.mono q a2).mono C (fun B a=>(f.vb B a).2.1),(f.p.mono q a0).mono C (fun B a=>(f.pb B a).2), ?_,f.vb,f.pb,⟨i.small.1,by simp;omega,h.small.2.2⟩⟩⟩
 .simp only[f173,eZ,jL g0,U];rw[wC (by rw[jL g1];rfl) (zFs h.k),zQX _ rfl];simp only[eZ,kT i.prs.ok,V];rw[Z];simp only[eZ]
 .have:=L.mono C (fun B a=>by have:=O B a;omega);simpa using this
 .intro B a;have:=O B a;refine⟨by omega,by omega,fun z=> ?_,fun z=> ?_⟩
  .have:=zRq i.v z;omega
  .have:=zRq i.p z;omega
theorem zE2 (D:Dyn)(n:Nat){R:Nat}{H0 H:AH}{rest:Str}{u leaf:Bool}{kv y z:AV}{ks vs:List Str}{T:List Ptr}(h:RdI R H0 H rest u leaf kv y z ks vs T)(hs:vs.length<1000000):
  ∃H' q,f175 D n [.ptr R 0] H=some (.tuple [],H')/\RdI R H0 H' (vE rest u).2.1 (vE rest u).2.2 leaf kv q z ks (vs++[(vE rest u).1]) T:=by
 obtain⟨j,U,i⟩:=zMv D n h;generalize vE rest u=t at U i⊢;obtain⟨e,g0⟩:=h.get;obtain⟨e',g1⟩:=i.get;have L:Prs j (j.push (.cells [S t.1] 9 1 false)):=(zRf i.prs.ok).push _;have f:=i.prsH L;obtain⟨N,V,O,s,n3⟩:=bW (bytes:=16) L.ok (by decide) f.v (zMz j (S t.1) 9 L) rfl rfl (zQ 1) (by omega) (by decide);generalize a1:AV.slice (j.push (.cells [S t.1] 9 1 false)).next 0 (vs.length+1) 1=q at V O
 have J: ∀B,Blk q B->B=j.next+1:=fun B a=>by rw[<-a1,zRd]at a;exact a
 have a3:=i.lt;have n2:(j.push (.cells [S t.1] 9 1 false)).next=j.next+1:=rfl
 have a4:=i.prs.next
 obtain⟨K,g2⟩:=f.get;have W:N.h.get R=some (.cells [S t.2.1, .bool t.2.2, .bool leaf,kv,y,z] K 1 false):=by rw[s.keep _ (by omega) (fun C=>(f.vb _ C).2.1 rfl)];exact g2
 have Y:=s.ok.lt W;have F:Stp (fun B=>B=R) N (N.put R (.cells ([S t.2.1, .bool t.2.2, .bool leaf,kv,y,z].set 4 q) K 1 false)):=(zRf s.ok).put Y _ (.inr rfl);have Z:=dW (o:=4) (x:=q) W (by decide) O.row.isCell (by simp);have a2: ∀B,Blk kv B-> ¬Blk y B:=fun B a m=>(f.kb B a).2.2.1 m
 have a0: ∀B,Blk z B-> ¬Blk y B:=fun B a m=>(f.vb B m).2.2 a
 refine⟨_,q, ?_,⟨(Stp.via f.prs s (fun B a=> .inl (f.vb B a).1)).trans F,⟨K,by rw[zRc,if_pos rfl];rfl⟩,(f.k.mono s a2).mono F (fun B a=>(f.kb B a).2.1), ?_,(f.p.mono s a0).mono F (fun B a=>(f.pb B a).2), ?_, ?_,f.pb,⟨i.small.1,h.small.2.1,by simp;omega,h.small.2.2.2⟩⟩⟩
 .simp only[f175,eZ,jL g0,U];rw[wC (by rw[jL g1];rfl) (zFs h.v),zQX _ rfl];simp only[eZ,kT i.prs.ok,V];rw[Z];simp only[eZ]
 .have:=O.mono F (fun B a=>by have:=J B a;omega);simpa using this
 .intro B a;have m:=f.kb B a;refine⟨m.1,m.2.1,fun C=> ?_,m.2.2.2⟩;have:=J B C;have:=zRq i.k a;omega
 .intro B a;have:=J B a;refine⟨by omega,by omega,fun C=> ?_⟩;have:=zRq i.p C;omega
def zDl (rest:Str)(a:Bool)(f:List Ptr):Str×Bool×List Ptr:=if(wJ rest a 16).2.2 then((wJ rest a 16).2.1,true,f)else if mayP (xI (wJ rest a 16).1)then((wJ rest a 16).2.1,false,f++[xI (wJ rest a 16).1])else((wJ rest a 16).2.1,true,f)
theorem zED (rest:Str)(a:List Ptr):(zDl rest true a).2.1=true:=by simp[zDl,wJ]
theorem zBV {rest r:Str}{p:Ptr}(f:List Ptr)(h:fT rest=some (p,r)):zDl rest false f=(r,false,f++[p]):=by
 simp only[fT,Nd.decP]at h;split at h
 .rename_i hl;split at h
  .rename_i q a;simp only[zB,zU]at h;obtain⟨rfl,rfl⟩:=h;split at a
   .rename_i hm;simp only[zB]at a;subst a;have: ¬rest.length<16:=by omega
    simp[zDl,wJ,this,hm]
   .simp at a
  .simp at h
 .simp at h
theorem zBW {rest:Str}(f:List Ptr)(h:fT rest=none):(zDl rest false f).2.1=true:=by
 simp only[fT,Nd.decP]at h;split at h
 .rename_i hl;split at h
  .simp at h
  .rename_i a;split at a
   .simp at a
   .rename_i hm;have: ¬rest.length<16:=by omega
    simp[zDl,wJ,this,hm]
 .rename_i hl;have:rest.length<16:=by omega
  simp[zDl,wJ,this]
theorem zAu (D:Dyn)(n:Nat)(hn:100<=n){R:Nat}{H0 H:AH}{rest:Str}{u leaf:Bool}{kv K y:AV}{ks vs:List Str}{C:List Ptr}(h:RdI R H0 H rest u leaf kv K y ks vs C)(hs:C.length<1000000):
  ∃H' z,f174 D n [.ptr R 0] H=some (.tuple [],H')/\RdI R H0 H' (zDl rest u C).1 (zDl rest u C).2.1 leaf kv K z ks vs (zDl rest u C).2.2:=by
 obtain⟨H1,L,q⟩:=zA7 D n h 16;obtain⟨e,N⟩:=q.get;have Y:(wJ rest u 16).2.2=false->(wJ rest u 16).1.length=16:=by
  unfold wJ;split
  .intro h;simp at h
  .split
   .intro h;simp at h
   .intro _;simp;omega
 simp only[zDl];generalize wJ rest u 16=t at L q N Y⊢;obtain⟨s,r,b⟩:=t;simp only at L q N Y⊢
 cases b with
 | true=>
  refine⟨H1,y, ?_,by simpa using q⟩;simp only[f174,eZ,L,jL N]
 | false=>
  obtain⟨O,F,p2⟩:=zJz D n q.prs.ok (Y rfl) hn;have T:=q.prsH p2;have a0: ∀x:Ptr,∃f,stN 3 (.ptr O.next 0) (.agg (jR x)) (O.push (.cells [.int .i64 (0:Nat), .int .i64 (0:Nat), .int .u64 (0:Nat)] 42 1 false))=some (jO,f)/\Prs O f/\f.next=O.next+1/\f.h.get O.next=some (.cells (jR x) 42 1 false):=zDO T.prs.ok
  cases hm:mayP (xI s)with
  | false=>
   obtain⟨f,e3,p3,n3,g3⟩:=a0 pz;have j:=T.prsH p3;obtain⟨H4,e4,i⟩:=j.put (o:=1) (x:= .bool true) rfl (by decide) (rest':=r) (bad':=true) q.small.1 rfl;refine⟨H4,y, ?_,by simpa using i⟩;rw[hm]at F;simp only[qC,zL]at F;have a5:(((4:Nat):Int)≠((0:Nat):Int)):=by omega
   simp only[f174,eZ,L,jL N,F,jM,nth,kT T.prs.ok,e3,a5,e4,ne_eq,j6]
  | true=>
   obtain⟨f,e3,p3,n3,g3⟩:=a0 (xI s);have j:=T.prsH p3;rw[hm]at F;simp only[if_true]at F;have p4:Prs f (f.push (.cells (jR (xI s)) 42 3 false)):=(zRf j.prs.ok).push _;have i:=j.prsH p4;have n4:(f.push (.cells (jR (xI s)) 42 3 false)).next=f.next+1:=rfl
   have a1:srcOf 3 (.slice f.next 0 1 2) (f.push (.cells (jR (xI s)) 42 3 false))=some (1,jR (xI s)):=WG f _ 42 3 false 1 2 rfl
   obtain⟨H5,e5,o5,J,n5⟩:=bW (bytes:=24) p4.ok (by decide) i.p a1 rfl rfl (zQ 1) (by omega) (by decide);generalize a6:AV.slice (f.push (.cells (jR (xI s)) 42 3 false)).next 0 (C.length+1) 1=z at e5 o5
   have V: ∀B,Blk z B->B=f.next+1:=fun B a=>by rw[<-a6,zRd]at a;exact a
   have b2:=j.lt;have b3:=j.prs.next
   obtain⟨b4,a7⟩:=j.get;obtain⟨Z,g4⟩:=i.get;have g5:H5.h.get R=some (.cells [S r, .bool false, .bool leaf,kv,K,y] Z 1 false):=by rw[J.keep _ (by omega) (fun U=>(i.pb _ U).2 rfl)];exact g4
   have a2:=J.ok.lt g5;have W:Stp (fun B=>B=R) H5 (H5.put R (.cells ([S r, .bool false, .bool leaf,kv,K,y].set 5 z) Z 1 false)):=(zRf J.ok).put a2 _ (.inr rfl);have a3:=dW (o:=5) (x:=z) g5 (by decide) o5.row.isCell (by simp);have a8: ∀B,Blk kv B-> ¬Blk y B:=fun B a m=>(i.kb B a).2.2.2 m
   have a4: ∀B,Blk K B-> ¬Blk y B:=fun B a m=>(i.vb B a).2.2 m
   have a9:dL 42 3 1 [.int .i64 ((0:Nat):Int), .int .i64 ((0:Nat):Int), .int .u64 ((0:Nat):Int)] [(0, .agg (jR (xI s)))]=some (.cells (jR (xI s)) 42 3 false,fun A=> .slice A 0 1 2):=rfl;have b0: ¬(((0:Nat):Int)≠((0:Nat):Int)):=by omega
   refine⟨_,z, ?_,⟨(Stp.via i.prs J (fun B a=> .inl (i.pb B a).1)).trans W,⟨Z,by rw[zRc,if_pos rfl];rfl⟩,(i.k.mono J a8).mono W (fun B a=>(i.kb B a).2.1),(i.v.mono J a4).mono W (fun B a=>(i.vb B a).2.1), ?_, ?_, ?_, ?_,⟨q.small.1,h.small.2.1,h.small.2.2.1,by simp;omega⟩⟩⟩
   .have b1:uU (jR (xI s)) 0 3=some (jR (xI s)):=rfl;simp only[f174,eZ,L,jL N,F,jM,nth,kT T.prs.ok,e3,b0,jL a7,jQ g3,b1,zZ,a9,kT j.prs.ok,e5];rw[a3];simp only[eZ]
   .have:=o5.mono W (fun B a=>by have:=V B a;omega);simpa using this
   .intro B a;have m:=i.kb B a;refine⟨m.1,m.2.1,m.2.2.1,fun U=> ?_⟩;have:=V B U;have:=zRq j.k a;omega
   .intro B a;have m:=i.vb B a;refine⟨m.1,m.2.1,fun U=> ?_⟩;have:=V B U;have:=zRq j.v a;omega
   .intro B a;have:=V B a;exact⟨by omega,by omega⟩
end Go.Eng.Sh
end

