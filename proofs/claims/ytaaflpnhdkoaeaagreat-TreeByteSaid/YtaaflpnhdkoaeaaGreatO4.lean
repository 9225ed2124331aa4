/- A checked evaluator for the program, and what it tells, part 4: no condition. -/
import Derived.Test.YtaaflpnhdkoaeaaGreatO3
import Derived.Test.YtaaflpnhdkoaeaaGreatProg
import Derived.KernelRfl
set_option linter.all false
set_option linter.unusedVariables false
set_option linter.unusedSimpArgs false
set_option maxHeartbeats 8000000
set_option maxRecDepth 20000
variable (D:Go.Eng.Dyn)(n:Nat){H w I:Go.Eng.AH}{h l t C:Nat}{k q e:Go.Eng.AV}{i E G:List Go.Eng.AV}{A:Go.Eng.Dyn}{v:Go.TypeId}{p s:Bool}{B:Nat->Prop}{F:Type}{J:List Go.Eng.AV->Go.Eng.AH->Go.Eng.Rs}
section
noncomputable section
namespace Go.Eng.Sh
open Go.Proofs
set_option maxRecDepth 100000
variable (D:Dyn)(n:Nat)
attribute [local irreducible] bV bR hd cnd jn jb kL wnt chk U7 bA kO J6 YP gK eqP eqS eqM eqF eqA zMS ldN ld1 stN cvI zMW zDl zKE WL vD xM vU gY KD zAA zEd fd1 fdN fAd KA lnSl ZM apP apZ cpy uO zJm pk3 s2a bxV Q0 zFR lkM upM dlM mkM callV nl fG tld zKA fV BK cS zEc rfC mn2 mx2 aun jS xZ jU isW aveq bF
def h138:Hint:=(.s .o (.s .o (.s .o (.s Hq (.s .o (.s Hq (.s (.s .o (.cl (.s .o (.s .o (.s (.b [8,255] .o) Hr))) .o)) (.s .o (.s (.s .o (.cl (.s (.b [8,255] .o) (.s .o Hr)) .o)) (.s .o (.s .o Hr)))))))))))
@[irreducible] def f138:=(.mk:FY (t53 D n) D n 138 Tryz.f138 h138 []).1
theorem zGy (a:DG A)(n:Nat):FI 138 (f138 A n):=fk n (ms h138) a (k53 a n) Tryz.func138
def t54:=ad (t53 D n) 138 (f138 D n)
theorem k54:KO t54:=kc k53 zGy
def zMN (D:Dyn)(n:Nat)(vs:List AV)(H:AH):Option (AV×AH):=zLJ (f138 D n) vs H
theorem zLz (a:DG A)(n:Nat):FI 138 (zMN A n):=zLI (by kernel_rfl) (zGy a n)
def t55:=ad (t54 D n) 138 (zMN D n)
theorem k55:KO t55:=kc k54 zLz
attribute [local irreducible] zMN
def h89:Hint:=(.s .o (.s Hq (.s (.c [2,3,5,31,8,255] (.l [0,1,3,4,7,2,5,6,8] .o) .o) (.s .o (.s (.s .o (.cl (.s .o Hr) .o)) (.s .o (.s .o Hr)))))))
@[irreducible] def f89:=(.mk:FY (t55 D n) D n 89 Tryz.f89 h89 []).1
def t56:=ad (t55 D n) 89 (f89 D n)
theorem k56:KO t56:=kk k55 (ms h89) Tryz.func89
def h88:Hint:=(.s .o Hr)
@[irreducible] def f88:=(.mk:FY (t56 D n) D n 88 Tryz.f88 h88 []).1
def t57:=ad (t56 D n) 88 (f88 D n)
theorem k57:KO t57:=kk k56 (ms h88) Tryz.func88
def h38:Hint:=(.s .o (.s Hq (.s Hq Hr)))
@[irreducible] def f38:=(.mk:FY (t57 D n) D n 38 Tryz.f38 h38 []).1
def t58:=ad (t57 D n) 38 (f38 D n)
theorem k58:KO t58:=kk k57 (ms h38) Tryz.func38
def h19:Hint:=(.s .o (.s Hq Hr))
@[irreducible] def f19:=(.mk:FY (t58 D n) D n 19 Tryz.f19 h19 []).1
theorem zKh (a:DG A)(n:Nat):FI 19 (f19 A n):=fk n (ms h19) a (k58 a n) Tryz.func19
def t59:=ad (t58 D n) 19 (f19 D n)
theorem k59:KO t59:=kc k58 zKh
def h24:Hint:=(.s .o (.s Hq Hr))
@[irreducible] def f24:=(.mk:FY (t59 D n) D n 24 Tryz.f24 h24 []).1
theorem zKe (a:DG A)(n:Nat):FI 24 (f24 A n):=fk n (ms h24) a (k59 a n) Tryz.func24
def t60:=ad (t59 D n) 24 (f24 D n)
theorem k60:KO t60:=kc k59 zKe
def h124:Hint:=(.s .o (.s (.s .o (.b [1] (.l [0,0,1,7,8] (.s .o (.s (.cr .o .o) (.s (.b0 (.s .o Hq)) .o)))))) Hr))
@[irreducible] def YD:=(.mk:PY (t60 D n) D n 124 Tryz.f124 h124 [] 0).1
@[irreducible] def zKu:=(.mk:PY (t60 D n) D n 124 Tryz.f124 h124 [YD D n] 1).1
@[irreducible] def f124:=(.mk:FY (t60 D n) D n 124 Tryz.f124 h124 [YD D n,zKu D n]).1
def t61:=ad (t60 D n) 124 (f124 D n)
theorem k61:KO t61:=kk k60 (ms h124) Tryz.func124
def h78:Hint:=(.s .o (.s Hq (.s .o (.s Hq Hr))))
@[irreducible] def f78:=(.mk:FY (t61 D n) D n 78 Tryz.f78 h78 []).1
def t62:=ad (t61 D n) 78 (f78 D n)
theorem k62:KO t62:=kk k61 (ms h78) Tryz.func78
def h27:Hint:=(.s .o (.s Hq (.s Hq (.s Hq (.s .o (.s (.s .o (.b [1] (.l [0,0,1,6,32,33] (.s .o (.s (.cr .o .o) (.s (.b0 (.s .o (.s Hq (.s (.s .o (.cl (.s .o (.s Hq Hr)) .o)) (.b [4,12,7,127] .o))))) .o)))))) Hr))))))
@[irreducible] def zC8:=(.mk:PY (t62 D n) D n 27 Tryz.f27 h27 [] 0).1
@[irreducible] def zO1:=(.mk:PY (t62 D n) D n 27 Tryz.f27 h27 [zC8 D n] 1).1
@[irreducible] def f27:=(.mk:FY (t62 D n) D n 27 Tryz.f27 h27 [zC8 D n,zO1 D n]).1
theorem zKb (a:DG A)(n:Nat):FI 27 (f27 A n):=fk n (ms h27) a (k62 a n) Tryz.func27
def t63:=ad (t62 D n) 27 (f27 D n)
theorem k63:KO t63:=kc k62 zKb
def h21:Hint:=(.s .o (.s .o Hr))
@[irreducible] def f21:=(.mk:FY (t63 D n) D n 21 Tryz.f21 h21 []).1
def t64:=ad (t63 D n) 21 (f21 D n)
theorem k64:KO t64:=kk k63 (ms h21) Tryz.func21
def h148:Hint:=(.s .o (.b [1] (.l [0,0,1,3] (.s (.s .o (.cr .o .o)) (.s (.b0 (.s .o (.cl .o .o))) .o)))))
@[irreducible] def zKr:=(.mk:PY ⟨X,[]⟩ D n 148 Tryz.f148 h148 [] 0).1
@[irreducible] def zO6:=(.mk:PY ⟨X,[]⟩ D n 148 Tryz.f148 h148 [zKr D n] 1).1
@[irreducible] def f148:=(.mk:FY ⟨X,[]⟩ D n 148 Tryz.f148 h148 [zKr D n,zO6 D n]).1
theorem zM8 (a:DG A)(n:Nat):FI 148 (f148 A n):=fk n (ms h148) a sn Tryz.func148
def t65:=ad (t64 D n) 148 (f148 D n)
theorem k65:KO t65:=kc k64 zM8
def h95:Hint:=(.s .o Hr)
@[irreducible] def f95:=(.mk:FY (t65 D n) D n 95 Tryz.f95 h95 []).1
theorem zGk (a:DG A)(n:Nat):FI 95 (f95 A n):=fk n (ms h95) a (k65 a n) Tryz.func95
def t66:=ad (t65 D n) 95 (f95 D n)
theorem k66:KO t66:=kc k65 zGk
def s41:Tb:=⟨X,[(73,f73 D n),(76,f76 D n),(77,f77 D n),(79,f79 D n),(95,f95 D n)]⟩
def h41:Hint:=(.s .o (.s Hq (.s Hq (.s .o (.s (.s .o (.b [2,4,6] (.l [1,0,1,4,6,28,29] (.s .o (.s (.cr .o .o) (.s (.b0 (.s Hq (.s .o (.s Hq (.s .o (.s .o (.s (.s .o (.cl (.s (.b [11,2047] .o) .o) .o)) (.s .o (.c [0,0,1,4,6,28,29] (.s .o (.b0 (.rf 0 [6]))) .o))))))))) .o)))))) (.s Hq Hr))))))
@[irreducible] def zM1:=(.mk:PY (s41 D n) D n 41 Tryz.f41 h41 [] 0).1
@[irreducible] def zNY:=(.mk:PY (s41 D n) D n 41 Tryz.f41 h41 [zM1 D n] 1).1
@[irreducible] def f41b2:=(.mk:PY (s41 D n) D n 41 Tryz.f41 h41 [zM1 D n,zNY D n] 2).1
@[irreducible] def f41:=(.mk:FY (s41 D n) D n 41 Tryz.f41 h41 [zM1 D n,zNY D n,f41b2 D n]).1
theorem zNZ (a:DG A)(n:Nat):FI 41 (f41 A n):=fk n (ms h41) a (sc (zGl a n) (sc (zD9 a n) (sc (zD8 a n) (sc (zD7 a n) (sc (zGk a n) sn))))) Tryz.func41
def t67:=ad (t66 D n) 41 (f41 D n)
theorem k67:KO t67:=kc k66 zNZ
def zJY:Hint:= .o
def zJX:Hint:=(.b0 .o)
@[irreducible] def zLm:=(.mk:RY (s41 D n) D n 41 0 [6] [0] zJY zJX []).1
theorem zIr (D:Dyn)(n:Nat):zLm D n=zMK (s41 D n) D n 41 0 [6] [0] (ms zJY) (ms zJX):=by kernel_rfl
theorem zIq (a:DG A)(n:Nat):RS 41 0 (zLm A n):=U1 X_ok a (sc (zGl a n) (sc (zD9 a n) (sc (zD8 a n) (sc (zD7 a n) (sc (zGk a n) sn))))) (by kernel_rfl) (zIr A n)
def h23:Hint:=(.s .o (.s Hq Hr))
@[irreducible] def f23:=(.mk:FY (t67 D n) D n 23 Tryz.f23 h23 []).1
theorem zKf (a:DG A)(n:Nat):FI 23 (f23 A n):=fk n (ms h23) a (k67 a n) Tryz.func23
def t68:=ad (t67 D n) 23 (f23 D n)
theorem k68:KO t68:=kc k67 zKf
def h193:Hint:=Hr
@[irreducible] def f193:=(.mk:FY (t68 D n) D n 193 Tryz.f193 h193 []).1
def t69:=ad (t68 D n) 193 (f193 D n)
theorem k69:KO t69:=kk k68 (ms h193) Tryz.func193
def h194:Hint:=(.s .o (.s .o (.s (.s .o (.c [0,2,4] .o .o)) .o)))
@[irreducible] def zKi:=(.mk:PY (t69 D n) D n 194 Tryz.f194 h194 [] 0).1
@[irreducible] def f194:=(.mk:FY (t69 D n) D n 194 Tryz.f194 h194 [zKi D n]).1
def t70:=ad (t69 D n) 194 (f194 D n)
theorem k70:KO t70:=kk k69 (ms h194) Tryz.func194
def zNi:Tb:=⟨X,[(109,f109 D n),(110,f110 D n)]⟩
def zMQ:Hint:=(.s .o (.s Hq (.s Hq (.s .o (.s .o (.s .o (.s .o (.s (.s .o (.c [3,1,4,5,6,7] .o .o)) (.s (.s .o (.b [2,4,5] (.l [1,1,4,5,6,7,38,39,40] (.s .o (.s (.cr .o .o) (.s (.b0 (.s .o (.s .o (.s .o (.c [0,1,4,5,6,7,38,39,40] .o .o))))) .o)))))) (.s (.s .o (.cl (.s (.b [] .o) .o) .o)) Hr))))))))))
@[irreducible] def XU:=(.mk:PY (zNi D n) D n 149 Tryz.f149 zMQ [] 0).1
@[irreducible] def dU:=(.mk:PY (zNi D n) D n 149 Tryz.f149 zMQ [XU D n] 1).1
@[irreducible] def zDd:=(.mk:PY (zNi D n) D n 149 Tryz.f149 zMQ [XU D n,dU D n] 2).1
@[irreducible] def zGw:=(.mk:PY (zNi D n) D n 149 Tryz.f149 zMQ [XU D n,dU D n,zDd D n] 3).1
@[irreducible] def f149:=(.mk:FY (zNi D n) D n 149 Tryz.f149 zMQ [XU D n,dU D n,zDd D n,zGw D n]).1
theorem zM7 (a:DG A)(n:Nat):FI 149 (f149 A n):=fk n (ms zMQ) a (sc (zGL a n) (sc (zGK a n) sn)) Tryz.func149
def t71:=ad (t70 D n) 149 (f149 D n)
theorem k71:KO t71:=kc k70 zM7
def h207:Hint:=(.s (.s (.b [] .o) (.cl .o .o)) (.s .o (.b [1] (.l [0,0,1,2,5] (.s (.s .o (.cr .o .o)) (.s (.b0 (.s (.b [11,2047] .o) (.cl .o .o))) .o))))))
@[irreducible] def bU:=(.mk:PY ⟨X,[]⟩ D n 207 Tryz.f207 h207 [] 0).1
@[irreducible] def zGq:=(.mk:PY ⟨X,[]⟩ D n 207 Tryz.f207 h207 [bU D n] 1).1
@[irreducible] def f207:=(.mk:FY ⟨X,[]⟩ D n 207 Tryz.f207 h207 [bU D n,zGq D n]).1
theorem zM2 (a:DG A)(n:Nat):FI 207 (f207 A n):=fk n (ms h207) a sn Tryz.func207
def t72:=ad (t71 D n) 207 (f207 D n)
theorem k72:KO t72:=kc k71 zM2
def h168:Hint:=(.s .o Hr)
@[irreducible] def f168:=(.mk:FY (t72 D n) D n 168 Tryz.f168 h168 []).1
theorem KN (a:DG A)(n:Nat):FI 168 (f168 A n):=fk n (ms h168) a (k72 a n) Tryz.func168
def t73:=ad (t72 D n) 168 (f168 D n)
theorem k73:KO t73:=kc k72 KN
def zNh:Tb:=⟨X,[(168,f168 D n),(86,f86 D n)]⟩
def h195:Hint:=(.s .o (.s Hq (.s (.s .o (.b [1,2,3] (.l [0,1,2,3,13,14] (.s .o (.s (.cr .o .o) (.s (.b0 (.s .o (.s .o (.b0 (.rf 0 [1,2,3]))))) .o)))))) Hr)))
@[irreducible] def YB:=(.mk:PY (zNh D n) D n 195 Tryz.f195 h195 [] 0).1
@[irreducible] def zO3:=(.mk:PY (zNh D n) D n 195 Tryz.f195 h195 [YB D n] 1).1
@[irreducible] def f195:=(.mk:FY (zNh D n) D n 195 Tryz.f195 h195 [YB D n,zO3 D n]).1
theorem zM3 (a:DG A)(n:Nat):FI 195 (f195 A n):=fk n (ms h195) a (sc (KN a n) (sc (zAK a n) sn)) Tryz.func195
def t74:=ad (t73 D n) 195 (f195 D n)
theorem k74:KO t74:=kc k73 zM3
def zFr:Hint:= .o
def zFq:Hint:=(.b0 (.s .o (.s .o (.s .o .o))))
@[irreducible] def X6:=(.mk:RY (zNh D n) D n 195 0 [1,2,3] [0] zFr zFq []).1
theorem zFt (D:Dyn)(n:Nat):X6 D n=zMK (zNh D n) D n 195 0 [1,2,3] [0] (ms zFr) (ms zFq):=by kernel_rfl
theorem zFs (a:DG A)(n:Nat):RS 195 0 (X6 A n):=U1 X_ok a (sc (KN a n) (sc (zAK a n) sn)) (by kernel_rfl) (zFt A n)
def h75:Hint:=(.s .o (.s Hq (.s .o (.s Hq (.s .o Hr)))))
@[irreducible] def f75:=(.mk:FY (t74 D n) D n 75 Tryz.f75 h75 []).1
def t75:=ad (t74 D n) 75 (f75 D n)
theorem k75:KO t75:=kk k74 (ms h75) Tryz.func75
def s26:Tb:=⟨X,[(74,f74 D n),(75,f75 D n)]⟩
@[irreducible] def f26 (D:Dyn)(n:Nat)(vs:List AV)(H:AH):Option (AV×AH):=
 fG (hd vs fun a vs=>hd vs fun f vs=>hd vs fun L vs=>nl vs <|
 bA (bxV 55 L) H fun M H=>
 bR (f74 D n [a,f] H) fun h H=>
 bV (kO .neq h (.int .i64 (.ofNat 0))) fun j=>
 cnd j (bV (some h) fun x6=>some (.ret x6,H))
 (bV (xZ a) fun m=>
 bV (fAd 3 m) fun o=>
 bV (ld1 o H) fun p=>
 bV (xZ a) fun q=>
 bV (fAd 2 q) fun s=>
 bV (ld1 s H) fun t=>
 bV (lnSl t) fun u=>
 bR (upM [6] p f u H) fun O H=>
 bV (xZ a) fun v=>
 bV (fAd 2 v) fun x=>
 bV (ld1 x H) fun y=>
 bV (ldN 512 M H) fun z=>
 bV (uO [(0,1),(1,512)] ([(.int .i64 (.ofNat 0))]++rep 512 [(.int .u8 (.ofNat 0))]) [(0,f),(1,z)]) fun C=>
 bA (Q0 153 513 1 ([(.int .i64 (.ofNat 0))]++rep 512 [(.int .u8 (.ofNat 0))]) [(0,C)]) H fun F H=>
 bR (apP 153 513 520 y F H) fun G H=>
 bV (xZ a) fun I=>
 bV (fAd 2 I) fun J=>
 bR (stN 1 J G H) fun N H=>
 bR (f75 D n [a] H) fun K H=>
 bV (some K) fun i=>some (.ret i,H)))
def h26:Hint:=(.s .o (.s (.s .o Hq) (.s .o (.s .o Hr))))
theorem zKc (a:DG A)(n:Nat):FI 26 (f26 A n):=fk n h26 a (k75 a n) Tryz.func26
def t76:=ad (t75 D n) 26 (f26 D n)
theorem k76:KO t76:=kc k75 zKc
def h196:Hint:=(.s .o (.s .o (.s Hq (.s Hq Hr))))
@[irreducible] def f196:=(.mk:FY (t76 D n) D n 196 Tryz.f196 h196 []).1
def t77:=ad (t76 D n) 196 (f196 D n)
theorem k77:KO t77:=kk k76 (ms h196) Tryz.func196
def s151:Tb:=⟨X,[(195,f195 D n),(26,f26 D n),(196,f196 D n)]⟩
@[irreducible] def zO5 (D:Dyn)(n:Nat)(vs:List AV)(H:AH):Option (AV×AH):=
 fG (hd vs fun a vs=>hd vs fun x1 vs=>nl vs <|
 bA (bxV 55 x1) H fun h H=>
 bA (bxV 42 (.agg [(.int .i64 (.ofNat 0)),(.int .i64 (.ofNat 0)),(.int .u64 (.ofNat 0))])) H fun x4 H=>
 bV (xZ a) fun v=>
 bV (fAd 1 v) fun x=>
 bV (ld1 x H) fun y=>
 bR (f195 D n [y] H) fun i H=>
 bV (jS i 0) fun f=>
 bV (jS i 1) fun j=>
 bV (kO .neq j (.int .i64 (.ofNat 0))) fun z=>
 cnd z (bV (uO [(0,1),(1,1),(2,1)] [(.int .i64 (.ofNat 0)),(.int .i64 (.ofNat 0)),(.int .u64 (.ofNat 0))] []) fun C=>
 bR (stN 3 x4 C H) fun b5 H=>
 bV (ldN 3 x4 H) fun s=>bV (some j) fun x5=>some (.ret (.tuple [s,x5]),H))
 (bV (xZ a) fun F=>
 bV (fAd 4 F) fun G=>
 bV (ld1 G H) fun I=>
 bA (Q0 3 1 1 [(.int .i64 (.ofNat 0))] [(0,f)]) H fun J H=>
 bR (apP 3 1 8 I J H) fun K H=>
 bV (xZ a) fun L=>
 bV (fAd 4 L) fun M=>
 bR (stN 1 M K H) fun b1 H=>
 bV (xZ a) fun N=>
 bV (fAd 0 N) fun O=>
 bV (ld1 O H) fun Q=>
 bV (xZ Q) fun S=>
 bV (fAd 0 S) fun T=>
 bV (ld1 T H) fun U=>
 bV (ldN 512 h H) fun V=>
 bR (f26 D n [U,f,V] H) fun m H=>
 bV (kO .neq m (.int .i64 (.ofNat 0))) fun W=>
 cnd W (bV (uO [(0,1),(1,1),(2,1)] [(.int .i64 (.ofNat 0)),(.int .i64 (.ofNat 0)),(.int .u64 (.ofNat 0))] []) fun Y=>
 bR (stN 3 x4 Y H) fun b2 H=>
 bV (ldN 3 x4 H) fun p=>bV (some m) fun t=>some (.ret (.tuple [p,t]),H))
 (bV (xZ a) fun Z=>
 bV (fAd 5 Z) fun a0=>
 bV (ld1 a0 H) fun a1=>
 bV (ldN 512 h H) fun a2=>
 bV (uO [(0,1),(1,512)] ([(.int .i64 (.ofNat 0))]++rep 512 [(.int .u8 (.ofNat 0))]) [(0,f),(1,a2)]) fun a3=>
 bA (Q0 202 513 1 ([(.int .i64 (.ofNat 0))]++rep 512 [(.int .u8 (.ofNat 0))]) [(0,a3)]) H fun a4 H=>
 bR (apP 202 513 520 a1 a4 H) fun a5 H=>
 bV (xZ a) fun a6=>
 bV (fAd 5 a6) fun a7=>
 bR (stN 1 a7 a5 H) fun b3 H=>
 bV (ldN 512 h H) fun a8=>
 bR (f196 D n [f,a8] H) fun o H=>
 bV (jS o 0) fun a9=>
 bV (jS o 1) fun b0=>
 bR (stN 3 x4 a9 H) fun b4 H=>
 bV (ldN 3 x4 H) fun q=>bV (some b0) fun u=>some (.ret (.tuple [q,u]),H))))
def h151:Hint:=(.s .o (.s .o (.s Hq (.s .o (.s (.s .o Hq) (.s .o Hr))))))
def t78:=ad (t77 D n) 151 (zO5 D n)
theorem k78:KO t78:=kk k77 h151 Tryz.func151
def s96:Tb:=⟨X,[(77,f77 D n),(149,f149 D n),(150,zM5 D n),(151,zO5 D n)]⟩
@[irreducible] def zEh (D:Dyn)(n:Nat)(vs:List AV)(H:AH):Rs:=
 hd vs fun h vs=>hd vs fun a vs=>hd vs fun o vs=>hd vs fun i vs=>hd vs fun j vs=>hd vs fun m vs=>hd vs fun f vs=>
 bV (kO .lss f m) fun v=>
 cnd v (bV (gY 3 j f) fun x=>
 bV (ldN 3 x H) fun y=>
 bA (bxV 42 (.agg [(.int .i64 (.ofNat 0)),(.int .i64 (.ofNat 0)),(.int .u64 (.ofNat 0))])) H fun p H=>
 bR (stN 3 p y H) fun K H=>
 bV (ldN 3 p H) fun z=>
 bR (D.fn 96 [h,z] H) fun q H=>
 bV (jS q 0) fun C=>
 bV (jS q 1) fun s=>
 bV (gY 3 i f) fun F=>
 bR (stN 3 F C H) fun L H=>
 bV (kO .neq s (.int .i64 (.ofNat 0))) fun G=>
 cnd G (bV (uO [(0,1),(1,1),(2,1)] [(.int .i64 (.ofNat 0)),(.int .i64 (.ofNat 0)),(.int .u64 (.ofNat 0))] []) fun I=>
 bR (stN 3 a I H) fun M H=>
 bV (ldN 3 a H) fun t=>bV (some s) fun u=>some (.ret (.tuple [t,u]),H))
 (bV (kO .add f (.int .i64 (.ofNat 1))) fun J=>
 some (.norm [h,a,o,i,j,m,J],H)))
 (some (.exit 0 [h,a,o,i],H))
@[irreducible] def zLX (D:Dyn)(n:Nat)(vs:List AV)(H:AH):Rs:=
 hd vs fun f vs=>hd vs fun a vs=>hd vs fun u vs=>hd vs fun F vs=>
 bV (ldN 4 u H) fun G=>
 bR (f149 D n [G] H) fun h H=>
 bV (jS h 0) fun I=>
 bV (jS h 1) fun i=>
 bV (kO .neq i (.int .i64 (.ofNat 0))) fun J=>
 cnd J (bV (uO [(0,1),(1,1),(2,1)] [(.int .i64 (.ofNat 0)),(.int .i64 (.ofNat 0)),(.int .u64 (.ofNat 0))] []) fun K=>
 bR (stN 3 a K H) fun U H=>
 bV (ldN 3 a H) fun q=>bV (some i) fun v=>some (.ret (.tuple [q,v]),H))
 (bV (xZ f) fun L=>
 bV (fAd 2 L) fun M=>
 bV (ld1 M H) fun N=>
 bR (zM5 D n [F,N,I] H) fun j H=>
 bV (jS j 0) fun O=>
 bV (jS j 1) fun m=>
 bA (bxV 55 (.agg (rep 512 [(.int .u8 (.ofNat 0))]))) H fun o H=>
 bR (stN 512 o O H) fun V H=>
 bV (kO .neq m (.int .i64 (.ofNat 0))) fun Q=>
 cnd Q (bV (uO [(0,1),(1,1),(2,1)] [(.int .i64 (.ofNat 0)),(.int .i64 (.ofNat 0)),(.int .u64 (.ofNat 0))] []) fun S=>
 bR (stN 3 a S H) fun W H=>
 bV (ldN 3 a H) fun s=>bV (some m) fun x=>some (.ret (.tuple [s,x]),H))
 (bV (ldN 512 o H) fun T=>
 bR (zO5 D n [f,T] H) fun p H=>
 bV (jS p 0) fun y=>
 bV (jS p 1) fun z=>
 bR (stN 3 a y H) fun Y H=>
 bV (ldN 3 a H) fun t=>bV (some z) fun C=>some (.ret (.tuple [t,C]),H)))
@[irreducible] def zLY (D:Dyn)(n:Nat)(vs:List AV)(H:AH):Rs:=
 hd vs fun f vs=>hd vs fun h vs=>hd vs fun a vs=>hd vs fun i vs=>
 bV (fAd 3 a) fun j=>
 bR (stN 1 j i H) fun p H=>
 bV (fAd 0 a) fun m=>
 bV (ld1 m H) fun o=>
 jn (cnd o (some (.norm [f,h,a,(.int .u8 (.ofNat 1))],H))
 (some (.norm [f,h,a,(.int .u8 (.ofNat 2))],H))) (zLX D n)
@[irreducible] def f96 (D:Dyn)(n:Nat)(vs:List AV)(H:AH):Option (AV×AH):=
 fG (hd vs fun a vs=>hd vs fun x1 vs=>nl vs <|
 bA (bxV 42 x1) H fun f H=>
 bA (bxV 42 (.agg [(.int .i64 (.ofNat 0)),(.int .i64 (.ofNat 0)),(.int .u64 (.ofNat 0))])) H fun x4 H=>
 bV (fAd 0 f) fun u=>
 bV (ld1 u H) fun v=>
 bV (kO .neq v (.int .i64 (.ofNat 1))) fun x=>
 cnd x (bV (ldN 3 f H) fun y=>
 bR (stN 3 x4 y H) fun a8 H=>
 bV (ldN 3 x4 H) fun q=>bV (some (.int .i64 (.ofNat 0))) fun x5=>some (.ret (.tuple [q,x5]),H))
 (bV (xZ a) fun z=>
 bV (fAd 3 z) fun C=>
 bV (ld1 C H) fun F=>
 bV (kO .sub F (.int .i64 (.ofNat 1))) fun G=>
 bV (xZ a) fun I=>
 bV (fAd 3 I) fun J=>
 bR (stN 1 J G H) fun a4 H=>
 bV (xZ a) fun K=>
 bV (fAd 3 K) fun L=>
 bV (ld1 L H) fun M=>
 bV (kO .lss M (.int .i64 (.ofNat 0))) fun N=>
 cnd N (bV (uO [(0,1),(1,1),(2,1)] [(.int .i64 (.ofNat 0)),(.int .i64 (.ofNat 0)),(.int .u64 (.ofNat 0))] []) fun O=>
 bR (stN 3 x4 O H) fun a5 H=>
 bV (ldN 3 x4 H) fun o=>bV (some (.int .i64 (.ofNat 4))) fun s=>some (.ret (.tuple [o,s]),H))
 (bV (xZ a) fun Q=>
 bV (fAd 0 Q) fun S=>
 bV (ld1 S H) fun T=>
 bV (ldN 3 f H) fun U=>
 bA (bxV 119 (.agg [(.bool false), .nS, .nS, .nS])) H fun x6 H=>
 bR (f77 D n [T,U] H) fun h H=>
 bV (jS h 0) fun V=>
 bV (jS h 1) fun i=>
 bR (stN 4 x6 V H) fun a6 H=>
 bV (kO .neq i (.int .i64 (.ofNat 0))) fun W=>
 cnd W (bV (uO [(0,1),(1,1),(2,1)] [(.int .i64 (.ofNat 0)),(.int .i64 (.ofNat 0)),(.int .u64 (.ofNat 0))] []) fun Y=>
 bR (stN 3 x4 Y H) fun a7 H=>
 bV (ldN 3 x4 H) fun p=>bV (some i) fun t=>some (.ret (.tuple [p,t]),H))
 (bV (fAd 3 x6) fun Z=>
 bV (ld1 Z H) fun a0=>
 bV (lnSl a0) fun j=>
 bA (zFR 42 3 24 [(.int .i64 (.ofNat 0)),(.int .i64 (.ofNat 0)),(.int .u64 (.ofNat 0))] j j) H fun a1 H=>
 bV (fAd 3 x6) fun a2=>
 bV (ld1 a2 H) fun m=>
 bV (lnSl m) fun a3=>
 jb 0 (kL n (zEh D n) [a,x4,x6,a1,m,a3,(.int .i64 (.ofNat 0))] H) (zLY D n)))))
def h96:Hint:=(.s .o (.s Hq (.s (.s .o Hq) (.s .o (.s Hq (.s .o (.s (.s .o (.b [0,4,6,8] (.l [0,4,6,8,49,50,51] (.s .o (.s (.cr .o .o) (.s (.b0 (.s .o (.s .o Hq))) .o)))))) (.s .o (.s .o (.s (.s .o (.c [0,4,6,11] .o .o)) (.s .o (.s Hq (.s .o (.s Hq Hr))))))))))))))
def t79:=ad (t78 D n) 96 (f96 D n)
theorem k79:KO t79:=kk k78 h96 Tryz.func96
def h116:Hint:=(.s .o (.s Hq (.s Hq Hr)))
@[irreducible] def f116:=(.mk:FY (t79 D n) D n 116 Tryz.f116 h116 []).1
def t80:=ad (t79 D n) 116 (f116 D n)
theorem k80:KO t80:=kk k79 (ms h116) Tryz.func116
def h70:Hint:=(.s .o (.s (.s .o Hq) (.s (.s .o (.b0 (.s .o (.c [0] .o (.s .o (.cr .o Hr)))))) Hr)))
@[irreducible] def zLZ:=(.mk:PY (t80 D n) D n 70 Tryz.f70 h70 [] 0).1
@[irreducible] def f70:=(.mk:FY (t80 D n) D n 70 Tryz.f70 h70 [zLZ D n]).1
def t81:=ad (t80 D n) 70 (f70 D n)
theorem k81:KO t81:=kk k80 (ms h70) Tryz.func70
def s43:Tb:=⟨X,[(73,f73 D n),(23,f23 D n),(96,f96 D n),(70,f70 D n)]⟩
@[irreducible] def f43l0 (D:Dyn)(n:Nat)(vs:List AV)(H:AH):Rs:=
 hd vs fun i vs=>hd vs fun j vs=>hd vs fun m vs=>hd vs fun f vs=>hd vs fun h vs=>hd vs fun a vs=>
 bV (kO .lss a h) fun o=>
 cnd o (bV (gY 1 f a) fun p=>
 bV (ld1 p H) fun q=>
 bR (f70 D n [i,q] H) fun t H=>
 bV (kO .add a (.int .i64 (.ofNat 1))) fun s=>
 some (.norm [i,j,m,f,h,s],H))
 (some (.exit 0 [j,m],H))
@[irreducible] def f43b1 (D:Dyn)(n:Nat)(vs:List AV)(H:AH):Rs:=
 hd vs fun a vs=>hd vs fun h vs=>
 bV (uO [(0,1),(1,1),(2,1)] [(.int .i64 (.ofNat 0)),(.int .i64 (.ofNat 0)),(.int .u64 (.ofNat 0))] []) fun m=>
 bR (stN 3 a m H) fun o H=>
 bV (ldN 3 a H) fun f=>bV (some .nS) fun i=>bV (some h) fun j=>some (.ret (.tuple [f,i,j]),H)
@[irreducible] def f43l2 (D:Dyn)(n:Nat)(vs:List AV)(H:AH):Rs:=
 hd vs fun a vs=>hd vs fun o vs=>hd vs fun i vs=>hd vs fun j vs=>hd vs fun m vs=>hd vs fun f vs=>
 bV (kO .lss f m) fun p=>
 cnd p (bV (gY 513 j f) fun q=>
 bV (ldN 513 q H) fun s=>
 bA (bxV 202 (.agg ([(.int .i64 (.ofNat 0))]++rep 512 [(.int .u8 (.ofNat 0))]))) H fun h H=>
 bR (stN 513 h s H) fun G H=>
 bV (xZ a) fun t=>
 bV (fAd 1 t) fun u=>
 bV (ld1 u H) fun v=>
 bV (fAd 0 h) fun x=>
 bV (ld1 x H) fun y=>
 bV (fAd 1 h) fun z=>
 bV (ldN 512 z H) fun C=>
 bR (D.fn 97 [v,y,C] H) fun I H=>
 bV (kO .add f (.int .i64 (.ofNat 1))) fun F=>
 some (.norm [a,o,i,j,m,F],H))
 (some (.exit 2 [a,o,i],H))
@[irreducible] def f43b3 (D:Dyn)(n:Nat)(vs:List AV)(H:AH):Rs:=
 hd vs fun f vs=>hd vs fun h vs=>hd vs fun a vs=>
 some (.norm [f,h,a],H)
@[irreducible] def zNX (D:Dyn)(n:Nat)(vs:List AV)(H:AH):Rs:=
 hd vs fun a vs=>hd vs fun h vs=>hd vs fun f vs=>
 bV (xZ a) fun j=>
 bV (fAd 7 j) fun m=>
 bV (ld1 m H) fun o=>
 bV (ldN 3 f H) fun p=>
 bV (xZ a) fun q=>
 bV (fAd 2 q) fun s=>
 bR (stN 3 s p H) fun I H=>
 bV (xZ a) fun t=>
 bV (fAd 7 t) fun u=>
 bR (stN 1 u .nS H) fun J H=>
 bA (mkM [10]) H fun v H=>
 bV (xZ a) fun x=>
 bV (fAd 5 x) fun y=>
 bR (stN 1 y v H) fun K H=>
 bV (ldN 3 f H) fun z=>
 bR (stN 3 h z H) fun G H=>
 bV (ldN 3 h H) fun i=>bV (some o) fun C=>bV (some (.int .i64 (.ofNat 0))) fun F=>some (.ret (.tuple [i,C,F]),H)
@[irreducible] def f43 (D:Dyn)(n:Nat)(vs:List AV)(H:AH):Option (AV×AH):=
 fG (hd vs fun a vs=>hd vs fun f vs=>hd vs fun j vs=>nl vs <|
 bA (bxV 42 (.agg [(.int .i64 (.ofNat 0)),(.int .i64 (.ofNat 0)),(.int .u64 (.ofNat 0))])) H fun x6 H=>
 bR (f73 D n [a] H) fun m H=>
 jn (wnt m false (bV (gK .eql (eqP f .nP)) fun L=>
 some (.norm [L],H)) (some (.norm [jU],H))) fun vs H=>hd vs fun z vs=>
 bV (pk3 (some m) (some (.bool true)) (some z)) fun M=>
 cnd M (bV (uO [(0,1),(1,1),(2,1)] [(.int .i64 (.ofNat 0)),(.int .i64 (.ofNat 0)),(.int .u64 (.ofNat 0))] []) fun N=>
 bR (stN 3 x6 N H) fun c2 H=>
 bV (ldN 3 x6 H) fun C=>bV (some .nS) fun x7=>bV (some (.int .i64 (.ofNat 2))) fun x8=>some (.ret (.tuple [C,x7,x8]),H))
 (bV (kO .lss j (.int .i64 (.ofNat 1))) fun o=>
 jn (wnt o false (bV (kO .gtr j (.int .i64 (.ofNat 2147483647))) fun O=>
 some (.norm [O],H)) (some (.norm [jU],H))) fun vs H=>hd vs fun F vs=>
 bV (pk3 (some o) (some (.bool true)) (some F)) fun Q=>
 cnd Q (bV (uO [(0,1),(1,1),(2,1)] [(.int .i64 (.ofNat 0)),(.int .i64 (.ofNat 0)),(.int .u64 (.ofNat 0))] []) fun S=>
 bR (stN 3 x6 S H) fun b9 H=>
 bV (ldN 3 x6 H) fun x=>bV (some .nS) fun G=>bV (some (.int .i64 (.ofNat 1))) fun I=>some (.ret (.tuple [x,G,I]),H))
 (bV (xZ a) fun T=>
 bV (fAd 5 T) fun p=>
 bV (ld1 p H) fun q=>
 bR (f23 D n [f] H) fun U H=>chk (ld1 p H) q <|
 bV (ZM q H) fun V=>
 bV (kO .lss U V) fun W=>
 cnd W (bV (uO [(0,1),(1,1),(2,1)] [(.int .i64 (.ofNat 0)),(.int .i64 (.ofNat 0)),(.int .u64 (.ofNat 0))] []) fun Y=>
 bR (stN 3 x6 Y H) fun c0 H=>
 bV (ldN 3 x6 H) fun y=>bV (some .nS) fun J=>bV (some (.int .i64 (.ofNat 3))) fun K=>some (.ret (.tuple [y,J,K]),H))
 (bV (xZ a) fun Z=>
 bV (fAd 5 Z) fun a0=>
 bV (ld1 a0 H) fun a1=>
 bV (ZM a1 H) fun a2=>
 bV (uO [(0,1),(1,1),(2,1),(3,1),(4,1),(5,1)] [.nP, .nP,(.int .i64 (.ofNat 0)),(.int .i64 (.ofNat 0)), .nS, .nS] [(0,a),(1,f),(2,j),(3,a2)]) fun a3=>
 bA (bxV 198 a3) H fun h H=>
 bV (xZ a) fun a4=>
 bV (fAd 2 a4) fun a5=>
 bV (ldN 3 a5 H) fun a6=>
 bR (f96 D n [h,a6] H) fun s H=>
 bV (jS s 0) fun a7=>
 bV (jS s 1) fun t=>
 bA (bxV 42 (.agg [(.int .i64 (.ofNat 0)),(.int .i64 (.ofNat 0)),(.int .u64 (.ofNat 0))])) H fun i H=>
 bR (stN 3 i a7 H) fun c1 H=>
 bV (kO .neq t (.int .i64 (.ofNat 0))) fun a8=>
 cnd a8 (bV (xZ h) fun a9=>
 bV (fAd 4 a9) fun b0=>
 bV (ld1 b0 H) fun u=>
 bV (lnSl u) fun b1=>
 jb 0 (kL n (f43l0 D n) [f,x6,t,u,b1,(.int .i64 (.ofNat 0))] H) (f43b1 D n))
 (bV (xZ a) fun b2=>
 bV (fAd 1 b2) fun b3=>
 bV (ld1 b3 H) fun b4=>
 bV (gK .neq (eqP b4 .nP)) fun b5=>
 jn (cnd b5 (bV (xZ h) fun b6=>
 bV (fAd 5 b6) fun b7=>
 bV (ld1 b7 H) fun v=>
 bV (lnSl v) fun b8=>
 jb 2 (kL n (f43l2 D n) [a,x6,i,v,b8,(.int .i64 (.ofNat 0))] H) (f43b3 D n))
 (some (.norm [a,x6,i],H))) (zNX D n))))))
def h43:Hint:=(.s .o (.s Hq (.s Hq (.s Hq (.s .o (.s .o (.s (.s .o (.cl (.s (.s .o (.b [6,11] (.l [1,6,11,64,65,66] (.s .o (.s (.cr .o .o) (.s (.b0 Hr) .o)))))) Hr) .o)) (.s (.s .o (.c [0,6,10] (.s .o (.b [0,6,10] (.l [0,6,10,84,85,86] (.s .o (.s (.cr .o .o) (.s (.b0 Hr) .o)))))) .o)) (.s .o (.s .o (.s .o Hr)))))))))))
def t82:=ad (t81 D n) 43 (f43 D n)
theorem k82:KO t82:=kk k81 h43 Tryz.func43
def h84:Hint:=(.s .o (.s Hq (.s .o (.s Hq (.s (.c [11,2047,23,8388607,25,33554431] (.l [0,1,2,3,4,5,6,7,8,9,10,12,13,14,15,16,17,18,19,20,21,22,11,23,24,25,26] .o) .o) .o)))))
@[irreducible] def f84:=(.mk:FY (t82 D n) D n 84 Tryz.f84 h84 []).1
def t83:=ad (t82 D n) 84 (f84 D n)
theorem k83:KO t83:=kk k82 (ms h84) Tryz.func84
def h83:Hint:=(.s .o Hr)
@[irreducible] def f83:=(.mk:FY (t83 D n) D n 83 Tryz.f83 h83 []).1
def t84:=ad (t83 D n) 83 (f83 D n)
theorem k84:KO t84:=kk k83 (ms h83) Tryz.func83
def h29:Hint:=(.s .o (.s Hq (.s Hq Hr)))
@[irreducible] def f29:=(.mk:FY (t84 D n) D n 29 Tryz.f29 h29 []).1
theorem zK9 (a:DG A)(n:Nat):FI 29 (f29 A n):=fk n (ms h29) a (k84 a n) Tryz.func29
def t85:=ad (t84 D n) 29 (f29 D n)
theorem k85:KO t85:=kc k84 zK9
def h13:Hint:=(.s .o (.s .o (.s .o (.s .o (.s Hq (.s .o (.s .o (.s Hq (.s .o (.s (.c [21,2097151,26,67108863,31,2147483647,36,68719476735] (.l [0,1,2,3,4,5,6,7,8,9,10,11,12,13,14,15,16,17,18,19,20,21,22,23,24,25,26,27,28,29,30,31,32,33,34,35,37,36,38,39,40] .o) .o) .o))))))))))
@[irreducible] def f13:=(.mk:FY (t85 D n) D n 13 Tryz.f13 h13 []).1
theorem zGx (a:DG A)(n:Nat):FI 13 (f13 A n):=fk n (ms h13) a (k85 a n) Tryz.func13
def t86:=ad (t85 D n) 13 (f13 D n)
theorem k86:KO t86:=kc k85 zGx
def h14:Hint:=(.s .o (.s .o (.s (.s .o (.b [1,0,3] (.l [0,0,3,4] (.s (.s .o (.cr .o .o)) (.s (.b0 (.s Hq (.b [] .o))) .o))))) Hr)))
@[irreducible] def YN:=(.mk:PY (t86 D n) D n 14 Tryz.f14 h14 [] 0).1
@[irreducible] def zM6:=(.mk:PY (t86 D n) D n 14 Tryz.f14 h14 [YN D n] 1).1
@[irreducible] def f14:=(.mk:FY (t86 D n) D n 14 Tryz.f14 h14 [YN D n,zM6 D n]).1
theorem zKq (a:DG A)(n:Nat):FI 14 (f14 A n):=fk n (ms h14) a (k86 a n) Tryz.func14
def t87:=ad (t86 D n) 14 (f14 D n)
theorem k87:KO t87:=kc k86 zKq
def h36:Hint:=(.s .o (.s Hq Hr))
@[irreducible] def f36:=(.mk:FY (t87 D n) D n 36 Tryz.f36 h36 []).1
def t88:=ad (t87 D n) 36 (f36 D n)
theorem k88:KO t88:=kk k87 (ms h36) Tryz.func36
def h15:Hint:=(.s .o (.s .o (.s .o (.s .o (.s .o (.s Hq Hr))))))
@[irreducible] def f15:=(.mk:FY (t88 D n) D n 15 Tryz.f15 h15 []).1
theorem zKp (a:DG A)(n:Nat):FI 15 (f15 A n):=fk n (ms h15) a (k88 a n) Tryz.func15
def t89:=ad (t88 D n) 15 (f15 D n)
theorem k89:KO t89:=kc k88 zKp
def h22:Hint:=(.s .o (.s .o (.s (.b [1,5] (.l [0,0,1,5] (.s (.s .o (.cr .o .o)) (.b0 .o)))) Hr)))
@[irreducible] def zEj:=(.mk:PY (t89 D n) D n 22 Tryz.f22 h22 [] 0).1
@[irreducible] def zO2:=(.mk:PY (t89 D n) D n 22 Tryz.f22 h22 [zEj D n] 1).1
@[irreducible] def f22:=(.mk:FY (t89 D n) D n 22 Tryz.f22 h22 [zEj D n,zO2 D n]).1
def t90:=ad (t89 D n) 22 (f22 D n)
theorem k90:KO t90:=kk k89 (ms h22) Tryz.func22
def h16:Hint:=(.s .o (.s .o (.s (.b [] .o) (.s .o (.s (.s .o (.cl (.s (.b [8,255] .o) (.s Hq (.s .o (.s (.s .o (.c [0,8] (.c [8,254,11,2046,19,524286,22,4194303] (.l [0,1,2,3,4,5,6,7,9,10,12,13,14,15,16,17,18,8,11,19,20,21,22] .o) .o) (.c [8,254,11,2046,18,262142,21,2097151] (.l [0,1,2,3,4,5,6,7,9,10,12,13,14,15,16,17,8,11,18,19,20,21] .o) .o))) Hr)))) .o)) (.s (.b [6,63] .o) (.s Hq (.s Hq (.s (.c [8,254,16,65534,19,524287] (.l [0,1,2,3,4,5,6,7,9,10,11,12,13,14,15,8,16,17,18,19] .o) .o) Hr)))))))))
@[irreducible] def zM4:=(.mk:PY (t90 D n) D n 16 Tryz.f16 h16 [] 0).1
@[irreducible] def f16:=(.mk:FY (t90 D n) D n 16 Tryz.f16 h16 [zM4 D n]).1
theorem zKo (a:DG A)(n:Nat):FI 16 (f16 A n):=fk n (ms h16) a (k90 a n) Tryz.func16
def t91:=ad (t90 D n) 16 (f16 D n)
theorem k91:KO t91:=kc k90 zKo
def s117:Tb:=⟨X,[(168,f168 D n),(86,f86 D n)]⟩
def h117:Hint:=(.s .o (.s .o (.b0 (.rf 0 [3,5]))))
@[irreducible] def f117:=(.mk:FY (s117 D n) D n 117 Tryz.f117 h117 []).1
theorem zMc (a:DG A)(n:Nat):FI 117 (f117 A n):=fk n (ms h117) a (sc (KN a n) (sc (zAK a n) sn)) Tryz.func117
def t92:=ad (t91 D n) 117 (f117 D n)
theorem k92:KO t92:=kc k91 zMc
def zFv:Hint:= .o
def zFu:Hint:=(.b0 .o)
@[irreducible] def X7:=(.mk:RY (s117 D n) D n 117 0 [3,5] [] zFv zFu []).1
theorem zFx (D:Dyn)(n:Nat):X7 D n=zMK (s117 D n) D n 117 0 [3,5] [] (ms zFv) (ms zFu):=by kernel_rfl
theorem zFw (a:DG A)(n:Nat):RS 117 0 (X7 A n):=U1 X_ok a (sc (KN a n) (sc (zAK a n) sn)) (by kernel_rfl) (zFx A n)
def h71:Hint:=(.s .o (.c [0] Hr .o))
@[irreducible] def zNV:=(.mk:PY (t92 D n) D n 71 Tryz.f71 h71 [] 0).1
@[irreducible] def f71:=(.mk:FY (t92 D n) D n 71 Tryz.f71 h71 [zNV D n]).1
def t93:=ad (t92 D n) 71 (f71 D n)
theorem k93:KO t93:=kk k92 (ms h71) Tryz.func71
def h17:Hint:=(.s .o (.s .o (.s (.c [12,4095,18,163839] (.l [0,1,2,3,4,5,6,7,8,9,10,11,17,12,13,14,15,16,18,19,20] .o) .o) (.s (.s .o (.b [1,0,7] (.l [0,0,1,6,7,8] (.s (.s .o (.cr .o .o)) (.s (.b0 (.s (.b [9,511] .o) (.cl Hr .o))) .o))))) (.s .o Hr)))))
@[irreducible] def zGs:=(.mk:PY (t93 D n) D n 17 Tryz.f17 h17 [] 0).1
@[irreducible] def zO4:=(.mk:PY (t93 D n) D n 17 Tryz.f17 h17 [zGs D n] 1).1
@[irreducible] def f17:=(.mk:FY (t93 D n) D n 17 Tryz.f17 h17 [zGs D n,zO4 D n]).1
theorem zKk (a:DG A)(n:Nat):FI 17 (f17 A n):=fk n (ms h17) a (k93 a n) Tryz.func17
def t94:=ad (t93 D n) 17 (f17 D n)
theorem k94:KO t94:=kc k93 zKk
def h80:Hint:=(.s .o (.s Hq Hr))
@[irreducible] def f80:=(.mk:FY (t94 D n) D n 80 Tryz.f80 h80 []).1
theorem zK7 (a:DG A)(n:Nat):FI 80 (f80 A n):=fk n (ms h80) a (k94 a n) Tryz.func80
def t95:=ad (t94 D n) 80 (f80 D n)
theorem k95:KO t95:=kc k94 zK7
def m80 (D:Dyn)(n:Nat)(vs:List AV)(H:AH):Option (AV×AH):=clnK (f80 D n) vs H
theorem zNw (a:DG A)(n:Nat):FI 80 (m80 A n):=zMq ⟨_,Tryz.func80,rfl⟩ (AnyW.maps_Clone Tryz.clone80) (zK7 a n)
def t96:=ad (t95 D n) 80 (m80 D n)
theorem k96:KO t96:=kc k95 zNw
attribute [local irreducible] m80
def h28:Hint:=(.s .o (.s Hq (.s .o (.s .o (.s .o Hr)))))
@[irreducible] def f28:=(.mk:FY (t96 D n) D n 28 Tryz.f28 h28 []).1
theorem zKa (a:DG A)(n:Nat):FI 28 (f28 A n):=fk n (ms h28) a (k96 a n) Tryz.func28
def t97:=ad (t96 D n) 28 (f28 D n)
theorem k97:KO t97:=kc k96 zKa
end Go.Eng.Sh
end
end
section
noncomputable section
namespace Go.Eng.Sh
open Go.Proofs
set_option maxRecDepth 100000
variable (D:Dyn)(n:Nat)
attribute [local irreducible] bV bR hd cnd jn jb kL wnt chk U7 bA kO J6 YP gK eqP eqS eqM eqF eqA zMS ldN ld1 stN cvI zMW zDl zKE WL vD xM vU gY KD zAA zEd fd1 fdN fAd KA lnSl ZM apP apZ cpy uO zJm pk3 s2a bxV Q0 zFR lkM upM dlM mkM callV nl fG tld zKA fV BK cS zEc rfC mn2 mx2 aun jS xZ jU isW aveq bF zMN m80
def s5:Tb:=⟨X,[(13,f13 D n),(14,f14 D n),(15,f15 D n),(16,f16 D n),(17,f17 D n),(23,f23 D n),(25,f25 D n),(19,f19 D n),(18,f18 D n),(26,f26 D n),(27,f27 D n),(28,f28 D n),(29,f29 D n),(24,f24 D n)]⟩
@[irreducible] def f5l0 (D:Dyn)(n:Nat)(vs:List AV)(H:AH):Rs:=
 hd vs fun a vs=>hd vs fun i vs=>hd vs fun j vs=>hd vs fun m vs=>hd vs fun h vs=>hd vs fun f vs=>
 bV (lnSl a) fun p=>
 bV (kO .lss f p) fun q=>
 cnd q (bV (gY 4 a f) fun s=>
 bV (ldN 4 s H) fun t=>
 bR (f16 D n [h,t] H) fun u H=>
 bV (aun .not u) fun v=>
 cnd v (bV (some (.bool false)) fun o=>some (.ret o,H))
 (bV (kO .add f (.int .i64 (.ofNat 1))) fun x=>
 some (.norm [a,i,j,m,h,x],H)))
 (some (.exit 0 [i,j,m,h],H))
@[irreducible] def f5l1 (D:Dyn)(n:Nat)(vs:List AV)(H:AH):Rs:=
 hd vs fun q vs=>hd vs fun a vs=>hd vs fun z vs=>hd vs fun i vs=>hd vs fun f vs=>
 bV (xZ a) fun M=>
 bV (fAd 4 M) fun N=>
 bV (ld1 N H) fun O=>
 bV (lnSl O) fun Q=>
 bV (kO .lss f Q) fun S=>
 cnd S (bV (xZ a) fun T=>
 bV (fAd 4 T) fun U=>
 bV (ld1 U H) fun V=>
 bV (gY 2 V f) fun W=>
 bV (fAd 0 W) fun Y=>
 bV (ld1 Y H) fun Z=>
 bR (f27 D n [i,Z] H) fun s H=>
 bV (jS s 0) fun a0=>
 bV (jS s 1) fun j=>
 bV (kO .eql j (.int .i64 (.ofNat 0))) fun t=>
 jn (wnt t true (bV (xZ a) fun a1=>
 bV (fAd 4 a1) fun a2=>
 bV (ld1 a2 H) fun a3=>
 bV (gY 2 a3 f) fun a4=>
 bV (fAd 1 a4) fun a5=>
 bV (ld1 a5 H) fun a6=>
 bV (J6 .neq a0 a6) fun a7=>
 some (.norm [a7],H)) (some (.norm [jU],H))) fun vs H=>hd vs fun C vs=>
 bV (pk3 (some t) (some C) (some (.bool false))) fun m=>
 jn (wnt m false (bV (kO .neq j (.int .i64 (.ofNat 0))) fun a8=>
 some (.norm [a8],H)) (some (.norm [jU],H))) fun vs H=>hd vs fun o vs=>
 jn (wnt o true (bV (kO .neq j (.int .i64 (.ofNat 52))) fun a9=>
 some (.norm [a9],H)) (some (.norm [jU],H))) fun vs H=>hd vs fun u vs=>
 jn (wnt u false (bV (kO .eql q z) fun b0=>
 some (.norm [b0],H)) (some (.norm [jU],H))) fun vs H=>hd vs fun F vs=>
 jn (wnt o true (bV (pk3 (some u) (some (.bool true)) (some F)) fun b1=>
 some (.norm [b1],H)) (some (.norm [jU],H))) fun vs H=>hd vs fun G vs=>
 jn (wnt m false (bV (pk3 (some o) (some G) (some (.bool false))) fun b2=>
 some (.norm [b2],H)) (some (.norm [jU],H))) fun vs H=>hd vs fun I vs=>
 bV (pk3 (some m) (some (.bool true)) (some I)) fun b3=>
 cnd b3 (bV (some (.bool false)) fun b4=>some (.ret b4,H))
 (bR (f28 D n [i] H) fun p H=>
 bV (xZ a) fun b5=>
 bV (fAd 4 b5) fun b6=>
 bV (ld1 b6 H) fun b7=>
 bV (gY 2 b7 f) fun b8=>
 bV (fAd 0 b8) fun b9=>
 bV (ld1 b9 H) fun c0=>
 bR (f29 D n [p,c0] H) fun v H=>
 bV (kO .neq v (.int .i64 (.ofNat 0))) fun h=>
 jn (wnt h true (bV (kO .neq v (.int .i64 (.ofNat 52))) fun c1=>
 some (.norm [c1],H)) (some (.norm [jU],H))) fun vs H=>hd vs fun x vs=>
 jn (wnt x false (bR (f24 D n [p] H) fun c2 H=>
 bV (kO .neq c2 (.int .i64 (.ofNat 0))) fun c3=>
 some (.norm [c3],H)) (some (.norm [jU],H))) fun vs H=>hd vs fun J vs=>
 jn (wnt h true (bV (pk3 (some x) (some (.bool true)) (some J)) fun c4=>
 some (.norm [c4],H)) (some (.norm [jU],H))) fun vs H=>hd vs fun y vs=>
 jn (wnt y false (bR (f19 D n [p] H) fun c5 H=>
 bR (f19 D n [i] H) fun c6 H=>
 bV (gK .neq (eqA [6,6,10] c5 c6)) fun c7=>
 some (.norm [c7],H)) (some (.norm [jU],H))) fun vs H=>hd vs fun K vs=>
 jn (wnt h true (bV (pk3 (some y) (some (.bool true)) (some K)) fun c8=>
 some (.norm [c8],H)) (some (.norm [jU],H))) fun vs H=>hd vs fun L vs=>
 bV (pk3 (some h) (some L) (some (.bool false))) fun c9=>
 cnd c9 (bV (some (.bool false)) fun d0=>some (.ret d0,H))
 (bV (kO .add f (.int .i64 (.ofNat 1))) fun d1=>
 some (.norm [q,a,z,i,d1],H))))
 (some (.exit 2 [],H))
@[irreducible] def f5b2 (D:Dyn)(n:Nat)(vs:List AV)(H:AH):Rs:=
 bV (some (.bool true)) fun a=>some (.ret a,H)
@[irreducible] def f5b3 (D:Dyn)(n:Nat)(vs:List AV)(H:AH):Rs:=
 hd vs fun x vs=>hd vs fun y vs=>hd vs fun h vs=>hd vs fun a vs=>
 bR (f17 D n [a,(.bool true)] H) fun N H=>
 bV (aun .not N) fun O=>
 cnd O (bV (some (.bool false)) fun z=>some (.ret z,H))
 (bV (cvI .i64 x) fun Q=>
 bV (xZ a) fun S=>
 bV (fAd 1 S) fun T=>
 bV (ld1 T H) fun U=>
 bR (f23 D n [U] H) fun V H=>
 bV (kO .sub (.int .i64 (.ofNat 510)) V) fun W=>
 bV (kO .add W (.int .i64 (.ofNat 1))) fun Y=>
 bV (kO .rem Q Y) fun Z=>
 bV (kO .add (.int .i64 (.ofNat 2)) Z) fun i=>
 bV (xZ a) fun a0=>
 bV (fAd 0 a0) fun a1=>
 bV (ld1 a1 H) fun a2=>
 bR (f25 D n [a2,i] H) fun j H=>
 bV (jS j 0) fun a3=>
 bV (jS j 1) fun a4=>
 bA (bxV 55 (.agg (rep 512 [(.int .u8 (.ofNat 0))]))) H fun f H=>
 bR (stN 512 f a3 H) fun b9 H=>
 bV (cvI .u64 y) fun a5=>
 bV (kO .rem a5 (.int .u64 (.ofNat 512))) fun a6=>
 bV (cvI .i64 a6) fun m=>
 bV (vU 512 1 f m) fun a7=>
 bV (ld1 a7 H) fun a8=>
 bV (vU 512 1 f m) fun a9=>
 bR (stN 1 a9 h H) fun b8 H=>
 bV (xZ a) fun b0=>
 bV (fAd 0 b0) fun o=>
 bV (ld1 o H) fun p=>
 bV (xZ a) fun b1=>
 bV (fAd 2 b1) fun b2=>
 bV (ld1 b2 H) fun b3=>
 bR (f19 D n [b3] H) fun b4 H=>chk (ld1 o H) p <|
 bR (f18 D n [p, .nP,b4] H) fun q H=>
 bV (jS q 0) fun b5=>
 bV (jS q 1) fun b6=>
 bV (kO .neq a4 (.int .i64 (.ofNat 0))) fun s=>
 jn (wnt s false (bV (kO .neq b6 (.int .i64 (.ofNat 0))) fun b7=>
 some (.norm [b7],H)) (some (.norm [jU],H))) fun vs H=>hd vs fun v vs=>
 bV (pk3 (some s) (some (.bool true)) (some v)) fun t=>
 jn (wnt t false (bV (xZ a) fun C=>
 bV (fAd 0 C) fun F=>
 bV (ld1 F H) fun G=>
 bV (ldN 512 f H) fun I=>
 bR (f26 D n [G,i,I] H) fun J H=>
 bV (kO .neq J (.int .i64 (.ofNat 0))) fun K=>
 some (.norm [K],H)) (some (.norm [jU],H))) fun vs H=>hd vs fun u vs=>
 bV (pk3 (some t) (some (.bool true)) (some u)) fun L=>
 cnd L (bV (some (.bool false)) fun M=>some (.ret M,H))
 (jb 2 (kL n (f5l1 D n) [h,a,a8,b5,(.int .i64 (.ofNat 0))] H) (f5b2 D n)))
@[irreducible] def f5 (D:Dyn)(n:Nat)(vs:List AV)(H:AH):Option (AV×AH):=
 fG (hd vs fun h vs=>hd vs fun t vs=>hd vs fun u vs=>hd vs fun v vs=>nl vs <|
 bR (f13 D n [] H) fun m H=>
 bV (aun .not m) fun a=>
 jn (wnt a false (bR (f14 D n [h] H) fun o H=>
 some (.norm [o],H)) (some (.norm [jU],H))) fun vs H=>hd vs fun i vs=>
 bV (pk3 (some a) (some (.bool true)) (some i)) fun p=>
 cnd p (bR (f13 D n [] H) fun q H=>
 bV (some q) fun x=>some (.ret x,H))
 (bR (f15 D n [(.int .i64 (.ofNat 0))] H) fun f H=>
 bV (gK .eql (eqP f .nP)) fun s=>
 cnd s (bV (some (.bool false)) fun j=>some (.ret j,H))
 (jb 0 (kL n (f5l0 D n) [h,t,u,v,f,(.int .i64 (.ofNat 0))] H) (f5b3 D n))))
def h5:Hint:=(.s .o (.s Hq (.s .o (.s Hq (.s (.s .o (.b [1,2,3,9] (.l [0,1,2,3,9,10] (.s (.s .o (.cr .o .o)) (.s (.b0 Hq) .o))))) (.s Hq (.s .o (.s .o (.s .o (.s .o (.s .o (.s .o (.s Hq (.s (.s .o (.b [] (.l [3,9,15,16,18] (.s (.s .o (.cr .o .o)) (.s (.b0 (.s .o (.s Hq (.s .o (.s .o Hq))))) .o))))) Hr))))))))))))))
def t98:=ad (t97 D n) 5 (f5 D n)
theorem k98:KO t98:=kk k97 h5 Tryz.func5
end Go.Eng.Sh
end
end
section
noncomputable section
namespace Go.Eng.Sh
open Go.Proofs
set_option maxRecDepth 100000
def tab (D:Dyn)(n:Nat):=(t98 D n).S
def tabR (D:Dyn)(n:Nat):List ((Nat×Nat)×(Nat->ALoop->List AV->AH->Option (AV×AH))):=[((41,0),zLm D n),((117,0),X7 D n),((195,0),X6 D n)]
theorem zN9(a:DG D):SOk (tab D n):=k98 a n
theorem zKT(a:DG D):ROk (tabR D n):=ROk.cons (zIq a n) (ROk.cons (zFw a n) (ROk.cons (zFs a n) (ROk.nil)))
def dy (n:Nat):Dyn:=dyOf tab tabR n
theorem dy_ok (n:Nat):DG (dy n):=zGU zN9 zKT n
end Go.Eng.Sh
end
end
section
noncomputable section
namespace Go.Eng.Sh
open Go.Proofs
set_option maxRecDepth 1000000
theorem c13_r:zLd (f13 (dy 100000) 100000 [] ⟨.leaf,0⟩)=true:=by kernel_rfl
theorem c13 (w:World):Calls PP 13 #[] w fun e a=>e= .returned (.bool true)/\RowKit.Below w.heap.size w a:=zJj (zGx (dy_ok 100000) 100000) c13_r w
end Go.Eng.Sh
end
end
section
noncomputable section
namespace Go.Eng.Sh
open Go.Proofs
set_option maxRecDepth 1000000
def z13 (D:Dyn)(n:Nat)(vs:List AV)(H:AH):Option (AV×AH):=cloK (f13 D n) vs H
theorem zN0 (a:DG A)(n:Nat):FI 13 (z13 A n):=zMp ⟨_,Tryz.func13,rfl⟩ c13 (zGx a n)
variable (D:Dyn)(n:Nat)
attribute [local irreducible] bV bR hd cnd jn jb kL wnt chk U7 bA kO J6 YP gK eqP eqS eqM eqF eqA zMS ldN ld1 stN cvI zMW zDl zKE WL vD xM vU gY KD zAA zEd fd1 fdN fAd KA lnSl ZM apP apZ cpy uO zJm pk3 s2a bxV Q0 zFR lkM upM dlM mkM callV nl fG tld zKA fV BK cS zEc rfC mn2 mx2 aun jS xZ jU isW aveq bF zMN m80 z13
def s5z:Tb:=⟨X,[(13,z13 D n),(14,f14 D n),(15,f15 D n),(16,f16 D n),(17,f17 D n),(23,f23 D n),(25,f25 D n),(19,f19 D n),(18,f18 D n),(26,f26 D n),(27,f27 D n),(28,f28 D n),(29,f29 D n),(24,f24 D n)]⟩
@[irreducible] def zGm (D:Dyn)(n:Nat)(vs:List AV)(H:AH):Rs:=
 hd vs fun a vs=>hd vs fun i vs=>hd vs fun j vs=>hd vs fun m vs=>hd vs fun h vs=>hd vs fun f vs=>
 bV (lnSl a) fun p=>
 bV (kO .lss f p) fun q=>
 cnd q (bV (gY 4 a f) fun s=>
 bV (ldN 4 s H) fun t=>
 bR (f16 D n [h,t] H) fun u H=>
 bV (aun .not u) fun v=>
 cnd v (bV (some (.bool false)) fun o=>some (.ret o,H))
 (bV (kO .add f (.int .i64 (.ofNat 1))) fun x=>
 some (.norm [a,i,j,m,h,x],H)))
 (some (.exit 0 [i,j,m,h],H))
@[irreducible] def zEi (D:Dyn)(n:Nat)(vs:List AV)(H:AH):Rs:=
 hd vs fun q vs=>hd vs fun a vs=>hd vs fun z vs=>hd vs fun i vs=>hd vs fun f vs=>
 bV (xZ a) fun M=>
 bV (fAd 4 M) fun N=>
 bV (ld1 N H) fun O=>
 bV (lnSl O) fun Q=>
 bV (kO .lss f Q) fun S=>
 cnd S (bV (xZ a) fun T=>
 bV (fAd 4 T) fun U=>
 bV (ld1 U H) fun V=>
 bV (gY 2 V f) fun W=>
 bV (fAd 0 W) fun Y=>
 bV (ld1 Y H) fun Z=>
 bR (f27 D n [i,Z] H) fun s H=>
 bV (jS s 0) fun a0=>
 bV (jS s 1) fun j=>
 bV (kO .eql j (.int .i64 (.ofNat 0))) fun t=>
 jn (wnt t true (bV (xZ a) fun a1=>
 bV (fAd 4 a1) fun a2=>
 bV (ld1 a2 H) fun a3=>
 bV (gY 2 a3 f) fun a4=>
 bV (fAd 1 a4) fun a5=>
 bV (ld1 a5 H) fun a6=>
 bV (J6 .neq a0 a6) fun a7=>
 some (.norm [a7],H)) (some (.norm [jU],H))) fun vs H=>hd vs fun C vs=>
 bV (pk3 (some t) (some C) (some (.bool false))) fun m=>
 jn (wnt m false (bV (kO .neq j (.int .i64 (.ofNat 0))) fun a8=>
 some (.norm [a8],H)) (some (.norm [jU],H))) fun vs H=>hd vs fun o vs=>
 jn (wnt o true (bV (kO .neq j (.int .i64 (.ofNat 52))) fun a9=>
 some (.norm [a9],H)) (some (.norm [jU],H))) fun vs H=>hd vs fun u vs=>
 jn (wnt u false (bV (kO .eql q z) fun b0=>
 some (.norm [b0],H)) (some (.norm [jU],H))) fun vs H=>hd vs fun F vs=>
 jn (wnt o true (bV (pk3 (some u) (some (.bool true)) (some F)) fun b1=>
 some (.norm [b1],H)) (some (.norm [jU],H))) fun vs H=>hd vs fun G vs=>
 jn (wnt m false (bV (pk3 (some o) (some G) (some (.bool false))) fun b2=>
 some (.norm [b2],H)) (some (.norm [jU],H))) fun vs H=>hd vs fun I vs=>
 bV (pk3 (some m) (some (.bool true)) (some I)) fun b3=>
 cnd b3 (bV (some (.bool false)) fun b4=>some (.ret b4,H))
 (bR (f28 D n [i] H) fun p H=>
 bV (xZ a) fun b5=>
 bV (fAd 4 b5) fun b6=>
 bV (ld1 b6 H) fun b7=>
 bV (gY 2 b7 f) fun b8=>
 bV (fAd 0 b8) fun b9=>
 bV (ld1 b9 H) fun c0=>
 bR (f29 D n [p,c0] H) fun v H=>
 bV (kO .neq v (.int .i64 (.ofNat 0))) fun h=>
 jn (wnt h true (bV (kO .neq v (.int .i64 (.ofNat 52))) fun c1=>
 some (.norm [c1],H)) (some (.norm [jU],H))) fun vs H=>hd vs fun x vs=>
 jn (wnt x false (bR (f24 D n [p] H) fun c2 H=>
 bV (kO .neq c2 (.int .i64 (.ofNat 0))) fun c3=>
 some (.norm [c3],H)) (some (.norm [jU],H))) fun vs H=>hd vs fun J vs=>
 jn (wnt h true (bV (pk3 (some x) (some (.bool true)) (some J)) fun c4=>
 some (.norm [c4],H)) (some (.norm [jU],H))) fun vs H=>hd vs fun y vs=>
 jn (wnt y false (bR (f19 D n [p] H) fun c5 H=>
 bR (f19 D n [i] H) fun c6 H=>
 bV (gK .neq (eqA [6,6,10] c5 c6)) fun c7=>
 some (.norm [c7],H)) (some (.norm [jU],H))) fun vs H=>hd vs fun K vs=>
 jn (wnt h true (bV (pk3 (some y) (some (.bool true)) (some K)) fun c8=>
 some (.norm [c8],H)) (some (.norm [jU],H))) fun vs H=>hd vs fun L vs=>
 bV (pk3 (some h) (some L) (some (.bool false))) fun c9=>
 cnd c9 (bV (some (.bool false)) fun d0=>some (.ret d0,H))
 (bV (kO .add f (.int .i64 (.ofNat 1))) fun d1=>
 some (.norm [q,a,z,i,d1],H))))
 (some (.exit 2 [],H))
@[irreducible] def zNW (D:Dyn)(n:Nat)(vs:List AV)(H:AH):Rs:=
 bV (some (.bool true)) fun a=>some (.ret a,H)
@[irreducible] def zM0 (D:Dyn)(n:Nat)(vs:List AV)(H:AH):Rs:=
 hd vs fun x vs=>hd vs fun y vs=>hd vs fun h vs=>hd vs fun a vs=>
 bR (f17 D n [a,(.bool true)] H) fun N H=>
 bV (aun .not N) fun O=>
 cnd O (bV (some (.bool false)) fun z=>some (.ret z,H))
 (bV (cvI .i64 x) fun Q=>
 bV (xZ a) fun S=>
 bV (fAd 1 S) fun T=>
 bV (ld1 T H) fun U=>
 bR (f23 D n [U] H) fun V H=>
 bV (kO .sub (.int .i64 (.ofNat 510)) V) fun W=>
 bV (kO .add W (.int .i64 (.ofNat 1))) fun Y=>
 bV (kO .rem Q Y) fun Z=>
 bV (kO .add (.int .i64 (.ofNat 2)) Z) fun i=>
 bV (xZ a) fun a0=>
 bV (fAd 0 a0) fun a1=>
 bV (ld1 a1 H) fun a2=>
 bR (f25 D n [a2,i] H) fun j H=>
 bV (jS j 0) fun a3=>
 bV (jS j 1) fun a4=>
 bA (bxV 55 (.agg (rep 512 [(.int .u8 (.ofNat 0))]))) H fun f H=>
 bR (stN 512 f a3 H) fun b9 H=>
 bV (cvI .u64 y) fun a5=>
 bV (kO .rem a5 (.int .u64 (.ofNat 512))) fun a6=>
 bV (cvI .i64 a6) fun m=>
 bV (vU 512 1 f m) fun a7=>
 bV (ld1 a7 H) fun a8=>
 bV (vU 512 1 f m) fun a9=>
 bR (stN 1 a9 h H) fun b8 H=>
 bV (xZ a) fun b0=>
 bV (fAd 0 b0) fun o=>
 bV (ld1 o H) fun p=>
 bV (xZ a) fun b1=>
 bV (fAd 2 b1) fun b2=>
 bV (ld1 b2 H) fun b3=>
 bR (f19 D n [b3] H) fun b4 H=>chk (ld1 o H) p <|
 bR (f18 D n [p, .nP,b4] H) fun q H=>
 bV (jS q 0) fun b5=>
 bV (jS q 1) fun b6=>
 bV (kO .neq a4 (.int .i64 (.ofNat 0))) fun s=>
 jn (wnt s false (bV (kO .neq b6 (.int .i64 (.ofNat 0))) fun b7=>
 some (.norm [b7],H)) (some (.norm [jU],H))) fun vs H=>hd vs fun v vs=>
 bV (pk3 (some s) (some (.bool true)) (some v)) fun t=>
 jn (wnt t false (bV (xZ a) fun C=>
 bV (fAd 0 C) fun F=>
 bV (ld1 F H) fun G=>
 bV (ldN 512 f H) fun I=>
 bR (f26 D n [G,i,I] H) fun J H=>
 bV (kO .neq J (.int .i64 (.ofNat 0))) fun K=>
 some (.norm [K],H)) (some (.norm [jU],H))) fun vs H=>hd vs fun u vs=>
 bV (pk3 (some t) (some (.bool true)) (some u)) fun L=>
 cnd L (bV (some (.bool false)) fun M=>some (.ret M,H))
 (jb 2 (kL n (zEi D n) [h,a,a8,b5,(.int .i64 (.ofNat 0))] H) (zNW D n)))
@[irreducible] def f5z (D:Dyn)(n:Nat)(vs:List AV)(H:AH):Option (AV×AH):=
 fG (hd vs fun h vs=>hd vs fun t vs=>hd vs fun u vs=>hd vs fun v vs=>nl vs <|
 bR (z13 D n [] H) fun m H=>
 bV (aun .not m) fun a=>
 jn (wnt a false (bR (f14 D n [h] H) fun o H=>
 some (.norm [o],H)) (some (.norm [jU],H))) fun vs H=>hd vs fun i vs=>
 bV (pk3 (some a) (some (.bool true)) (some i)) fun p=>
 cnd p (bR (z13 D n [] H) fun q H=>
 bV (some q) fun x=>some (.ret x,H))
 (bR (f15 D n [(.int .i64 (.ofNat 0))] H) fun f H=>
 bV (gK .eql (eqP f .nP)) fun s=>
 cnd s (bV (some (.bool false)) fun j=>some (.ret j,H))
 (jb 0 (kL n (zGm D n) [h,t,u,v,f,(.int .i64 (.ofNat 0))] H) (zM0 D n))))
def h5z:Hint:=(.s .o (.s Hq (.s .o (.s Hq (.s (.s .o (.b [1,2,3,9] (.l [0,1,2,3,9,10] (.s (.s .o (.cr .o .o)) (.s (.b0 Hq) .o))))) (.s Hq (.s .o (.s .o (.s .o (.s .o (.s .o (.s .o (.s Hq (.s (.s .o (.b [] (.l [3,9,15,16,18] (.s (.s .o (.cr .o .o)) (.s (.b0 (.s .o (.s Hq (.s .o (.s .o Hq))))) .o))))) Hr))))))))))))))
theorem f5z_ok (a:DG A)(n:Nat):FI 5 (f5z A n):=fk n h5z a (sc (zN0 a n) (sc (zKq a n) (sc (zKp a n) (sc (zKo a n) (sc (zKk a n) (sc (zKf a n) (sc (zKd a n) (sc (zKh a n) (sc (zKj a n) (sc (zKc a n) (sc (zKb a n) (sc (zKa a n) (sc (zK9 a n) (sc (zKe a n) sn)))))))))))))) Tryz.func5
end Go.Eng.Sh
end
end
section
namespace Go.Nd
abbrev Str:=List UInt8
structure Ptr where
 at_:Int
 birth:Int
 sum:Int
 deriving DecidableEq
structure Node where
 leaf:Bool
 keys:List Str
 vals:List Str
 kids:List Ptr
 deriving DecidableEq
def be:Nat->Nat->Str
 | 0,_=>[]
 | k+1,n=>be k (n / 256)++[UInt8.ofNat n]
def bee (l:Str):Nat:=l.foldl (fun n c=>n*256+c.toNat) 0
theorem be_length: ∀k n,(be k n).length=k
 | 0,_=>rfl
 | k+1,n=>by simp[be,be_length k]
theorem bee_snoc (l:Str)(c:UInt8):bee (l++[c])=bee l*256+c.toNat:=by simp[bee]
theorem bee_be: ∀k n,bee (be k n)=n % 256 ^ k
 | 0,n=>by simp[be,bee,Nat.mod_one]
 | k+1,n=>by
  rw[be,bee_snoc,bee_be k,Nat.pow_succ,Nat.mul_comm (256 ^ k) 256,Nat.mod_mul];simp[UInt8.toNat_ofNat'];omega
theorem zDv (l:Str):be l.length (bee l)=l:=by
 suffices h: ∀(m:Nat) (l:Str),l.length=m->be m (bee l)=l from h _ l rfl
 intro m
 induction m with
 | zero=>intro l h;rw[zR h];rfl
 | succ m ih=>
  intro l h;obtain⟨l',c,rfl⟩: ∃l' c,l=l'++[c]:=⟨l.dropLast,l.getLast (by intro e;simp[e]at h),(List.dropLast_concat_getLast _).symm⟩;simp only[zV,jI,Nat.add_right_cancel_iff]at h;have a:c.toNat<256:=c.toNat_lt;rw[bee_snoc,be,show(bee l'*256+c.toNat) / 256=bee l' from by omega,ih l' h];congr 2;apply UInt8.toNat_inj.1;rw[UInt8.toNat_ofNat'];omega
theorem bee_lt (l:Str):bee l<256 ^ l.length:=by
 have:=bee_be l.length (bee l);rw[zDv]at this;rw[this];exact Nat.mod_lt _ (Nat.pow_pos (by omega))
def mayP (p:Ptr):Bool:=if p.at_=0 then decide (p.birth=0)&&decide (p.sum=0)else decide (0<p.at_)&&decide (p.at_<8192)&&decide (0<=p.birth)&&decide (p.birth<=2147483647)
def QW (p:Ptr):Str:=be 4 p.at_.toNat++(be 4 p.birth.toNat++be 8 p.sum.toNat)
def xX (s:Str):Ptr:=⟨(bee (s.take 4):Nat),(bee ((s.drop 4).take 4):Nat),(bee (s.drop 8):Nat)⟩
def decP (s:Str):Option Ptr:=if mayP (xX s)then some (xX s)else none
theorem encP_length (p:Ptr):(QW p).length=16:=by simp[QW,be_length]
def sumOk (p:Ptr):Prop:=0<=p.sum/\p.sum<18446744073709551616
theorem zE3 {p:Ptr}(h:mayP p=true)(f:sumOk p):xX (QW p)=p:=by
 obtain⟨a,b,s⟩:=p;have i:(QW ⟨a,b,s⟩).take 4=be 4 a.toNat:=by simp[QW,be_length]
 have j:((QW ⟨a,b,s⟩).drop 4).take 4=be 4 b.toNat:=by
  rw[QW,jA (by simp[be_length]),jD (by simp[be_length])]
 have m:(QW ⟨a,b,s⟩).drop 8=be 8 s.toNat:=by
  rw[QW,<-qH,jA (by simp[be_length])]
 simp only[xX,i,j,m,bee_be];simp only[sumOk]at f;simp only[mayP]at h;split at h
 .simp only[zF,zQ]at h;simp_all
 .simp only[zF,zQ]at h;congr 1<;>omega
theorem zEl {s:Str}(h:s.length=16):QW (xX s)=s:=by
 have a:=zDv (s.take 4);have f:=zDv ((s.drop 4).take 4);have i:=zDv (s.drop 8);rw[show(s.take 4).length=4 from by simp;omega]at a;rw[show((s.drop 4).take 4).length=4 from by simp;omega]at f;rw[show(s.drop 8).length=8 from by simp;omega]at i;simp only[QW,xX,yI,a,f,i];rw[show s.drop 8=(s.drop 4).drop 4 from by rw[List.drop_drop],qV,qV]
theorem zFA {s:Str}(h:s.length=16):sumOk (xX s):=by
 have:=bee_lt (s.drop 8);rw[show(s.drop 8).length=8 from by simp;omega]at this;simp only[sumOk,xX];omega
def encT (s:Str):Str:=UInt8.ofNat s.length::s
def mayK (k:Str):Bool:=decide (1<=k.length)&&decide (k.length<=40)
def rising (lt:Str->Str->Bool):List Str->Bool
 | []=>true
 | [_]=>true
 | a::b::l=>lt a b&&rising lt (b::l)
def kidOk (p:Ptr):Bool:=decide (1<=p.at_)&&decide (p.at_<8192)&&decide (0<=p.birth)&&decide (p.birth<=2147483647)
theorem kidOk_may {p:Ptr}(h:kidOk p=true):mayP p=true:=by
 simp only[kidOk,zF,zQ]at h;simp only[mayP];rw[if_neg (by omega)];simp only[zF,zQ];omega
def shaped (lt:Str->Str->Bool)(n:Node):Bool:=
 n.keys.all mayK&&rising lt n.keys&&
 (if n.leaf then decide (n.vals.length=n.keys.length)&&decide (n.kids=[])&&n.vals.all (fun v=>decide (v.length<=200))
  else decide (n.keys≠[])&&decide (n.vals=[])&&decide (n.kids.length=n.keys.length+1)&&n.kids.all kidOk)
def sumL (l:List Str):Nat:=l.foldl (fun n s=>n+(1+s.length)) 0
theorem BW (l:List Str)(a:Nat):l.foldl (fun n s=>n+(1+s.length)) a=a+sumL l:=by
 induction l generalizing a with
 | nil=>simp[sumL]
 | cons s l ih=>simp only[List.foldl_cons,sumL];rw[ih,ih];omega
theorem sumL_cons (s:Str)(l:List Str):sumL (s::l)=1+s.length+sumL l:=by
 simp only[sumL,List.foldl_cons];rw[BW,BW];simp[sumL]
theorem sumL_append (l m:List Str):sumL (l++m)=sumL l+sumL m:=by
 induction l with
 | nil=>simp[sumL]
 | cons s l ih=>rw[qF,sumL_cons,sumL_cons,ih];omega
def size (n:Node):Nat:=2+16*n.kids.length+sumL n.keys+sumL n.vals
def may (lt:Str->Str->Bool)(n:Node):Bool:=shaped lt n&&decide (size n<=500)
def encL:List Str->List Str->Str
 | k::ks,v::vs=>encT k++(encT v++encL ks vs)
 | _,_=>[]
def encI:List Str->List Ptr->Str
 | k::ks,p::ps=>encT k++(QW p++encI ks ps)
 | _,_=>[]
def encB (n:Node):Str:=if n.leaf then encL n.keys n.vals else match n.kids with
 | p::ps=>QW p++encI n.keys ps
 | []=>[]
def encN (n:Node):Str:=be 2 n.keys.length++encB n
def v6:Str->Option (Str×Str)
 | []=>none
 | c::r=>if c.toNat<=r.length then some (r.take c.toNat,r.drop c.toNat)else none
def fW (s:Str):Option (Ptr×Str):=if 16<=s.length then match decP (s.take 16)with | some p=>some (p,s.drop 16) | none=>none else none
def J0:Nat->Str->Option (List Str×List Str×Str)
 | 0,s=>some ([],[],s)
 | k+1,s=>match v6 s with
  | some (a,s)=>match v6 s with
   | some (b,s)=>match J0 k s with
    | some (ks,vs,s)=>some (a::ks,b::vs,s)
    | none=>none
   | none=>none
  | none=>none
def J1:Nat->Str->Option (List Str×List Ptr×Str)
 | 0,s=>some ([],[],s)
 | k+1,s=>match v6 s with
  | some (a,s)=>match fW s with
   | some (b,s)=>match J1 k s with
    | some (ks,vs,s)=>some (a::ks,b::vs,s)
    | none=>none
   | none=>none
  | none=>none
theorem decL_snoc: ∀(k:Nat) (s:Str),J0 (k+1) s=(J0 k s).bind fun x=>(v6 x.2.2).bind fun a=>(v6 a.2).bind fun b=>some (x.1++[a.1],x.2.1++[b.1],b.2)
 | 0,s=>by
  simp only[J0,yN]
  cases v6 s with
  | none=>rfl
  | some a=>obtain⟨a,f⟩:=a;simp only[yN];cases v6 f with
   | none=>rfl
   | some b=>rfl
 | k+1,s=>by
  rw[J0]
  conv=>rhs;rw[J0]
  cases v6 s with
  | none=>rfl
  | some a=>
   obtain⟨a,f⟩:=a;simp only
   cases v6 f with
   | none=>rfl
   | some b=>
    obtain⟨b,h⟩:=b;simp only;rw[decL_snoc k h]
    cases J0 k h with
    | none=>rfl
    | some x=>
     obtain⟨ks,vs,r⟩:=x;simp only[yN]
     cases v6 r with
     | none=>rfl
     | some c=>obtain⟨c,i⟩:=c;simp only[yN];cases v6 i with
      | none=>rfl
      | some d=>rfl
theorem decI_snoc: ∀(k:Nat) (s:Str),J1 (k+1) s=(J1 k s).bind fun x=>(v6 x.2.2).bind fun a=>(fW a.2).bind fun b=>some (x.1++[a.1],x.2.1++[b.1],b.2)
 | 0,s=>by
  simp only[J1,yN]
  cases v6 s with
  | none=>rfl
  | some a=>obtain⟨a,f⟩:=a;simp only[yN];cases fW f with
   | none=>rfl
   | some b=>rfl
 | k+1,s=>by
  rw[J1]
  conv=>rhs;rw[J1]
  cases v6 s with
  | none=>rfl
  | some a=>
   obtain⟨a,f⟩:=a;simp only
   cases fW f with
   | none=>rfl
   | some b=>
    obtain⟨b,h⟩:=b;simp only;rw[decI_snoc k h]
    cases J1 k h with
    | none=>rfl
    | some x=>
     obtain⟨ks,vs,r⟩:=x;simp only[yN]
     cases v6 r with
     | none=>rfl
     | some c=>obtain⟨c,i⟩:=c;simp only[yN];cases fW i with
      | none=>rfl
      | some d=>rfl
theorem decL_all (s:Str)(k:Nat):(List.range k).all (fun i=>(J0 (i+1) s).isSome)=(J0 k s).isSome:=by
 induction k with
 | zero=>simp[J0]
 | succ k ih=>
  rw[List.range_succ,List.all_append,ih];simp only[List.all_cons,List.all_nil,Bool.and_true];rw[decL_snoc]
  cases J0 k s<;>simp
theorem decI_all (s:Str)(k:Nat):(List.range k).all (fun i=>(J1 (i+1) s).isSome)=(J1 k s).isSome:=by
 induction k with
 | zero=>simp[J1]
 | succ k ih=>
  rw[List.range_succ,List.all_append,ih];simp only[List.all_cons,List.all_nil,Bool.and_true];rw[decI_snoc]
  cases J1 k s<;>simp
def decB (leaf:Bool)(k:Nat)(s:Str):Option (Node×Str):=
 if leaf then match J0 k s with
  | some (ks,vs,s)=>some (⟨true,ks,vs,[]⟩,s)
  | none=>none
 else match fW s with
  | some (p,s)=>match J1 k s with
   | some (ks,ps,s)=>some (⟨false,ks,[],p::ps⟩,s)
   | none=>none
  | none=>none
def decN (lt:Str->Str->Bool)(leaf:Bool)(s:Str):Option Node:=
 if s.length<=500/\2<=s.length then match decB leaf (bee (s.take 2)) (s.drop 2)with
  | some (n,r)=>if r=[]/\may lt n=true then some n else none
  | none=>none
 else none
theorem JK (s r:Str)(h:s.length<256):v6 (encT s++r)=some (s,r):=by
 have e:(UInt8.ofNat s.length).toNat=s.length:=by rw[UInt8.toNat_ofNat'];omega
 simp only[encT,qF,v6,e];rw[if_pos (by simp)];simp
theorem VO {s a r:Str}(h:v6 s=some (a,r)):s=encT a++r/\a.length<256:=by
 cases s with
 | nil=>simp[v6]at h
 | cons c s=>
  simp only[v6]at h;split at h
  .simp only[zC,zT]at h;obtain⟨rfl,rfl⟩:=h;have f:c.toNat<256:=c.toNat_lt;have hl:(s.take c.toNat).length=c.toNat:=by simp;omega
   refine⟨?_,by omega⟩;simp only[encT,hl,qF,qV];congr 1;apply UInt8.toNat_inj.1;rw[UInt8.toNat_ofNat'];omega
  .simp at h
theorem BR {p:Ptr}(r:Str)(h:mayP p=true)(a:sumOk p):fW (QW p++r)=some (p,r):=by
 have hl:=encP_length p;have f:(QW p++r).take 16=QW p:=jD hl;have i:(QW p++r).drop 16=r:=jA hl;simp only[fW,f,i];rw[if_pos (by simp[hl])];simp only[decP,zE3 h a,h,if_true]
theorem takeP_eq {s r:Str}{p:Ptr}(h:fW s=some (p,r)):s=QW p++r/\mayP p=true/\sumOk p:=by
 simp only[fW]at h;split at h
 .rename_i hl;split at h
  .rename_i q a;simp only[zC,zT]at h;obtain⟨rfl,rfl⟩:=h;have f:(s.take 16).length=16:=by simp;omega
   simp only[decP]at a;split at a
   .rename_i hm;simp only[zC]at a;subst a;exact⟨by rw[zEl f,qV],hm,zFA f⟩
   .simp at a
  .simp at h
 .simp at h
theorem encL_snoc: ∀(ks vs:List Str) (k v:Str),ks.length=vs.length->encL (ks++[k]) (vs++[v])=encL ks vs++(encT k++encT v)
 | [],[],k,v,_=>by simp[encL]
 | [],_::_,_,_,h=>by simp at h
 | _::_,[],_,_,h=>by simp at h
 | a::ks,b::vs,k,v,h=>by simp[encL,encL_snoc ks vs k v (by simpa using h)]
theorem encI_snoc: ∀(ks:List Str) (vs:List Ptr) (k:Str) (v:Ptr),ks.length=vs.length->encI (ks++[k]) (vs++[v])=encI ks vs++(encT k++QW v)
 | [],[],k,v,_=>by simp[encI]
 | [],_::_,_,_,h=>by simp at h
 | _::_,[],_,_,h=>by simp at h
 | a::ks,b::vs,k,v,h=>by simp[encI,encI_snoc ks vs k v (by simpa using h)]
theorem zDj: ∀(ks vs:List Str),ks.length=vs.length->(∀k∈ks,k.length<256)->(∀v∈vs,v.length<256)->J0 ks.length (encL ks vs)=some (ks,vs,[])
 | [],[],_,_,_=>rfl
 | [],_::_,h,_,_=>by simp at h
 | _::_,[],h,_,_=>by simp at h
 | k::ks,v::vs,h,hk,hv=>by
  have f:=zDj ks vs (by simpa using h) (fun x a=>hk x (zE _ a)) (fun x a=>hv x (zE _ a));simp only[zY,J0,encL,JK k _ (hk k (zJ ..)),JK v _ (hv v (zJ ..)),f]
theorem zDk: ∀(ks:List Str) (a:List Ptr),ks.length=a.length->(∀k∈ks,k.length<256)->(∀p∈a,mayP p=true/\sumOk p)->J1 ks.length (encI ks a)=some (ks,a,[])
 | [],[],_,_,_=>rfl
 | [],_::_,h,_,_=>by simp at h
 | _::_,[],h,_,_=>by simp at h
 | k::ks,v::vs,h,hk,hv=>by
  have j:=zDk ks vs (by simpa using h) (fun x f=>hk x (zE _ f)) (fun x f=>hv x (zE _ f));have i:=hv v (zJ ..);simp only[zY,J1,encI,JK k _ (hk k (zJ ..)),BR _ i.1 i.2,j]
theorem decL_eq: ∀ {k:Nat} {s:Str} {ks vs:List Str} {r:Str},J0 k s=some (ks,vs,r)->s=encL ks vs++r/\ks.length=k/\vs.length=k
 | 0,s,ks,vs,r,h=>by
  simp only[J0,zC,zT]at h;obtain⟨rfl,rfl,rfl⟩:=h;simp[encL]
 | k+1,s,ks,vs,r,h=>by
  simp only[J0]at h;split at h
  .rename_i a q f;split at h
   .rename_i b t i;split at h
    .rename_i p vs' u j;simp only[zC,zT]at h;obtain⟨rfl,rfl,rfl⟩:=h;obtain⟨rfl,_⟩:=VO f;obtain⟨rfl,_⟩:=VO i;obtain⟨rfl,m,o⟩:=decL_eq j;exact⟨by simp[encL],by simp[m],by simp[o]⟩
    .simp at h
   .simp at h
  .simp at h
theorem decI_eq: ∀ {k:Nat} {s:Str} {ks:List Str} {vs:List Ptr} {r:Str},J1 k s=some (ks,vs,r)->s=encI ks vs++r/\ks.length=k/\vs.length=k/\ ∀p∈vs,sumOk p
 | 0,s,ks,vs,r,h=>by
  simp only[J1,zC,zT]at h;obtain⟨rfl,rfl,rfl⟩:=h;simp[encI]
 | k+1,s,ks,vs,r,h=>by
  simp only[J1]at h;split at h
  .rename_i a v f;split at h
   .rename_i b x i;split at h
    .rename_i u vs' y j;simp only[zC,zT]at h;obtain⟨rfl,rfl,rfl⟩:=h;obtain⟨rfl,_⟩:=VO f;obtain⟨rfl,_,m⟩:=takeP_eq i;obtain⟨rfl,o,q,t⟩:=decI_eq j;exact⟨by simp[encI],by simp[o],by simp[q],by simpa using⟨m,t⟩⟩
    .simp at h
   .simp at h
  .simp at h
theorem encL_length: ∀(ks vs:List Str),ks.length=vs.length->(encL ks vs).length=sumL ks+sumL vs
 | [],[],_=>rfl
 | [],_::_,h=>by simp at h
 | _::_,[],h=>by simp at h
 | k::ks,v::vs,h=>by
  simp only[encL,zV,encT,zY,encL_length ks vs (by simpa using h),sumL_cons];omega
theorem encI_length: ∀(ks:List Str) (vs:List Ptr),ks.length=vs.length->(encI ks vs).length=sumL ks+16*vs.length
 | [],[],_=>rfl
 | [],_::_,h=>by simp at h
 | _::_,[],h=>by simp at h
 | k::ks,v::vs,h=>by
  simp only[encI,zV,encT,zY,encP_length,encI_length ks vs (by simpa using h),sumL_cons];omega
theorem encN_length {lt:Str->Str->Bool}{n:Node}(h:shaped lt n=true):(encN n).length=size n:=by
 obtain⟨leaf,ks,vs,a⟩:=n;simp only[shaped,zF]at h;obtain⟨_,h⟩:=h
 cases leaf with
 | true=>
  simp only[if_true,zF,zQ]at h;simp only[encN,encB,if_true,zV,be_length,encL_length _ _ h.1.1.symm,size,h.1.2,yS];omega
 | false=>
  simp only[zM,qE,zF,zQ]at h
  cases a with
  | nil=>simp at h
  | cons p a=>
   have e:ks.length=a.length:=by have:=h.1.2;simp at this;omega
   simp only[encN,encB,zM,qE,zV,be_length,encP_length,encI_length _ _ e,size,zY,h.1.1.2];simp[sumL];omega
theorem zEb {lt:Str->Str->Bool}{n:Node}(h:shaped lt n=true): ∀k∈n.keys,k.length<256:=by
 intro k a;simp only[shaped,zF,yC]at h;have:=h.1.1 k a;simp only[mayK,zF,zQ]at this;omega
theorem sumL_ge (l:List Str):l.length<=sumL l:=by
 induction l with
 | nil=>simp
 | cons s l ih=>rw[sumL_cons,zY];omega
theorem decN_encN {lt:Str->Str->Bool}{n:Node}(h:may lt n=true)(i: ∀p∈n.kids,sumOk p):decN lt n.leaf (encN n)=some n:=by
 have hm:=h;simp only[may,zF,zQ]at h;obtain⟨a,s⟩:=h;have o:=encN_length a;have j:=zEb a;have z:n.keys.length<=500:=by have:=sumL_ge n.keys;simp only[size]at s;omega
 have t:(encN n).take 2=be 2 n.keys.length:=by simp[encN,be_length]
 have u:(encN n).drop 2=encB n:=by rw[encN,jA (be_length 2 _)]
 have x:bee (be 2 n.keys.length)=n.keys.length:=by rw[bee_be];omega
 simp only[decN];rw[if_pos ⟨by omega,by rw[o,size];omega⟩,t,u,x];have key:decB n.leaf n.keys.length (encB n)=some (n,[]):=by
  obtain⟨leaf,ks,vs,f⟩:=n;simp only[shaped,zF]at a;obtain⟨_,a⟩:=a
  cases leaf with
  | true=>
   simp only[if_true,zF,zQ,yC]at a;simp only[decB,encB,if_true];rw[zDj ks vs a.1.1.symm j (fun v y=>by have:=a.2 v y;omega)];simp[a.1.2]
  | false=>
   simp only[zM,qE,zF,zQ,yC]at a
   cases f with
   | nil=>simp at a
   | cons p f=>
    have e:ks.length=f.length:=by have:=a.1.2;simp at this;omega
    simp only[decB,encB,zM,qE];rw[BR _ (kidOk_may (a.2 p (zJ ..))) (i p (zJ ..))];simp only;rw[zDk ks f e j (fun q m=>⟨kidOk_may (a.2 q (zE _ m)),i q (zE _ m)⟩)];simp[a.1.1.2]
 rw[key];simp[hm]
end Go.Nd
end
section
namespace Go.Eng
theorem fK {b:List AV->AH->Rs}{H:AH}{r:Rs}(st:Nat->List AV)(N:Nat)(step: ∀i,i<N->b (st i) H=some (.norm (st (i+1)),H))(f: ∀n,kL (n+1) b (st N) H=r): ∀n,N<n->kL n b (st 0) H=r:=by
 suffices h: ∀(m i n:Nat),i+m=N->m<n->kL n b (st i) H=r from fun n a=>h N 0 n (by omega) a
 intro m
 induction m with
 | zero=>
  intro i n hi a;obtain⟨n,rfl⟩: ∃k,n=k+1:=⟨n - 1,by omega⟩;rw[show i=N by omega];exact f n
 | succ m ih=>
  intro i n hi a;obtain⟨n,rfl⟩: ∃k,n=k+1:=⟨n - 1,by omega⟩;rw[wB (step i (by omega))];exact ih (i+1) n (by omega) (by omega)
theorem xD (l:List F)(i:Nat)(h:i<l.length):l.take (i+1)=l.take i++[l[i]]:=by
 rw[qQ h]
theorem UB (H:AH)(l:List AV)(e sz o:Nat)(g:Bool):ld1 (.ptr H.next o) (H.push (.cells l e sz g))=l[o]? :=by simp only[ld1,zOB,ZH]
theorem zIJ (H:AH)(l:List AV)(e sz o n:Nat)(g:Bool):ldN n (.ptr H.next o) (H.push (.cells l e sz g))=(uW l o n).map .agg:=by
 simp only[ldN,zOB];cases uW l o n<;>rfl
theorem zBX (o:Nat)(x:AObj)(A:h<H.next):ld1 (.ptr h o) (H.push x)=ld1 (.ptr h o) H:=by simp only[ld1,AH.push_get_ne _ _ A]
theorem zLD (o n:Nat)(x:AObj)(A:h<H.next):ldN n (.ptr h o) (H.push x)=ldN n (.ptr h o) H:=by simp only[ldN,AH.push_get_ne _ _ A]
theorem fJ {b:List AV->AH->Rs}(N:Nat)(I:Nat->List AV->AH->Prop)(step: ∀i vs H,i<N->I i vs H-> ∃vs' H',b vs H=some (.norm vs',H')/\I (i+1) vs' H'):
  ∀(n:Nat) (vs:List AV) (H:AH),I 0 vs H->N<n-> ∃m vs' H',kL n b vs H=kL (m+1) b vs' H'/\I N vs' H':=by
 suffices h: ∀(m i n:Nat) (vs:List AV) (H:AH),i+m=N->m<n->I i vs H-> ∃m vs' H',kL n b vs H=kL (m+1) b vs' H'/\I N vs' H' from fun n vs H j a=>h N 0 n vs H (by omega) a j
 intro m
 induction m with
 | zero=>
  intro i n vs H hi a f;obtain⟨n,rfl⟩: ∃k,n=k+1:=⟨n - 1,by omega⟩;exact⟨n,vs,H,rfl,by rw[show N=i by omega];exact f⟩
 | succ m ih=>
  intro i n vs H hi a f;obtain⟨n,rfl⟩: ∃k,n=k+1:=⟨n - 1,by omega⟩;obtain⟨vs',H',o,p⟩:=step i vs H (by omega) f;rw[wB o];exact ih (i+1) n vs' H' (by omega) (by omega) p
def notN:Ex->Bool
 | .norm _=>false
 | _=>true
theorem zG0 {e:Ex}(h:notN e=true):jn (some (e,H)) J=some (e,H):=by cases e<;>first | rfl | (simp[notN]at h)
theorem ZK {b:List AV->AH->Rs}(N:Nat)(good:Nat->Bool)(I:Nat->List AV->AH->Prop)(Good s:Ex->AH->Prop)
  (step: ∀i vs H,i<N->I i vs H->good i=true-> ∃vs' H',b vs H=some (.norm vs',H')/\I (i+1) vs' H')
  (bad: ∀i vs H,i<N->I i vs H->good i=false-> ∃e H',b vs H=some (e,H')/\notN e=true/\s e H')
  (x: ∀vs H,I N vs H-> ∃e H',b vs H=some (e,H')/\notN e=true/\Good e H'):
  ∀(n:Nat) (vs:List AV) (H:AH),I 0 vs H->N<n-> ∃e H',kL n b vs H=some (e,H')/\if(List.range N).all good then Good e H' else s e H':=by
 suffices h: ∀(m i n:Nat) (vs:List AV) (H:AH),i+m=N->m<n->I i vs H->(∀j,j<i->good j=true)-> ∃e H',kL n b vs H=some (e,H')/\if(List.range N).all good then Good e H' else s e H' from
  fun n vs H y t=>h N 0 n vs H (by omega) t y (fun j v=>by omega)
 intro m
 induction m with
 | zero=>
  intro i n vs H hi t a q;obtain⟨n,rfl⟩: ∃k,n=k+1:=⟨n - 1,by omega⟩;rw[show i=N by omega]at a q;obtain⟨e,H',f,o,u⟩:=x vs H a;refine⟨e,H', ?_, ?_⟩
  .show jn (b vs H) _=_;rw[f,zG0 o]
  .rw[if_pos (by simpa[yC]using q)];exact u
 | succ m ih=>
  intro i n vs H hi t a q;obtain⟨n,rfl⟩: ∃k,n=k+1:=⟨n - 1,by omega⟩
  cases p:good i with
  | true=>
   obtain⟨vs',H',f,o⟩:=step i vs H (by omega) a p;rw[wB f];exact ih (i+1) n vs' H' (by omega) (by omega) o (fun j v=>by
    rcases Nat.lt_succ_iff_lt_or_eq.1 v with h | rfl
    .exact q j h
    .exact p)
  | false=>
   obtain⟨e,H',f,o,u⟩:=bad i vs H (by omega) a p;refine⟨e,H', ?_, ?_⟩
   .show jn (b vs H) _=_;rw[f,zG0 o]
   .rw[if_neg (by
     simp only[yC,List.mem_range];intro h;have:=h i (by omega);rw[p]at this;cases this)];exact u
theorem zEA (a:Bool)(x y:Rs):wnt jU a x y=y:=by cases a<;>rfl
theorem zDy (k k':IntKind){a:Int}{s:Nat}(h:0<=a)(f:s<=k.bits):kO .shr (.int k a) (.int k' (s:Int))=some (.int k (a / 2 ^ s)):=by
 show fI (a.fdiv ((2 ^ (Nat.min s k.bits):Nat):Int)) (fun r=>some (AV.int k r))=_;rw[zC6,show Nat.min s k.bits=s from Nat.min_eq_left f,Int.fdiv_eq_ediv_of_nonneg _ (Int.natCast_nonneg _)];simp
theorem zDz (k k':IntKind)(a:Int){s:Nat}(f:s<=k.bits):kO .shl (.int k a) (.int k' (s:Int))=some (.int k (k.wrap (a*2 ^ s))):=by
 show mkI k (a*(2 ^ (Nat.min s k.bits):Nat))=_;rw[vZ,show Nat.min s k.bits=s from Nat.min_eq_left f];simp
theorem wE (h:isCell k=true):kF k=[k]:=by cases k<;>first | rfl | (simp[isCell]at h)
theorem Rw.isCell {k n:Nat}{H:AH}{v:AV}{l:List AV}(h:Rw k H v n l):Eng.isCell v=true:=by
 obtain⟨_,⟨rfl,_⟩ | ⟨rfl,_⟩ | ⟨A,off,cc,c,e,sz,g,rfl,_⟩⟩:=h<;>rfl
theorem Y1 (k:IntKind)(a b:Int):zBe (aS k) (.int k a) (.int k b)=some (decide (a=b)):=by
 have:keq k k=true:=by rw[xQ];simp
 simp only[zBe,yO,this,qO,zU,xS];congr 1
theorem kR (n:Rw h H k l i):aveq k k=true:=by
 obtain⟨_,⟨rfl,_⟩ | ⟨rfl,_⟩ | ⟨A,off,cc,c,e,sz,g,rfl,_⟩⟩:=n
 .rfl
 .rfl
 .simp[aveq]
theorem kY {x:Option AV}{K:Rs}(h:x=some k)(a:aveq k k=true):chk x k K=K:=by subst h;simp[chk,a]
theorem jR (A:H.h.get h=some (.cells i v l p))(o:Nat):ld1 (.ptr h o) H=i[o]? :=by simp only[ld1,A,ZH]
theorem jW (A:H.h.get h=some (.cells i v l p))(o n:Nat):ldN n (.ptr h o) H=(uW i o n).map .agg:=by simp only[ldN,A];cases uW i o n<;>rfl
theorem zNH (b c:Bool)(H:AH)(K:AV->AH->Rs):
  jn (if b=false then some (.norm [.bool c],H)else some (.norm [jU],H)) (fun vs H=>hd vs fun y _=>bV (if b=true then some (.bool true)else some y) fun x=>K x H)=K (.bool (b||c)) H:=by
 cases b<;>simp[jn,hd,bV]
theorem zNG (p:Prop)[Decidable p](b:Bool)(H:AH)(K:AV->AH->Rs):
  jn (if ¬p then some (.norm [.bool b],H)else some (.norm [jU],H)) (fun vs H=>hd vs fun y _=>bV (if p then some (.bool true)else some y) fun x=>K x H)=K (.bool (decide p||b)) H:=by
 by_cases h:p<;>simp[h,jn,hd,bV]
theorem lg:(∀(p:Prop) [Decidable p] (b:Bool) (H:AH) (K:AV->AH->Rs),jn (if ¬p then some (.norm [.bool b],H)else some (.norm [jU],H)) (fun vs H=>hd vs fun y _=>bV (if p then some (.bool true)else some y) fun x=>K x H)=K (.bool (decide p||b)) H)/\
  (∀(p:Prop) [Decidable p] (b:Bool) (H:AH) (K:AV->AH->Rs),jn (if p then some (.norm [.bool b],H)else some (.norm [jU],H)) (fun vs H=>hd vs fun y _=>bV (if p then some y else some (.bool false)) fun x=>K x H)=K (.bool (decide p&&b)) H)/\
  (∀(p:Prop) [Decidable p] (b:Bool) (H:AH) (K:AV->AH->Rs),jn (if p then some (.norm [jU],H)else some (.norm [.bool b],H)) (fun vs H=>hd vs fun y _=>bV (if p then some (.bool true)else some y) fun x=>K x H)=K (.bool (decide p||b)) H)/\
  (∀(b c:Bool) (H:AH) (K:AV->AH->Rs),jn (if b=false then some (.norm [.bool c],H)else some (.norm [jU],H)) (fun vs H=>hd vs fun y _=>bV (if b=true then some (.bool true)else some y) fun x=>K x H)=K (.bool (b||c)) H)/\
  (∀(p:Prop) [Decidable p],(decide p=true)=p)/\(∀(p:Prop) [Decidable p],(decide p=false)= ¬p)/\(∀(b:Bool),decide (b=true)=b):=
 ⟨fun p _ b H K=>zNG p b H K,fun p _ b H K=>zNJ p b H K,fun p _ b H K=>jn_or p b H K,zNH,fun p _=>zQ,fun p _=>by simp,fun b=>by simp⟩
theorem ev:(∀(v:AV) (vs:List AV) (K:AV->List AV->Rs),hd (v::vs) K=K v vs)/\
 (∀(K:Rs),nl [] K=K)/\
 (∀(v:AV) (K:AV->Rs),bV (some v) K=K v)/\
 (∀(v:AV) (H:AH) (K:AV->AH->Rs),bR (some (v,H)) K=K v H)/\
 (∀(vs:List AV) (H:AH) (K:List AV->AH->Rs),jn (some (.norm vs,H)) K=K vs H)/\
 (∀(v:AV) (H:AH) (K:List AV->AH->Rs),jn (some (.ret v,H)) K=some (.ret v,H))/\
 (∀(i:Nat) (vs:List AV) (H:AH) (K:List AV->AH->Rs),jn (some (.exit i vs,H)) K=some (.exit i vs,H))/\
 (∀(id:Nat) (vs:List AV) (H:AH) (K:List AV->AH->Rs),jb id (some (.norm vs,H)) K=K vs H)/\
 (∀(id:Nat) (v:AV) (H:AH) (K:List AV->AH->Rs),jb id (some (.ret v,H)) K=some (.ret v,H))/\
 (∀(id:Nat) (vs:List AV) (H:AH) (K:List AV->AH->Rs),jb id (some (.exit id vs,H)) K=K vs H)/\
 (∀(v:AV) (H:AH),fG (some (.ret v,H))=some (v,H))/\
 (∀(b:Bool) (x y:Rs),cnd (.bool b) x y=if b then x else y)/\
 (∀(b h:Bool) (x y:Rs),wnt (.bool b) h x y=if b=h then x else y)/\
 (∀(b:Bool) (x y:Option AV),pk3 (some (.bool b)) x y=if b then x else y)/\
 (∀(k:IntKind) (a b:Int),kO .add (.int k a) (.int k b)=some (.int k (k.wrap (a+b))))/\
 (∀(k:IntKind) (a b:Int),kO .sub (.int k a) (.int k b)=some (.int k (k.wrap (a - b))))/\
 (∀(k:IntKind) (a b:Int),kO .mul (.int k a) (.int k b)=some (.int k (k.wrap (a*b))))/\
 (∀(k:IntKind) (a b:Int),kO .eql (.int k a) (.int k b)=some (.bool (decide (a=b))))/\
 (∀(k:IntKind) (a b:Int),kO .neq (.int k a) (.int k b)=some (.bool (decide (a≠b))))/\
 (∀(k:IntKind) (a b:Int),kO .lss (.int k a) (.int k b)=some (.bool (decide (a<b))))/\
 (∀(k:IntKind) (a b:Int),kO .leq (.int k a) (.int k b)=some (.bool (decide (a<=b))))/\
 (∀(k:IntKind) (a b:Int),kO .gtr (.int k a) (.int k b)=some (.bool (decide (b<a))))/\
 (∀(k:IntKind) (a b:Int),kO .geq (.int k a) (.int k b)=some (.bool (decide (b<=a))))/\
 (∀(k k':IntKind) (z:Int),cvI k (.int k' z)=some (.int k (k.wrap z)))/\
 (∀(a b:Bool),YP .eql (.bool a) (.bool b)=some (.bool (a==b)))/\
 (∀(a b:Bool),YP .neq (.bool a) (.bool b)=some (.bool (!(a==b))))/\
 (∀(b:Bool),aun .not (.bool b)=some (.bool !b))/\
 (∀(l:Str),KA (S l)=some (.int .i64 (l.length:Nat)))/\
 (∀(l m:Str),J6 .eql (S l) (S m)=some (.bool (decide (l=m))))/\
 (∀(l m:Str),J6 .neq (S l) (S m)=some (.bool (decide (l≠m))))/\
 (∀(l m:Str),J6 .lss (S l) (S m)=some (.bool (ltS l m)))/\
 (∀(l m:Str),J6 .geq (S l) (S m)=some (.bool (!ltS l m)))/\
 (∀(A o:Nat),xZ (.ptr A o)=some (.ptr A o))/\
 (∀(f A o:Nat),fAd f (.ptr A o)=some (.ptr A (o+f)))/\
 (∀(e:TypeId) (x:AV),bxV e x=some (.cells (kF x) e 1 false,fun A=> .ptr A 0))/\
 (∀(l:List AV),kF (.agg l)=l)/\
 (∀(H:AH) (l:List AV) (e sz o:Nat) (g:Bool),ld1 (.ptr H.next o) (H.push (.cells l e sz g))=l[o]?)/\
 (∀(H:AH) (l:List AV) (e sz o n:Nat) (g:Bool),ldN n (.ptr H.next o) (H.push (.cells l e sz g))=(uW l o n).map .agg)/\
 (∀(a:AV) (l:List AV),(a::l)[0]? =some a)/\
 (∀(a:AV) (l:List AV) (i:Nat),(a::l)[i+1]? =l[i]?)/\
 (∀(n:Nat),0+n=n)/\
 (∀(n:Nat),Int.ofNat n=(n:Int))/\
 (∀(z:Int), -9223372036854775808<=z->z<=9223372036854775807->IntKind.wrap .i64 z=z):=
 ⟨gH,zCQ,bVs,bRs,QT,zNF,zLE,zLF,zNK,zLG,zCJ,zCc,zN3,zNn,Q4,zJr,zDA,zJt,UZ,Q3,zDB,B0,zDC,QX,zHu,zHt,zMv,QP,zDx,zDw,UX,zJq,zIw,zLW,fun _ _=>rfl,fun _=>rfl,UB,zIJ,fun _ _=>List.getElem?_cons_zero,fun _ _ _=>yW,j7,fun _=>rfl,fun _ j p=>wrap_i64 j p⟩
def eZ:=And.intro zEA (And.intro ev (And.intro lg ew))
def wG (k e:Nat)(H:AH)(v:AV)(n:Nat)(l:List AV):Prop:=
 Own k e H v n l\/(l.length=n*k/\ ∃A a g,v= .slice A 0 n (2*n)/\A<H.next/\H.h.get A=some (.cells l a k g)/\n=0)
theorem wG.len (e:wG h l H k t i):i.length=t*h:=by
 rcases e with e | e
 .exact e.1
 .exact e.1
theorem wG.row {k e n:Nat}{H:AH}{v:AV}{l:List AV}(h:wG k e H v n l):Rw k H v n l:=by
 rcases h with h | ⟨a,A,f,g,rfl,i,j,m⟩
 .exact h.row
 .exact⟨a, .inr (.inr ⟨A,0,2*n,l,f,k,g,rfl,j,i,by omega,by rw[yD,zZ (by omega)]⟩)⟩
theorem wG.mono {k e n:Nat}{S:Nat->Prop}{H H':AH}{v:AV}{l:List AV}(h:wG k e H v n l)(s:Stp S H H')(a: ∀A,Blk v A-> ¬S A):wG k e H' v n l:=by
 rcases h with h | ⟨j,A,m,g,rfl,f,o,i⟩
 .exact .inl (h.mono s a)
 .exact .inr ⟨j,A,m,g,rfl,qI f s.next,by rw[s.keep A f (a A (zOG.2 rfl))];exact o,i⟩
theorem wG.lt (e:wG h l H k t i)(a:Blk k C):C<H.next:=by
 rcases e with⟨_,⟨rfl,_⟩ | ⟨A,rfl,f,_⟩⟩ | ⟨_,A,n,g,rfl,f,_⟩
 .exact(zOO.1 a).elim
 .rw[zOG.1 a];exact f
 .rw[zOG.1 a];exact f
theorem wG.app1 {k e bytes n m:Nat}{H:AH}{v:AV}{l new:List AV}(i:H.ok)(o:0<k)(h:wG k e H v n l)(hm:new.length=m*k)(z:n+m<=1000000000)(hb:bytes<=1000):
  ∃p H',Eng.app1 e k bytes m new v H=some (p,H')/\wG k e H' p (n+m) (l++new)/\Stp (Blk v) H H'/\(∀B,Blk p B->Blk v B\/H.next<=B):=by
 by_cases q:m=0
 .subst q;have:new=[]:=zR (by simpa using hm);subst this;rcases h with h | ⟨q,A,j,g,rfl,s,t,G⟩
  .obtain⟨H',f,u,y,J⟩:=WA (bytes:=bytes) i o h;exact⟨v,H',f, .inl (by simpa using u),y.mono (fun _ _ x=>x.elim),fun B a=> .inl a⟩
  .have C:kS l g k 0 (2*n) k=n:=by
    simp only[kS,show((2*n) % 2).beq 0=true by rw[jE];rfl,zU,yV n (show 0<2 by omega)]
   have K:Nat.blt 0 k=true:=by rw[qD];exact o
   have F:setAt l (0+n*k) []=some l:=by rw[xL (by simp;omega)];simp
   have I:(H.put A (.cells l j k g)).h.get A=some (.cells l j k g):=by rw[zOF,if_pos rfl]
   refine⟨.slice A 0 n (2*n),H.put A (.cells l j k g), ?_, .inr ⟨by simpa using q,A,j,g,rfl,s,by simpa using I,by omega⟩,(zOJ i).put s _ (.inr (zOG.2 rfl)),fun B a=> .inl a⟩;simp only[Eng.app1,t,zEz,C,Nat.add_zero,Nat.ble_eq_true_of_le (zP n),zU,K,F,zBp,wR,kI]
 .rcases h with h | ⟨hl,A,j,g,rfl,s,t,G⟩
  .obtain⟨H',f,u,y,J⟩:=J7 (bytes:=bytes) i o h hm (by omega) z hb;exact⟨_,H',f, .inl u,y,fun B a=> .inr (by rw[zOG.1 a];exact zP _)⟩
  .have f:=WB (k:=k) (e:=e) (bytes:=bytes) (n:=n) (m:=m) (off:=0) (new:=new) i t (by omega) (by omega) z hb;rw[yD,zZ (by omega)]at f;refine⟨_,_,f, .inl ⟨by simp[hl,hm,jB], .inr ⟨H.next,rfl,Nat.lt_succ_self _,zOB _ _⟩⟩,(zOJ i).push _,fun B a=> .inr (by rw[zOG.1 a];exact zP _)⟩
theorem wG.app {bytes m:Nat}{new:List AV}(s:H.ok)(f:0<h)(e:wG h l H k t i)(j:srcOf h q H=some (m,new))(hm:new.length=m*h)(o:jV new=true)(p:t+m<=1000000000)(hb:bytes<=1000):
  ∃a H',apP l h bytes k q H=some (a,H')/\wG h l H' a (t+m) (i++new)/\Stp (Blk k) H H'/\(∀B,Blk a B->Blk k B\/H.next<=B):=by
 obtain⟨a,H',v,n⟩:=e.app1 (bytes:=bytes) (e:=l) s f hm p hb;exact⟨a,H',by simp only[apP,j,o,zU,v],n⟩
theorem wG.isCell {k e n:Nat}{H:AH}{v:AV}{l:List AV}(h:wG k e H v n l):isCell v=true:=h.row.isCell
def Box (H:AH)(A:Nat)(v:AV):Prop:= ∃e,H.h.get A=some (.cells [v] e 1 false)
theorem Box.ld (A:Box H h k):ld1 (.ptr h 0) H=some k:=by
 obtain⟨e,A⟩:=A;rw[jR A];rfl
theorem Box.st {x:AV}(A:Box H h k)(a:H.ok)(f:Eng.isCell x=true): ∃H',stN 1 (.ptr h 0) x H=some (jU,H')/\Box H' h x/\Stp (fun B=>B=h) H H':=by
 obtain⟨e,A⟩:=A;exact⟨_,cU A (by decide) f (by simp),⟨e,by rw[zOF,if_pos rfl];rfl⟩,(zOJ a).put (a.lt A) _ (.inr rfl)⟩
theorem Box.mono (S:Box H h k)(a:H.ok)(s:Stp B H w)(f: ¬B h):Box w h k:=by
 obtain⟨e,S⟩:=S;exact⟨e,by rw[s.keep h (a.lt S) f];exact S⟩
theorem Box.lt {H:AH}{A:Nat}{v:AV}(h:Box H A v)(a:H.ok):A<H.next:=by obtain⟨e,h⟩:=h;exact a.lt h
theorem JQ {k:Nat}(H:AH)(c:List AV)(e:TypeId)(sz:Nat)(g:Bool)(m cc:Nat)(a:c.length=m*k):srcOf k (.slice H.next 0 m cc) (H.push (.cells c e sz g))=some (m,c):=by
 simp only[srcOf,zOB];rw[kZ _ _ _ (.inr (by omega)),yD,zZ (by omega)]
end Go.Eng
end
section
namespace Go.Nd
theorem rising_ix (lt:Str->Str->Bool): ∀l:List Str,rising lt l=true↔ ∀i (h:i+1<l.length),lt l[i] l[i+1]=true
 | []=>by simp[rising]
 | [a]=>by simp[rising]
 | a::b::l=>by
  have f:=rising_ix lt (b::l);simp only[rising,zF,f];constructor
  .rintro⟨h1,h2⟩ i h
   cases i with
   | zero=>exact h1
   | succ i=>exact h2 i (by simpa using h)
  .intro h;exact⟨h 0 (by simp),fun i hi=>h (i+1) (by simpa using hi)⟩
theorem rising_take {lt:Str->Str->Bool}{l:List Str}(h:rising lt l=true)(k:Nat):rising lt (l.take k)=true:=by
 rw[rising_ix]at h⊢;intro i hi;simp only[qC]at hi;simp only[List.getElem_take];exact h i (by omega)
theorem rising_drop {lt:Str->Str->Bool}{l:List Str}(h:rising lt l=true)(k:Nat):rising lt (l.drop k)=true:=by
 rw[rising_ix]at h⊢;intro i hi;simp only[qJ]at hi;simp only[List.getElem_drop];exact h (k+i) (by omega)
theorem J8 {f:F->Bool}{l:List F}(h:l.all f=true)(k:Nat):(l.take k).all f=true:=by
 simp only[yC]at h⊢;exact fun x a=>h x (List.mem_of_mem_take a)
theorem J9 {f:F->Bool}{l:List F}(h:l.all f=true)(k:Nat):(l.drop k).all f=true:=by
 simp only[yC]at h⊢;exact fun x a=>h x (List.mem_of_mem_drop a)
def cutA (n:Node)(k:Nat):Node:=if n.leaf then⟨true,n.keys.take k,n.vals.take k,[]⟩else⟨false,n.keys.take k,[],n.kids.take (k+1)⟩
def aU (n:Node)(k:Nat):Node:=if n.leaf then⟨true,n.keys.drop k,n.vals.drop k,[]⟩else⟨false,n.keys.drop (k+1),[],n.kids.drop (k+1)⟩
def dP (a:Node)(sep:Str)(b:Node):Node:=if a.leaf then⟨true,a.keys++b.keys,a.vals++b.vals,[]⟩else⟨false,a.keys++([sep]++b.keys),[],a.kids++b.kids⟩
def cutOk (n:Node)(k:Nat):Prop:=1<=k/\k+(if n.leaf then 1 else 2)<=n.keys.length
theorem cut_shaped {lt:Str->Str->Bool}{n:Node}(k:shaped lt n=true)(m:cutOk n h):shaped lt (cutA n h)=true/\shaped lt (aU n h)=true:=by
 obtain⟨leaf,keys,vals,kids⟩:=n;obtain⟨k1,k2⟩:=m
 cases leaf with
 | true=>
  simp only[shaped,if_true,zF,zQ]at k k2;obtain⟨⟨a,f⟩,⟨i,o⟩,h5⟩:=k;simp only[shaped,cutA,aU,if_true,zF,zQ];exact⟨⟨⟨J8 a h,rising_take f h⟩,⟨by simp[i],trivial⟩,J8 h5 h⟩,⟨J9 a h,rising_drop f h⟩,⟨by simp[i],trivial⟩,J9 h5 h⟩
 | false=>
  simp only[shaped,zM,qE,zF,zQ]at k k2;obtain⟨⟨a,f⟩,⟨⟨i,o⟩,h5⟩,j⟩:=k;simp only[shaped,cutA,aU,zM,qE,zF,zQ];refine⟨⟨⟨J8 a h,rising_take f h⟩,⟨⟨?_,trivial⟩, ?_⟩,J8 j _⟩,⟨J9 a _,rising_drop f _⟩,⟨⟨?_,trivial⟩, ?_⟩,J9 j _⟩
  .intro e;have:=congrArg List.length e;rw[qC]at this;simp only[yS]at this;omega
  .rw[qC,qC];omega
  .intro e;have:=congrArg List.length e;rw[qJ]at this;simp only[yS]at this;omega
  .rw[qJ,qJ];omega
theorem sumL_drop_le (l:List Str)(k:Nat):sumL (l.drop k)<=sumL l:=by
 have:sumL l=sumL (l.take k)+sumL (l.drop k):=by rw[<-sumL_append,qV]
 omega
theorem sumL_take_le (l:List Str)(k:Nat):sumL (l.take k)<=sumL l:=by
 have:sumL l=sumL (l.take k)+sumL (l.drop k):=by rw[<-sumL_append,qV]
 omega
theorem QD (l:List Str)(k:Nat):sumL l=sumL (l.take k)+sumL (l.drop k):=by rw[<-sumL_append,qV]
theorem cut_size {lt:Str->Str->Bool}{n:Node}(k:shaped lt n=true)(a:cutOk n h):size (cutA n h)<size n/\size (aU n h)<size n:=by
 obtain⟨leaf,keys,vals,kids⟩:=n;obtain⟨k1,k2⟩:=a;have m:=QD keys h;have f:=sumL_ge (keys.take h);have i:=sumL_ge (keys.drop h);simp only[qC,qJ]at f i
 cases leaf with
 | true=>
  simp only[if_true]at k2;simp only[shaped,if_true,zF,zQ]at k;have o:=QD vals h;simp only[cutA,aU,if_true,size,yS,k.2.1.2];omega
 | false=>
  simp only[zM,qE]at k2;simp only[shaped,zM,qE,zF,zQ]at k;have h5:=k.2.1.2;have p:=QD keys (h+1);have j:=sumL_ge (keys.take (h+1));simp only[qC]at j;simp only[cutA,aU,zM,qE,size,k.2.1.1.2,qC,qJ];have:sumL []=0:=rfl;omega
end Go.Nd
end
section
namespace Go.Eng.Sh
open Go.Nd (Ptr sumL)
theorem wF(s:Str)(H:AH):f137 D n [S s] H=some (.bool (Nd.mayK s),H):=by
 simp only[f137,gH,zCQ,QP,bVs,zDC,zDB,zN3,zNI,QT,zNn,zIx,zCJ];have a:(Int.ofNat 1<=(s.length:Int))=(1<=s.length):=by simp;omega
 have f:((s.length:Int)<=Int.ofNat 40)=(s.length<=40):=by simp;omega
 simp only[a,f,Nd.mayK];by_cases h:1<=s.length<;>simp[h,bVs,fG]
theorem sumL_nil:sumL []=0:=rfl
theorem JM (l:List Str)(i:Nat)(hi:i<l.length):sumL (l.take (i+1))=sumL (l.take i)+(1+l[i].length)/\sumL (l.take i)+(1+l[i].length)<=sumL l:=by
 have a:sumL l=sumL (l.take i)+(1+l[i].length+sumL (l.drop (i+1))):=by
  rw[<-Nd.sumL_cons,<-qN hi,<-Nd.sumL_append,qV]
 refine⟨?_,by omega⟩;rw[xD l i hi,Nd.sumL_append,Nd.sumL_cons];simp[sumL]
theorem size0 (D:Dyn)(f:Nat){l:List Str}(h:Strs H k l)(x:AV)(a:Int)(n:Nat)(t:0<=a)(m:l.length<n)(hb:a+sumL l<=1000000000000):
  kL n (YE D f) [x, .int .i64 a,k, .int .i64 (l.length:Nat), .int .i64 (0:Nat)] H=some (.exit 0 [x, .int .i64 (a+sumL l)],H):=by
 have key:=fK (b:=YE D f) (H:=H) (r:=some (.exit 0 [x, .int .i64 (a+sumL l)],H)) (fun i=>[x, .int .i64 (a+sumL (l.take i)),k, .int .i64 (l.length:Nat), .int .i64 (i:Nat)]) l.length (fun i hi=>by
  obtain⟨p,o,q⟩:=h.at hi;obtain⟨j,u⟩:=JM l i hi;have s:=Nd.sumL_ge l;simp(disch:=omega) [YE,gH,bVs,Q3,zCc,hi,o,q,QP,Q4,wrap_i64,j,Int.add_assoc]) (fun n=>kD (by
  simp[YE,gH,bVs,Q3,zCc])) n m
 simpa[sumL_nil]using key
theorem size1 (D:Dyn)(f:Nat){l:List Str}(h:Strs H k l)(a:Int)(n:Nat)(t:0<=a)(m:l.length<n)(hb:a+sumL l<=1000000000000):
  kL n (KS D f) [.int .i64 a,k, .int .i64 (l.length:Nat), .int .i64 (0:Nat)] H=some (.exit 2 [.int .i64 (a+sumL l)],H):=by
 have key:=fK (b:=KS D f) (H:=H) (r:=some (.exit 2 [.int .i64 (a+sumL l)],H)) (fun i=>[.int .i64 (a+sumL (l.take i)),k, .int .i64 (l.length:Nat), .int .i64 (i:Nat)]) l.length (fun i hi=>by
  obtain⟨p,o,q⟩:=h.at hi;obtain⟨j,u⟩:=JM l i hi;have s:=Nd.sumL_ge l;simp(disch:=omega) [KS,gH,bVs,Q3,zCc,hi,o,q,QP,Q4,wrap_i64,j,Int.add_assoc]) (fun n=>kD (by
  simp[KS,gH,bVs,Q3,zCc])) n m
 simpa[sumL_nil]using key
def jX (p:Ptr):List AV:=[.int .i64 p.at_, .int .i64 p.birth, .int .u64 p.sum]
def bY (H:AH)(v:AV)(l:List Ptr):Prop:=Rw 3 H v l.length (l.flatMap jX)
def fD (H:AH)(v:AV)(n:Nd.Node):Prop:= ∃ks vs a,v= .agg [.bool n.leaf,ks,vs,a]/\Strs H ks n.keys/\Strs H vs n.vals/\bY H a n.kids
theorem bY.lnSl {H:AH}{v:AV}{l:List Ptr}(h:bY H v l):Eng.lnSl v=some (.int .i64 (l.length:Int)):=Rw.lnSl h
theorem bY.prs {H H':AH}{v:AV}{l:List Ptr}(h:bY H v l)(s:Prs H H'):bY H' v l:=Rw.prs h s
theorem zNS: ∀(l:List Ptr) (i:Nat) (hi:i<l.length),((l.flatMap jX).drop (i*3)).take 3=jX l[i]
 | [],i,hi=>by simp at hi
 | p::l,0,_=>rfl
 | p::l,i+1,hi=>by
  have:=zNS l i (by simpa using hi);rw[show(i+1)*3=i*3+3 from by omega];exact this
theorem bY.at {H:AH}{v:AV}{l:List Ptr}(h:bY H v l){i:Nat}(hi:i<l.length): ∃p,(∀κ (z:Int),z=(i:Int)->gY 3 v (.int κ z)=some p)/\Eng.ldN 3 p H=some (.agg (jX l[i])):=by
 obtain⟨p,f,a⟩:=Rw.ldN h hi;rw[zNS l i hi]at a;exact⟨p,f,a⟩
theorem fD.prs {H H':AH}{v:AV}{n:Nd.Node}(h:fD H v n)(s:Prs H H'):fD H' v n:=by
 obtain⟨ks,vs,a,rfl,f,i,j⟩:=h;exact⟨ks,vs,a,rfl,f.prs s,i.prs s,j.prs s⟩
def small (n:Nd.Node):Prop:=n.kids.length<=100000/\sumL n.keys<=100000000/\sumL n.vals<=100000000
theorem JR(i:H.ok){a:Nd.Node}(h:fD H k a)(o:small a)(u:200000000<=n):
  Ret (f110 D n [k] H) fun r H'=>r= .int .i64 (Nd.size a:Nat)/\Prs H H':=by
 obtain⟨ks,vs,p,rfl,j,m,q⟩:=h;obtain⟨x,y,z⟩:=o;have f:Prs H (H.push (.cells [.bool a.leaf,ks,vs,p] 119 1 false)):=(zOJ i).push _;have s:=Nd.sumL_ge a.keys;have t:=Nd.sumL_ge a.vals;simp(disch:=omega) only[f110,ev,kV i,j.lnSl,m.lnSl,q.lnSl,size0 D n (j.prs f),zKw,size1 D n (m.prs f),zGJ];apply Ret.pure;refine⟨?_,f⟩;simp only[Nd.size,AV.int.injEq,true_and];omega
open Go.Nd (be mayP QW)
theorem zHr: ∀(i n:Nat),be (i+1) n=UInt8.ofNat (n / 256 ^ i)::be i n
 | 0,n=>by simp[be]
 | i+1,n=>by
  rw[be,zHr i (n / 256),Nat.div_div_eq_div_mul,Nat.mul_comm 256,<-Nat.pow_succ];rfl
theorem zLb (c:h<i.length):(i.take (h+1)++E).set h k=i.take h++(k::E):=by
 have hl:(i.take h).length=h:=by simp;omega
 rw[xD i h c,qH,List.set_append_right _ _ (by omega),hl];simp
theorem zFy(q:H.ok){off k cc:Nat}(z:Nat)(t:H.h.get h=some (.cells i v 1 p))(N:off+k<=i.length)(L:k<=8)(O:100<=n):
  ∃H',f119 D n [.slice h off k cc, .int .u64 (z:Nat)] H=some (.tuple [],H')/\H'.h.get h=some (.cells (i.take off++(jT (be k z)++i.drop (off+k))) v 1 p)/\Stp (fun B=>B=h) H H'/\H'.next=H.next:=by
 have M:=q.lt t;have key:=fJ (b:=XX D n) k (fun A vs H'=>vs=[.slice h off k cc, .int .u64 (z:Nat), .int .i64 (k:Nat), .int .i64 (A:Nat)]/\A<=k/\H'.h.get h=some (.cells (i.take (off+(k - A))++(jT (be A z)++i.drop (off+k))) v 1 p)/\Stp (fun B=>B=h) H H'/\H'.next=H.next)
  (fun A vs H' hi ⟨c,hik,hg,hst,hnx⟩=>by
   subst c;have hb:Nat.blt (k - 1 - A) k=true:=by rw[qD];omega
   have K:((k:Int) - 1 - (A:Int))=((k - 1 - A:Nat):Int):=by omega
   have y:gY 1 (.slice h off k cc) (.int .i64 (k - 1 - A:Nat))=some (.ptr h (off+(k - 1 - A))):=by
    simp only[gY,kQ _ (show(0:Int)<=((k - 1 - A:Nat):Int)by omega),yI,hb,zU,kI,Nat.mul_one]
   have j:=cU (x:= .int .u8 ((((z / 256 ^ A % 256:Nat):Nat)):Int)) (o:=off+(k - 1 - A)) hg (by decide) rfl (by simp[jT,Nd.be_length];omega);have u:(i.take (off+(k - A))++(jT (be A z)++i.drop (off+k))).set (off+(k - 1 - A)) (.int .u8 (((z / 256 ^ A % 256:Nat)):Int))=i.take (off+(k - (A+1)))++(jT (be (A+1) z)++i.drop (off+k)):=by
    rw[show off+(k - A)=off+(k - 1 - A)+1 by omega,zLb (by omega),zHr,show k - (A+1)=k - 1 - A by omega];simp[jT]
   have C:(z:Int) / 2 ^ (8*A)=((z / 256 ^ A:Nat):Int):=by
    rw[<-zK0];simp
   refine⟨_,H'.put h (.cells (i.take (off+(k - (A+1)))++(jT (be (A+1) z)++i.drop (off+k))) v 1 p), ?_,rfl,by omega,by rw[zOF,if_pos rfl], ?_,hnx⟩
   .rw[u]at j;have e:=zDy .u64 .i64 (a:=(z:Nat)) (s:=8*A) (by omega) (by simp[IntKind.bits];omega);rw[C]at e;have F:(((8:Nat):Int)*(A:Int))=((8*A:Nat):Int):=by omega
    have G:IntKind.wrap .u8 ((z / 256 ^ A:Nat):Int)=((z / 256 ^ A % 256:Nat):Int):=by rw[wrap_u8];omega
    have f:(k:Int) - ((1:Nat):Int) - (A:Int)=((k - 1 - A:Nat):Int):=by omega
    simp(disch:=omega) only[XX,ev,lnSl,f,y,F,e,G,j];simp[hi]
   .exact hst.put (by omega) _ (.inr rfl)) n _ H ⟨rfl,Nat.zero_le _,by simpa[be,jT]using t,zOJ q,rfl⟩ (by omega)
 obtain⟨m,vs',H',f,rfl,_,I,J,h5⟩:=key;refine⟨H', ?_,by simpa using I,J,h5⟩;have hl:kL (m+1) (XX D n) [.slice h off k cc, .int .u64 (z:Nat), .int .i64 (k:Nat), .int .i64 (k:Nat)] H'=some (.exit 0 [],H'):=kD (by simp[XX,ev]);rw[hl]at f;simp only[f119,ev,lnSl,f,zKv]
theorem zGM (p q:Ptr):eqA [6,6,10] (.agg (jX p)) (.agg (jX q))=some (decide (p=q)):=by
 obtain⟨a,b,c⟩:=p;obtain⟨i,j,c'⟩:=q;have f:=fun x y=>Y1 .i64 x y
 have h:=fun x y=>Y1 .u64 x y
 simp only[aS]at f h;simp only[eqA,jX,aR,Nat.succ_eq_add_one,yO,zY,yS,qO,zU,uI,f,h];by_cases m:a=i<;>by_cases o:b=j<;>by_cases s:c=c'<;>simp[m,o,s]
theorem zJe (b:Bool):gK .eql (some b)=some (.bool b):=by simp only[gK,wC]
theorem zK3(f:H.ok)(p:Ptr): ∃H',f118 D n [.agg (jX p)] H=some (.bool (mayP p),H')/\Prs H H':=by
 refine⟨H.push (.cells (jX p) 42 1 false), ?_,(zOJ f).push _⟩;have h:eqA [6,6,10] (.agg (jX p)) (.agg (jX ⟨0,0,0⟩))=_:=zGM p ⟨0,0,0⟩;obtain⟨a,b,c⟩:=p;simp only[jX]at h;simp only[f118,ev,kV f,jX,uW,takeN,qA,lg,uO,fM];by_cases i:a=0
 .subst i;simp only[show((0:Nat):Int)=0 from rfl,if_true,h,zJe,ev,mayP];simp
 .simp only[show((0:Nat):Int)=0 from rfl,if_neg i,ev,mayP];rfl
def Z (n:Nat):List AV:=List.replicate n (.int .u8 (0:Nat))
theorem zLj:rep 16 [.int .u8 (0:Nat)]=Z 16:=rfl
theorem zBO(m:H.ok){off k cc:Nat}(z:Nat)(o:H.h.get h=some (.cells (i++(E++G)) v 1 p))(hp:i.length=off)(t:E.length=k)(j:k<=8)(pre:100<=n):
  ∃H',f119 D n [.slice h off k cc, .int .u64 (z:Nat)] H=some (.tuple [],H')/\H'.h.get h=some (.cells (i++(jT (be k z)++G)) v 1 p)/\Stp (fun B=>B=h) H H'/\H'.next=H.next:=by
 obtain⟨H',q,A,s⟩:=zFy D n m (cc:=cc) (k:=k) (off:=off) z o (by simp;omega) j pre;refine⟨H',q, ?_,s⟩;have hd:(i++(E++G)).drop (off+k)=G:=by rw[<-qH,jA (by rw[zV];omega)]
 rw[jD hp,hd]at A;exact A
theorem slA (A lo hi:Nat)(f:lo<=hi)(i:hi<=16)(o:lo<16):xM 16 1 (.ptr A 0) (some (.int .i64 (lo:Nat))) (some (.int .i64 (hi:Nat))) none=some (.slice A lo (hi - lo) (2*(16 - lo))):=by
 have j:Nat.ble hi 16=true:=by rw[qT];exact i
 have m:Nat.ble lo hi=true:=by rw[qT];exact f
 have a:Nat.beq 16 lo=false:=by rw[yA];intro h;have:=Nat.eq_of_beq_eq_true h;omega
 simp[xM,kX,kQ,YQ,j,m,a,kI,show((32 % 2).beq 0)=true from rfl,show(32 / 2).beq lo=false from a,show Nat.blt 0 1=true from rfl]
theorem zF9 (A:Nat):xM 16 1 (.ptr A 0) none (some (.int .i64 (4:Nat))) none=some (.slice A 0 4 32):=rfl
theorem zF8 (A:Nat):xM 16 1 (.ptr A 0) (some (.int .i64 (8:Nat))) none none=some (.slice A 8 8 16):=rfl
theorem zNf (A:Nat):xM 16 1 (.ptr A 0) none none none=some (.slice A 0 16 32):=rfl
theorem zAV(F:H.ok){p:Ptr}(hp:mayP p=true)(U:Nd.sumOk p)(o:100<=n): ∃H',f72 D n [.agg (jX p)] H=some (.tuple [S (QW p), .int .i64 (0:Nat)],H')/\Prs H H':=by
 have q:Prs H (H.push (.cells (jX p) 42 1 false)):=(zOJ F).push _;obtain⟨f,V,i⟩:=zK3 D n q.ok p;have L:uW (jX p) 0 3=some (jX p):=rfl;have W: ∃a b s:Nat,p=⟨a,b,s⟩/\a<4294967296/\b<4294967296/\s<18446744073709551616:=by
  obtain⟨a,b,s⟩:=p;simp only[Nd.sumOk]at U;have h1:0<=a/\a<8192/\0<=b/\b<=2147483647:=by
   simp only[mayP]at hp;split at hp
   .simp only[zF,zQ]at hp;omega
   .simp only[zF,zQ]at hp;omega
  exact⟨a.toNat,b.toNat,s.toNat,by congr 1<;>omega,by omega,by omega,by omega⟩
 obtain⟨a,b,s,rfl,ha,hb,a1⟩:=W;have t: ∀x:Nat,x<18446744073709551616->IntKind.wrap .u64 (x:Int)=(x:Int):=fun x hx=>by rw[wrap_u64];omega
 have j:Prs f (f.push (.cells (Z 16) 232 1 false)):=(zOJ i.ok).push _;have G:(f.push (.cells (Z 16) 232 1 false)).h.get f.next=some (.cells ([]++(Z 4++Z 12)) 232 1 false):=zOB _ _
 have M:(f.push (.cells (Z 16) 232 1 false)).next=f.next+1:=rfl
 generalize N:f.push (.cells (Z 16) 232 1 false)=H3 at j G M;obtain⟨Y,e4,I,st4,n4⟩:=zBO D n j.ok (cc:=32) (k:=4) (off:=0) a G rfl (by simp[Z]) (by omega) o;rw[show[]++(jT (be 4 a)++Z 12)=jT (be 4 a)++(Z 4++Z 8)from rfl]at I;obtain⟨H5,e5,J,m,n5⟩:=zBO D n st4.ok (cc:=24) (k:=4) (off:=4) b I (by simp[jT,Nd.be_length]) (by simp[Z]) (by omega) o;rw[<-qH,show Z 8=Z 8++[]from rfl]at J;obtain⟨u,e6,v,y,n6⟩:=zBO D n m.ok (cc:=16) (k:=8) (off:=8) s J (by simp[jT,Nd.be_length]) (by simp[Z]) (by omega) o;have z:H3.h.get H.next=some (.cells (jX ⟨a,b,s⟩) 42 1 false):=j.get i.ok (i.get q.ok (zOB _ _))
 have a0:H.next<f.next:=by have:=i.next;rw[zOC]at this;omega
 have C:Y.h.get H.next=some (.cells (jX ⟨a,b,s⟩) 42 1 false):=by rw[st4.keep _ (by have:=j.next;omega) (by omega)];exact z
 have O:H5.h.get H.next=some (.cells (jX ⟨a,b,s⟩) 42 1 false):=by rw[m.keep _ (by have:=j.next;omega) (by omega)];exact C
 have K:jT (be 4 a)++jT (be 4 b)++(jT (be 8 s)++[])=jT (QW ⟨a,b,s⟩):=by simp[QW,jT]
 rw[K]at v;have Q:zDl (.slice f.next 0 16 32) u=some (S (QW ⟨a,b,s⟩)):=J2 ⟨by simp[jT,Nd.encP_length], .inr (.inr ⟨_,_,_,_,_,_,_,rfl,v,by have:=(y.ok).lt v;exact this,by simp[jT,Nd.encP_length],by simp[zZ,jT,Nd.encP_length]⟩)⟩ (by simp)
 refine⟨u, ?_, ?_⟩
 .simp only[f72,ev,kV F,L,qA,V,hp];simp only[ev,kV i.ok,Bool.not_true,zM,qE,zLj,N,zF9,zF8,zNf,slA _ 4 8 (by omega) (by omega) (by omega),jR z,jR C,jR O,jX,t a (by omega),t b (by omega),t s (by omega),e4,e5,e6,Q]
 .have T:Stp (fun B=>B=f.next) H3 u:=(st4.trans m).trans y
  exact(q.trans i).trans (j.fresh T (fun A hA=>by omega))
theorem X3 (lt:Str->Str->Bool): ∀l:List Str,Nd.rising lt l=true↔ ∀i (h:i+1<l.length),lt l[i] l[i+1]=true
 | []=>by simp[Nd.rising]
 | [a]=>by simp[Nd.rising]
 | a::b::l=>by
  have f:=X3 lt (b::l);simp only[Nd.rising,zF,f];constructor
  .rintro⟨h1,h2⟩ i h
   cases i with
   | zero=>exact h1
   | succ i=>exact h2 i (by simpa using h)
  .intro h;exact⟨h 0 (by simp),fun i hi=>h (i+1) (by simpa using hi)⟩
def zEf (l:List Str)(i:Nat):Bool:=Nd.mayK (l.getD i [])&&(decide (i=0)||ltS (l.getD (i - 1) []) (l.getD i []))
theorem zGb (l:List Str):(List.range l.length).all (zEf l)=(l.all Nd.mayK&&Nd.rising ltS l):=by
 rw[yL,zF,X3];simp only[yC,List.mem_range,zEf,zF,j9,zQ];constructor
 .intro h;refine⟨fun x a=> ?_,fun i hi=> ?_⟩
  .obtain⟨i,hi,rfl⟩:=List.mem_iff_getElem.1 a;have:=(h i hi).1;rwa[qG,zK hi]at this
  .have:=(h (i+1) hi).2;simp only[Nat.add_eq_zero_iff,Nat.one_ne_zero,and_false,false_or,Nat.add_sub_cancel]at this;rwa[qG,zK (by omega),qG,zK hi]at this
 .rintro⟨h1,h2⟩ i hi
  refine⟨?_, ?_⟩
  .rw[qG,zK hi];exact h1 _ (yJ hi)
  .by_cases f:i=0
   .exact .inl f
   .right;have:=h2 (i - 1) (by omega);rw[qG,zK (show i - 1<l.length by omega),qG,zK hi];simpa[show i - 1+1=i by omega]using this
theorem zBr (l:List F)(d:F)(f:F->Bool):(List.range l.length).all (fun i=>f (l.getD i d))=l.all f:=by
 rw[yL];simp only[yC,List.mem_range];constructor
 .intro h x a;obtain⟨i,hi,rfl⟩:=List.mem_iff_getElem.1 a;have:=h i hi;rwa[qG,zK hi]at this
 .intro h i hi;rw[qG,zK hi];exact h _ (yJ hi)
theorem vF {l:List F}{d:F}(α:h<l.length):l.getD h d=l[h]:=by rw[qG,zK α];rfl
theorem zLa{A:List Str}(ks:Strs H k A)(x:H.h.get h=some (.cells i l 1 false))(y:i[1]? =some k)(hl:A.length<=1000000000)(v:Nat)(C:A.length<v):
  ∃l H',kL v (gZ D n) [.ptr h 0,k, .int .i64 (A.length:Nat), .int .i64 (0:Nat)] H=some (l,H')/\if(List.range A.length).all (zEf A)then(l= .exit 0 [.ptr h 0]/\H'=H)else(l= .ret (.bool false)/\H'=H):=by
 refine ZK A.length (zEf A) (fun e vs H'=>H'=H/\vs=[.ptr h 0,k, .int .i64 (A.length:Nat), .int .i64 (e:Nat)]) (fun l H'=>l= .exit 0 [.ptr h 0]/\H'=H) (fun l H'=>l= .ret (.bool false)/\H'=H) ?_ ?_ ?_ v _ H ⟨rfl,rfl⟩ C
 .rintro e vs H' hi ⟨rfl,rfl⟩ a
  obtain⟨p,o,s⟩:=ks.at hi;simp only[zEf,vF hi,zF,j9,zQ]at a;refine⟨_,H', ?_,rfl,rfl⟩;have f:((e:Nat):Int)< (A.length:Int):=by omega
  by_cases z:e=0
  .subst z;simp(disch:=omega) only[gZ,eZ,f,o,s,wF,a.1,yY,show((0:Nat):Int)+((1:Nat):Int)=((0+1:Nat):Int)from rfl]
  .have j:e - 1<A.length:=by omega
   obtain⟨q,q1,q2⟩:=ks.at j;have m:=a.2.resolve_left z;rw[vF j]at m;have t:((e:Nat):Int) - ((1:Nat):Int)=((e - 1:Nat):Int):=by omega
   have u:((0:Nat):Int)< (e:Int):=by omega
   simp(disch:=omega) only[gZ,eZ,f,u,o,s,wF,a.1,jR x,y,t,q1,q2,m,yH]
 .rintro e vs H' hi ⟨rfl,rfl⟩ a
  obtain⟨p,o,s⟩:=ks.at hi;have f:((e:Nat):Int)< (A.length:Int):=by omega
  refine⟨.ret (.bool false),H', ?_,rfl,rfl,rfl⟩;simp only[zEf,vF hi]at a
  cases hm:Nd.mayK A[e]with
  | false=>simp(disch:=omega) only[gZ,eZ,f,o,s,wF,hm]
  | true=>
   simp only[hm,Bool.true_and,Bool.or_eq_false_iff,yU]at a;have j:e - 1<A.length:=by omega
   obtain⟨q,q1,q2⟩:=ks.at j;have m:=a.2;rw[vF j]at m;have t:((e:Nat):Int) - ((1:Nat):Int)=((e - 1:Nat):Int):=by omega
   have u:((0:Nat):Int)< (e:Int):=by omega
   simp(disch:=omega) only[gZ,eZ,f,u,o,s,wF,hm,jR x,y,t,q1,q2,m]
 .rintro vs H' ⟨rfl,rfl⟩
  refine⟨.exit 0 [.ptr h 0],H', ?_,rfl,rfl,rfl⟩;simp only[gZ,eZ,yY]
theorem zL9{l:List Str}(h:Strs H k l)(hl:l.length<=1000000000)(m:Nat)(t:l.length<m):
  ∃e H',kL m (ZT D n) [k, .int .i64 (l.length:Nat), .int .i64 (0:Nat)] H=some (e,H')/\if(List.range l.length).all (fun i=>decide ((l.getD i []).length<=200))then(e= .exit 2 []/\H'=H)else(e= .ret (.bool false)/\H'=H):=by
 refine ZK l.length _ (fun i a H'=>H'=H/\a=[k, .int .i64 (l.length:Nat), .int .i64 (i:Nat)]) (fun e H'=>e= .exit 2 []/\H'=H) (fun e H'=>e= .ret (.bool false)/\H'=H) ?_ ?_ ?_ m _ H ⟨rfl,rfl⟩ t
 .rintro i a H' hi ⟨rfl,rfl⟩ o
  obtain⟨p,q,s⟩:=h.at hi;simp only[vF hi,zQ]at o;refine⟨_,H', ?_,rfl,rfl⟩;have f:((i:Nat):Int)< (l.length:Int):=by omega
  have j: ¬((200:Nat):Int)< ((l[i].length:Nat):Int):=by omega
  simp(disch:=omega) only[ZT,eZ,f,q,s,j,yH]
 .rintro i a H' hi ⟨rfl,rfl⟩ o
  obtain⟨p,q,s⟩:=h.at hi;simp only[vF hi,yU]at o;refine⟨.ret (.bool false),H', ?_,rfl,rfl,rfl⟩;have f:((i:Nat):Int)< (l.length:Int):=by omega
  have j:((200:Nat):Int)< ((l[i].length:Nat):Int):=by omega
  simp(disch:=omega) only[ZT,eZ,f,q,s,j,yH]
 .rintro a H' ⟨rfl,rfl⟩
  refine⟨.exit 2 [],H', ?_,rfl,rfl,rfl⟩;simp only[ZT,eZ,yY]
def pz:Ptr:=⟨0,0,0⟩
theorem zND (x:Ptr):(((decide (x.at_< ((1:Nat):Int))||decide (((8192:Nat):Int)<=x.at_))||decide (x.birth< ((0:Nat):Int)))||decide (((2147483647:Nat):Int)<x.birth))= !(Nd.kidOk x):=by
 rw[yL];simp only[Nd.kidOk,j9,zQ,j6,Bool.and_eq_false_iff,yU];omega
theorem zCg (f:H.ok)(x:Ptr): ∃a,stN 3 (.ptr H.next 0) (.agg (jX x)) (H.push (.cells [.int .i64 (0:Nat), .int .i64 (0:Nat), .int .u64 (0:Nat)] 42 1 false))=some (jU,a)/\Prs H a/\a.next=H.next+1/\a.h.get H.next=some (.cells (jX x) 42 1 false):=by
 refine⟨_,JP (zOB _ _) (by decide) rfl rfl (by decide), ?_,rfl,by rw[zOF,if_pos rfl];rfl⟩;exact((zOJ f).push _).fresh ((zOJ (f.push _)).put (by rw[zOC];omega) _ (.inr rfl)) (fun A i=>by omega)
theorem zL8(z:H.ok){l:List Ptr}(h:bY H k l)(hl:l.length<=1000000000)(u:Nat)(C:l.length<u):
  ∃e H',kL u (KT D n) [k, .int .i64 (l.length:Nat), .int .i64 (0:Nat)] H=some (e,H')/\if(List.range l.length).all (fun i=>Nd.kidOk (l.getD i pz))then(e= .exit 4 []/\Prs H H')else(e= .ret (.bool false)/\Prs H H'):=by
 refine ZK l.length _ (fun i q H'=>Prs H H'/\q=[k, .int .i64 (l.length:Nat), .int .i64 (i:Nat)]) (fun e H'=>e= .exit 4 []/\Prs H H') (fun e H'=>e= .ret (.bool false)/\Prs H H') ?_ ?_ ?_ u _ H ⟨zOJ z,rfl⟩ C
 .rintro i q H' hi ⟨a,rfl⟩ f
  obtain⟨p,v,j⟩:=(h.prs a).at hi;simp only[vF hi]at f;generalize l[i]=x at f j;obtain⟨y,m,s,F,o⟩:=zCg a.ok x;have t:((i:Nat):Int)< (l.length:Int):=by omega
  have hb:=zND x;rw[f]at hb;simp only[jX]at o m j;refine⟨_,y, ?_,a.trans s,rfl⟩;simp(disch:=omega) only[KT,eZ,t,v,j,kV a.ok,m,jR o,hb,yH]
 .rintro i q H' hi ⟨a,rfl⟩ f
  obtain⟨p,v,j⟩:=(h.prs a).at hi;simp only[vF hi]at f;generalize l[i]=x at f j;obtain⟨y,m,s,F,o⟩:=zCg a.ok x;have t:((i:Nat):Int)< (l.length:Int):=by omega
  have hb:=zND x;rw[f]at hb;simp only[jX]at o m j;refine⟨.ret (.bool false),y, ?_,rfl,rfl,a.trans s⟩;simp(disch:=omega) only[KT,eZ,t,v,j,kV a.ok,m,jR o,hb]
 .rintro q H' ⟨a,rfl⟩
  refine⟨.exit 4 [],H', ?_,rfl,rfl,a⟩;simp only[KT,eZ,yY]
theorem bE(O:H.ok){a:Nd.Node}(h:fD H k a)(Y:small a)(hn:200000000<=n):
  ∃H',f109 D n [k] H=some (.bool (Nd.shaped ltS a),H')/\Prs H H':=by
 obtain⟨ks,vs,s,rfl,i,o,p⟩:=h;obtain⟨Z,s2,s3⟩:=Y;have f:Prs H (H.push (.cells [.bool a.leaf,ks,vs,s] 119 1 false)):=(zOJ O).push _;have j:(H.push (.cells [.bool a.leaf,ks,vs,s] 119 1 false)).h.get H.next=some (.cells [.bool a.leaf,ks,vs,s] 119 1 false):=zOB _ _
 have T:=Nd.sumL_ge a.keys;have U:=Nd.sumL_ge a.vals;have hf:f109 D n [.agg [.bool a.leaf,ks,vs,s]] H=fG (jb 0 (kL n (gZ D n) [.ptr H.next 0,ks, .int .i64 (a.keys.length:Nat), .int .i64 (0:Nat)] (H.push (.cells [.bool a.leaf,ks,vs,s] 119 1 false))) (YF D n)):=by
  simp only[f109,eZ,kV O,i.lnSl]
 rw[hf];generalize H.push (.cells [.bool a.leaf,ks,vs,s] 119 1 false)=H1 at f j;obtain⟨e0,L,e1,C⟩:=zLa D n (i.prs f) j (by rfl) (by omega) n (by omega);rw[e1];rw[zGb]at C;split at C
 .rename_i M;obtain⟨rfl,rfl⟩:=C;simp only[Nd.shaped,M,Bool.true_and];obtain⟨leaf,keys,vals,kids⟩:=a;simp only at i o p j T U Z s2 s3 M⊢
  cases leaf with
  | true=>
   by_cases u:vals.length=keys.length/\kids.length=0
   .obtain⟨G,I⟩:=u;obtain⟨e3,x,y,m⟩:=zL9 D n (o.prs f) (by omega) n (by omega);have z: ¬((vals.length:Int)≠(keys.length:Int)):=by omega
    have t: ¬((kids.length:Int)≠((0:Nat):Int)):=by omega
    have J:kids=[]:=zR I;rw[zBr vals ([]:Str) (fun k=>decide (k.length<=200))]at m;split at m
    .rename_i q;obtain⟨rfl,rfl⟩:=m;refine⟨x, ?_,f⟩;have hr:(decide (vals.length=keys.length)&&decide (kids=[])&&vals.all fun k=>decide (k.length<=200))=true:=by simp only[G,J,q,decide_true,qO]
     simp only[YF,eZ,jR j,i.lnSl,o.lnSl,p.lnSl,z,t,y,XY,hr]
    .rename_i q;obtain⟨rfl,rfl⟩:=m;refine⟨x, ?_,f⟩;have hr:(decide (vals.length=keys.length)&&decide (kids=[])&&vals.all fun k=>decide (k.length<=200))=false:=by simp only[yA.2 q,Bool.and_false]
     simp only[YF,eZ,jR j,i.lnSl,o.lnSl,p.lnSl,z,t,y,XY,hr]
   .refine⟨L, ?_,f⟩;have hr:(decide (vals.length=keys.length)&&decide (kids=[]))=false:=by
     rw[Bool.and_eq_false_iff,yU,yU];by_cases Q:vals.length=keys.length
     .right;intro hb;exact u ⟨Q,by rw[hb];rfl⟩
     .exact .inl Q
    simp only[YF,eZ,jR j,i.lnSl,o.lnSl,p.lnSl,hr];rw[if_pos (by simp only[j9,zQ];omega)];simp only[eZ]
  | false=>
   by_cases u:keys.length≠0/\vals.length=0/\kids.length=keys.length+1
   .obtain⟨G,I,V⟩:=u;obtain⟨e3,x,y,m⟩:=zL8 D n f.ok (p.prs f) (by omega) n (by omega);have z: ¬((keys.length:Int)=((0:Nat):Int)):=by omega
    have t: ¬((vals.length:Int)≠((0:Nat):Int)):=by omega
    have N: ¬((kids.length:Int)≠(keys.length:Int)+((1:Nat):Int)):=by omega
    have W:vals=[]:=zR I;have J:keys≠[]:=fun e=>G (by rw[e];rfl)
    rw[zBr kids pz Nd.kidOk]at m;split at m
    .rename_i q;obtain⟨rfl,K⟩:=m;refine⟨x, ?_,f.trans K⟩;have hr:(decide (keys≠[])&&decide (vals=[])&&decide (kids.length=keys.length+1)&&kids.all Nd.kidOk)=true:=by simp only[V,W,q,decide_eq_true J,decide_true,qO]
     simp(disch:=omega) only[YF,eZ,jR j,i.lnSl,o.lnSl,p.lnSl,z,t,N,y,zDg,hr]
    .rename_i q;obtain⟨rfl,K⟩:=m;refine⟨x, ?_,f.trans K⟩;have hr:(decide (keys≠[])&&decide (vals=[])&&decide (kids.length=keys.length+1)&&kids.all Nd.kidOk)=false:=by simp only[yA.2 q,Bool.and_false]
     simp(disch:=omega) only[YF,eZ,jR j,i.lnSl,o.lnSl,p.lnSl,z,t,N,y,zDg,hr]
   .refine⟨L, ?_,f⟩;have hr:(decide (keys≠[])&&decide (vals=[])&&decide (kids.length=keys.length+1))=false:=by
     rw[yA];intro F;simp only[zF,zQ]at F;exact u ⟨fun e=>F.1.1 (zR e),by rw[F.1.2];rfl,F.2⟩
    simp(disch:=omega) only[YF,eZ,jR j,i.lnSl,o.lnSl,p.lnSl,hr];rw[if_pos (by simp only[j9,zQ];omega)];simp only[eZ]
 .rename_i S;obtain⟨rfl,rfl⟩:=C;refine⟨L, ?_,f⟩;simp only[Nd.shaped,yA.2 S,eZ]
theorem zAn (a:Nd.Node)(ks vs f:AV):uW [.bool a.leaf,ks,vs,f] 0 4=some [.bool a.leaf,ks,vs,f]:=rfl
theorem zLy(j:H.ok){a:Nd.Node}(h:fD H k a)(p:small a)(q:200000000<=n):
  ∃H',f62 D n [k] H=some (.bool (Nd.may ltS a),H')/\Prs H H':=by
 have s:=h;obtain⟨ks,vs,m,rfl,I,J,K⟩:=h;have f:Prs H (H.push (.cells [.bool a.leaf,ks,vs,m] 119 1 false)):=(zOJ j).push _;have y:(H.push (.cells [.bool a.leaf,ks,vs,m] 119 1 false)).h.get H.next=some (.cells [.bool a.leaf,ks,vs,m] 119 1 false):=zOB _ _
 obtain⟨C,t,i⟩:=bE D n f.ok (s.prs f) p q;obtain⟨z,F,G,rfl,u⟩:=JR D n i.ok (s.prs (f.trans i)) p q
 cases o:Nd.shaped ltS a with
 | true=>
  refine⟨F, ?_,(f.trans i).trans u⟩;have x:(((Nd.size a:Nat):Int)<=((500:Nat):Int))=(Nd.size a<=500):=by rw[eq_iff_iff];omega
  simp only[f62,eZ,kV j,zAn,qA,t,o,jW (i.get f.ok y),G,x,Nd.may]
 | false=>
  refine⟨C, ?_,f.trans i⟩;simp only[f62,eZ,kV j,zAn,qA,t,o,Nd.may]
end Go.Eng.Sh
end
section
namespace Go.Eng
def hJ (k e:Nat)(H:AH)(v:AV)(n:Nat)(l:List AV):Prop:=
 Own k e H v n l\/(l.length=n*k/\ ∃A a g,v= .slice A 0 n (2*n)/\A<H.next/\H.h.get A=some (.cells l a k g))
theorem hJ.len (e:hJ h l H k t i):i.length=t*h:=by
 rcases e with e | e
 .exact e.1
 .exact e.1
theorem hJ.row {k e n:Nat}{H:AH}{v:AV}{l:List AV}(h:hJ k e H v n l):Rw k H v n l:=by
 rcases h with h | ⟨a,A,f,g,rfl,i,j⟩
 .exact h.row
 .exact⟨a, .inr (.inr ⟨A,0,2*n,l,f,k,g,rfl,j,i,by omega,by rw[yD,zZ (by omega)]⟩)⟩
theorem hJ.mono {k e n:Nat}{S:Nat->Prop}{H H':AH}{v:AV}{l:List AV}(h:hJ k e H v n l)(s:Stp S H H')(a: ∀A,Blk v A-> ¬S A):hJ k e H' v n l:=by
 rcases h with h | ⟨i,A,j,g,rfl,f,m⟩
 .exact .inl (h.mono s a)
 .exact .inr ⟨i,A,j,g,rfl,qI f s.next,by rw[s.keep A f (a A (zOG.2 rfl))];exact m⟩
theorem hJ.lt (e:hJ h l H k t i)(a:Blk k C):C<H.next:=by
 rcases e with⟨_,⟨rfl,_⟩ | ⟨A,rfl,f,_⟩⟩ | ⟨_,A,n,g,rfl,f,_⟩
 .exact(zOO.1 a).elim
 .rw[zOG.1 a];exact f
 .rw[zOG.1 a];exact f
theorem hJ.app1 {k e bytes n m:Nat}{H:AH}{v:AV}{l new:List AV}(i:H.ok)(o:0<k)(h:hJ k e H v n l)(hm:new.length=m*k)(z:n+m<=1000000000)(hb:bytes<=1000):
  ∃p H',Eng.app1 e k bytes m new v H=some (p,H')/\hJ k e H' p (n+m) (l++new)/\Stp (Blk v) H H'/\(∀B,Blk p B->Blk v B\/H.next<=B):=by
 by_cases q:m=0
 .subst q;have:new=[]:=zR (by simpa using hm);subst this;rcases h with h | ⟨q,A,j,g,rfl,s,t⟩
  .obtain⟨H',f,u,y,I⟩:=WA (bytes:=bytes) i o h;exact⟨v,H',f, .inl (by simpa using u),y.mono (fun _ _ x=>x.elim),fun B a=> .inl a⟩
  .have C:kS l g k 0 (2*n) k=n:=by
    simp only[kS,show((2*n) % 2).beq 0=true by rw[jE];rfl,zU,yV n (show 0<2 by omega)]
   have J:Nat.blt 0 k=true:=by rw[qD];exact o
   have F:setAt l (0+n*k) []=some l:=by rw[xL (by simp;omega)];simp
   have G:(H.put A (.cells l j k g)).h.get A=some (.cells l j k g):=by rw[zOF,if_pos rfl]
   refine⟨.slice A 0 n (2*n),H.put A (.cells l j k g), ?_, .inr ⟨by simpa using q,A,j,g,rfl,s,by simpa using G⟩,(zOJ i).put s _ (.inr (zOG.2 rfl)),fun B a=> .inl a⟩;simp only[Eng.app1,t,zEz,C,Nat.add_zero,Nat.ble_eq_true_of_le (zP n),zU,J,F,zBp,wR,kI]
 .rcases h with h | ⟨hl,A,j,g,rfl,s,t⟩
  .obtain⟨H',f,u,y,I⟩:=J7 (bytes:=bytes) i o h hm (by omega) z hb;exact⟨_,H',f, .inl u,y,fun B a=> .inr (by rw[zOG.1 a];exact zP _)⟩
  .have f:=WB (k:=k) (e:=e) (bytes:=bytes) (n:=n) (m:=m) (off:=0) (new:=new) i t (by omega) (by omega) z hb;rw[yD,zZ (by omega)]at f;refine⟨_,_,f, .inl ⟨by simp[hl,hm,jB], .inr ⟨H.next,rfl,Nat.lt_succ_self _,zOB _ _⟩⟩,(zOJ i).push _,fun B a=> .inr (by rw[zOG.1 a];exact zP _)⟩
theorem hJ.app {bytes m:Nat}{new:List AV}(s:H.ok)(f:0<h)(e:hJ h l H k t i)(j:srcOf h q H=some (m,new))(hm:new.length=m*h)(o:jV new=true)(p:t+m<=1000000000)(hb:bytes<=1000):
  ∃a H',apP l h bytes k q H=some (a,H')/\hJ h l H' a (t+m) (i++new)/\Stp (Blk k) H H'/\(∀B,Blk a B->Blk k B\/H.next<=B):=by
 obtain⟨a,H',v,n⟩:=e.app1 (bytes:=bytes) (e:=l) s f hm p hb;exact⟨a,H',by simp only[apP,j,o,zU,v],n⟩
theorem hJ.isCell {k e n:Nat}{H:AH}{v:AV}{l:List AV}(h:hJ k e H v n l):isCell v=true:=h.row.isCell
end Go.Eng
namespace Go.Eng.Sh
open Go.Nd (Ptr sumL encT QW)
def zHV (P:Nat->Prop)(H:AH)(A:Nat)(l:Str):Prop:= ∃v,Box H A v/\hJ 1 5 H v l.length (jT l)/\(∀B,Blk v B-> ¬P B/\B≠A)/\ ¬P A
theorem zOq (e sz:Nat)(z x:AV)(h:isCell x=true):Q0 e 1 1 [z] [(0,x)]=some (.cells [x] e 1 false,fun A=> .slice A 0 1 2):=by
 simp only[Q0,fM,wE h,aR,yO,zU,rep];rfl
theorem zHV.app {P:Nat->Prop}{H:AH}{A:Nat}{l m:Str}(h:zHV P H A l)(o:H.ok)(F: ∀B,P B->B<H.next){s:AV}(G:srcOf 1 s H=some (m.length,jT m))(I:l.length+m.length<=1000000000):
  ∃v f H' i,ld1 (.ptr A 0) H=some v/\apP 5 1 1 v s H=some (f,H')/\stN 1 (.ptr A 0) f H'=some (jU,i)/\zHV P i A (l++m)/\Stp (fun B=> ¬P B) H i:=by
 obtain⟨v,hb,J,j,t⟩:=h;obtain⟨f,H',K,u,p,y⟩:=J.app (bytes:=1) o (by decide) G (by simp[jT]) (bytesV_cells m) I (by decide);have C:Box H' A v:=hb.mono o p (fun x=>(j A x).2 rfl);obtain⟨i,L,b2,z⟩:=C.st p.ok u.isCell;have M:=hb.lt o;have q: ∀B,Blk f B->B≠A:=fun B a e=>by
  rcases y B a with h | h
  .exact(j B h).2 e
  .omega
 refine⟨v,f,H',i,hb.ld,K,L,⟨f,b2, ?_,fun B a=>⟨fun hp=> ?_,q B a⟩,t⟩, ?_⟩
 .have:=u.mono z (fun B a=>q B a);simpa[jT]using this
 .rcases y B a with h | h
  .exact(j B h).1 hp
  .have:=F B hp;omega
 .exact(p.mono (fun B _ a=>(j B a).1)).trans (z.mono (fun B _ a=>by rw[a];exact t))
theorem zBC{l s:Str}(A:zHV B H h l)(f:H.ok)(j: ∀P,B P->P<H.next)(T:l.length+s.length+1<=1000000000):
  ∃H',f193 D n [S s, .ptr h 0] H=some (.tuple [],H')/\zHV B H' h (l++encT s)/\Stp (fun P=> ¬B P) H H':=by
 have q:IntKind.wrap .u8 (s.length:Int)=(((UInt8.ofNat s.length).toNat:Nat):Int):=by rw[wrap_u8,UInt8.toNat_ofNat'];omega
 have a:Prs H (H.push (.cells [.int .u8 ((UInt8.ofNat s.length).toNat:Nat)] 5 1 false)):=(zOJ f).push _;have t:zHV B (H.push (.cells [.int .u8 ((UInt8.ofNat s.length).toNat:Nat)] 5 1 false)) h l:=by
  obtain⟨v,hb,y,z,C⟩:=A;exact⟨v,hb.mono f a (fun x=>x),y.mono a (fun _ _ x=>x),z,C⟩
 have o:=JQ (k:=1) H (jT [UInt8.ofNat s.length]) 5 1 false 1 2 rfl;obtain⟨v,U,V,F,G,I,J,K,st2⟩:=t.app a.ok (fun P i=>Nat.lt_succ_of_lt (j P i)) (m:=[UInt8.ofNat s.length]) o (by simp;omega);obtain⟨u,W,Y,L,M,N,O,Q,st4⟩:=K.app st2.ok (fun P i=>qI (j P i) (qR a.next st2.next)) (m:=s) (zBH s F) (by simp;omega)
 have p:ld1 (.ptr h 0) H=some v:=by
  have:=G;rw[zBX _ _ (by obtain⟨v,hb,_⟩:=A;exact hb.lt f)]at this;exact this
 refine⟨L, ?_, ?_,(a.stp.trans st2).trans st4⟩
 .simp only[f193,eZ,p,q];rw[zOq 5 1 _ _ rfl];simp only[eZ,kV f,I,J,M,N,O]
 .simpa[encT]using Q
theorem zK4{E:Nat}{l:Str}{p:Ptr}(A:zHV B H h l)(f:H.ok)(q: ∀P,B P->P<H.next)(hp:Nd.mayP p=true)(s:Nd.sumOk p)(N:l.length+16<=1000000000)(j:100<=n):
  ∃H',f194 D n [.agg (jX p), .ptr E 0, .ptr h 0] H=some (.tuple [],H')/\zHV B H' h (l++QW p)/\Stp (fun P=> ¬B P) H H':=by
 have i:Prs H (H.push (.cells (jX p) 42 1 false)):=(zOJ f).push _;obtain⟨t,u,o⟩:=zAV D n i.ok hp s j;have a:=i.trans o;have y:zHV B t h l:=by
  obtain⟨v,hb,z,C,F⟩:=A;exact⟨v,hb.mono f a (fun x=>x),z.mono a (fun _ _ x=>x),C,F⟩
 obtain⟨v,O,Q,G,I,J,K,L,st4⟩:=y.app a.ok (fun P M=>qI (q P M) a.next) (m:=QW p) (zBH _ _) (by rw[Nd.encP_length];omega)
 refine⟨G, ?_,L,(Prs.stp a).trans st4⟩;simp only[f194,eZ,kV f,show uW (jX p) 0 3=some (jX p)from rfl,qA,u,jS,nth,ne_eq,not_true_eq_false,zKi,I,J,K]
theorem zOi (m n:Nat)(x a:AV)(H:AH):callV [(109,f109 (dy (m+1)) n),(110,f110 (dy (m+1)) n)] (dy (m+1)) (.func 193 [] [a]) [x] H=f193 (dy m) m [x,a] H:=rfl
theorem zKH (m n:Nat)(x e a:AV)(H:AH):callV [(109,f109 (dy (m+1)) n),(110,f110 (dy (m+1)) n)] (dy (m+1)) (.func 194 [] [e,a]) [x] H=f194 (dy m) m [x,e,a] H:=rfl
structure EncI (N E:Nat)(A:Nat)(H0 H:AH)(l:Str):Prop where
 prs:Prs H0 H
 n:H0.next=N
 out:zHV (fun B=>B<N\/B=E) H A l
 err:Box H E (.int .i64 (0:Nat))
theorem EncI.step {E l':Str}(N:EncI h l t H w E)(f:zHV (fun B=>B<h\/B=l) I t l')(a:Stp (fun B=> ¬(B<h\/B=l)) w I):EncI h l t H I l':=
 ⟨N.prs.fresh a (fun B j=>by rw[N.n];omega),N.n,f,N.err.mono N.prs.ok a (fun i=>i (.inr rfl))⟩
theorem EncI.lt {N E A:Nat}{H0 H:AH}{l:Str}(h:EncI N E A H0 H l): ∀B,(B<N\/B=E)->B<H.next:=by
 rintro B (a | rfl)
 .have:=h.prs.next;rw[h.n]at this;omega
 .exact h.err.lt h.prs.ok
theorem zIZ (m n:Nat){keys vals:List Str}(hX:H.h.get C=some (.cells [.bool true,k,q,e] 119 1 false))(v:H.ok)(G:Strs H k keys)(I:Strs H q vals)(hl:vals.length=keys.length)
  (hb:sumL keys+sumL vals<=10000000) (hd:Str) (U:hd.length<=1000) (N:EncI h l t H w hd) (o:Nat) (x:keys.length<o):
  ∃H',kL o (dU (dy (m+1)) n) [.ptr C 0, .ptr t 0, .ptr l 0, .func 193 [] [.ptr t 0], .func 194 [] [.ptr l 0, .ptr t 0],k, .int .i64 (keys.length:Nat), .int .i64 (0:Nat)] w=some (.exit 0 [.ptr t 0, .ptr l 0],H')/\EncI h l t H H' (hd++Nd.encL keys vals):=by
 have V:=Nd.sumL_ge keys;have key:=fJ (b:=dU (dy (m+1)) n) keys.length (fun i E H'=>E=[.ptr C 0, .ptr t 0, .ptr l 0, .func 193 [] [.ptr t 0], .func 194 [] [.ptr l 0, .ptr t 0],k, .int .i64 (keys.length:Nat), .int .i64 (i:Nat)]/\EncI h l t H H' (hd++Nd.encL (keys.take i) (vals.take i)))
  (fun i E Z hi ⟨y,a⟩=>by
   subst y;have j:i<vals.length:=by omega
   obtain⟨p,J,K⟩:=(G.prs a.prs).at hi;obtain⟨_,W⟩:=JM keys i hi;obtain⟨_,Y⟩:=JM vals i j;have u:(Nd.encL (keys.take i) (vals.take i)).length=sumL (keys.take i)+sumL (vals.take i):=Nd.encL_length _ _ (by simp[hl]);obtain⟨H2,L,M,st2⟩:=zBC (dy m) m (s:=keys[i]) a.out a.prs.ok a.lt (by simp only[zV,u];omega);have f:=a.step M st2;obtain⟨H0,q1,q2⟩:=(I.prs f.prs).at j;obtain⟨O,Q,S,st3⟩:=zBC (dy m) m (s:=vals[i]) f.out f.prs.ok f.lt (by simp only[zV,u,Nd.encT,zY];omega);have z:=f.step S st3;have A:((i:Nat):Int)< (keys.length:Int):=by omega
   refine⟨_,O, ?_,rfl, ?_⟩
   .simp(disch:=omega) only[dU,eZ,A,J,K,zOi,L,jR (f.prs.get v hX),q1,q2,Q,XU,yH]
   .rw[xD keys i hi,xD vals i j,Nd.encL_snoc _ _ _ _ (by simp[hl])];simpa using z) o _ w ⟨rfl,by simpa[Nd.encL]using N⟩ x
 obtain⟨X,E,H',T,rfl,a⟩:=key;refine⟨H', ?_,by rw[zZ (zP _),zZ (by omega)]at a;exact a⟩;rw[T];exact kD (by simp only[dU,eZ,yY])
theorem zJ0 (m n:Nat)(hm:100<=m){E:Nat}{keys:List Str}{k0:Ptr}{kids:List Ptr}(hX:H.h.get t=some (.cells [.bool false,k,q,e] 119 1 false))(z:H.ok)(L:Strs H k keys)(M:bY H e (k0::kids))(hl:kids.length=keys.length)
  (y: ∀p∈kids,Nd.mayP p=true/\Nd.sumOk p) (hb:sumL keys+16*kids.length<=10000000) (hd:Str) (Z:hd.length<=1000) (N:EncI h E l H w hd) (o:Nat) (C:keys.length<o):
  ∃H',kL o (dU (dy (m+1)) n) [.ptr t 0, .ptr l 0, .ptr E 0, .func 193 [] [.ptr l 0], .func 194 [] [.ptr E 0, .ptr l 0],k, .int .i64 (keys.length:Nat), .int .i64 (0:Nat)] w=some (.exit 0 [.ptr l 0, .ptr E 0],H')/\EncI h E l H H' (hd++Nd.encI keys kids):=by
 have a0:=Nd.sumL_ge keys;have key:=fJ (b:=dU (dy (m+1)) n) keys.length (fun i A H'=>A=[.ptr t 0, .ptr l 0, .ptr E 0, .func 193 [] [.ptr l 0], .func 194 [] [.ptr E 0, .ptr l 0],k, .int .i64 (keys.length:Nat), .int .i64 (i:Nat)]/\EncI h E l H H' (hd++Nd.encI (keys.take i) (kids.take i)))
  (fun i A H1 hi ⟨F,a⟩=>by
   subst F;have j:i<kids.length:=by omega
   obtain⟨p,O,Q⟩:=(L.prs a.prs).at hi;obtain⟨_,a1⟩:=JM keys i hi;have u:(Nd.encI (keys.take i) (kids.take i)).length=sumL (keys.take i)+16*(kids.take i).length:=Nd.encI_length _ _ (by simp[hl]);have v:(kids.take i).length=i:=by simp;omega
   obtain⟨H2,S,T,st2⟩:=zBC (dy m) m (s:=keys[i]) a.out a.prs.ok a.lt (by simp only[zV,u,v];omega);have f:=a.step T st2;obtain⟨H0,q1,q2⟩:=bY.at (M.prs f.prs) (i:=i+1) (by simpa using j);obtain⟨G,I⟩:=y _ (yJ j);obtain⟨U,V,W,st3⟩:=zK4 (dy m) m (E:=E) (p:=kids[i]) f.out f.prs.ok f.lt G I (by simp only[zV,u,v,Nd.encT,zY];omega) hm;have J:=f.step W st3;have K:((i:Nat):Int)< (keys.length:Int):=by omega
   simp only[List.getElem_cons_succ]at q2;refine⟨_,U, ?_,rfl, ?_⟩
   .simp(disch:=omega) only[dU,eZ,K,O,Q,zOi,S,jR (f.prs.get z hX),q1,q2,zKH,V,XU,yH]
   .rw[xD keys i hi,xD kids i j,Nd.encI_snoc _ _ _ _ (by simp[hl])];simpa using J) o _ w ⟨rfl,by simpa[Nd.encI]using N⟩ C
 obtain⟨X,A,H',Y,rfl,a⟩:=key;refine⟨H', ?_,by rw[zZ (zP _),zZ (by omega)]at a;exact a⟩;rw[Y];exact kD (by simp only[dU,eZ,yY])
theorem Box.new (H:AH)(v:AV)(e:TypeId):Box (H.push (.cells [v] e 1 false)) H.next v:=⟨e,zOB _ _⟩
theorem zMg (K:H.ok)(k:Nat): ∃a j,stN 1 (.ptr (H.next+1) 0) (.slice H.next 0 2 4) ((H.push (.cells [.int .u8 (((UInt8.ofNat (k / 256)).toNat:Nat):Int), .int .u8 ((UInt8.ofNat k).toNat:Nat)] 5 1 false)).push (.cells [.nS] 216 1 false))=some (jU,a)/\a.ok/\a.next=H.next+2/\
  stN 1 (.ptr (H.next+2) 0) (.int .i64 (0:Nat)) (a.push (.cells [.int .i64 (0:Nat)] 32 1 false))=some (jU,j)/\EncI H.next (H.next+2) (H.next+1) H j (Nd.be 2 k):=by
 have m:Prs H (H.push (.cells [.int .u8 (((UInt8.ofNat (k / 256)).toNat:Nat):Int), .int .u8 ((UInt8.ofNat k).toNat:Nat)] 5 1 false)):=(zOJ K).push _;have y:(H.push (.cells [.int .u8 (((UInt8.ofNat (k / 256)).toNat:Nat):Int), .int .u8 ((UInt8.ofNat k).toNat:Nat)] 5 1 false)).h.get H.next=some (.cells (jT (Nd.be 2 k)) 5 1 false):=zOB _ _
 have z:(H.push (.cells [.int .u8 (((UInt8.ofNat (k / 256)).toNat:Nat):Int), .int .u8 ((UInt8.ofNat k).toNat:Nat)] 5 1 false)).next=H.next+1:=rfl
 generalize H.push (.cells [.int .u8 (((UInt8.ofNat (k / 256)).toNat:Nat):Int), .int .u8 ((UInt8.ofNat k).toNat:Nat)] 5 1 false)=H4 at m y z;have p:=Box.new H4 .nS 216;have h5:Prs H4 (H4.push (.cells [.nS] 216 1 false)):=(zOJ m.ok).push _;have C:(H4.push (.cells [.nS] 216 1 false)).next=H4.next+1:=rfl
 have F:=h5.get m.ok y;generalize H4.push (.cells [.nS] 216 1 false)=H5 at h5 p C F;rw[z]at p C;obtain⟨a,q,L,f⟩:=p.st h5.ok (x:= .slice H.next 0 2 4) rfl
 have U:=f.next
 have M:a.h.get H.next=some (.cells (jT (Nd.be 2 k)) 5 1 false):=by rw[f.keep _ (by omega) (by omega)];exact F
 have u:a.next=H.next+2:=by
  have:a.next=H5.next:=by
   obtain⟨e,hb⟩:=p;have:=cU (x:= .slice H.next 0 2 4) (o:=0) hb (by decide) rfl (by simp)
   rw[this]at q;simp only[zC,zT,true_and]at q;rw[<-q];rfl
  omega
 have N:Prs H a:=(m.trans h5).fresh f (fun A O=>by omega);have t:=Box.new a (.int .i64 (0:Nat)) 32;have i:Prs a (a.push (.cells [.int .i64 (0:Nat)] 32 1 false)):=(zOJ f.ok).push _;have G:(a.push (.cells [.int .i64 (0:Nat)] 32 1 false)).next=a.next+1:=rfl
 have I:=i.get f.ok M;have v:=L.mono f.ok i (fun x=>x);generalize J:a.push (.cells [.int .i64 (0:Nat)] 32 1 false)=H7 at i t G I v;rw[u]at t G;obtain⟨j,Q,S,s⟩:=t.st i.ok (x:= .int .i64 (0:Nat)) rfl;have V:=s.next
 refine⟨a,j,q,f.ok,u,by rw[J];exact Q,⟨(N.trans i).fresh s (fun A O=>by omega),rfl,⟨_,v.mono i.ok s (by omega), .inr ⟨rfl,H.next,5,false,rfl,by omega,by rw[s.keep _ (by omega) (by omega)];exact I⟩, ?_,by omega⟩,S⟩⟩
 intro B T;rw[zOG]at T;omega
theorem aH (a b c d:AV):uW [a,b,c,d] 0 4=some [a,b,c,d]:=rfl
def zKB (a:Nd.Node):Str×Nat:=if Nd.shaped ltS a then if Nd.size a<=500 then(Nd.encN a,0)else([],40)else([],4)
theorem zGR (m n:Nat)(hm:100<=m)(hn:200000000<=n)(M:H.ok){J:Nd.Node}(h:fD H k J)(hs:small J)(Y: ∀p∈J.kids,Nd.sumOk p):
  ∃H',f149 (dy (m+1)) n [k] H=some (.tuple [S (zKB J).1, .int .i64 ((zKB J).2:Nat)],H')/\Prs H H':=by
 obtain⟨leaf,keys,vals,kids⟩:=J;have Z:=h;obtain⟨ks,vs,ps,rfl,N,h2,h3⟩:=h;simp only at Z N h2 h3 Y⊢;have O:Prs H (H.push (.cells [.bool leaf,ks,vs,ps] 119 1 false)):=(zOJ M).push _;have V:(H.push (.cells [.bool leaf,ks,vs,ps] 119 1 false)).h.get H.next=some (.cells [.bool leaf,ks,vs,ps] 119 1 false):=zOB _ _
 obtain⟨H2,W,K⟩:=bE (dy (m+1)) n O.ok (Z.prs O) hs hn;have a4:(AV.str 0 0)=S []:=rfl
 cases G:Nd.shaped ltS ⟨leaf,keys,vals,kids⟩with
 | false=>
  refine⟨H2, ?_,O.trans K⟩;simp only[f149,eZ,kV M,aH,qA,W,G,zKB,a4]
 | true=>
  have T:=K.get O.ok V;have a0:Prs H H2:=O.trans K;obtain⟨z,o,e3,rfl,f⟩:=JR (dy (m+1)) n K.ok (Z.prs a0) hs hn;have I:=f.get K.ok T;have t:Prs H o:=a0.trans f;by_cases U:Nd.size ⟨leaf,keys,vals,kids⟩<=500
  .have Q: ¬((500:Nat):Int)< ((Nd.size ⟨leaf,keys,vals,kids⟩:Nat):Int):=by omega
   obtain⟨H6,H8,e6,a5,n6,e8,j⟩:=zMg f.ok keys.length;have b4:=Nd.be_length 2 keys.length;have w1:IntKind.wrap .u8 ((keys.length:Int) / 2 ^ 8)=(((UInt8.ofNat (keys.length / 256)).toNat:Nat):Int):=by rw[wrap_u8,UInt8.toNat_ofNat'];omega
   have w2:IntKind.wrap .u8 (keys.length:Int)=(((UInt8.ofNat keys.length).toNat:Nat):Int):=by rw[wrap_u8,UInt8.toNat_ofNat'];omega
   have a6: ∀x y:Int,Q0 5 1 2 [.int .u8 (0:Nat)] [(0, .int .u8 x),(1, .int .u8 y)]=some (.cells [.int .u8 x, .int .u8 y] 5 1 false,fun A=> .slice A 0 2 4):=fun x y=>rfl
   have C:=G;simp only[Nd.shaped,zF]at C;have b5:=Nd.sumL_ge keys;have a1:=U;simp only[Nd.size]at a1;have a7:=zDy .i64 .u64 (a:=(keys.length:Int)) (s:=8) (by omega) (by decide);have a8:kF AV.nS=[AV.nS]:=rfl;have a9: ∀z:Int,kF (AV.int .i64 z)=[AV.int .i64 z]:=fun _=>rfl
   have a2: ∀(F:AH) (l:Str),EncI o.next (o.next+2) (o.next+1) o F l-> ∃k,ld1 (.ptr (o.next+2) 0) F=some (.int .i64 (0:Nat))/\ld1 (.ptr (o.next+1) 0) F=some k/\zDl k F=some (S l):=by
    intro F l j;obtain⟨k,hb,V,_⟩:=j.out;refine⟨k,j.err.ld,hb.ld,J2 V.row ?_⟩;rcases V with⟨_,⟨rfl,_⟩ | ⟨A,rfl,_⟩⟩ | ⟨_,A,e',g,rfl,_⟩<;>simp
   cases leaf with
   | true=>
    simp only[if_true,zF,zQ]at C;obtain⟨F,e9,L⟩:=zIZ m n I f.ok (N.prs t) (h2.prs t) C.2.1.1 (by omega) _ (by omega) j n (by omega);obtain⟨u,u1,u2,u3⟩:=a2 _ _ L;refine⟨F, ?_,t.trans L.prs⟩;simp(disch:=omega) only[f149,eZ,kV M,aH,qA,W,G,jW T,e3,Q,jR I,N.lnSl,a7,w1,w2,a6,kV f.ok,kV (f.ok.push _),zOC,a8,e6,kV a5,n6,a9,e8,zGw,jR (j.prs.get f.ok I),e9,zDd,u1,u2,u3,ne_eq,not_true_eq_false];simp only[zKB,G,if_true,if_pos U,Nd.encN,Nd.encB]
   | false=>
    simp only[zM,qE,zF,zQ,yC]at C
    cases kids with
    | nil=>simp at C
    | cons k0 kids=>
     simp only[zY]at a1 C;have b0:=C.2.2 k0 (zJ ..);obtain⟨p,p1,p2⟩:=bY.at (h3.prs (t.trans j.prs)) (i:=0) (by simp);simp only[List.getElem_cons_zero]at p2;obtain⟨F,e9,o9,b1⟩:=zK4 (dy m) m (E:=o.next+2) (p:=k0) j.out j.prs.ok j.lt (Nd.kidOk_may b0) (Y k0 (zJ ..)) (by omega) hm
     have L:=j.step o9 b1;obtain⟨b2,b3,a3⟩:=zJ0 m n hm I f.ok (N.prs t) (h3.prs t) (by omega) (fun q hq=>⟨Nd.kidOk_may (C.2.2 q (zE _ hq)),Y q (zE _ hq)⟩) (by omega) _ (by rw[zV,Nd.encP_length];omega) L n (by omega);obtain⟨u,u1,u2,u3⟩:=a2 _ _ a3;refine⟨b2, ?_,t.trans a3.prs⟩;simp(disch:=omega) only[f149,eZ,kV M,aH,qA,W,G,jW T,e3,Q,jR I,N.lnSl,a7,w1,w2,a6,kV f.ok,kV (f.ok.push _),zOC,a8,e6,kV a5,n6,a9,e8,jR (j.prs.get f.ok I),p1,p2,zKH,e9,zGw,jR (L.prs.get f.ok I),b3,zDd,u1,u2,u3,ne_eq,not_true_eq_false];simp only[zKB,G,if_true,if_pos U,Nd.encN,Nd.encB,zM,qE,qH]
  .have Q:((500:Nat):Int)< ((Nd.size ⟨leaf,keys,vals,kids⟩:Nat):Int):=by omega
   refine⟨o, ?_,t⟩;simp only[f149,eZ,kV M,aH,qA,W,G,jW T,e3,Q,zKB,U,a4]
open Go.Nd (bee mayP xX)
theorem zCh {a b:Nat}(s:a<18446744073709551616)(hb:b<256):kO .or (.int .u64 (a*256:Nat)) (.int .u64 (b:Int))=some (.int .u64 ((a*256+b):Nat))\/18446744073709551616<=a*256:=by
 by_cases h:a*256<18446744073709551616
 .left;have f:Nat.blt (a*256) (YX .u64)=true:=by rw[qD];exact h
  have j:Nat.blt b (YX .u64)=true:=by rw[qD];exact Nat.lt_trans hb (by decide)
  have m:Nat.lor (a*256) b=a*256+b:=by
   have:=Nat.two_pow_add_eq_or_of_lt (b:=b) (i:=8) (by omega) a;rw[Nat.mul_comm a 256];exact this.symm
  have o:keq .u64 .u64=true:=rfl;have h5:IntKind.wrap .u64 ((a*256+b:Nat):Int)=((a*256+b:Nat):Int):=by rw[wrap_u64];omega
  have p:aZ .or .u64 (.ofNat (a*256)) (.ofNat b)=some (.int .u64 (a*256+b:Nat)):=by
   simp only[aZ,IntKind.signed,Bool.not_false,f,j,qO,zU,m,vZ,Int.ofNat_eq_natCast,h5]
  have q:kO .or (.int .u64 (.ofNat (a*256))) (.int .u64 (.ofNat b))=aZ .or .u64 (.ofNat (a*256)) (.ofNat b):=by simp only[kO,bO,o,zU]
  exact q.trans p
 .right;omega
theorem zEq (l:Str)(i:Nat)(h:i<l.length):(jT l)[i]? =some (.int .u8 (l[i].toNat:Nat)):=by simp[jT,h]
theorem zJp (l:Str)(i:Nat)(h:i<l.length):bee (l.take (i+1))=bee (l.take i)*256+l[i].toNat:=by rw[xD l i h,Nd.bee_snoc]
theorem zAF{l:Str}(h:Rw 1 H k l.length (jT l))(hl:l.length<=8)(I:100<=n):f226 D n [k] H=some (.int .u64 (bee l:Nat),H):=by
 have key:=fK (b:=XR D n) (H:=H) (r:=some (.exit 0 [.int .u64 (bee l:Nat)],H)) (fun i=>[.int .u64 (bee (l.take i):Nat),k, .int .i64 (l.length:Nat), .int .i64 (i:Nat)]) l.length (fun i hi=>by
  obtain⟨p,x,u,y,f⟩:=h.ld1 hi;rw[zEq l i hi]at f;simp only[zC]at f;subst f;have o:=Nd.bee_lt (l.take i);have m:(l.take i).length=i:=by simp;omega
  have hp:256 ^ i<=256 ^ 7:=Nat.pow_le_pow_right (by omega) (by omega);rw[m]at o;have hb:bee (l.take i)<72057594037927936:=by
   have:(256:Nat) ^ 7=72057594037927936:=by decide
   omega
  have z:l[i].toNat<256:=l[i].toNat_lt;have q:((i:Nat):Int)< (l.length:Int):=by omega
  have C:IntKind.wrap .u64 (((bee (l.take i):Nat):Int)*2 ^ 8)=((bee (l.take i)*256:Nat):Int):=by rw[wrap_u64];omega
  have F:IntKind.wrap .u64 ((l[i].toNat:Nat):Int)=((l[i].toNat:Nat):Int):=by rw[wrap_u64];omega
  have t:=(zCh (a:=bee (l.take i)) (b:=l[i].toNat) (by omega) z).resolve_right (by omega);have j:=zDz .u64 .u64 ((bee (l.take i):Nat):Int) (s:=8) (by decide);rw[C]at j;simp(disch:=omega) only[XR,eZ,q,u,y,j,F,t,zJp l i hi];simp only[yH]) (fun n=>kD (by
  simp only[XR,eZ,yY,zZ (zP _)])) n (by omega)
 have G:f226 D n [k] H=fG (jb 0 (kL n (XR D n) [.int .u64 (bee (l.take 0):Nat),k, .int .i64 (l.length:Nat), .int .i64 (0:Nat)] H) (zGn D n)):=by
  simp only[f226,eZ,h.lnSl];rfl
 rw[G,key];simp only[eZ,zGn]
theorem zKD (s:Str)(h:s.length<4611686018427387904):zKE 5 (S s)=some (.cells (jT s) 5 1 true,fun A=> .slice A 0 s.length 1):=by
 have:Nat.blt s.length 4611686018427387904=true:=by rw[qD];exact h
 simp only[zKE,S,this,zU,W7]
theorem kE (a:H.ok){l':List AV}(A:H.h.get h=some (.cells i v 1 false))(hl:l'.length=i.length)(f:jV l'=true):
  ∃H',stN i.length (.ptr h 0) (.agg l') H=some (jU,H')/\H'.h.get h=some (.cells l' v 1 false)/\Stp (fun B=>B=h) H H'/\H'.next=H.next:=by
 refine⟨_,JP A (by decide) hl f (by omega), ?_,(zOJ a).put (a.lt A) _ (.inr rfl),rfl⟩;rw[zOF,if_pos rfl];simp[kF]
theorem zH3(x:H.ok){s:Str}(a:s.length=16)(y:100<=n):
  ∃H',f211 D n [S s] H=some (.tuple [.agg (jX (if mayP (xX s)then xX s else pz)), .int .i64 (if mayP (xX s)then 0 else 4:Nat)],H')/\Prs H H':=by
 have h16: ¬((s.length:Int)≠((16:Nat):Int)):=by omega
 have i:Prs H (H.push (.cells (jX pz) 42 1 false)):=(zOJ x).push _;have g1:(H.push (.cells (jX pz) 42 1 false)).h.get H.next=some (.cells (jX pz) 42 1 false):=zOB _ _
 have n1:(H.push (.cells (jX pz) 42 1 false)).next=H.next+1:=rfl
 generalize T:H.push (.cells (jX pz) 42 1 false)=H1 at i g1 n1;have j:Prs H1 (H1.push (.cells (jT s) 5 1 true)):=(zOJ i.ok).push _;have g2:(H1.push (.cells (jT s) 5 1 true)).h.get H1.next=some (.cells (jT s) 5 1 true):=zOB _ _
 have n2:(H1.push (.cells (jT s) 5 1 true)).next=H1.next+1:=rfl
 generalize U:H1.push (.cells (jT s) 5 1 true)=H2 at j g2 n2;have M:ldN 16 (.ptr H1.next 0) H2=some (.agg (jT s)):=by
  rw[jW g2,kZ _ _ _ (.inr (by simp[jT,a])),yD,zZ (by simp[jT,a])];rfl
 have z:Prs H2 (H2.push (.cells (Z 16) 232 1 false)):=(zOJ j.ok).push _;have g3:(H2.push (.cells (Z 16) 232 1 false)).h.get H2.next=some (.cells (Z 16) 232 1 false):=zOB _ _
 have n3:(H2.push (.cells (Z 16) 232 1 false)).next=H2.next+1:=rfl
 generalize V:H2.push (.cells (Z 16) 232 1 false)=H3 at z g3 n3;obtain⟨f,e4,g4,m,n4⟩:=kE z.ok g3 (l':=jT s) (by simp[jT,Z,a]) (bytesV_cells s);have W:stN 16 (.ptr H2.next 0) (.agg (jT s)) H3=some (jU,f):=e4
 have t:Prs f (f.push (.cells (jX pz) 42 1 false)):=(zOJ m.ok).push _;have g5:(f.push (.cells (jX pz) 42 1 false)).h.get f.next=some (.cells (jX pz) 42 1 false):=zOB _ _
 have n5:(f.push (.cells (jX pz) 42 1 false)).next=f.next+1:=rfl
 have p:=t.get m.ok g4;generalize Y:f.push (.cells (jX pz) 42 1 false)=H5 at t g5 n5 p;have a5:Rw 1 H5 (.slice H2.next 0 4 32) (s.take 4).length (jT (s.take 4)):=by
  refine⟨by simp[jT], .inr (.inr ⟨H2.next,0,32,_,_,_,_, ?_,p,by omega,by simp[jT];omega, ?_⟩)⟩
  .simp[a]
  .simp[jT,a]
 have a6:Rw 1 H5 (.slice H2.next 4 4 24) ((s.drop 4).take 4).length (jT ((s.drop 4).take 4)):=by
  refine⟨by simp[jT], .inr (.inr ⟨H2.next,4,24,_,_,_,_, ?_,p,by omega,by simp[jT];omega, ?_⟩)⟩
  .simp[a]
  .simp[jT,a]
 have a7:Rw 1 H5 (.slice H2.next 8 8 16) (s.drop 8).length (jT (s.drop 8)):=by
  refine⟨by simp[jT], .inr (.inr ⟨H2.next,8,16,_,_,_,_, ?_,p,by omega,by simp[jT];omega, ?_⟩)⟩
  .simp[a]
  .rw[zZ (by simp[jT,a])];simp[jT]
 have q1:=zAF D n a5 (by simp;omega) y;have q2:=zAF D n a6 (by simp;omega) y;have q3:=zAF D n a7 (by simp;omega) y;have b1:=Nd.bee_lt (s.take 4);have b2:=Nd.bee_lt ((s.drop 4).take 4);rw[show(s.take 4).length=4 by simp;omega]at b1;rw[show((s.drop 4).take 4).length=4 by simp;omega]at b2;have w1:IntKind.wrap .i64 ((bee (s.take 4):Nat):Int)=((bee (s.take 4):Nat):Int):=wrap_i64 (by omega) (by omega);have w2:IntKind.wrap .i64 ((bee ((s.drop 4).take 4):Nat):Int)=((bee ((s.drop 4).take 4):Nat):Int):=wrap_i64 (by omega) (by omega);obtain⟨H6,e6,C,u,n6⟩:=kE t.ok g5 (l':=jX (xX s)) rfl rfl;have a0:stN 3 (.ptr f.next 0) (.agg (jX (xX s))) H5=some (jU,H6):=e6
 obtain⟨F,e7,G⟩:=zK3 D n u.ok (xX s);have g7:=G.get u.ok C;have N:Prs H1 H6:=((((j.trans z).fresh m (fun B I=>by omega)).trans t).fresh u (fun B I=>by omega));have a1:=G.get u.ok (N.get i.ok g1);have q:Prs H F:=(i.trans N).trans G;have O:uW (jX (xX s)) 0 3=some (jX (xX s)):=rfl;have a9:(AV.agg [.int .i64 (0:Nat), .int .i64 (0:Nat), .int .u64 (0:Nat)])= .agg (jX pz):=rfl;have Q:([.int .i64 (0:Nat), .int .i64 (0:Nat), .int .u64 (0:Nat)]:List AV)=jX pz:=rfl;have a8:uO [(0,1),(1,1),(2,1)] (jX pz) []=some (.agg (jX pz)):=rfl;have a2:uO [(0,1),(1,1),(2,1)] (jX pz) [(0, .int .i64 (bee (s.take 4):Nat)),(1, .int .i64 ((bee ((s.drop 4).take 4):Nat):Int)),(2, .int .u64 (bee (s.drop 8):Nat))]=some (.agg (jX (xX s))):=rfl;have a3: ∀A:Nat,s2a 16 (.slice A 0 16 1)=some (.ptr A 0):=fun _=>rfl
 have a4:uW (jX pz) 0 3=some (jX pz):=rfl
 cases hm:mayP (xX s)with
 | false=>
  obtain⟨o,J,K,L,n8⟩:=kE q.ok a1 (l':=jX pz) rfl rfl;have v:stN 3 (.ptr H.next 0) (.agg (jX pz)) F=some (jU,o):=J
  refine⟨o, ?_,q.fresh L (fun B I=>by omega)⟩;simp(disch:=omega) only[f211,eZ,Q,kV x,T,h16,zKD s (by omega),a,kV i.ok,U,a3,M,kV j.ok,zLj,V,W,zF9,zF8,slA _ 4 8 (by omega) (by omega) (by omega),kV m.ok,Y,q1,w1,q2,w2,q3,a2,a0,jW C,O,qA,e7,hm,a8,v,jW K,a4];rfl
 | true=>
  obtain⟨o,J,K,L,n8⟩:=kE q.ok a1 (l':=jX (xX s)) rfl rfl;have v:stN 3 (.ptr H.next 0) (.agg (jX (xX s))) F=some (jU,o):=J
  refine⟨o, ?_,q.fresh L (fun B I=>by omega)⟩;simp(disch:=omega) only[f211,eZ,Q,kV x,T,h16,zKD s (by omega),a,kV i.ok,U,a3,M,kV j.ok,zLj,V,W,zF9,zF8,slA _ 4 8 (by omega) (by omega) (by omega),kV m.ok,Y,q1,w1,q2,w2,q3,a2,a0,jW C,O,qA,e7,hm,jW g7,v,jW K];rfl
open Go.Nd (v6 fW)
theorem Stp.via {T:Nat->Prop}(h:Stp B H w)(k:Stp T w I)(f: ∀A,T A->H.next<=A\/B A):Stp B H I:=
 ⟨k.ok,qR h.next k.next,fun A i j=>by
  rw[k.keep A (qI i h.next) (fun x=>by rcases f A x with y | y;omega;exact j y),h.keep A i j]⟩
structure RdI (R:Nat)(H0 H:AH)(rest:Str)(bad leaf:Bool)(kv vv pv:AV)(ks vs:List Str)(ps:List Ptr):Prop where
 prs:Stp (fun B=>B=R) H0 H
 get: ∃e,H.h.get R=some (.cells [S rest, .bool bad, .bool leaf,kv,vv,pv] e 1 false)
 k:Own 1 9 H kv ks.length (ks.map S)
 v:Own 1 9 H vv vs.length (vs.map S)
 p:Own 3 42 H pv ps.length (ps.flatMap jX)
 kb: ∀B,Blk kv B->H0.next<=B/\B≠R/\ ¬Blk vv B/\ ¬Blk pv B
 vb: ∀B,Blk vv B->H0.next<=B/\B≠R/\ ¬Blk pv B
 pb: ∀B,Blk pv B->H0.next<=B/\B≠R
 small:rest.length<=10000/\ks.length<=1000000/\vs.length<=1000000/\ps.length<=1000000
theorem RdI.put {R:Nat}{H0 H:AH}{rest:Str}{bad leaf:Bool}{kv a f:AV}{ks vs:List Str}{m:List Ptr}(h:RdI R H0 H rest bad leaf kv a f ks vs m){o:Nat}{x:AV}(t:isCell x=true)(u:o<6){rest':Str}{bad':Bool}(hr:rest'.length<=10000)
  (hl:[S rest, .bool bad, .bool leaf,kv,a,f].set o x=[S rest', .bool bad', .bool leaf,kv,a,f]): ∃H',stN 1 (.ptr R o) x H=some (jU,H')/\RdI R H0 H' rest' bad' leaf kv a f ks vs m:=by
 obtain⟨e,q⟩:=h.get;have s:=h.prs.ok.lt q;have j:Stp (fun B=>B=R) H (H.put R (.cells ([S rest, .bool bad, .bool leaf,kv,a,f].set o x) e 1 false)):=(zOJ h.prs.ok).put s _ (.inr rfl);refine⟨_,cU q (by decide) t u,⟨h.prs.trans j,⟨e,by rw[zOF,if_pos rfl,hl]⟩,h.k.mono j (fun B i=>(h.kb B i).2.1),h.v.mono j (fun B i=>(h.vb B i).2.1),h.p.mono j (fun B i=>(h.pb B i).2),h.kb,h.vb,h.pb,hr,h.small.2⟩⟩
def wN (rest:Str)(bad:Bool)(k:Nat):Str×Str×Bool:=if bad then([],rest,true)else if rest.length<k then([],rest,true)else(rest.take k,rest.drop k,false)
theorem zMG:S []= .str 0 0:=rfl
theorem VN{rest:Str}{ks vs:List Str}{H0:List Ptr}(R:RdI h H w rest p s k q e ks vs H0)(bad:Nat):
  ∃H',f172 D n [.ptr h 0, .int .i64 (bad:Nat)] w=some (S (wN rest p bad).1,H')/\RdI h H H' (wN rest p bad).2.1 (wN rest p bad).2.2 s k q e ks vs H0:=by
 obtain⟨leaf,m⟩:=R.get
 cases p with
 | true=>
  obtain⟨a,f,i⟩:=R.put (o:=1) (x:= .bool true) rfl (by decide) (rest':=rest) (bad':=true) R.small.1 rfl;refine⟨a, ?_,i⟩;simp only[f172,eZ,jR m,f,wN,zMG]
 | false=>
  by_cases t:rest.length<bad
  .obtain⟨a,f,i⟩:=R.put (o:=1) (x:= .bool true) rfl (by decide) (rest':=rest) (bad':=true) R.small.1 rfl;have j:(rest.length:Int)< (bad:Int):=by omega
   simp only[wN,t,if_true,zM,qE];refine⟨a, ?_,i⟩;simp only[f172,eZ,jR m,f,j,zMG]
  .obtain⟨a,f,i⟩:=R.put (o:=0) (x:=S (rest.drop bad)) rfl (by decide) (rest':=rest.drop bad) (bad':=false) (by have:=R.small.1;simp;omega) rfl;have j: ¬(rest.length:Int)< (bad:Int):=by omega
   have u:=zIi rest .i64 (z:=(bad:Int)) (by omega) (by omega);have v:=zIh rest .i64 (z:=(bad:Int)) (by omega) (by omega);simp only[yI]at u v;simp only[wN,t,zM,qE];refine⟨a, ?_,i⟩;simp only[f172,eZ,jR m,f,j,u,v]
def vK (rest:Str)(bad:Bool):Str×Str×Bool:=if(wN rest bad 1).2.2 then([],(wN rest bad 1).2)else wN (wN rest bad 1).2.1 false ((wN rest bad 1).1.getD 0 0).toNat
theorem BQ (rest:Str):(vK rest true).2.2=true:=by simp[vK,wN]
theorem gQ {rest a r:Str}(h:v6 rest=some (a,r)):vK rest false=(a,r,false):=by
 cases rest with
 | nil=>simp[v6]at h
 | cons c s=>
  simp only[v6]at h;split at h
  .rename_i f;simp only[zC,zT]at h;obtain⟨rfl,rfl⟩:=h;simp[vK,wN];omega
  .simp at h
theorem QA {rest:Str}(h:v6 rest=none):(vK rest false).2.2=true:=by
 cases rest with
 | nil=>simp[vK,wN]
 | cons c s=>
  simp only[v6]at h;split at h
  .simp at h
  .rename_i f;have i: ¬(c::s).length<1:=by simp
   have a:s.length<c.toNat:=by omega
   simp[vK,wN,a]
theorem zJS{rest:Str}{ks vs:List Str}{bad:List Ptr}(R:RdI h H w rest p s k q e ks vs bad):
  ∃H',f210 D n [.ptr h 0] w=some (S (vK rest p).1,H')/\RdI h H H' (vK rest p).2.1 (vK rest p).2.2 s k q e ks vs bad:=by
 obtain⟨v,H0,a⟩:=VN D n R 1;obtain⟨leaf,f⟩:=a.get;by_cases hb:(wN rest p 1).2.2=true
 .rw[hb]at a f;refine⟨v, ?_,by simp only[vK,hb,if_true];exact a⟩;simp only[f210,eZ,H0,jR f,vK,hb,zMG]
 .have i:(wN rest p 1).2.2=false:=by simpa using hb
  have j:(wN rest p 1).1.length=1:=by
   revert i;unfold wN;split
   .intro R;simp at R
   .split
    .intro R;simp at R
    .intro _;simp;omega
  rw[i]at a f;obtain⟨x,y,C⟩:=VN D n a ((wN rest p 1).1.getD 0 0).toNat;have m:=UF (wN rest p 1).1 .i64 (z:=((0:Nat):Int)) (by omega) (by simp[j]);have t:(wN rest p 1).1[(((0:Nat):Int)).toNat]'(by simp[j])=(wN rest p 1).1.getD 0 0:=by
   rw[qG,zK (by omega)];rfl
  rw[t]at m;have F:IntKind.wrap .i64 ((((wN rest p 1).1.getD 0 0).toNat:Nat):Int)=((((wN rest p 1).1.getD 0 0).toNat:Nat):Int):=wrap_i64 (by omega) (by have:=((wN rest p 1).1.getD 0 0).toNat_lt;omega);have u:vK rest p=wN (wN rest p 1).2.1 false ((wN rest p 1).1.getD 0 0).toNat:=by simp only[vK,i,zM,qE]
  rw[u];refine⟨x, ?_,C⟩;simp only[f210,eZ,H0,jR f,m,F,y]
theorem zOp (x:AV)(h:isCell x=true):Q0 9 1 1 [.str 0 0] [(0,x)]=some (.cells [x] 9 1 false,fun A=> .slice A 0 1 2):=zOq 9 1 _ x h
theorem zDD (e:Own h l H k t i):aveq k k=true:=kR e.row
theorem RdI.prsH {rest:Str}{ks vs:List Str}{i:List Ptr}(R:RdI h H w rest p s k q e ks vs i)(H0:Prs w I):RdI h H I rest p s k q e ks vs i:=by
 obtain⟨H',j⟩:=R.get;exact⟨R.prs.trans (Prs.stp H0),⟨H',H0.get R.prs.ok j⟩,R.k.mono H0 (fun _ _ x=>x),R.v.mono H0 (fun _ _ x=>x),R.p.mono H0 (fun _ _ x=>x),R.kb,R.vb,R.pb,R.small⟩
theorem RdI.lt {R:Nat}{H0 H:AH}{rest:Str}{bad leaf:Bool}{kv a f:AV}{ks vs:List Str}{i:List Ptr}(h:RdI R H0 H rest bad leaf kv a f ks vs i):R<H.next:=by
 obtain⟨e,j⟩:=h.get;exact h.prs.ok.lt j
theorem Own.lt {k e n:Nat}{H:AH}{v:AV}{l:List AV}(h:Own k e H v n l){B:Nat}(a:Blk v B):B<H.next:=(wG.lt (.inl h) a)
theorem zJV (H:AH)(x:AV)(e:Nat):Prs H (H.push (.cells [x] e 1 false))->srcOf 1 (.slice H.next 0 1 2) (H.push (.cells [x] e 1 false))=some (1,[x]):=fun _=>JQ H [x] e 1 false 1 2 rfl
theorem zAz{rest:Str}{ks vs:List Str}{L:List Ptr}(R:RdI h H w rest p s k q e ks vs L)(hs:ks.length<1000000):
  ∃H' m,f173 D n [.ptr h 0] w=some (.tuple [],H')/\RdI h H H' (vK rest p).2.1 (vK rest p).2.2 s m q e (ks++[(vK rest p).1]) vs L:=by
 obtain⟨j,M,i⟩:=zJS D n R;generalize vK rest p=t at M i⊢;obtain⟨bad,Y⟩:=R.get;obtain⟨e',Z⟩:=i.get;have F:Prs j (j.push (.cells [S t.1] 9 1 false)):=(zOJ i.prs.ok).push _;have f:=i.prsH F;obtain⟨G,N,I,H0,n3⟩:=bK (bytes:=16) F.ok (by decide) f.k (zJV j (S t.1) 9 F) rfl rfl (zP 1) (by omega) (by decide);generalize V:AV.slice (j.push (.cells [S t.1] 9 1 false)).next 0 (ks.length+1) 1=m at N I
 have K: ∀B,Blk m B->B=j.next+1:=fun B a=>by rw[<-V,zOG]at a;exact a
 have a0:=i.lt;have n2:(j.push (.cells [S t.1] 9 1 false)).next=j.next+1:=rfl
 have a1:=i.prs.next
 obtain⟨C,g2⟩:=f.get;have O:G.h.get h=some (.cells [S t.2.1, .bool t.2.2, .bool s,k,q,e] C 1 false):=by rw[H0.keep _ (by omega) (fun y=>(f.kb _ y).2.1 rfl)];exact g2
 have Q:=H0.ok.lt O;have z:Stp (fun B=>B=h) G (G.put h (.cells ([S t.2.1, .bool t.2.2, .bool s,k,q,e].set 3 m) C 1 false)):=(zOJ H0.ok).put Q _ (.inr rfl);have T:=cU (o:=3) (x:=m) O (by decide) I.row.isCell (by simp);have W: ∀B,Blk q B-> ¬Blk k B:=fun B a J=>(f.kb B J).2.2.1 a
 have U: ∀B,Blk e B-> ¬Blk k B:=fun B a J=>(f.kb B J).2.2.2 a
 refine⟨_,m, ?_,⟨(Stp.via f.prs H0 (fun B a=> .inl (f.kb B a).1)).trans z,⟨C,by rw[zOF,if_pos rfl];rfl⟩, ?_,(f.v.mono H0 W).mono z (fun B a=>(f.vb B a).2.1),(f.p.mono H0 U).mono z (fun B a=>(f.pb B a).2), ?_,f.vb,f.pb,⟨i.small.1,by simp;omega,R.small.2.2⟩⟩⟩
 .simp only[f173,eZ,jR Y,M];rw[kY (by rw[jR Z];rfl) (zDD R.k),zOp _ rfl];simp only[eZ,kV i.prs.ok,N];rw[T];simp only[eZ]
 .have:=I.mono z (fun B a=>by have:=K B a;omega);simpa using this
 .intro B a;have:=K B a;refine⟨by omega,by omega,fun y=> ?_,fun y=> ?_⟩
  .have:=Own.lt i.v y;omega
  .have:=Own.lt i.p y;omega
theorem zCp{rest:Str}{ks vs:List Str}{L:List Ptr}(R:RdI h H w rest p s k q e ks vs L)(hs:vs.length<1000000):
  ∃H' bad,f175 D n [.ptr h 0] w=some (.tuple [],H')/\RdI h H H' (vK rest p).2.1 (vK rest p).2.2 s k bad e ks (vs++[(vK rest p).1]) L:=by
 obtain⟨j,M,i⟩:=zJS D n R;generalize vK rest p=t at M i⊢;obtain⟨leaf,Y⟩:=R.get;obtain⟨e',Z⟩:=i.get;have I:Prs j (j.push (.cells [S t.1] 9 1 false)):=(zOJ i.prs.ok).push _;have f:=i.prsH I;obtain⟨J,N,K,H0,n3⟩:=bK (bytes:=16) I.ok (by decide) f.v (zJV j (S t.1) 9 I) rfl rfl (zP 1) (by omega) (by decide);generalize V:AV.slice (j.push (.cells [S t.1] 9 1 false)).next 0 (vs.length+1) 1=bad at N K
 have F: ∀B,Blk bad B->B=j.next+1:=fun B a=>by rw[<-V,zOG]at a;exact a
 have a0:=i.lt;have n2:(j.push (.cells [S t.1] 9 1 false)).next=j.next+1:=rfl
 have a1:=i.prs.next
 obtain⟨G,g2⟩:=f.get;have O:J.h.get h=some (.cells [S t.2.1, .bool t.2.2, .bool s,k,q,e] G 1 false):=by rw[H0.keep _ (by omega) (fun z=>(f.vb _ z).2.1 rfl)];exact g2
 have Q:=H0.ok.lt O;have C:Stp (fun B=>B=h) J (J.put h (.cells ([S t.2.1, .bool t.2.2, .bool s,k,q,e].set 4 bad) G 1 false)):=(zOJ H0.ok).put Q _ (.inr rfl);have T:=cU (o:=4) (x:=bad) O (by decide) K.row.isCell (by simp);have W: ∀B,Blk k B-> ¬Blk q B:=fun B a m=>(f.kb B a).2.2.1 m
 have U: ∀B,Blk e B-> ¬Blk q B:=fun B a m=>(f.vb B m).2.2 a
 refine⟨_,bad, ?_,⟨(Stp.via f.prs H0 (fun B a=> .inl (f.vb B a).1)).trans C,⟨G,by rw[zOF,if_pos rfl];rfl⟩,(f.k.mono H0 W).mono C (fun B a=>(f.kb B a).2.1), ?_,(f.p.mono H0 U).mono C (fun B a=>(f.pb B a).2), ?_, ?_,f.pb,⟨i.small.1,R.small.2.1,by simp;omega,R.small.2.2.2⟩⟩⟩
 .simp only[f175,eZ,jR Y,M];rw[kY (by rw[jR Z];rfl) (zDD R.v),zOp _ rfl];simp only[eZ,kV i.prs.ok,N];rw[T];simp only[eZ]
 .have:=K.mono C (fun B a=>by have:=F B a;omega);simpa using this
 .intro B a;have m:=f.kb B a;refine⟨m.1,m.2.1,fun z=> ?_,m.2.2.2⟩;have:=F B z;have:=Own.lt i.k a;omega
 .intro B a;have:=F B a;refine⟨by omega,by omega,fun z=> ?_⟩;have:=Own.lt i.p z;omega
def zBY (rest:Str)(bad:Bool)(a:List Ptr):Str×Bool×List Ptr:=if(wN rest bad 16).2.2 then((wN rest bad 16).2.1,true,a)else if mayP (xX (wN rest bad 16).1)then((wN rest bad 16).2.1,false,a++[xX (wN rest bad 16).1])else((wN rest bad 16).2.1,true,a)
theorem zCW (rest:Str)(a:List Ptr):(zBY rest true a).2.1=true:=by simp[zBY,wN]
theorem zAw {rest r:Str}{p:Ptr}(f:List Ptr)(h:fW rest=some (p,r)):zBY rest false f=(r,false,f++[p]):=by
 simp only[fW,Nd.decP]at h;split at h
 .rename_i hl;split at h
  .rename_i q a;simp only[zC,zT]at h;obtain⟨rfl,rfl⟩:=h;split at a
   .rename_i hm;simp only[zC]at a;subst a;have: ¬rest.length<16:=by omega
    simp[zBY,wN,this,hm]
   .simp at a
  .simp at h
 .simp at h
theorem zAx {rest:Str}(f:List Ptr)(h:fW rest=none):(zBY rest false f).2.1=true:=by
 simp only[fW,Nd.decP]at h;split at h
 .rename_i hl;split at h
  .simp at h
  .rename_i a;split at a
   .simp at a
   .rename_i hm;have: ¬rest.length<16:=by omega
    simp[zBY,wN,this,hm]
 .rename_i hl;have:rest.length<16:=by omega
  simp[zBY,wN,this]
theorem UC(hn:100<=n){rest:Str}{ks vs:List Str}{z:List Ptr}(R:RdI h H w rest p s k q e ks vs z)(hs:z.length<1000000):
  ∃H' y,f174 D n [.ptr h 0] w=some (.tuple [],H')/\RdI h H H' (zBY rest p z).1 (zBY rest p z).2.1 s k q y ks vs (zBY rest p z).2.2:=by
 obtain⟨H1,G,bad⟩:=VN D n R 16;obtain⟨leaf,I⟩:=bad.get;have O:(wN rest p 16).2.2=false->(wN rest p 16).1.length=16:=by
  unfold wN;split
  .intro R;simp at R
  .split
   .intro R;simp at R
   .intro _;simp;omega
 simp only[zBY];generalize wN rest p 16=t at G bad I O⊢;obtain⟨H0,r,b⟩:=t;simp only at G bad I O⊢
 cases b with
 | true=>
  refine⟨H1,e, ?_,by simpa using bad⟩;simp only[f174,eZ,G,jR I]
 | false=>
  obtain⟨J,C,p2⟩:=zH3 D n bad.prs.ok (O rfl) hn;have K:=bad.prsH p2;have Y: ∀x:Ptr,∃f,stN 3 (.ptr J.next 0) (.agg (jX x)) (J.push (.cells [.int .i64 (0:Nat), .int .i64 (0:Nat), .int .u64 (0:Nat)] 42 1 false))=some (jU,f)/\Prs J f/\f.next=J.next+1/\f.h.get J.next=some (.cells (jX x) 42 1 false):=zCg K.prs.ok
  cases hm:mayP (xX H0)with
  | false=>
   obtain⟨f,T,U,n3,Z⟩:=Y pz;have j:=K.prsH U;obtain⟨H4,e4,i⟩:=j.put (o:=1) (x:= .bool true) rfl (by decide) (rest':=r) (bad':=true) bad.small.1 rfl;refine⟨H4,e, ?_,by simpa using i⟩;rw[hm]at C;simp only[qE,zM]at C;have a4:(((4:Nat):Int)≠((0:Nat):Int)):=by omega
   simp only[f174,eZ,G,jR I,C,jS,nth,kV K.prs.ok,T,a4,e4,ne_eq,yQ]
  | true=>
   obtain⟨f,T,U,n3,Z⟩:=Y (xX H0);have j:=K.prsH U;rw[hm]at C;simp only[if_true]at C;have p4:Prs f (f.push (.cells (jX (xX H0)) 42 3 false)):=(zOJ j.prs.ok).push _;have i:=j.prsH p4;have n4:(f.push (.cells (jX (xX H0)) 42 3 false)).next=f.next+1:=rfl
   have a0:srcOf 3 (.slice f.next 0 1 2) (f.push (.cells (jX (xX H0)) 42 3 false))=some (1,jX (xX H0)):=JQ f _ 42 3 false 1 2 rfl
   obtain⟨V,e5,W,s5,n5⟩:=bK (bytes:=24) p4.ok (by decide) i.p a0 rfl rfl (zP 1) (by omega) (by decide);generalize a5:AV.slice (f.push (.cells (jX (xX H0)) 42 3 false)).next 0 (z.length+1) 1=y at e5 W
   have M: ∀B,Blk y B->B=f.next+1:=fun B a=>by rw[<-a5,zOG]at a;exact a
   have b1:=j.lt;have b2:=j.prs.next
   obtain⟨b3,a6⟩:=j.get;obtain⟨Q,g4⟩:=i.get;have g5:V.h.get h=some (.cells [S r, .bool false, .bool s,k,q,e] Q 1 false):=by rw[s5.keep _ (by omega) (fun L=>(i.pb _ L).2 rfl)];exact g4
   have a1:=s5.ok.lt g5;have N:Stp (fun B=>B=h) V (V.put h (.cells ([S r, .bool false, .bool s,k,q,e].set 5 y) Q 1 false)):=(zOJ s5.ok).put a1 _ (.inr rfl);have a2:=cU (o:=5) (x:=y) g5 (by decide) W.row.isCell (by simp);have a7: ∀B,Blk k B-> ¬Blk e B:=fun B a m=>(i.kb B a).2.2.2 m
   have a3: ∀B,Blk q B-> ¬Blk e B:=fun B a m=>(i.vb B a).2.2 m
   have a8:Q0 42 3 1 [.int .i64 (0:Nat), .int .i64 (0:Nat), .int .u64 (0:Nat)] [(0, .agg (jX (xX H0)))]=some (.cells (jX (xX H0)) 42 3 false,fun A=> .slice A 0 1 2):=rfl;have a9: ¬(((0:Nat):Int)≠((0:Nat):Int)):=by omega
   refine⟨_,y, ?_,⟨(Stp.via i.prs s5 (fun B a=> .inl (i.pb B a).1)).trans N,⟨Q,by rw[zOF,if_pos rfl];rfl⟩,(i.k.mono s5 a7).mono N (fun B a=>(i.kb B a).2.1),(i.v.mono s5 a3).mono N (fun B a=>(i.vb B a).2.1), ?_, ?_, ?_, ?_,⟨bad.small.1,R.small.2.1,R.small.2.2.1,by simp;omega⟩⟩⟩
   .have b0:uW (jX (xX H0)) 0 3=some (jX (xX H0)):=rfl;simp only[f174,eZ,G,jR I,C,jS,nth,kV K.prs.ok,T,a9,jR a6,jW Z,b0,qA,a8,kV j.prs.ok,e5];rw[a2];simp only[eZ]
   .have:=W.mono N (fun B a=>by have:=M B a;omega);simpa using this
   .intro B a;have m:=i.kb B a;refine⟨m.1,m.2.1,m.2.2.1,fun L=> ?_⟩;have:=M B L;have:=Own.lt j.k a;omega
   .intro B a;have m:=i.vb B a;refine⟨m.1,m.2.1,fun L=> ?_⟩;have:=M B L;have:=Own.lt j.v a;omega
   .intro B a;have:=M B a;exact⟨by omega,by omega⟩
open Go.Nd (J0 J1)
theorem W6 (m n R:Nat)(H:AH):callV [(172,f172 (dy (m+1)) n),(174,f174 (dy (m+1)) n),(62,f62 (dy (m+1)) n)] (dy (m+1)) (.func 173 [.ptr R 0] []) [] H=f173 (dy m) m [.ptr R 0] H:=rfl
theorem zHl (m n R:Nat)(H:AH):callV [(172,f172 (dy (m+1)) n),(174,f174 (dy (m+1)) n),(62,f62 (dy (m+1)) n)] (dy (m+1)) (.func 175 [.ptr R 0] []) [] H=f175 (dy m) m [.ptr R 0] H:=rfl
theorem zCe (m n R:Nat)(H:AH):callV [(172,f172 (dy (m+1)) n),(174,f174 (dy (m+1)) n),(62,f62 (dy (m+1)) n)] (dy (m+1)) (.func 174 [.ptr R 0] []) [] H=f174 (dy (m+1)) n [.ptr R 0] H:=rfl
theorem ix2 (a:Nat)(i:Nat)(h:i<2):gY 1 (.slice a 0 2 4) (.int .i64 i)=some (.ptr a i):=by
 have hb:Nat.blt i 2=true:=by rw[qD];exact h
 simp only[gY,kQ _ (show(0:Int)<=(i:Int)by omega),yI,hb,zU,kI,j7,Nat.mul_one]
theorem inner (m n:Nat){R:Nat}{a k i:AV}(y:H.h.get h=some (.cells [q,e] v 1 false))(u:w.h.get h=some (.cells [q,e] v 1 false))
  (z:callV [(172,f172 (dy (m+1)) n),(174,f174 (dy (m+1)) n),(62,f62 (dy (m+1)) n)] (dy (m+1)) q [] H=some (.tuple [],w)) (C:callV [(172,f172 (dy (m+1)) n),(174,f174 (dy (m+1)) n),(62,f62 (dy (m+1)) n)] (dy (m+1)) e [] w=some (.tuple [],I)) (o:Nat) (K:3<=o):
  kL o (ZR (dy (m+1)) n) [a, .ptr R 0, .slice h 0 2 4,k,i, .slice h 0 2 4, .int .i64 (2:Nat), .int .i64 (0:Nat)] H=some (.exit 2 [a, .ptr R 0, .slice h 0 2 4,k,i],I):=by
 obtain⟨o,rfl⟩: ∃j,o=j+3:=⟨o - 3,by omega⟩;have s:((0:Nat):Int)< ((2:Nat):Int):=by omega
 have x:((1:Nat):Int)< ((2:Nat):Int):=by omega
 have h22: ¬((2:Nat):Int)< ((2:Nat):Int):=by omega
 have F:((0:Nat):Int)+((1:Nat):Int)=((1:Nat):Int):=rfl;have G:((1:Nat):Int)+((1:Nat):Int)=((2:Nat):Int):=rfl;have f:=ix2 h 0 (by omega);have J:=ix2 h 1 (by omega);rw[wB (vs':=[a, .ptr R 0, .slice h 0 2 4,k,i, .slice h 0 2 4, .int .i64 (2:Nat), .int .i64 (1:Nat)]) (H':=w) (by
  simp(disch:=omega) only[ZR,eZ,s,f,jR y,z,F])]
 rw[wB (vs':=[a, .ptr R 0, .slice h 0 2 4,k,i, .slice h 0 2 4, .int .i64 (2:Nat), .int .i64 (2:Nat)]) (H':=I) (by
  simp(disch:=omega) only[ZR,eZ,x,J,jR u,C,G])]
 exact kD (by simp only[ZR,eZ,h22])
theorem zNx (m n:Nat)(V:3<=n){R A4:Nat}(t:H.h.get h=some (.cells [.func 173 [.ptr R 0] [], .func 175 [.ptr R 0] []] v 1 false))(G:H.ok)(hR:h≠R)
  {C:Str} (K:Nat) (hK:K<1000000) (h0:RdI R H H C false true .nS .nS .nS [] [] []) (N:Nat) (Y:K<N):
  ∃H',kL N (uM (dy (m+1)) n) [.ptr A4 0, .ptr R 0, .slice h 0 2 4, .int .i64 (K:Nat), .int .i64 (0:Nat)] H=some (.exit 0 [.ptr A4 0, .ptr R 0],H')/\
   ∃kv f ks vs rest,(match J0 K C with | some (a,b,r)=>ks=a/\vs=b/\rest=r/\RdI R H H' rest false true kv f .nS ks vs [] | none=>RdI R H H' rest true true kv f .nS ks vs []):=by
 have key:=ZK (b:=uM (dy (m+1)) n) K (fun i=>(J0 (i+1) C).isSome)
  (fun i I p=>I=[.ptr A4 0, .ptr R 0, .slice h 0 2 4, .int .i64 (K:Nat), .int .i64 (i:Nat)]/\ ∃kv f ks vs rest,J0 i C=some (ks,vs,rest)/\RdI R H p rest false true kv f .nS ks vs [])
  (fun x H'=>x= .exit 0 [.ptr A4 0, .ptr R 0]/\ ∃kv f ks vs rest,J0 K C=some (ks,vs,rest)/\RdI R H H' rest false true kv f .nS ks vs [])
  (fun x H'=>x= .exit 0 [.ptr A4 0, .ptr R 0]/\ ∃kv f ks vs rest,RdI R H H' rest true true kv f .nS ks vs []) ?_ ?_ ?_ N _ H ⟨rfl,_,_,_,_,_,rfl,h0⟩ Y
 .obtain⟨x,H',k1,k2⟩:=key;rw[Nd.decL_all]at k2
  cases hd:J0 K C with
  | none=>
   rw[hd]at k2;simp only[Option.isSome_none,zM,qE]at k2;obtain⟨rfl,kv,f,ks,vs,rest,o⟩:=k2;exact⟨H',k1,kv,f,ks,vs,rest,o⟩
  | some y=>
   rw[hd]at k2;simp only[jM,if_true]at k2;obtain⟨rfl,kv,f,ks,vs,rest,q,o⟩:=k2;simp only[zC]at q;subst q;exact⟨H',k1,kv,f,ks,vs,rest,rfl,rfl,rfl,o⟩
 .rintro i I p hi ⟨rfl,kv,f,ks,vs,rest,hd,e⟩ j
  obtain⟨_,Z,a0⟩:=Nd.decL_eq hd;obtain⟨F,a1,O,q⟩:=zAz (dy m) m e (by omega);obtain⟨Q,a2,S,s⟩:=zCp (dy m) m q (by omega);have hp:p.h.get h=_:=(e.prs.keep h (G.lt t) hR).trans t;have J:F.h.get h=_:=(q.prs.keep h (G.lt t) hR).trans t;have L:=inner m n (R:=R) (a:= .ptr A4 0) (k:= .int .i64 (K:Nat)) (i:= .int .i64 (i:Nat)) hp J ((W6 m n R p).trans O) ((zHl m n R F).trans S) n V;rw[Nd.decL_snoc,hd]at j;simp only[yN]at j;have M:((i:Nat):Int)< (K:Int):=by omega
  cases u:v6 rest with
  | none=>rw[u]at j;simp at j
  | some a=>
   obtain⟨a,T⟩:=a;rw[u]at j;simp only[yN]at j;rw[gQ u]at q s;simp only at q s
   cases z:v6 T with
   | none=>rw[z]at j;simp at j
   | some b=>
    obtain⟨b,r2⟩:=b;rw[gQ z]at s;simp only at s;obtain⟨ee,U⟩:=s.get;refine⟨_,Q, ?_,rfl,_,_,_,_,_, ?_,s⟩
    .simp(disch:=omega) only[uM,eZ,M,lnSl,L,ZS,jR U,yH]
    .rw[Nd.decL_snoc,hd];simp only[yN,u,z]
 .rintro i I p hi ⟨rfl,kv,f,ks,vs,rest,hd,e⟩ j
  obtain⟨_,Z,a0⟩:=Nd.decL_eq hd;obtain⟨F,a1,O,q⟩:=zAz (dy m) m e (by omega);obtain⟨Q,a2,S,s⟩:=zCp (dy m) m q (by omega);have hp:p.h.get h=_:=(e.prs.keep h (G.lt t) hR).trans t;have J:F.h.get h=_:=(q.prs.keep h (G.lt t) hR).trans t;have L:=inner m n (R:=R) (a:= .ptr A4 0) (k:= .int .i64 (K:Nat)) (i:= .int .i64 (i:Nat)) hp J ((W6 m n R p).trans O) ((zHl m n R F).trans S) n V;rw[Nd.decL_snoc,hd]at j;simp only[yN]at j;have M:((i:Nat):Int)< (K:Int):=by omega
  have W:(vK (vK rest false).2.1 (vK rest false).2.2).2.2=true:=by
   cases u:v6 rest with
   | none=>rw[QA u];exact BQ _
   | some a=>
    obtain⟨a,T⟩:=a;rw[u]at j;simp only[yN]at j;rw[gQ u]
    cases z:v6 T with
    | none=>exact QA z
    | some b=>rw[z]at j;simp at j
  rw[W]at s;obtain⟨ee,U⟩:=s.get;refine⟨.exit 0 [.ptr A4 0, .ptr R 0],Q, ?_,rfl,rfl,_,_,_,_,_,s⟩;simp(disch:=omega) only[uM,eZ,M,lnSl,L,ZS,jR U]
 .rintro I p ⟨rfl,kv,f,ks,vs,rest,hd,e⟩
  refine⟨.exit 0 [.ptr A4 0, .ptr R 0],p, ?_,rfl,rfl,_,_,_,_,_,hd,e⟩;simp only[uM,eZ,yY]
theorem zNy (m n:Nat)(Z:100<=n){R A4:Nat}(t:H.h.get h=some (.cells [.func 173 [.ptr R 0] [], .func 174 [.ptr R 0] []] v 1 false))(J:H.ok)(hR:h≠R)
  {F:Str}  {G:Ptr} (K:Nat) (hK:K<1000000) (h0:RdI R H w F false false .nS .nS q [] [] [G]) (S:Nat) (a2:K<S):
  ∃H',kL S (uM (dy (m+1)) n) [.ptr A4 0, .ptr R 0, .slice h 0 2 4, .int .i64 (K:Nat), .int .i64 (0:Nat)] w=some (.exit 0 [.ptr A4 0, .ptr R 0],H')/\
   ∃kv j ks f rest,(match J1 K F with | some (a,b,r)=>ks=a/\f=G::b/\rest=r/\RdI R H H' rest false false kv .nS j ks [] f | none=>RdI R H H' rest true false kv .nS j ks [] f):=by
 have key:=ZK (b:=uM (dy (m+1)) n) K (fun i=>(J1 (i+1) F).isSome)
  (fun i L u=>L=[.ptr A4 0, .ptr R 0, .slice h 0 2 4, .int .i64 (K:Nat), .int .i64 (i:Nat)]/\ ∃kv j ks f rest,J1 i F=some (ks,f,rest)/\RdI R H u rest false false kv .nS j ks [] (G::f))
  (fun x H'=>x= .exit 0 [.ptr A4 0, .ptr R 0]/\ ∃kv j ks f rest,J1 K F=some (ks,f,rest)/\RdI R H H' rest false false kv .nS j ks [] (G::f))
  (fun x H'=>x= .exit 0 [.ptr A4 0, .ptr R 0]/\ ∃kv j ks f rest,RdI R H H' rest true false kv .nS j ks [] f) ?_ ?_ ?_ S _ w ⟨rfl,_,_,_,_,_,rfl,h0⟩ a2
 .obtain⟨x,H',k1,k2⟩:=key;rw[Nd.decI_all]at k2
  cases hd:J1 K F with
  | none=>
   rw[hd]at k2;simp only[Option.isSome_none,zM,qE]at k2;obtain⟨rfl,kv,j,ks,f,rest,p⟩:=k2;exact⟨H',k1,kv,j,ks,f,rest,p⟩
  | some y=>
   rw[hd]at k2;simp only[jM,if_true]at k2;obtain⟨rfl,kv,j,ks,f,rest,e,p⟩:=k2;simp only[zC]at e;subst e;exact⟨H',k1,kv,j,ks,G::f,rest,rfl,rfl,rfl,p⟩
 .rintro i L u hi ⟨rfl,kv,j,ks,f,rest,hd,z⟩ o
  obtain⟨_,a3,a4,_⟩:=Nd.decI_eq hd;obtain⟨I,a5,T,e⟩:=zAz (dy m) m z (by omega);obtain⟨U,a6,V,s⟩:=UC (dy (m+1)) n Z e (by simp;omega);have hp:u.h.get h=_:=(z.prs.keep h (J.lt t) hR).trans t;have M:I.h.get h=_:=(e.prs.keep h (J.lt t) hR).trans t;have N:=inner m n (R:=R) (a:= .ptr A4 0) (k:= .int .i64 (K:Nat)) (i:= .int .i64 (i:Nat)) hp M ((W6 m n R u).trans T) ((zCe m n R I).trans V) n (by omega);rw[Nd.decI_snoc,hd]at o;simp only[yN]at o;have O:((i:Nat):Int)< (K:Int):=by omega
  cases Q:v6 rest with
  | none=>rw[Q]at o;simp at o
  | some a=>
   obtain⟨a,W⟩:=a;rw[Q]at o;simp only[yN]at o;rw[gQ Q]at e s;simp only at e s
   cases C:fW W with
   | none=>rw[C]at o;simp at o
   | some b=>
    obtain⟨b,r2⟩:=b;rw[zAw _ C]at s;simp only at s;obtain⟨ee,Y⟩:=s.get;refine⟨_,U, ?_,rfl,_,_,_,_,_, ?_,s⟩
    .simp(disch:=omega) only[uM,eZ,O,lnSl,N,ZS,jR Y,yH]
    .rw[Nd.decI_snoc,hd];simp only[yN,Q,C];rfl
 .rintro i L u hi ⟨rfl,kv,j,ks,f,rest,hd,z⟩ o
  obtain⟨_,a3,a4,_⟩:=Nd.decI_eq hd;obtain⟨I,a5,T,e⟩:=zAz (dy m) m z (by omega);obtain⟨U,a6,V,s⟩:=UC (dy (m+1)) n Z e (by simp;omega);have hp:u.h.get h=_:=(z.prs.keep h (J.lt t) hR).trans t;have M:I.h.get h=_:=(e.prs.keep h (J.lt t) hR).trans t;have N:=inner m n (R:=R) (a:= .ptr A4 0) (k:= .int .i64 (K:Nat)) (i:= .int .i64 (i:Nat)) hp M ((W6 m n R u).trans T) ((zCe m n R I).trans V) n (by omega);rw[Nd.decI_snoc,hd]at o;simp only[yN]at o;have O:((i:Nat):Int)< (K:Int):=by omega
  have a0:(zBY (vK rest false).2.1 (vK rest false).2.2 (G::f)).2.1=true:=by
   cases Q:v6 rest with
   | none=>rw[QA Q];exact zCW _ _
   | some a=>
    obtain⟨a,W⟩:=a;rw[Q]at o;simp only[yN]at o;rw[gQ Q]
    cases C:fW W with
    | none=>exact zAx _ C
    | some b=>rw[C]at o;simp at o
  rw[a0]at s;obtain⟨ee,Y⟩:=s.get;refine⟨.exit 0 [.ptr A4 0, .ptr R 0],U, ?_,rfl,rfl,_,_,_,_,_,s⟩;simp(disch:=omega) only[uM,eZ,O,lnSl,N,ZS,jR Y]
 .rintro L u ⟨rfl,kv,j,ks,f,rest,hd,z⟩
  refine⟨.exit 0 [.ptr A4 0, .ptr R 0],u, ?_,rfl,rfl,_,_,_,_,_,hd,z⟩;simp only[uM,eZ,yY]
def Q8 (H0 H:AH)(v:AV)(a:Nd.Node):Prop:= ∃ks vs f,v= .agg [.bool a.leaf,ks,vs,f]/\Own 1 9 H ks a.keys.length (a.keys.map S)/\Own 1 9 H vs a.vals.length (a.vals.map S)/\Own 3 42 H f a.kids.length (a.kids.flatMap jX)/\(∀B,Blk ks B\/Blk vs B\/Blk f B->H0.next<=B)/\(∀B,Blk ks B-> ¬Blk vs B/\ ¬Blk f B)/\ ∀B,Blk vs B-> ¬Blk f B
theorem Q8.node {a:Nd.Node}(h:Q8 H w k a):fD w k a:=by
 obtain⟨ks,vs,f,e,i,j,m,_⟩:=h;exact⟨ks,vs,f,e,i.row,j.row,m.row⟩
theorem zCi {b:Nat}(t:h<256)(hb:b<256):kO .or (.int .i64 (h*256:Nat)) (.int .i64 (b:Int))=some (.int .i64 ((h*256+b):Nat)):=by
 have f:h*256||| b=h*256+b:=by
  have:=Nat.two_pow_add_eq_or_of_lt (b:=b) (i:=8) (by omega) h;rw[Nat.mul_comm h 256];exact this.symm
 have a:keq .i64 .i64=true:=rfl;have j:BitVec.ofInt 64 ((h*256:Nat):Int)=BitVec.ofNat 64 (h*256):=BitVec.ofInt_natCast _ _;have m:BitVec.ofInt 64 (b:Int)=BitVec.ofNat 64 b:=BitVec.ofInt_natCast _ _;have o:(BitVec.ofNat 64 (h*256)||| BitVec.ofNat 64 b).toNat=h*256+b:=by
  rw[BitVec.toNat_or,BitVec.toNat_ofNat,BitVec.toNat_ofNat,Nat.mod_eq_of_lt (by omega),Nat.mod_eq_of_lt (by omega),f]
 have p:kO .or (.int .i64 (.ofNat (h*256))) (.int .i64 (.ofNat b))=aZ.slow .or .i64 (.ofNat (h*256)) (.ofNat b):=by
  simp only[kO,bO,a,zU,aZ,IntKind.signed,Bool.not_true,Bool.false_and,yM]
 have q:aZ.slow .or .i64 (.ofNat (h*256)) (.ofNat b)=some (.int .i64 (h*256+b:Nat)):=by
  have s:aZ.slow .or .i64 (.ofNat (h*256)) (.ofNat b)=fI (IntKind.wrap .i64 ((BitVec.ofInt 64 ((h*256:Nat):Int)||| BitVec.ofInt 64 (b:Int)).toNat:Nat)) (fun n=>some (.int .i64 n)):=rfl;rw[s,zC6,j,m,o,wrap_i64 (by omega) (by omega)]
 exact p.trans q
theorem head2 {s:Str}(h:2<=s.length): ∃a b,s.take 2=[a,b]/\bee (s.take 2)=a.toNat*256+b.toNat:=by
 match s,h with
 | a::b::l,_=>exact⟨a,b,rfl,by simp[bee]⟩
theorem RdI.base {rest:Str}(R:RdI h H w rest p s .nS .nS .nS [] [] [])(H0:Prs w I):RdI h I I rest p s .nS .nS .nS [] [] []:=by
 obtain⟨e,f⟩:=R.get;exact⟨zOJ H0.ok,⟨e,H0.get R.prs.ok f⟩,zOP _ _ _,zOP _ _ _,zOP _ _ _,fun B a=>(zOO.1 a).elim,fun B a=>(zOO.1 a).elim,fun B a=>(zOO.1 a).elim,R.small⟩
theorem zOb(hn:200000000<=n){A4:Nat}{rest:Str}{ks vs:List Str}{u:List Ptr}(a:RdI h w I rest p s k q e ks vs u)(hA: ∃c leaf,c.length=4/\w.h.get A4=some (.cells c leaf 1 false))(a1:A4≠h)
  (V:w.ok) (h0:Prs H w) (hR:H.next<=h) (W:H.next<=A4) (N:p=true\/small ⟨s,ks,vs,u⟩):
  ∃v H',fG (dW D n [.ptr A4 0, .ptr h 0] I)=some (.tuple [v, .int .i64 (if p=false/\rest=[]/\Nd.may ltS ⟨s,ks,vs,u⟩=true then 0 else 4:Nat)],H')/\Prs H H'/\((p=false/\rest=[]/\Nd.may ltS ⟨s,ks,vs,u⟩=true)->Q8 H H' v ⟨s,ks,vs,u⟩)/\ ∃l,v= .agg l/\l.length=4/\jV l=true:=by
 obtain⟨leaf,t⟩:=a.get;obtain⟨c,ec,J,O⟩:=hA;have Q:uO [(0,1),(1,1),(2,1),(3,1)] [.bool false, .nS, .nS, .nS] []=some (.agg [.bool false, .nS, .nS, .nS]):=rfl;have Y:I.h.get A4=some (.cells c ec 1 false):=(a.prs.keep A4 (V.lt O) a1).trans O;have hP:Prs H I:=h0.fresh a.prs (fun B f=>by rw[f];exact hR);have M: ∀z,Prs I z-> ∃i,stN 4 (.ptr A4 0) (.agg [.bool false, .nS, .nS, .nS]) z=some (jU,i)/\ldN 4 (.ptr A4 0) i=some (.agg [.bool false, .nS, .nS, .nS])/\Prs H i:=by
  intro z j;obtain⟨i,bad,T,y,n3⟩:=kE j.ok (j.get a.prs.ok Y) (l':=[.bool false, .nS, .nS, .nS]) (by simp[J]) rfl;rw[J]at bad;refine⟨i,bad,by rw[jW T];rfl,(hP.trans j).fresh y (fun B f=>by rw[f];exact W)⟩
 cases p with
 | true=>
  obtain⟨i,bad,C,F⟩:=M I (zOJ a.prs.ok);refine⟨.agg [.bool false, .nS, .nS, .nS],i, ?_,F,fun R=>by simp at R,_,rfl,rfl,rfl⟩;simp only[dW,eZ,jR t,Q,bad,C,false_and,Bool.true_eq_false]
 | false=>
  have N:=N.resolve_left (by simp);by_cases hr:rest=[]
  .subst hr;have a0:fD I (.agg [.bool s,k,q,e]) ⟨s,ks,vs,u⟩:=⟨k,q,e,rfl,a.k.row,a.v.row,a.p.row⟩;obtain⟨z,K,j⟩:=zLy D n a.prs.ok a0 N hn;have G: ¬(([]:Str)≠[]):=by simp
   have H0:(AV.str 0 0)=S []:=rfl;have U:uW [S [], .bool false, .bool s,k,q,e] 2 4=some [.bool s,k,q,e]:=rfl
   cases hm:Nd.may ltS ⟨s,ks,vs,u⟩with
   | false=>
    obtain⟨i,bad,C,F⟩:=M z j;rw[hm]at K;refine⟨.agg [.bool false, .nS, .nS, .nS],i, ?_,F,fun R=>by simp at R,_,rfl,rfl,rfl⟩;simp only[dW,eZ,jR t,jW t,U,qA,H0,G,K,Q,bad,C,and_false]
   | true=>
    rw[hm]at K;have Z:jV [.bool s,k,q,e]=true:=by
     rw[wK];intro x hx;simp only[zO,List.not_mem_nil,or_false]at hx;rcases hx with rfl | rfl | rfl | rfl
     .rfl
     .exact a.k.row.isCell
     .exact a.v.row.isCell
     .exact a.p.row.isCell
    obtain⟨i,bad,T,y,n3⟩:=kE j.ok (j.get a.prs.ok Y) (l':=[.bool s,k,q,e]) (by simp[J]) Z;rw[J]at bad;have a2:ldN 4 (.ptr A4 0) i=some (.agg [.bool s,k,q,e]):=by rw[jW T];rfl
    have a3:A4<w.next:=V.lt O
    have L: ∀B,Blk k B\/Blk q B\/Blk e B->w.next<=B:=by
     rintro B (R | R | R)
     .exact(a.kb B R).1
     .exact(a.vb B R).1
     .exact(a.pb B R).1
    refine⟨.agg [.bool s,k,q,e],i, ?_,(hP.trans j).fresh y (fun B f=>by rw[f];exact W),fun _=>⟨k,q,e,rfl,(a.k.mono j (fun _ _ x=>x)).mono y (fun B f=>by have:=L B (.inl f);omega),(a.v.mono j (fun _ _ x=>x)).mono y (fun B f=>by have:=L B (.inr (.inl f));omega),(a.p.mono j (fun _ _ x=>x)).mono y (fun B f=>by have:=L B (.inr (.inr f));omega),fun B f=>by have:=L B f;have:=h0.next;omega,fun B f=>(a.kb B f).2.2,fun B f=>(a.vb B f).2.2⟩,_,rfl,rfl,Z⟩
    simp only[dW,eZ,jR t,jW t,jW (j.get a.prs.ok t),U,qA,H0,G,K,bad,a2,and_self]
  .obtain⟨i,bad,C,F⟩:=M I (zOJ a.prs.ok);have G:rest≠[]:=hr;have H0:(AV.str 0 0)=S []:=rfl;refine⟨.agg [.bool false, .nS, .nS, .nS],i, ?_,F,fun R=>absurd R.2.1 hr,_,rfl,rfl,rfl⟩;simp only[dW,eZ,jR t,H0,G,Q,bad,C,false_and,and_false,ne_eq,yQ,hr]
theorem zLB (m n:Nat)(O:100<=n){R A4:Nat}(s:H.h.get h=some (.cells [.func 173 [.ptr R 0] [], .func 174 [.ptr R 0] []] v 1 false))(z:H.ok)(hR:h≠R)
  {u:Str}  {p:List Ptr} (W:p.length<1000) (K:Nat) (x:RdI R H w u true false .nS .nS q [] [] p) (f:Nat) (Y:K<f):
  ∃H',kL f (uM (dy (m+1)) n) [.ptr A4 0, .ptr R 0, .slice h 0 2 4, .int .i64 (K:Nat), .int .i64 (0:Nat)] w=some (.exit 0 [.ptr A4 0, .ptr R 0],H')/\ ∃kv q ks p rest,RdI R H H' rest true false kv .nS q ks [] p:=by
 obtain⟨f,rfl⟩: ∃j,f=j+1:=⟨f - 1,by omega⟩;by_cases Q:K=0
 .subst Q;refine⟨w,kD ?_,_,_,_,_,_,x⟩;simp only[uM,eZ,yY]
 .obtain⟨C,Z,S,F⟩:=zAz (dy m) m x (by simp);have I:=BQ u;obtain⟨T,a0,U,y⟩:=UC (dy (m+1)) n O F (by omega);have J:w.h.get h=_:=(x.prs.keep h (z.lt s) hR).trans s;have L:C.h.get h=_:=(F.prs.keep h (z.lt s) hR).trans s;have M:=inner m n (R:=R) (a:= .ptr A4 0) (k:= .int .i64 (K:Nat)) (i:= .int .i64 (0:Nat)) J L ((W6 m n R w).trans S) ((zCe m n R C).trans U) n (by omega);have G:(zBY (vK u true).2.1 (vK u true).2.2 p).2.1=true:=by rw[I];exact zCW _ _
  rw[G]at y;obtain⟨ee,V⟩:=y.get;have N:((0:Nat):Int)< (K:Int):=by omega
  refine⟨T,kD ?_,_,_,_,_,_,y⟩;simp(disch:=omega) only[uM,eZ,N,lnSl,M,ZS,jR V]
theorem RdI.cap {rest:Str}{ks vs:List Str}{i:List Ptr}(R:RdI h H w rest p s k q e ks vs i):rest.length<=10000:=R.small.1
theorem zH2 (m n:Nat)(hn:200000000<=n)(T:H.ok)(leaf:Bool)(s:Str):
  ∃v H',f123 (dy (m+1)) n [.bool leaf,S s] H=some (.tuple [v, .int .i64 (if(Nd.decN ltS leaf s).isSome then 0 else 4:Nat)],H')/\Prs H H'/\(∀J,Nd.decN ltS leaf s=some J->Q8 H H' v J)/\ ∃l,v= .agg l/\l.length=4/\jV l=true:=by
 have b6:uO [(0,1),(1,1),(2,1),(3,1)] [.bool false, .nS, .nS, .nS] []=some (.agg [.bool false, .nS, .nS, .nS]):=rfl;have u:Prs H (H.push (.cells [.bool false, .nS, .nS, .nS] 119 1 false)):=(zOJ T).push _;have g1:(H.push (.cells [.bool false, .nS, .nS, .nS] 119 1 false)).h.get H.next=some (.cells [.bool false, .nS, .nS, .nS] 119 1 false):=zOB _ _
 have n1:(H.push (.cells [.bool false, .nS, .nS, .nS] 119 1 false)).next=H.next+1:=rfl
 generalize Y:H.push (.cells [.bool false, .nS, .nS, .nS] 119 1 false)=H1 at u g1 n1;have b2: ∀U,Prs H1 U-> ∃i,stN 4 (.ptr H.next 0) (.agg [.bool false, .nS, .nS, .nS]) U=some (jU,i)/\ldN 4 (.ptr H.next 0) i=some (.agg [.bool false, .nS, .nS, .nS])/\Prs H i:=by
  intro U L;obtain⟨i,t,F,s3,n3⟩:=kE L.ok (L.get u.ok g1) (l':=[.bool false, .nS, .nS, .nS]) rfl rfl;exact⟨i,t,by rw[jW F];rfl,(u.trans L).fresh s3 (fun B M=>by omega)⟩
 by_cases b3:s.length<=500
 .have O: ¬((500:Nat):Int)< (s.length:Int):=by omega
  have a3:uO [(0,1),(1,1),(2,1),(3,1)] [.bool false, .nS, .nS, .nS] [(0, .bool leaf)]=some (.agg [.bool leaf, .nS, .nS, .nS]):=rfl;have a4:uO [(0,1),(1,1),(2,4)] [.str 0 0, .bool false, .bool false, .nS, .nS, .nS] [(0,S s),(2, .agg [.bool leaf, .nS, .nS, .nS])]=some (.agg [S s, .bool false, .bool leaf, .nS, .nS, .nS]):=rfl;have L:Prs H1 (H1.push (.cells [S s, .bool false, .bool leaf, .nS, .nS, .nS] 285 1 false)):=(zOJ u.ok).push _;have g2:(H1.push (.cells [S s, .bool false, .bool leaf, .nS, .nS, .nS] 285 1 false)).h.get H1.next=some (.cells [S s, .bool false, .bool leaf, .nS, .nS, .nS] 285 1 false):=zOB _ _
  have n2:(H1.push (.cells [S s, .bool false, .bool leaf, .nS, .nS, .nS] 285 1 false)).next=H1.next+1:=rfl
  generalize a5:H1.push (.cells [S s, .bool false, .bool leaf, .nS, .nS, .nS] 285 1 false)=U at L g2 n2;have b8:RdI H1.next U U s false leaf .nS .nS .nS [] [] []:=⟨zOJ L.ok,⟨_,g2⟩,zOP _ _ _,zOP _ _ _,zOP _ _ _,fun B M=>(zOO.1 M).elim,fun B M=>(zOO.1 M).elim,fun B M=>(zOO.1 M).elim,by omega,by simp,by simp,by simp⟩
  obtain⟨i,t,q⟩:=VN (dy (m+1)) n b8 2;obtain⟨c9,F⟩:=q.get;have a8:Prs H1 i:=L.fresh q.prs (fun B M=>by omega);by_cases h2:s.length<2
  .have G:wN s false 2=([],s,true):=by simp[wN,h2]
   rw[G]at t q F;simp only at t q F;obtain⟨x,e4,l4,C⟩:=b2 i a8;have hd:Nd.decN ltS leaf s=none:=by simp only[Nd.decN];rw[if_neg (by omega)]
   refine⟨.agg [.bool false, .nS, .nS, .nS],x, ?_,C,(fun J h=>by rw[hd]at h;cases h),_,rfl,rfl,rfl⟩;rw[hd];simp only[f123,eZ,kV T,Y,O,a3,a4,kV u.ok,a5,t,jR F,b6,e4,l4,Option.isSome_none]
  .have G:wN s false 2=(s.take 2,s.drop 2,false):=by simp[wN,h2]
   rw[G]at t q F;simp only at t q F;obtain⟨a,b,a9,hK⟩:=head2 (s:=s) (by omega);have ha:a.toNat<256:=a.toNat_lt;have hb:b.toNat<256:=b.toNat_lt;have V:=UF (s.take 2) .i64 (z:=((0:Nat):Int)) (by omega) (by simp;omega);have W:=UF (s.take 2) .i64 (z:=((1:Nat):Int)) (by omega) (by simp;omega);simp only[a9]at V W
   replace V:KD (S (s.take 2)) (.int .i64 (0:Nat))=some (.int .u8 a.toNat):=by rw[a9];exact V
   replace W:KD (S (s.take 2)) (.int .i64 (1:Nat))=some (.int .u8 b.toNat):=by rw[a9];exact W
   have wa:IntKind.wrap .i64 (a.toNat:Int)=(a.toNat:Int):=wrap_i64 (by omega) (by omega);have wb:IntKind.wrap .i64 (b.toNat:Int)=(b.toNat:Int):=wrap_i64 (by omega) (by omega);have a6:=zDz .i64 .u64 (a.toNat:Int) (s:=8) (by decide);rw[show IntKind.wrap .i64 ((a.toNat:Int)*2 ^ 8)=((a.toNat*256:Nat):Int)from by rw[wrap_i64 (by omega) (by omega)];omega]at a6;have Z:=zCi ha hb;rw[<-hK]at Z;have b9:bee (s.take 2)<65536:=by omega
   generalize a0:bee (s.take 2)=K at Z b9 hK;have b0: ∀(f g:FuncId) (xs ys:List AV),Q0 1 1 2 [.nilFunc] [(0, .func f xs []),(1, .func g ys [])]=some (.cells [.func f xs [], .func g ys []] 1 1 false,fun A=> .slice A 0 2 4):=fun _ _ _ _=>rfl
   have C:Prs i (i.push (.cells [.func 173 [.ptr H1.next 0] [], .func 174 [.ptr H1.next 0] []] 1 1 false)):=(zOJ q.prs.ok).push _
   have g4:(i.push (.cells [.func 173 [.ptr H1.next 0] [], .func 174 [.ptr H1.next 0] []] 1 1 false)).h.get i.next=some (.cells [.func 173 [.ptr H1.next 0] [], .func 174 [.ptr H1.next 0] []] 1 1 false):=zOB _ _
   have n4:(i.push (.cells [.func 173 [.ptr H1.next 0] [], .func 174 [.ptr H1.next 0] []] 1 1 false)).next=i.next+1:=rfl
   generalize b1:i.push (.cells [.func 173 [.ptr H1.next 0] [], .func 174 [.ptr H1.next 0] []] 1 1 false)=x at C g4 n4
   have n3:=q.prs.next
   have c8:(s.drop 2).length=s.length - 2:=by simp
   have a1: ∀(Hp o:AH) (rest:Str) (bad:Bool) (kv vv pv:AV) (ks vs:List Str) (N:List Ptr),RdI H1.next Hp o rest bad leaf kv vv pv ks vs N->Prs H1 Hp->(bad=true\/small ⟨leaf,ks,vs,N⟩)->
     (Nd.decN ltS leaf s=if bad=false/\rest=[]/\Nd.may ltS ⟨leaf,ks,vs,N⟩=true then some ⟨leaf,ks,vs,N⟩else none)->
     f123 (dy (m+1)) n [.bool leaf,S s] H=fG (dW (dy (m+1)) n [.ptr H.next 0, .ptr H1.next 0] o)->
     ∃v H',f123 (dy (m+1)) n [.bool leaf,S s] H=some (.tuple [v, .int .i64 (if(Nd.decN ltS leaf s).isSome then 0 else 4:Nat)],H')/\Prs H H'/\(∀J,Nd.decN ltS leaf s=some J->Q8 H H' v J)/\ ∃l,v= .agg l/\l.length=4/\jV l=true:=by
    intro Hp o rest bad kv vv pv ks vs N hI hp c0 b4 I;obtain⟨v,H',e,p,c1,l⟩:=zOb (dy (m+1)) n hn (A4:=H.next) hI ⟨_,_,rfl,hp.get u.ok g1⟩ (by omega) hp.ok (u.trans hp) (by omega) (zP _) c0
    refine⟨v,H', ?_,p, ?_,l⟩
    .rw[I,e,b4];split<;>rfl
    .intro J a2;rw[b4]at a2;split at a2
     .rename_i hc;simp only[zC]at a2;subst a2;exact c1 hc
     .cases a2
   cases leaf with
   | true=>
    have p5:Prs x (x.push (.cells [.func 173 [.ptr H1.next 0] [], .func 175 [.ptr H1.next 0] []] 1 1 false)):=(zOJ C.ok).push _
    have g5:(x.push (.cells [.func 173 [.ptr H1.next 0] [], .func 175 [.ptr H1.next 0] []] 1 1 false)).h.get x.next=some (.cells [.func 173 [.ptr H1.next 0] [], .func 175 [.ptr H1.next 0] []] 1 1 false):=zOB _ _
    generalize c2:x.push (.cells [.func 173 [.ptr H1.next 0] [], .func 175 [.ptr H1.next 0] []] 1 1 false)=H5 at p5 g5
    have Q:=q.base (C.trans p5);obtain⟨o,e9,kv,vv,ks,vs,rest,j⟩:=zNx m n (by omega) (A4:=H.next) g5 p5.ok (by omega) K (by omega) Q n (by omega)
    have I:f123 (dy (m+1)) n [.bool true,S s] H=fG (dW (dy (m+1)) n [.ptr H.next 0, .ptr H1.next 0] o):=by
     simp(disch:=omega) only[f123,eZ,kV T,Y,O,a3,a4,kV u.ok,a5,t,jR F,b0,kV q.prs.ok,b1,kV C.ok,c2,zDf,V,W,wa,wb,a6,Z,e9]
    have b5:Prs H1 H5:=(a8.trans C).trans p5
    cases hd:J0 K (s.drop 2)with
    | none=>
     rw[hd]at j;exact a1 H5 o _ _ _ _ _ _ _ _ j b5 (.inl rfl) (by simp only[Nd.decN,Nd.decB,a0,hd];simp) I
    | some y=>
     obtain⟨y1,y2,y3⟩:=y;rw[hd]at j;obtain⟨rfl,rfl,rfl,j⟩:=j;obtain⟨q1,q2,q3⟩:=Nd.decL_eq hd;have hq:=congrArg List.length q1;rw[zV,Nd.encL_length _ _ (by omega)]at hq;exact a1 H5 o _ _ _ _ _ _ _ _ j b5 (.inr ⟨by simp,by simp;omega,by simp;omega⟩) (by simp only[Nd.decN,Nd.decB,a0,hd];rw[if_pos ⟨b3,by omega⟩];simp) I
   | false=>
    have c3:=q.base C;obtain⟨H5,pv,e5,Q⟩:=UC (dy (m+1)) n (by omega) c3 (by simp);have a7:Prs H1 x:=a8.trans C
    cases G:fW (s.drop 2)with
    | none=>
     have c4:=zAx [] G;rw[c4]at Q;have c5:(zBY (s.drop 2) false []).2.2.length<1000:=by
      simp only[zBY];split
      .simp
      .split<;>simp
     obtain⟨o,e9,kv,c6,ks,N,rest,j⟩:=zLB m n (by omega) (A4:=H.next) g4 C.ok (by omega) c5 K Q n (by omega)
     have I:f123 (dy (m+1)) n [.bool false,S s] H=fG (dW (dy (m+1)) n [.ptr H.next 0, .ptr H1.next 0] o):=by
      simp(disch:=omega) only[f123,eZ,kV T,Y,O,a3,a4,kV u.ok,a5,t,jR F,b0,kV q.prs.ok,b1,e5,zDf,V,W,wa,wb,a6,Z,e9]
     exact a1 x o _ _ _ _ _ _ _ _ j a7 (.inl rfl) (by simp only[Nd.decN,Nd.decB,a0,G];simp) I
    | some y=>
     obtain⟨p0,r0⟩:=y;rw[zAw [] G]at Q;obtain⟨c7,_,_⟩:=Nd.takeP_eq G;have b7:=congrArg List.length c7;rw[zV,Nd.encP_length]at b7;obtain⟨o,e9,kv,c6,ks,N,rest,j⟩:=zNy m n (by omega) (A4:=H.next) g4 C.ok (by omega) K (by omega) Q n (by omega)
     have I:f123 (dy (m+1)) n [.bool false,S s] H=fG (dW (dy (m+1)) n [.ptr H.next 0, .ptr H1.next 0] o):=by
      simp(disch:=omega) only[f123,eZ,kV T,Y,O,a3,a4,kV u.ok,a5,t,jR F,b0,kV q.prs.ok,b1,e5,zDf,V,W,wa,wb,a6,Z,e9]
     cases hd:J1 K r0 with
     | none=>
      rw[hd]at j;exact a1 x o _ _ _ _ _ _ _ _ j a7 (.inl rfl) (by simp only[Nd.decN,Nd.decB,a0,G,hd];simp) I
     | some y=>
      obtain⟨y1,y2,y3⟩:=y;rw[hd]at j;obtain⟨rfl,rfl,rfl,j⟩:=j;obtain⟨q1,q2,q3,_⟩:=Nd.decI_eq hd;have hq:=congrArg List.length q1;rw[zV,Nd.encI_length _ _ (by omega)]at hq;exact a1 x o _ _ _ _ _ _ _ _ j a7 (.inr ⟨by simp;omega,by simp;omega,by simp[Nd.sumL]⟩) (by simp only[Nd.decN,Nd.decB,a0,G,hd];rw[if_pos ⟨b3,by omega⟩];simp) I
 .have O:((500:Nat):Int)< (s.length:Int):=by omega
  obtain⟨i,t,l3,p3⟩:=b2 H1 (zOJ u.ok);have hd:Nd.decN ltS leaf s=none:=by simp only[Nd.decN];rw[if_neg (by omega)]
  refine⟨.agg [.bool false, .nS, .nS, .nS],i, ?_,p3,(fun J h=>by rw[hd]at h;cases h),_,rfl,rfl,rfl⟩;rw[hd];simp only[f123,eZ,kV T,Y,O,b6,t,l3,Option.isSome_none]
theorem Q7 (x:Bool)(a b c:AV)(f:isCell a=true)(hb:isCell b=true)(h:isCell c=true):jV [.bool x,a,b,c]=true:=by
 simp only[jV,f,hb,h];rfl
theorem wG.zero (k e:Nat)(A:H.h.get h=some (.cells [] v k p))(f:H.ok):wG k e H (.slice h 0 0 0) 0 []:= .inr ⟨by simp,h,v,p,rfl,f.lt A,A,rfl⟩
theorem zBl (b:Bool):aveq (.bool b) (.bool b)=true:=by cases b<;>rfl
theorem vP (l:List Str):jV (l.map S)=true:=by
 rw[wK];intro x a;obtain⟨s,_,rfl⟩:=qM.1 a;rfl
theorem uZ (l:List Ptr):jV (l.flatMap jX)=true:=by
 rw[wK];intro x a;obtain⟨p,_,hp⟩:=List.mem_flatMap.1 a;simp only[jX,zO,List.not_mem_nil,or_false]at hp;rcases hp with rfl | rfl | rfl<;>rfl
theorem Rw.blk {k n:Nat}{H:AH}{v:AV}{l:List AV}(h:Rw k H v n l){B:Nat}(a:Blk v B):B<H.next:=by
 obtain⟨_,⟨rfl,_⟩ | ⟨rfl,_⟩ | ⟨A,off,cc,c,e,sz,g,rfl,_,f,_⟩⟩:=h
 .exact(zOO.1 a).elim
 .obtain⟨_,_,_,h⟩:=a;cases h
 .rw[zOG.1 a];exact f
def zOR:=@Rw.blk
def kN (H:AH)(v:AV)(a:Nd.Node):Prop:= ∃ks vs f,v= .agg [.bool a.leaf,ks,vs,f]/\wG 1 9 H ks a.keys.length (a.keys.map S)/\wG 1 9 H vs a.vals.length (a.vals.map S)/\wG 3 42 H f a.kids.length (a.kids.flatMap jX)
theorem kN.node {a:Nd.Node}(h:kN H k a):fD H k a:=by
 obtain⟨ks,vs,f,e,i,j,m⟩:=h;exact⟨ks,vs,f,e,i.row,j.row,m.row⟩
theorem kN.prs {a:Nd.Node}(h:kN H k a)(s:Prs H w):kN w k a:=by
 obtain⟨ks,vs,f,e,i,j,m⟩:=h;exact⟨ks,vs,f,e,i.mono s (fun _ _ x=>x),j.mono s (fun _ _ x=>x),m.mono s (fun _ _ x=>x)⟩
theorem Own.st (e:Own h l H k t i)(m:H.ok)(j:0<h)(hi:C<t){x:AV}(a:(kF x).length=h)(o:jV (kF x)=true):
  ∃p H' l',(∀κ (z:Int),z=(C:Int)->gY h k (.int κ z)=some p)/\stN h p x H=some (jU,H')/\Own h l H' k t l'/\Stp (Blk k) H H':=by
 obtain⟨u,⟨_,rfl⟩ | ⟨A,rfl,f,q⟩⟩:=e
 .omega
 .have n:C*h+h<=t*h:=by rw[<-jO];exact yR _ hi
  have hb:Nat.blt C t=true:=by rw[qD];exact hi
  refine⟨.ptr A (0+C*h),_,_,fun κ z s=> ?_,JP q j a o (by omega),⟨?_, .inr ⟨A,rfl,f,by rw[zOF,if_pos rfl]⟩⟩,(zOJ m).put f _ (.inr (zOG.2 rfl))⟩
  .subst s;simp only[gY,kQ κ (show(0:Int)<=(C:Int)by omega),yI,hb,zU,kI]
  .simp only[zV,qC,qJ,a];omega
theorem zOn (x:Nat):Nat.ble 0 x=true:=by rw[qT];omega
theorem VV (e:wG h l H k t i)(n:0<h)(hi:C<=t)(κ x:IntKind):
  ∃r,vD h k none (some (.int κ (C:Nat))) (some (.int x (C:Nat))) H=some r/\Rw h H r C (i.take (C*h))/\(0<C->r≠ .nS/\r≠ .eS):=by
 have f:=kQ κ (z:=(C:Int)) (by omega);have j:=kQ x (z:=(C:Int)) (by omega);simp only[yI]at f j;have hb:Nat.blt 0 h=true:=by rw[qD];exact n
 have y:Nat.beq C 0=decide (C=0):=by rw[yL];simp
 have u:C*h<=t*h:=yR _ hi;have b1:Nat.ble C t=true:=by rw[qT];exact hi
 have b2:Nat.ble C C=true:=by rw[qT];exact zP _
 have G:Nat.ble 0 C=true:=by rw[qT];omega
 rcases e with⟨q,⟨rfl,rfl⟩ | ⟨A,rfl,p,a⟩⟩ | ⟨q,A,v,g,rfl,p,a,F⟩
 .obtain rfl:C=0:=by omega
  exact⟨.nS,by simp only[vD,kX,f,j];simp,⟨by simp, .inl ⟨rfl,rfl⟩⟩,fun e=>absurd e (by omega)⟩
 .have m:kS i true h 0 1 h=t:=by
   simp only[kS,show((1 % 2).beq 0)=false from rfl,yM,yO,show Nat.beq 0 (1 / 2*h)=true from by simp,qO,zU,kG,q,jF];exact Nat.mul_div_cancel _ n
  by_cases o:C=0
  .subst o;refine⟨.slice A 0 0 0, ?_,⟨by simp, .inr (.inr ⟨A,0,0,i,l,h,true,rfl,a,p,by simp,by simp⟩)⟩,fun e=>absurd e (by omega)⟩;simp only[vD,kX,f,j,a,hb,zU];simp[YQ,m,kI,zOn]
  .have s:Nat.beq C 0=false:=by rw[y];simpa using o
   refine⟨.slice A 0 C (2*C), ?_,⟨by rw[qC,q,Nat.min_eq_left u], .inr (.inr ⟨A,0,2*C,i,l,h,true,rfl,a,p,by omega,by simp⟩)⟩,fun _=>⟨by simp,by simp⟩⟩;simp only[vD,kX,f,j,a,hb,zU];simp[YQ,m,b1,b2,s,kI,zOn]
 .have m:kS i g h 0 (2*t) h=t:=by
   simp only[kS,show((2*t) % 2).beq 0=true by rw[jE];rfl,zU,yV t (show 0<2 by omega)]
  by_cases o:C=0
  .subst o;refine⟨.slice A 0 0 0, ?_,⟨by simp, .inr (.inr ⟨A,0,0,i,v,h,g,rfl,a,p,by simp,by simp⟩)⟩,fun e=>absurd e (by omega)⟩;simp only[vD,kX,f,j,a,hb,zU];simp[YQ,m,kI,zOn]
  .have s:Nat.beq C 0=false:=by rw[y];simpa using o
   refine⟨.slice A 0 C (2*C), ?_,⟨by rw[qC,q,Nat.min_eq_left u], .inr (.inr ⟨A,0,2*C,i,v,h,g,rfl,a,p,by omega,by simp⟩)⟩,fun _=>⟨by simp,by simp⟩⟩;simp only[vD,kX,f,j,a,hb,zU];simp[YQ,m,b1,b2,s,kI,zOn]
theorem QG (e:wG h l H k t i)(q:0<h)(hi:C<t)(κ:IntKind):
  ∃r,vD h k (some (.int κ (C:Nat))) none none H=some r/\Rw h H r (t - C) (i.drop (C*h))/\r≠ .nS/\r≠ .eS:=by
 have o:=kQ κ (z:=(C:Int)) (by omega);simp only[yI]at o;have hb:Nat.blt 0 h=true:=by rw[qD];exact q
 have F:C*h<=t*h:=yR _ (by omega);have m:(t - C)*h=t*h - C*h:=Nat.sub_mul _ _ _;have b1:Nat.ble t t=true:=by rw[qT];exact zP _
 have b2:Nat.ble C t=true:=by rw[qT];omega
 have y:Nat.blt C t=true:=by rw[qD];exact hi
 have n:Nat.beq t C=false:=by rw[yA];intro e;have:=Nat.eq_of_beq_eq_true e;omega
 rcases e with⟨a,⟨rfl,rfl⟩ | ⟨A,rfl,p,f⟩⟩ | ⟨a,A,v,g,rfl,p,f,G⟩
 .omega
 .have j:kS i true h 0 1 h=t:=by
   simp only[kS,show((1 % 2).beq 0)=false from rfl,yM,yO,show Nat.beq 0 (1 / 2*h)=true from by simp,qO,zU,kG,a,jF];exact Nat.mul_div_cancel _ q
  by_cases s:C=0
  .subst s;refine⟨.slice A 0 t 1, ?_,⟨by simp[a], .inr (.inr ⟨A,0,1,i,l,h,true,by simp,f,p,by simp[a],by rw[jF,Nat.zero_mul,yD,zZ (by omega)]⟩)⟩,by simp,by simp⟩;simp only[vD,kX,o,f,hb,zU];simp[YQ,j,b1,kI,zOn,show Nat.beq 1 0=false from rfl]
  .have u:Nat.beq C 0=false:=by rw[yA];intro e;exact s (Nat.eq_of_beq_eq_true e)
   refine⟨.slice A (0+C*h) (t - C) (1+2*C), ?_,⟨by simp[a,m], .inr (.inr ⟨A,0+C*h,1+2*C,i,l,h,true,rfl,f,p,by omega,by rw[j7,zZ (by simp[a,m])]⟩)⟩,by simp,by simp⟩;simp only[vD,kX,o,f,hb,zU];simp[YQ,j,b1,b2,y,u,kI,show Nat.beq 1 0=false from rfl]
 .have j:kS i g h 0 (2*t) h=t:=by
   simp only[kS,show((2*t) % 2).beq 0=true by rw[jE];rfl,zU,yV t (show 0<2 by omega)]
  have x:Nat.beq (2*t / 2) C=false:=by rw[yV t (show 0<2 by omega)];exact n
  refine⟨.slice A (0+C*h) (t - C) (2*(2*t / 2 - C)), ?_,⟨by simp[a,m], .inr (.inr ⟨A,0+C*h,2*(2*t / 2 - C),i,v,h,g,rfl,f,p,by omega,by rw[j7,zZ (by simp[a,m])]⟩)⟩,by simp,by simp⟩;simp only[vD,kX,o,f,hb,zU];simp[YQ,j,b1,b2,x,kI,n]
theorem KZ(j:H.ok){l:List Str}(h:Strs H k l)(s:k≠ .nS)(t:k≠ .eS)(hl:l.length<=1000000000):
  ∃a H',f108 D n [k] H=some (a,H')/\Prs H H'/\wG 1 9 H' a l.length (l.map S)/\ ∀B,Blk a B->H.next<=B:=by
 have f:Prs H (H.push (.cells [] 9 1 false)):=(zOJ j).push _;have m:(H.push (.cells [] 9 1 false)).h.get H.next=some (.cells [] 9 1 false):=zOB _ _
 have u:(H.push (.cells [] 9 1 false)).next=H.next+1:=rfl
 generalize o:H.push (.cells [] 9 1 false)=H1 at f m u;obtain⟨a,x,y,z,C,F⟩:=(wG.zero 1 9 m f.ok).app (bytes:=16) f.ok (by decide) (Rw.srcOf (h.prs f)) (by simp) (vP _) (by omega) (by decide);have p:Q0 9 1 0 [.str 0 0] []=some (.cells [] 9 1 false,fun A=> .slice A 0 0 0):=rfl;have q:gK .eql (eqS k .nS)=some (.bool false):=by
  obtain⟨_,⟨rfl,_⟩ | ⟨rfl,_⟩ | ⟨A,off,cc,c,e,sz,g,rfl,_⟩⟩:=h
  .exact absurd rfl s
  .exact absurd rfl t
  .rfl
 refine⟨a,x, ?_,f.fresh C (fun B i=>by rw[zOG.1 i];exact zP _),by simpa using z,fun B i=> ?_⟩
 .simp only[f108,eZ,q,p,kV j,o,y]
 .rcases F B i with h | h
  .rw[zOG.1 h];exact zP _
  .omega
theorem W0(m:H.ok){l:List Ptr}(h:bY H k l)(t:k≠ .nS)(u:k≠ .eS)(hl:l.length<=1000000000):
  ∃f H',f81 D n [k] H=some (f,H')/\Prs H H'/\wG 3 42 H' f l.length (l.flatMap jX)/\ ∀B,Blk f B->H.next<=B:=by
 have i:Prs H (H.push (.cells [] 42 3 false)):=(zOJ m).push _;have o:(H.push (.cells [] 42 3 false)).h.get H.next=some (.cells [] 42 3 false):=zOB _ _
 have x:(H.push (.cells [] 42 3 false)).next=H.next+1:=rfl
 generalize p:H.push (.cells [] 42 3 false)=H1 at i o x;obtain⟨f,y,z,C,F,G⟩:=(wG.zero 3 42 o i.ok).app (bytes:=24) i.ok (by decide) (Rw.srcOf (h.prs i)) h.1 (uZ _) (by omega) (by decide);have q: ∀a b c:AV,Q0 42 3 0 [a,b,c] []=some (.cells [] 42 3 false,fun A=> .slice A 0 0 0):=fun _ _ _=>rfl
 have s:gK .eql (eqS k .nS)=some (.bool false):=by
  obtain⟨_,⟨rfl,_⟩ | ⟨rfl,_⟩ | ⟨A,off,cc,c,e,sz,g,rfl,_⟩⟩:=h
  .exact absurd rfl t
  .exact absurd rfl u
  .rfl
 refine⟨f,y, ?_,i.fresh F (fun B j=>by rw[zOG.1 j];exact zP _),by simpa using C,fun B j=> ?_⟩
 .simp only[f81,eZ,s,q,kV m,p,z]
 .rcases G B j with h | h
  .rw[zOG.1 h];exact zP _
  .omega
open Go.Nd (cutOk)
def bW (a:Nd.Node):Prop:=2<=a.keys.length/\(a.leaf=true\/3<=a.keys.length)
def hbnd (a:Nd.Node)(k:Nat):Prop:=
 (k=1\/Nd.size (Nd.cutA a k)<=(Nd.size a - 2) / 2+2)/\(k+(if a.leaf then 1 else 2)=a.keys.length\/(Nd.size a - 2) / 2+2<Nd.size (Nd.cutA a (k+1)))
theorem JL (l:List Str){i:Nat}(h:i<l.length):sumL (l.take (i+1))=sumL (l.take i)+(1+(l[i]).length):=by
 rw[qQ h,Nd.sumL_append,Nd.sumL_cons];rfl
theorem size_leaf {a:Nd.Node}(hl:a.leaf=true)(f:a.vals.length=a.keys.length){i:Nat}(h:i<a.keys.length):Nd.size (Nd.cutA a (i+1))=Nd.size (Nd.cutA a i)+(1+(a.keys[i]).length)+(1+(a.vals[i]'(by omega)).length):=by
 simp only[Nd.cutA,hl,if_true,Nd.size,JL a.keys h,JL a.vals (i:=i) (by omega)];omega
theorem size_inner {a:Nd.Node}(hl:a.leaf=false)(f:a.kids.length=a.keys.length+1)(i:h<a.keys.length):Nd.size (Nd.cutA a (h+1))=Nd.size (Nd.cutA a h)+(1+(a.keys[h]).length)+16:=by
 simp only[Nd.cutA,hl,zM,qE,Nd.size,JL a.keys i,qC];omega
theorem VW (a:Nd.Node):2<=Nd.size a:=by simp only[Nd.size];omega
theorem zD0{a:Nd.Node}(S:Strs H k a.keys)(T:Strs H q a.vals)(o:a.leaf=true->a.vals.length=a.keys.length)(hp:a.leaf=false->a.kids.length=a.keys.length+1)(t:H.h.get h=some (.cells [.bool a.leaf,k,q,e] v 1 false))
  (f:Nat) (L:Nat) (hL:L<=a.keys.length) (hb:a.keys.length<=1000000000) (u:Nd.size a<=1000000000) (y:Nat) (U:L<y):
  Fin (kL y (ZQ D n) [.ptr h 0, .int .i64 (f:Nat), .int .i64 (L:Nat), .int .i64 (Nd.size (Nd.cutA a 0) - 2:Nat), .int .i64 (L:Nat), .int .i64 (0:Nat)] H) fun x H'=>H'=H/\((∃j:Nat,0<j/\j<L/\x= .ret (.int .i64 (j:Nat))/\(j=1\/Nd.size (Nd.cutA a j)<=f+2)/\f+2<Nd.size (Nd.cutA a (j+1)))\/(x= .exit 0 [.int .i64 (L:Nat)]/\(L<=1\/Nd.size (Nd.cutA a L)<=f+2))):=by
 refine Fin.loop (fun ks C H'=>H'=H/\ ∃(i:Nat),C=[.ptr h 0, .int .i64 (f:Nat), .int .i64 (L:Nat), .int .i64 (Nd.size (Nd.cutA a i) - 2:Nat), .int .i64 (L:Nat), .int .i64 (i:Nat)]/\i<=L/\ks=L - i/\(i<=1\/Nd.size (Nd.cutA a i)<=f+2)) ?_ y L _ H ⟨rfl,0,rfl,by omega,by omega, .inl (by omega)⟩ U
 rintro ks C H' ⟨rfl,i,rfl,hi,rfl,J⟩
 by_cases K:i<L
 .have m:i<a.keys.length:=by omega
  obtain⟨p,F,G⟩:=S.at m;have s:(i:Int)< (L:Int):=by omega
  have z2:=VW (Nd.cutA a i);have Z:=VW (Nd.cutA a (i+1));have z:Fin (dT D n [.ptr h 0, .int .i64 (f:Nat), .int .i64 (L:Nat), .int .i64 ((Nd.size (Nd.cutA a (i+1)) - 2:Nat):Int), .int .i64 (i:Nat), .int .i64 (L:Nat), .int .i64 (i:Nat)] H')
    (orN (fun M Q=> ∃k',k'<L - i/\Q=H'/\ ∃(i:Nat),M=[.ptr h 0, .int .i64 (f:Nat), .int .i64 (L:Nat), .int .i64 (Nd.size (Nd.cutA a i) - 2:Nat), .int .i64 (L:Nat), .int .i64 (i:Nat)]/\i<=L/\k'=L - i/\(i<=1\/Nd.size (Nd.cutA a i)<=f+2))
     (fun x Q=>Q=H'/\((∃j:Nat,0<j/\j<L/\x= .ret (.int .i64 (j:Nat))/\(j=1\/Nd.size (Nd.cutA a j)<=f+2)/\f+2<Nd.size (Nd.cutA a (j+1)))\/(x= .exit 0 [.int .i64 (L:Nat)]/\(L<=1\/Nd.size (Nd.cutA a L)<=f+2))))):=by
   by_cases I:0<i/\f<Nd.size (Nd.cutA a (i+1)) - 2
   .have c1:((0:Nat):Int)< (i:Int):=by omega
    have c2:(f:Int)< ((Nd.size (Nd.cutA a (i+1)) - 2:Nat):Int):=by omega
    have:dT D n [.ptr h 0, .int .i64 (f:Nat), .int .i64 (L:Nat), .int .i64 ((Nd.size (Nd.cutA a (i+1)) - 2:Nat):Int), .int .i64 (i:Nat), .int .i64 (L:Nat), .int .i64 (i:Nat)] H'=some (.ret (.int .i64 (i:Nat)),H'):=by
     simp(disch:=omega) only[dT,eZ,c1,c2]
    rw[this];exact⟨_,_,rfl,rfl, .inl ⟨i,I.1,K,rfl,by omega,by omega⟩⟩
   .have N:(decide (((0:Nat):Int)< (i:Int))&&decide ((f:Int)< ((Nd.size (Nd.cutA a (i+1)) - 2:Nat):Int)))=false:=by
     rw[yA];intro V;simp only[zF,zQ]at V;exact I ⟨by omega,by omega⟩
    have:dT D n [.ptr h 0, .int .i64 (f:Nat), .int .i64 (L:Nat), .int .i64 ((Nd.size (Nd.cutA a (i+1)) - 2:Nat):Int), .int .i64 (i:Nat), .int .i64 (L:Nat), .int .i64 (i:Nat)] H'=some (.norm [.ptr h 0, .int .i64 (f:Nat), .int .i64 (L:Nat), .int .i64 ((Nd.size (Nd.cutA a (i+1)) - 2:Nat):Int), .int .i64 (L:Nat), .int .i64 (i+1:Nat)],H'):=by
     simp(disch:=omega) only[dT,eZ,N,yH]
    rw[this];exact⟨_,_,rfl,L - (i+1),by omega,rfl,i+1,rfl,by omega,rfl,by omega⟩
  have a0:Nd.size (Nd.cutA a i)<=1000000002:=by
   have t1:=Nd.sumL_take_le a.keys i;have t2:=Nd.sumL_take_le a.vals i;have:Nd.size a=2+16*a.kids.length+sumL a.keys+sumL a.vals:=rfl;have W:sumL []=0:=rfl;simp only[Nd.cutA];split<;>simp only[Nd.size,yS,qC,W]<;>omega
  have a1:(a.keys[i]).length<=1000000000:=by
   have:=Nd.sumL_drop_le a.keys i;rw[qN m,Nd.sumL_cons]at this;have:Nd.size a=2+16*a.kids.length+sumL a.keys+sumL a.vals:=rfl;omega
  cases hl:a.leaf with
  | true=>
   rw[hl]at t;obtain⟨vs,q1,q2⟩:=T.at (i:=i) (by rw[o hl];exact m);have Y:=size_leaf hl (o hl) m;have a2:(a.vals[i]'(by rw[o hl];exact m)).length<=1000000000:=by
    have:=Nd.sumL_drop_le a.vals i;rw[qN (by rw[o hl];exact m),Nd.sumL_cons]at this;have:Nd.size a=2+16*a.kids.length+sumL a.keys+sumL a.vals:=rfl;omega
   have u:((Nd.size (Nd.cutA a (i+1)) - 2:Nat):Int)=((Nd.size (Nd.cutA a i) - 2:Nat):Int)+(((1:Nat):Int)+(((a.keys[i]).length:Nat):Int))+(((1:Nat):Int)+(((a.vals[i]'(by rw[o hl];exact m)).length:Nat):Int)):=by omega
   have:ZQ D n [.ptr h 0, .int .i64 (f:Nat), .int .i64 (L:Nat), .int .i64 (Nd.size (Nd.cutA a i) - 2:Nat), .int .i64 (L:Nat), .int .i64 (i:Nat)] H'=jn (some (.norm [.ptr h 0, .int .i64 (f:Nat), .int .i64 (L:Nat), .int .i64 ((Nd.size (Nd.cutA a (i+1)) - 2:Nat):Int), .int .i64 (i:Nat), .int .i64 (L:Nat), .int .i64 (i:Nat)],H')) (dT D n):=by
    rw[u];simp(disch:=omega) only[ZQ,eZ,s,jR t,F,G,q1,q2]
   rw[this,QT];exact z
  | false=>
   rw[hl]at t;have Y:=size_inner hl (hp hl) m;have u:((Nd.size (Nd.cutA a (i+1)) - 2:Nat):Int)=((Nd.size (Nd.cutA a i) - 2:Nat):Int)+(((1:Nat):Int)+(((a.keys[i]).length:Nat):Int))+((16:Nat):Int):=by omega
   have:ZQ D n [.ptr h 0, .int .i64 (f:Nat), .int .i64 (L:Nat), .int .i64 (Nd.size (Nd.cutA a i) - 2:Nat), .int .i64 (L:Nat), .int .i64 (i:Nat)] H'=jn (some (.norm [.ptr h 0, .int .i64 (f:Nat), .int .i64 (L:Nat), .int .i64 ((Nd.size (Nd.cutA a (i+1)) - 2:Nat):Int), .int .i64 (i:Nat), .int .i64 (L:Nat), .int .i64 (i:Nat)],H')) (dT D n):=by
    rw[u];simp(disch:=omega) only[ZQ,eZ,s,jR t,F,G]
   rw[this,QT];exact z
 .have s: ¬(i:Int)< (L:Int):=by omega
  have O:i=L:=by omega
  subst O;refine⟨.exit 0 [.int .i64 (i:Nat)],H', ?_,rfl, .inr ⟨rfl,J⟩⟩;simp only[ZQ,eZ,s]
theorem zG9(T:200000000<=n)(q:H.ok){a:Nd.Node}(h:fD H k a)(L:small a)(C:Nd.shaped ltS a=true)(U:bW a):
  ∃(v:Nat) (H':AH),f227 D n [k] H=some (.int .i64 (v:Nat),H')/\Prs H H'/\cutOk a v/\hbnd a v:=by
 have V:=h;obtain⟨ks,vs,F,rfl,o,M,h3⟩:=h;have Z:=Nd.sumL_ge a.keys;obtain⟨s1,s2,s3⟩:=id L;obtain⟨c1,c2⟩:=U;have N:a.leaf=true->a.vals.length=a.keys.length:=by
  intro hl;simp only[Nd.shaped,hl,if_true,zF,zQ]at C;exact C.2.1.1
 have hp:a.leaf=false->a.kids.length=a.keys.length+1:=by
  intro hl;simp only[Nd.shaped,hl,zM,qE,zF,zQ]at C;exact C.2.1.2
 have s:Prs H (H.push (.cells [.bool a.leaf,ks,vs,F] 119 1 false)):=(zOJ q).push _;have O:(H.push (.cells [.bool a.leaf,ks,vs,F] 119 1 false)).h.get H.next=some (.cells [.bool a.leaf,ks,vs,F] 119 1 false):=zOB _ _
 generalize m:H.push (.cells [.bool a.leaf,ks,vs,F] 119 1 false)=H1 at s O;obtain⟨z,W,p,rfl,Q⟩:=JR D n s.ok (V.prs s) L T;have f:=Q.get s.ok O;have P:Prs H W:=s.trans Q;have t:=zJs .i64 (((Nd.size a:Nat):Int) - ((2:Nat):Int)) ((2:Nat):Int) (by omega);have K:Nd.size a<=1000000000:=by simp only[Nd.size];omega
 have a0:=VW a;have S:IntKind.wrap .i64 ((((Nd.size a:Nat):Int) - ((2:Nat):Int)).tdiv ((2:Nat):Int))=(((Nd.size a - 2) / 2:Nat):Int):=by
  rw[show((Nd.size a:Nat):Int) - ((2:Nat):Int)=((Nd.size a - 2:Nat):Int)by omega,Int.tdiv_eq_ediv_of_nonneg (by omega)];rw[wrap_i64 (by omega) (by omega)];omega
 rw[S]at t
 cases hl:a.leaf with
 | true=>
  obtain⟨x,u,i,rfl,G⟩:=zD0 D n (o.prs P) (M.prs P) N hp f ((Nd.size a - 2) / 2) (a.keys.length - 1) (by omega) (by omega) K n (by omega);have hL:(a.keys.length:Int) - ((1:Nat):Int)=((a.keys.length - 1:Nat):Int):=by omega
  rw[hl]at f m p;rw[show Nd.size (Nd.cutA a 0) - 2=0 by simp[Nd.cutA,hl,Nd.size,sumL]]at i;rcases G with⟨j,I,Y,rfl,y,J⟩ | ⟨rfl,y⟩
  .refine⟨j,u, ?_,P,⟨I,by rw[hl];simp only[if_true];omega⟩,y, .inr J⟩;simp(disch:=omega) only[f227,eZ,kV q,m,aH,qA,hl,p,t,jR f,o.lnSl,hL,zAO,i]
  .refine⟨a.keys.length - 1,u, ?_,P,⟨by omega,by rw[hl];simp only[if_true];omega⟩,by omega, .inl (by rw[hl];simp only[if_true];omega)⟩;simp(disch:=omega) only[f227,eZ,kV q,m,aH,qA,hl,p,t,jR f,o.lnSl,hL,zAO,i,zDa]
 | false=>
  have c3:3<=a.keys.length:=by rcases c2 with h | h;rw[hl]at h;cases h;exact h
  obtain⟨x,u,i,rfl,G⟩:=zD0 D n (o.prs P) (M.prs P) N hp f ((Nd.size a - 2) / 2) (a.keys.length - 2) (by omega) (by omega) K n (by omega);have hL:(a.keys.length:Int) - ((1:Nat):Int) - ((1:Nat):Int)=((a.keys.length - 2:Nat):Int):=by omega
  rw[hl]at f m p;rw[show Nd.size (Nd.cutA a 0) - 2=16 by have a1:=hp hl;simp only[Nd.cutA,hl,zM,qE,Nd.size,List.take_zero,qC,j7,show sumL []=0 from rfl];omega]at i;rcases G with⟨j,I,Y,rfl,y,J⟩ | ⟨rfl,y⟩
  .refine⟨j,u, ?_,P,⟨I,by rw[hl];simp only[zM,qE];omega⟩,y, .inr J⟩;simp(disch:=omega) only[f227,eZ,kV q,m,aH,qA,hl,p,t,jR f,o.lnSl,hL,zAO,i]
  .refine⟨a.keys.length - 2,u, ?_,P,⟨by omega,by rw[hl];simp only[zM,qE];omega⟩,by omega, .inl (by rw[hl];simp only[zM,qE];omega)⟩;simp(disch:=omega) only[f227,eZ,kV q,m,aH,qA,hl,p,t,jR f,o.lnSl,hL,zAO,i,zDa]
open Go.Nd (cutA aU)
theorem uC (e:wG h l H k t i)(s:wG h l w k t E)(x:0<h)(lo hi n:Option AV):vD h k lo hi n w=vD h k lo hi n H:=by
 have q: ∀i:List AV,i.length=t*h->kS i true h 0 1 h=t:=fun i j=>by
  simp only[kS,show((1 % 2).beq 0)=false from rfl,yM,yO,show Nat.beq 0 (1 / 2*h)=true from by simp,qO,zU,kG,j,jF];exact Nat.mul_div_cancel _ x
 have u: ∀(i:List AV) (g:Bool),kS i g h 0 (2*t) h=t:=fun i g=>by
  simp only[kS,show((2*t) % 2).beq 0=true by rw[jE];rfl,zU,yV t (show 0<2 by omega)]
 rcases e with⟨j,⟨rfl,_⟩ | ⟨A,rfl,z,o⟩⟩ | ⟨j,A,G,g,rfl,z,o,F⟩
 .rfl
 .rcases s with⟨H',⟨a,_⟩ | ⟨p,a,m,f⟩⟩ | ⟨H',p,y,C,a,m,f,_⟩
  .cases a
  .simp only[AV.slice.injEq]at a;obtain⟨rfl,_⟩:=a;simp only[vD,o,f,q i j,q E H']
  .simp only[AV.slice.injEq]at a;omega
 .rcases s with⟨H',⟨a,_⟩ | ⟨p,a,m,f⟩⟩ | ⟨H',p,y,C,a,m,f,_⟩
  .cases a
  .simp only[AV.slice.injEq]at a;omega
  .simp only[AV.slice.injEq]at a;obtain⟨rfl,_⟩:=a;simp only[vD,o,f,u]
theorem xI (a:H.ok){o:Nat}{x:AV}(A:H.h.get h=some (.cells i v 1 false))(f:isCell x=true)(l:o<i.length):
  ∃H',stN 1 (.ptr h o) x H=some (jU,H')/\H'.h.get h=some (.cells (i.set o x) v 1 false)/\Stp (fun B=>B=h) H H'/\H'.next=H.next:=
 ⟨_,cU A (by decide) f l,by rw[zOF,if_pos rfl],(zOJ a).put (a.lt A) _ (.inr rfl),rfl⟩
theorem map_take (l:List Str)(k:Nat):(l.map S).take (k*1)=(l.take k).map S:=by simp
theorem map_drop (l:List Str)(k:Nat):(l.map S).drop (k*1)=(l.drop k).map S:=by simp
theorem KH: ∀(l:List Ptr) (k:Nat),(l.flatMap jX).take (k*3)=(l.take k).flatMap jX
 | _,0=>by simp
 | [],k+1=>by simp
 | p::l,k+1=>by
  have a:=KH l k;rw[show(k+1)*3=k*3+3 from by omega];show((jX p)++l.flatMap jX).take (k*3+3)=jX p++(l.take k).flatMap jX;rw[<-a];rfl
theorem KI: ∀(l:List Ptr) (k:Nat),(l.flatMap jX).drop (k*3)=(l.drop k).flatMap jX
 | _,0=>by simp
 | [],k+1=>by simp
 | p::l,k+1=>by
  have a:=KI l k;rw[show(k+1)*3=k*3+3 from by omega];show((jX p)++l.flatMap jX).drop (k*3+3)=(l.drop k).flatMap jX;rw[<-a];rfl
structure CutI (H0:AH)(A1 A2 A4:Nat)(H:AH)(l1 l2 l4:List AV):Prop where
 prs:Prs H0 H
 a1:H.h.get A1=some (.cells l1 119 1 false)
 a2:H.h.get A2=some (.cells l2 119 1 false)
 a4:H.h.get A4=some (.cells l4 119 1 false)
 o1:H0.next<=A1
 o2:A1<A2
 o4:A2<A4
theorem CutI.lt {H0 H:AH}{a f A4:Nat}{i j m:List AV}(h:CutI H0 a f A4 H i j m):A4<H.next:=h.prs.ok.lt h.a4
theorem CutI.step (H0:CutI H h l t w i E G)(s:Prs w I):CutI H h l t I i E G:=
 ⟨H0.prs.trans s,s.get H0.prs.ok H0.a1,s.get H0.prs.ok H0.a2,s.get H0.prs.ok H0.a4,H0.o1,H0.o2,H0.o4⟩
theorem CutI.st2 (H0:CutI H h l t w i E G){o:Nat}{x:AV}(p:isCell x=true)(q:o<E.length):
  ∃H',stN 1 (.ptr l o) x w=some (jU,H')/\CutI H h l t H' i (E.set o x) G/\Stp (fun B=>B=l) w H':=by
 obtain⟨H',e,g,s,n⟩:=xI H0.prs.ok H0.a2 p q;have:=H0.o1;have:=H0.o2;have:=H0.o4;have G:=H0.lt;exact⟨H',e,⟨H0.prs.fresh s (fun B j=>by omega),by rw[s.keep _ (by omega) (by omega)];exact H0.a1,g,by rw[s.keep _ G (by omega)];exact H0.a4,H0.o1,H0.o2,H0.o4⟩,s⟩
theorem CutI.st4 (H0:CutI H h l t w i E G){o:Nat}{x:AV}(p:isCell x=true)(q:o<G.length):
  ∃H',stN 1 (.ptr t o) x w=some (jU,H')/\CutI H h l t H' i E (G.set o x)/\Stp (fun B=>B=t) w H':=by
 obtain⟨H',e,g,s,n⟩:=xI H0.prs.ok H0.a4 p q;have:=H0.o1;have:=H0.o2;have:=H0.o4;have G:=H0.lt;exact⟨H',e,⟨H0.prs.fresh s (fun B f=>by omega),by rw[s.keep _ (by omega) (by omega)];exact H0.a1,by rw[s.keep _ (by omega) (by omega)];exact H0.a2,g,H0.o1,H0.o2,H0.o4⟩,s⟩
theorem CutI.all2 {l':List AV}(H0:CutI H h l t w i E G)(hl:l'.length=E.length)(o:jV l'=true):
  ∃H',stN E.length (.ptr l 0) (.agg l') w=some (jU,H')/\CutI H h l t H' i l' G/\Stp (fun B=>B=l) w H':=by
 obtain⟨H',e,g,s,n⟩:=kE H0.prs.ok H0.a2 hl o;have:=H0.o1;have:=H0.o2;have:=H0.o4;have G:=H0.lt;exact⟨H',e,⟨H0.prs.fresh s (fun B p=>by omega),by rw[s.keep _ (by omega) (by omega)];exact H0.a1,g,by rw[s.keep _ G (by omega)];exact H0.a4,H0.o1,H0.o2,H0.o4⟩,s⟩
theorem CutI.all4 {l':List AV}(H0:CutI H h l t w i E G)(hl:l'.length=G.length)(o:jV l'=true):
  ∃H',stN G.length (.ptr t 0) (.agg l') w=some (jU,H')/\CutI H h l t H' i E l'/\Stp (fun B=>B=t) w H':=by
 obtain⟨H',e,g,s,n⟩:=kE H0.prs.ok H0.a4 hl o;have:=H0.o1;have:=H0.o2;have:=H0.o4;have G:=H0.lt;exact⟨H',e,⟨H0.prs.fresh s (fun B p=>by omega),by rw[s.keep _ (by omega) (by omega)];exact H0.a1,by rw[s.keep _ (by omega) (by omega)];exact H0.a2,g,H0.o1,H0.o2,H0.o4⟩,s⟩
def vV (u:AV)(B:Nat):Prop:= ∃x ks vs a,u= .agg [x,ks,vs,a]/\(Blk ks B\/Blk vs B\/Blk a B)
theorem xB {a:AV} :vV (.agg [k,q,e,a]) h↔(Blk q h\/Blk e h\/Blk a h):=
 ⟨fun⟨_,_,_,_,x,ks⟩=>by simp only[AV.agg.injEq,y9,and_true]at x;obtain⟨rfl,rfl,rfl,rfl⟩:=x;exact ks,fun ks=>⟨_,_,_,_,rfl,ks⟩⟩
def vW (N:Nat)(H:AH)(v:AV)(a:Nd.Node):Prop:=kN H v a/\ ∀B,vV v B->N<=B
structure FrG (A k e:Nat)(H:AH)(v:AV)(n:Nat)(l:List AV):Prop where
 g:wG k e H v n l
 f: ∀B,Blk v B->A<B
theorem FrG.prs (A:FrG h l t H k C i)(s:Prs H w):FrG h l t w k C i:=⟨A.g.mono s (fun _ _ x=>x),A.f⟩
theorem FrG.stp {n:Nat}(A:FrG h t C H k n i)(s:Stp (fun B=>B=l) H w)(j:l<=h):FrG h t C w k n i:=
 ⟨A.g.mono s (fun B a C=>by have:=A.f B a;omega),A.f⟩
theorem zOr (l:Str):aveq (S l) (S l)=true:=by simp[S,aveq]
theorem FrG.nil (A k e:Nat)(H:AH):FrG A k e H .nS 0 []:=⟨.inl ⟨by simp, .inl ⟨rfl,rfl⟩⟩,fun B a=>(zOO.1 a).elim⟩
theorem FrG.isCell {A k e n:Nat}{H:AH}{v:AV}{l:List AV}(h:FrG A k e H v n l):isCell v=true:=h.g.isCell
theorem FrG.aveq {A k e n:Nat}{H:AH}{v:AV}{l:List AV}(h:FrG A k e H v n l):aveq v v=true:=kR h.g.row
structure FrN (A:Nat)(H:AH)(a b c:AV)(nd:Nd.Node):Prop where
 k:FrG A 1 9 H a nd.keys.length (nd.keys.map S)
 v:FrG A 1 9 H b nd.vals.length (nd.vals.map S)
 p:FrG A 3 42 H c nd.kids.length (nd.kids.flatMap jX)
theorem FrN.stp {A i:Nat}{H H':AH}{a b c:AV}{j:Nd.Node}(h:FrN A H a b c j)(s:Stp (fun B=>B=i) H H')(f:i<=A):FrN A H' a b c j:=⟨h.k.stp s f,h.v.stp s f,h.p.stp s f⟩
theorem FrN.fresh {c:AV}{i:Nd.Node}(A:FrN h H q e c i)(m:l<=h): ∀B,vV (.agg [k,q,e,c]) B->l<=B:=fun B j=>by
 rcases xB.1 j with N | N | N
 .have:=A.k.f B N;omega
 .have:=A.v.f B N;omega
 .have:=A.p.f B N;omega
theorem zH6{k2 v2 i k4 a f:AV}{keys:List Str}{s nb:Nd.Node}
  (H0:CutI H h l t w [.bool p,k,q,e] [.bool p,k2,v2,i] [.bool p,k4,a,f]) (o:Strs w k keys) (hR: ∀B,Blk k B->B<H.next) (z:C<keys.length) (j:FrN t w k2 v2 i s) (hb:FrN t w k4 a f nb):
  ∃H',zGp D n [.ptr h 0, .ptr l 0, .ptr t 0, .int .i64 (C:Nat)] w=some (.ret (.tuple [.agg [.bool p,k2,v2,i],S (keys.getD C []), .agg [.bool p,k4,a,f], .int .i64 (0:Nat)]),H')/\Prs H H'/\FrN t H' k2 v2 i s/\FrN t H' k4 a f nb:=by
 have Z:=H0.o1;have o2:=H0.o2;have o4:=H0.o4;obtain⟨A4,q1,q2⟩:=o.at z;obtain⟨m,Q,u,x⟩:=H0.all2 (l':=[.bool p,k2,v2,i]) rfl (Q7 _ _ _ _ j.k.isCell j.v.isCell j.p.isCell);have I:Strs m k keys:=Rw.stp o x (fun B T b=>by have:=hR B T;omega);obtain⟨U,K,L⟩:=I.at z;obtain rfl:A4=U:=by have:=q1 .i64 C rfl;rw[K .i64 C rfl]at this;cases this;rfl
 obtain⟨F,V,y,G⟩:=u.all4 (l':=[.bool p,k4,a,f]) rfl (Q7 _ _ _ _ hb.k.isCell hb.v.isCell hb.p.isCell);have M:stN 4 (.ptr l 0) (.agg [.bool p,k2,v2,i]) w=some (jU,m):=Q;have N:stN 4 (.ptr t 0) (.agg [.bool p,k4,a,f]) m=some (jU,F):=V;have J:aveq (.agg [.bool p,k4,a,f]) (.agg [.bool p,k4,a,f])=true:=by simp[Eng.aveq,Q6,hb.k.aveq,hb.v.aveq,hb.p.aveq]
 have W:keys.getD C []=keys[C]:=by rw[qG,zK z];rfl
 have Y:ldN 4 (.ptr t 0) m=some (.agg [.bool p,k4,a,f]):=by rw[jW u.a4];rfl
 refine⟨F, ?_,y.prs,(j.stp x (by omega)).stp G (by omega),(hb.stp x (by omega)).stp G (by omega)⟩;rw[W];simp(disch:=omega) only[zGp,eZ,jW H0.a2,jW H0.a4,jR H0.a1,q1,q2,M,N,kY (jR u.a1 1) (kR o),kY L (zOr _),kY Y J,jW y.a2,jW y.a4,aH,qA]
theorem zG7(q:H.ok){l:List Str}(v:wG 1 9 H k l.length (l.map S))(hl:l.length<=1000000000)(j:0<h)(hi:h<=l.length)(A:Nat)(y:A<H.next):
  ∃r a H',vD 1 k none (some (.int .i64 (h:Nat))) (some (.int .i64 (h:Nat))) H=some r/\f108 D n [r] H=some (a,H')/\Prs H H'/\FrG A 1 9 H' a (l.take h).length ((l.take h).map S):=by
 obtain⟨r,s,w,m⟩:=VV v (by decide) hi .i64 .i64;rw[map_take]at w;have o:(l.take h).length=h:=by rw[qC];omega
 have t:Strs H r (l.take h):=by rw[Strs,o];exact w
 obtain⟨a,H',u,p,g,f⟩:=KZ D n q t (m j).1 (m j).2 (by omega);exact⟨r,a,H',s,u,p,g,fun B x=>by have:=f B x;omega⟩
theorem zFV(m:H.ok){l:List Str}(v:wG 1 9 H k l.length (l.map S))(hl:l.length<=1000000000)(hi:h<l.length)(A:Nat)(y:A<H.next):
  ∃r a H',aveq r r=true/\vD 1 k (some (.int .i64 (h:Nat))) none none H=some r/\f108 D n [r] H=some (a,H')/\Prs H H'/\FrG A 1 9 H' a (l.drop h).length ((l.drop h).map S):=by
 obtain⟨r,o,w,q,s⟩:=QG v (by decide) hi .i64;rw[map_drop]at w;have j:(l.drop h).length=l.length - h:=by rw[qJ]
 have t:Strs H r (l.drop h):=by rw[Strs,j];exact w
 obtain⟨a,H',u,p,g,f⟩:=KZ D n m t q s (by omega);exact⟨r,a,H',kR w,o,u,p,g,fun B x=>by have:=f B x;omega⟩
theorem zNO(q:H.ok){l:List Ptr}(v:wG 3 42 H k l.length (l.flatMap jX))(hl:l.length<=1000000000)(j:0<h)(hi:h<=l.length)(A:Nat)(y:A<H.next):
  ∃r a H',vD 3 k none (some (.int .i64 (h:Nat))) (some (.int .i64 (h:Nat))) H=some r/\f81 D n [r] H=some (a,H')/\Prs H H'/\FrG A 3 42 H' a (l.take h).length ((l.take h).flatMap jX):=by
 obtain⟨r,s,w,m⟩:=VV v (by decide) hi .i64 .i64;rw[KH]at w;have o:(l.take h).length=h:=by rw[qC];omega
 have t:bY H r (l.take h):=by rw[bY,o];exact w
 obtain⟨a,H',u,p,g,f⟩:=W0 D n q t (m j).1 (m j).2 (by omega);exact⟨r,a,H',s,u,p,g,fun B x=>by have:=f B x;omega⟩
theorem zNz(m:H.ok){l:List Ptr}(v:wG 3 42 H k l.length (l.flatMap jX))(hl:l.length<=1000000000)(hi:h<l.length)(A:Nat)(y:A<H.next):
  ∃r a H',aveq r r=true/\vD 3 k (some (.int .i64 (h:Nat))) none none H=some r/\f81 D n [r] H=some (a,H')/\Prs H H'/\FrG A 3 42 H' a (l.drop h).length ((l.drop h).flatMap jX):=by
 obtain⟨r,o,w,q,s⟩:=QG v (by decide) hi .i64;rw[KI]at w;have j:(l.drop h).length=l.length - h:=by rw[qJ]
 have t:bY H r (l.drop h):=by rw[bY,j];exact w
 obtain⟨a,H',u,p,g,f⟩:=W0 D n m t q s (by omega);exact⟨r,a,H',kR w,o,u,p,g,fun B x=>by have:=f B x;omega⟩
theorem zCb(N:200000000<=n)(z:H.ok){ks:Nd.Node}(hb:ks.leaf=p)(h:fD H (.agg [.bool p,k,q,e]) ks)(O:small ks):
  ∃a i j s t u A4,(∀K,bA (some (AObj.cells [.bool p,k,q,e] 119 1 false,fun A=>AV.ptr A 0)) H K=K (.ptr t 0) a)/\(∀K,bA (some (AObj.cells [.bool false, .nS, .nS, .nS] 119 1 false,fun A=>AV.ptr A 0)) a K=K (.ptr u 0) i)/\
   (∀K,bA (some (AObj.cells [.bool false, .nS, .nS, .nS] 119 1 false,fun A=>AV.ptr A 0)) i K=K (.ptr A4 0) j)/\f109 D n [.agg [.bool p,k,q,e]] j=some (.bool (Nd.shaped ltS ks),s)/\
   CutI H t u A4 j [.bool p,k,q,e] [.bool false, .nS, .nS, .nS] [.bool false, .nS, .nS, .nS]/\CutI H t u A4 s [.bool p,k,q,e] [.bool false, .nS, .nS, .nS] [.bool false, .nS, .nS, .nS]:=by
 have o:Prs H (H.push (.cells [.bool p,k,q,e] 119 1 false)):=(zOJ z).push _;have C:(H.push (.cells [.bool p,k,q,e] 119 1 false)).h.get H.next=some (.cells [.bool p,k,q,e] 119 1 false):=zOB _ _
 have Q:(H.push (.cells [.bool p,k,q,e] 119 1 false)).next=H.next+1:=rfl
 generalize J:H.push (.cells [.bool p,k,q,e] 119 1 false)=a at o C Q;have m:Prs a (a.push (.cells [.bool false, .nS, .nS, .nS] 119 1 false)):=(zOJ o.ok).push _;have F:(a.push (.cells [.bool false, .nS, .nS, .nS] 119 1 false)).h.get a.next=some (.cells [.bool false, .nS, .nS, .nS] 119 1 false):=zOB _ _
 have S:(a.push (.cells [.bool false, .nS, .nS, .nS] 119 1 false)).next=a.next+1:=rfl
 have v:=m.get o.ok C;generalize L:a.push (.cells [.bool false, .nS, .nS, .nS] 119 1 false)=i at m F S v;have b:Prs i (i.push (.cells [.bool false, .nS, .nS, .nS] 119 1 false)):=(zOJ m.ok).push _;have G:(i.push (.cells [.bool false, .nS, .nS, .nS] 119 1 false)).h.get i.next=some (.cells [.bool false, .nS, .nS, .nS] 119 1 false):=zOB _ _
 have x:=b.get m.ok v;have y:=b.get m.ok F;generalize M:i.push (.cells [.bool false, .nS, .nS, .nS] 119 1 false)=j at b G x y;have I:Prs H j:=(o.trans m).trans b;obtain⟨s,T,U⟩:=bE D n b.ok (h.prs I) O N;have c3:CutI H H.next a.next i.next j [.bool p,k,q,e] [.bool false, .nS, .nS, .nS] [.bool false, .nS, .nS, .nS]:=⟨I,x,y,G,by omega,by omega,by omega⟩
 refine⟨a,i,j,s,H.next,a.next,i.next,fun K=> ?_,fun K=> ?_,fun K=> ?_,T,c3,c3.step U⟩
 .simp only[eZ,kV z,J]
 .simp only[eZ,kV o.ok,L]
 .simp only[eZ,kV m.ok,M]
theorem zMm(O:200000000<=n)(hk:H.ok){a:Nd.Node}(h:kN H k a)(I:small a)(y:Nd.shaped ltS a=true)(Q:bW a)(hl:a.leaf=true):
  ∃v T U H',f213 D n [k] H=some (.tuple [T,S (a.keys.getD v []),U, .int .i64 (0:Nat)],H')/\Prs H H'/\vW H.next H' T (cutA a v)/\vW H.next H' U (aU a v)/\cutOk a v/\hbnd a v:=by
 have J:=h.node;obtain⟨ks,vs,ps,rfl,K,V,h3⟩:=h;rw[hl]at J;have c7:=Nd.sumL_ge a.keys;have c9:a.vals.length=a.keys.length:=by
  simp only[Nd.shaped,hl,if_true,zF,zQ]at y;exact y.2.1.1
 obtain⟨s1,s2,s3⟩:=id I;obtain⟨c1,c2⟩:=id Q;obtain⟨H1,H2,H3,H4,A1,A2,A4,b1,b2,b3,e4,i3,s⟩:=zCb D n O hk hl J I;obtain⟨v,H5,e5,p5,⟨k1,k2⟩,kb⟩:=zG9 D n O s.prs.ok (J.prs s.prs) I y Q;simp only[hl,if_true]at k2;have W:=s.step p5;obtain⟨H6,e6,Y,t6⟩:=W.st2 (o:=0) (x:= .bool true) rfl (by simp);obtain⟨H7,e7,t,t7⟩:=Y.st4 (o:=0) (x:= .bool true) rfl (by simp);have m {H':AH} (p:Prs H H'):=K.mono p (fun _ _ x=>x);have m2 {H':AH} (p:Prs H H'):=V.mono p (fun _ _ x=>x);obtain⟨r8,k8,H8,c8,e8,p8,Z⟩:=zG7 D n t.prs.ok (m t.prs) (by omega) k1 (by omega) A4 t.lt;have i8:=t.step p8;obtain⟨H9,e9,u,t9⟩:=i8.st2 (o:=1) (x:=k8) Z.isCell (by simp);have f9:=Z.stp t9 (by have:=i8.o4;omega);obtain⟨d0,k10,d1,_,a2,a3,L,M⟩:=zFV D n u.prs.ok (m u.prs) (by omega) (show v< _ by omega) A4 u.lt;have a4:=u.step L;obtain⟨a5,a6,f,t11⟩:=a4.st4 (o:=1) (x:=k10) M.isCell (by simp);have a7:=M.stp t11 (by omega);obtain⟨d2,k12,d3,a8,a9,G,N⟩:=zG7 D n f.prs.ok (m2 f.prs) (by omega) k1 (by omega) A4 f.lt;have i:=f.step G;obtain⟨b0,k13,d4,b4,c13,b5,z,f13⟩:=zFV D n i.prs.ok (m2 i.prs) (by omega) (show v< _ by omega) A4 i.lt;have a0:vD 1 vs (some (.int .i64 (v:Nat))) none none a5=some b0:=by rw[uC (m2 i.prs) (m2 f.prs) (by decide)];exact c13
 have b6:=i.step z;obtain⟨d5,b7,b8,t14⟩:=b6.st2 (o:=2) (x:=k12) N.isCell (by simp);obtain⟨j,b9,q,t15⟩:=b8.st4 (o:=2) (x:=k13) f13.isCell (by simp);have o4:=q.o4;have h24:=q.o1;have d6:=q.o2;have F8:FrG A4 1 9 j k8 _ _:=(((((f9.prs L).stp t11 (by omega)).prs G).prs z).stp t14 (by omega)).stp t15 (by omega);have c0:FrG A4 1 9 j k10 _ _:=(((a7.prs G).prs z).stp t14 (by omega)).stp t15 (by omega);have c3:FrG A4 1 9 j k12 _ _:=((N.prs z).stp t14 (by omega)).stp t15 (by omega);have c4:FrG A4 1 9 j k13 _ _:=(f13.stp t14 (by omega)).stp t15 (by omega);have na:FrN A4 j k8 k12 .nS (cutA a v):=by
  simp only[cutA,hl,if_true];exact⟨F8,c3,FrG.nil ..⟩
 have nb:FrN A4 j k10 k13 .nS (aU a v):=by
  simp only[aU,hl,if_true];exact⟨c0,c4,FrG.nil ..⟩
 obtain⟨c5,c6,P,C,F⟩:=zH6 D n q ((m q.prs).row) (fun B hB=>K.lt hB) (show v<a.keys.length by omega) na nb;refine⟨v, .agg [.bool true,k8,k12, .nS], .agg [.bool true,k10,k13, .nS],c5, ?_,P, ?_, ?_,⟨k1,by rw[hl];simp only[if_true];omega⟩,kb⟩
 .have t2: ¬(a.keys.length:Int)< ((2:Nat):Int):=by omega
  simp(maxSteps:=999999)(disch:=omega) only[f213,eZ,hl,b1,b2,b3,jW i3.a1,jW s.a1,aH,qA,e4,y,jR s.a1,K.row.lnSl,t2,e5,jR W.a1,e6,kY (jR Y.a1 0) (zBl _),e7,jR t.a1,c8,e8,e9,jR u.a1,a2,a3,a6,jR f.a1,a8,a0,a9,kY (jR i.a1 2) (kR V.row),kY c13 b4,b5,b7,b9,c6]
 .exact⟨⟨k8,k12, .nS,by simp only[cutA,hl,if_true],C.k.g,C.v.g,C.p.g⟩,C.fresh (by omega)⟩
 .exact⟨⟨k10,k13, .nS,by simp only[aU,hl,if_true],F.k.g,F.v.g,F.p.g⟩,F.fresh (by omega)⟩
end Go.Eng.Sh
end



