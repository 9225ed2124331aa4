/- Part 4: no condition. -/
import Derived.Test.YtaaflpnhdkoaeaaGreatO3
import Derived.Test.YtaaflpnhdkoaeaaGreatProg
import Derived.KernelRfl
set_option linter.all false
set_option maxHeartbeats 8000000
set_option maxRecDepth 20000
variable (D:Go.Eng.Dyn)(n:Nat){H v I:Go.Eng.AH}{h p t C:Nat}{k q e:Go.Eng.AV}{i:Go.Eng.Dyn}{A E G:List Go.Eng.AV}{w:Go.TypeId}{l s:Bool}{B:Nat->Prop}{F:Type}{J:List Go.Eng.AV->Go.Eng.AH->Go.Eng.Rs}
noncomputable section
namespace Go.Eng.Sh
open Go.Proofs
set_option maxRecDepth 100000
variable (D:Dyn)(n:Nat)
attribute [local irreducible] bV bR hd cnd jn jb kJ wnt chk VN bA wU d7 K5 dS eqP eqS eqM eqF eqA zPo ldN ld1 stN cvI zPs zF3 zMY VS vN xJ fQ dV XG zC1 zFT fd1 fdN fAd XC lnSl QR apP apZ cpy vJ zLz pk3 s2a bxV dW zHV lkM upM dlM mkM callV nl dG tld zMU uR KH fT zEE rfC mn2 mx2 aun jN uW jQ isW aveq bO
def h138:Hint:=(.s .o (.s .o (.s .o (.s Hq (.s .o (.s Hq (.s (.s .o (.cl (.s .o (.s .o (.s (.b [8,255] .o) Hr))) .o)) (.s .o (.s (.s .o (.cl (.s (.b [8,255] .o) (.s .o Hr)) .o)) (.s .o (.s .o Hr)))))))))))
@[irreducible]def f138:=(.mk:FY (t53 D n) D n 138 Tryz.f138 h138 []).1
def zIH (a:DG i)(n:Nat):FI 138 (f138 i n):=fk n (ms h138) a (k53 a n) Tryz.func138
def t54:=ad (t53 D n) 138 (f138 D n)
def k54:KO t54:=kc k53 zIH
def zPi (D:Dyn)(n:Nat)(vs:List AV)(H:AH):Option (AV×AH):=zOf (f138 D n) vs H
def zO4 (a:DG i)(n:Nat):FI 138 (zPi i n):=zOe (by kernel_rfl) (zIH a n)
def t55:=ad (t54 D n) 138 (zPi D n)
def k55:KO t55:=kc k54 zO4
attribute [local irreducible] zPi
def h89:Hint:=(.s .o (.s Hq (.s (.c [2,3,5,31,8,255] (.l [0,1,3,4,7,2,5,6,8] .o) .o) (.s .o (.s (.s .o (.cl (.s .o Hr) .o)) (.s .o (.s .o Hr)))))))
@[irreducible]def f89:=(.mk:FY (t55 D n) D n 89 Tryz.f89 h89 []).1
def t56:=ad (t55 D n) 89 (f89 D n)
def k56:KO t56:=kk k55 (ms h89) Tryz.func89
def h88:Hint:=(.s .o Hr)
@[irreducible]def f88:=(.mk:FY (t56 D n) D n 88 Tryz.f88 h88 []).1
def t57:=ad (t56 D n) 88 (f88 D n)
def k57:KO t57:=kk k56 (ms h88) Tryz.func88
def h38:Hint:=(.s .o (.s Hq (.s Hq Hr)))
@[irreducible]def f38:=(.mk:FY (t57 D n) D n 38 Tryz.f38 h38 []).1
def t58:=ad (t57 D n) 38 (f38 D n)
def k58:KO t58:=kk k57 (ms h38) Tryz.func38
def h69:Hint:=(.s .o (.s .o (.s (.s .o (.b [2,5] (.l [1,0,1,5,6] (.s (.s .o (.cr .o .o)) (.s (.b0 (.s .o (.c [0,0,1,5,6] .o .o))) .o))))) Hr)))
@[irreducible]def zIu:=(.mk:PY (t58 D n) D n 69 Tryz.f69 h69 [] 0).1
@[irreducible]def zDz:=(.mk:PY (t58 D n) D n 69 Tryz.f69 h69 [zIu D n] 1).1
@[irreducible]def zQy:=(.mk:PY (t58 D n) D n 69 Tryz.f69 h69 [zIu D n,zDz D n] 2).1
@[irreducible]def f69:=(.mk:FY (t58 D n) D n 69 Tryz.f69 h69 [zIu D n,zDz D n,zQy D n]).1
def t59:=ad (t58 D n) 69 (f69 D n)
def k59:KO t59:=kk k58 (ms h69) Tryz.func69
def h68:Hint:=(.s .o (.s .o (.s .o (.s (.b [1,0,1,2,7] (.l [0,0,1,2,7] (.s (.s .o (.cr .o .o)) (.b0 .o)))) (.s .o (.s .o Hr))))))
@[irreducible]def zG0:=(.mk:PY (t59 D n) D n 68 Tryz.f68 h68 [] 0).1
@[irreducible]def zQz:=(.mk:PY (t59 D n) D n 68 Tryz.f68 h68 [zG0 D n] 1).1
@[irreducible]def f68:=(.mk:FY (t59 D n) D n 68 Tryz.f68 h68 [zG0 D n,zQz D n]).1
def t60:=ad (t59 D n) 68 (f68 D n)
def k60:KO t60:=kk k59 (ms h68) Tryz.func68
def h84:Hint:=(.s .o (.s Hq (.s .o (.s Hq (.s (.c [11,2047,23,8388607,25,33554431] (.l [0,1,2,3,4,5,6,7,8,9,10,12,13,14,15,16,17,18,19,20,21,22,11,23,24,25,26] .o) .o) .o)))))
@[irreducible]def f84:=(.mk:FY (t60 D n) D n 84 Tryz.f84 h84 []).1
def t61:=ad (t60 D n) 84 (f84 D n)
def k61:KO t61:=kk k60 (ms h84) Tryz.func84
def h83:Hint:=(.s .o Hr)
@[irreducible]def f83:=(.mk:FY (t61 D n) D n 83 Tryz.f83 h83 []).1
def t62:=ad (t61 D n) 83 (f83 D n)
def k62:KO t62:=kk k61 (ms h83) Tryz.func83
def h29:Hint:=(.s .o (.s Hq (.s Hq Hr)))
@[irreducible]def f29:=(.mk:FY (t62 D n) D n 29 Tryz.f29 h29 []).1
def t63:=ad (t62 D n) 29 (f29 D n)
def k63:KO t63:=kk k62 (ms h29) Tryz.func29
def h111:Hint:=(.s .o Hr)
@[irreducible]def f111:=(.mk:FY (t63 D n) D n 111 Tryz.f111 h111 []).1
def t64:=ad (t63 D n) 111 (f111 D n)
def k64:KO t64:=kk k63 (ms h111) Tryz.func111
def h23:Hint:=(.s .o (.s Hq Hr))
@[irreducible]def f23:=(.mk:FY (t64 D n) D n 23 Tryz.f23 h23 []).1
def t65:=ad (t64 D n) 23 (f23 D n)
def k65:KO t65:=kk k64 (ms h23) Tryz.func23
def h193:Hint:=Hr
@[irreducible]def f193:=(.mk:FY (t65 D n) D n 193 Tryz.f193 h193 []).1
def t66:=ad (t65 D n) 193 (f193 D n)
def k66:KO t66:=kk k65 (ms h193) Tryz.func193
def h194:Hint:=(.s .o (.s .o (.s (.s .o (.c [0,2,4] .o .o)) .o)))
@[irreducible]def zMG:=(.mk:PY (t66 D n) D n 194 Tryz.f194 h194 [] 0).1
@[irreducible]def f194:=(.mk:FY (t66 D n) D n 194 Tryz.f194 h194 [zMG D n]).1
def t67:=ad (t66 D n) 194 (f194 D n)
def k67:KO t67:=kk k66 (ms h194) Tryz.func194
def zPR:Tb:=⟨X,[(109,f109 D n),(110,f110 D n)]⟩
def zPl:Hint:=(.s .o (.s Hq (.s Hq (.s .o (.s .o (.s .o (.s .o (.s (.s .o (.c [3,1,4,5,6,7] .o .o)) (.s (.s .o (.b [2,4,5] (.l [1,1,4,5,6,7,38,39,40] (.s .o (.s (.cr .o .o) (.s (.b0 (.s .o (.s .o (.s .o (.c [0,1,4,5,6,7,38,39,40] .o .o))))) .o)))))) (.s (.s .o (.cl (.s (.b [] .o) .o) .o)) Hr))))))))))
@[irreducible]def BD:=(.mk:PY (zPR D n) D n 149 Tryz.f149 zPl [] 0).1
@[irreducible]def cS:=(.mk:PY (zPR D n) D n 149 Tryz.f149 zPl [BD D n] 1).1
@[irreducible]def zES:=(.mk:PY (zPR D n) D n 149 Tryz.f149 zPl [BD D n,cS D n] 2).1
@[irreducible]def zIG:=(.mk:PY (zPR D n) D n 149 Tryz.f149 zPl [BD D n,cS D n,zES D n] 3).1
@[irreducible]def f149:=(.mk:FY (zPR D n) D n 149 Tryz.f149 zPl [BD D n,cS D n,zES D n,zIG D n]).1
def zOy (a:DG i)(n:Nat):FI 149 (f149 i n):=fk n (ms zPl) a (sc (zIS a n) (sc (zIR a n) sn)) Tryz.func149
def t68:=ad (t67 D n) 149 (f149 D n)
def k68:KO t68:=kc k67 zOy
def h207:Hint:=(.s (.s (.b [] .o) (.cl .o .o)) (.s .o (.b [1] (.l [0,0,1,2,5] (.s (.s .o (.cr .o .o)) (.s (.b0 (.s (.b [11,2047] .o) (.cl .o .o))) .o))))))
@[irreducible]def JL:=(.mk:PY ⟨X,[]⟩ D n 207 Tryz.f207 h207 [] 0).1
@[irreducible]def zMF:=(.mk:PY ⟨X,[]⟩ D n 207 Tryz.f207 h207 [JL D n] 1).1
@[irreducible]def f207:=(.mk:FY ⟨X,[]⟩ D n 207 Tryz.f207 h207 [JL D n,zMF D n]).1
def zOt (a:DG i)(n:Nat):FI 207 (f207 i n):=fk n (ms h207) a sn Tryz.func207
def t69:=ad (t68 D n) 207 (f207 D n)
def k69:KO t69:=kc k68 zOt
def h168:Hint:=(.s .o Hr)
@[irreducible]def f168:=(.mk:FY (t69 D n) D n 168 Tryz.f168 h168 []).1
def zDB (a:DG i)(n:Nat):FI 168 (f168 i n):=fk n (ms h168) a (k69 a n) Tryz.func168
def t70:=ad (t69 D n) 168 (f168 D n)
def k70:KO t70:=kc k69 zDB
def zPQ:Tb:=⟨X,[(168,f168 D n),(86,f86 D n)]⟩
def h195:Hint:=(.s .o (.s Hq (.s (.s .o (.b [1,2,3] (.l [0,1,2,3,13,14] (.s .o (.s (.cr .o .o) (.s (.b0 (.s .o (.s .o (.b0 (.rf 0 [1,2,3]))))) .o)))))) Hr)))
@[irreducible]def JM:=(.mk:PY (zPQ D n) D n 195 Tryz.f195 h195 [] 0).1
@[irreducible]def zQI:=(.mk:PY (zPQ D n) D n 195 Tryz.f195 h195 [JM D n] 1).1
@[irreducible]def f195:=(.mk:FY (zPQ D n) D n 195 Tryz.f195 h195 [JM D n,zQI D n]).1
def zOu (a:DG i)(n:Nat):FI 195 (f195 i n):=fk n (ms h195) a (sc (zDB a n) (sc (zIt a n) sn)) Tryz.func195
def t71:=ad (t70 D n) 195 (f195 D n)
def k71:KO t71:=kc k70 zOu
def zHo:Hint:= .o
def zHn:Hint:=(.b0 (.s .o (.s .o (.s .o .o))))
@[irreducible]def UG:=(.mk:RY (zPQ D n) D n 195 0 [1,2,3] [0] zHo zHn []).1
theorem zHq (D:Dyn)(n:Nat):UG D n=zJX (zPQ D n) D n 195 0 [1,2,3] [0] (ms zHo) (ms zHn):=by kernel_rfl
def zHp (a:DG i)(n:Nat):RS 195 0 (UG i n):=fW X_ok a (sc (zDB a n) (sc (zIt a n) sn)) (by kernel_rfl) (zHq i n)
def h75:Hint:=(.s .o (.s Hq (.s .o (.s Hq (.s .o Hr)))))
@[irreducible]def f75:=(.mk:FY (t71 D n) D n 75 Tryz.f75 h75 []).1
def t72:=ad (t71 D n) 75 (f75 D n)
def k72:KO t72:=kk k71 (ms h75) Tryz.func75
def s26:Tb:=⟨X,[(74,f74 D n),(75,f75 D n)]⟩
@[irreducible]def f26 (D:Dyn)(n:Nat)(vs:List AV)(H:AH):Option (AV×AH):=
 dG (hd vs fun a vs=>hd vs fun f vs=>hd vs fun x2 vs=>nl vs <|
 bA (bxV 55 x2) H fun x5 H=>
 bR (f74 D n [a,f] H) fun h H=>
 bV (wU .neq h (.int .i64 (.ofNat 0))) fun m=>
 cnd m (bV (some h) fun x6=>some (.ret x6,H))
 (bV (uW a) fun o=>
 bV (fAd 3 o) fun p=>
 bV (ld1 p H) fun q=>
 bV (uW a) fun t=>
 bV (fAd 2 t) fun u=>
 bV (ld1 u H) fun x=>
 bV (lnSl x) fun y=>
 bR (upM [6] q f y H) fun a1 H=>
 bV (uW a) fun z=>
 bV (fAd 2 z) fun C=>
 bV (ld1 C H) fun J=>
 bV (ldN 512 x5 H) fun K=>
 bV (vJ [(0,1),(1,512)] ([(.int .i64 (.ofNat 0))]++rep 512 [(.int .u8 (.ofNat 0))]) [(0,f),(1,K)]) fun N=>
 bA (dW 153 513 1 ([(.int .i64 (.ofNat 0))]++rep 512 [(.int .u8 (.ofNat 0))]) [(0,N)]) H fun O H=>
 bR (apP 153 513 520 J O H) fun S H=>
 bV (uW a) fun T=>
 bV (fAd 2 T) fun Y=>
 bR (stN 1 Y S H) fun a0 H=>
 bR (f75 D n [a] H) fun Z H=>
 bV (some Z) fun j=>some (.ret j,H)))
def h26:Hint:=(.s .o (.s (.s .o Hq) (.s .o (.s .o Hr))))
def t73:=ad (t72 D n) 26 (f26 D n)
def k73:KO t73:=kk k72 h26 Tryz.func26
def h196:Hint:=(.s .o (.s .o (.s Hq (.s Hq Hr))))
@[irreducible]def f196:=(.mk:FY (t73 D n) D n 196 Tryz.f196 h196 []).1
def t74:=ad (t73 D n) 196 (f196 D n)
def k74:KO t74:=kk k73 (ms h196) Tryz.func196
def s151:Tb:=⟨X,[(195,f195 D n),(26,f26 D n),(196,f196 D n)]⟩
@[irreducible]def zQJ (D:Dyn)(n:Nat)(vs:List AV)(H:AH):Option (AV×AH):=
 dG (hd vs fun a vs=>hd vs fun x1 vs=>nl vs <|
 bA (bxV 55 x1) H fun h H=>
 bA (bxV 42 (.agg [(.int .i64 (.ofNat 0)),(.int .i64 (.ofNat 0)),(.int .u64 (.ofNat 0))])) H fun x4 H=>
 bV (uW a) fun z=>
 bV (fAd 1 z) fun C=>
 bV (ld1 C H) fun J=>
 bR (f195 D n [J] H) fun j H=>
 bV (jN j 0) fun f=>
 bV (jN j 1) fun m=>
 bV (wU .neq m (.int .i64 (.ofNat 0))) fun K=>
 cnd K (bV (vJ [(0,1),(1,1),(2,1)] [(.int .i64 (.ofNat 0)),(.int .i64 (.ofNat 0)),(.int .u64 (.ofNat 0))] []) fun N=>
 bR (stN 3 x4 N H) fun c7 H=>
 bV (ldN 3 x4 H) fun u=>bV (some m) fun x5=>some (.ret (.tuple [u,x5]),H))
 (bV (uW a) fun O=>
 bV (fAd 4 O) fun S=>
 bV (ld1 S H) fun T=>
 bA (dW 3 1 1 [(.int .i64 (.ofNat 0))] [(0,f)]) H fun Y H=>
 bR (apP 3 1 8 T Y H) fun Z H=>
 bV (uW a) fun a0=>
 bV (fAd 4 a0) fun a1=>
 bR (stN 1 a1 Z H) fun c3 H=>
 bV (uW a) fun a2=>
 bV (fAd 0 a2) fun a3=>
 bV (ld1 a3 H) fun a4=>
 bV (uW a4) fun a5=>
 bV (fAd 0 a5) fun a6=>
 bV (ld1 a6 H) fun a7=>
 bV (ldN 512 h H) fun a8=>
 bR (f26 D n [a7,f,a8] H) fun o H=>
 bV (wU .neq o (.int .i64 (.ofNat 0))) fun a9=>
 cnd a9 (bV (vJ [(0,1),(1,1),(2,1)] [(.int .i64 (.ofNat 0)),(.int .i64 (.ofNat 0)),(.int .u64 (.ofNat 0))] []) fun b0=>
 bR (stN 3 x4 b0 H) fun c4 H=>
 bV (ldN 3 x4 H) fun q=>bV (some o) fun x=>some (.ret (.tuple [q,x]),H))
 (bV (uW a) fun b1=>
 bV (fAd 5 b1) fun b2=>
 bV (ld1 b2 H) fun b3=>
 bV (ldN 512 h H) fun b4=>
 bV (vJ [(0,1),(1,512)] ([(.int .i64 (.ofNat 0))]++rep 512 [(.int .u8 (.ofNat 0))]) [(0,f),(1,b4)]) fun b5=>
 bA (dW 202 513 1 ([(.int .i64 (.ofNat 0))]++rep 512 [(.int .u8 (.ofNat 0))]) [(0,b5)]) H fun b6 H=>
 bR (apP 202 513 520 b3 b6 H) fun b7 H=>
 bV (uW a) fun b8=>
 bV (fAd 5 b8) fun b9=>
 bR (stN 1 b9 b7 H) fun c5 H=>
 bV (ldN 512 h H) fun c0=>
 bR (f196 D n [f,c0] H) fun p H=>
 bV (jN p 0) fun c1=>
 bV (jN p 1) fun c2=>
 bR (stN 3 x4 c1 H) fun c6 H=>
 bV (ldN 3 x4 H) fun t=>bV (some c2) fun y=>some (.ret (.tuple [t,y]),H))))
def h151:Hint:=(.s .o (.s .o (.s Hq (.s .o (.s (.s .o Hq) (.s .o Hr))))))
def t75:=ad (t74 D n) 151 (zQJ D n)
def k75:KO t75:=kk k74 h151 Tryz.func151
def s96:Tb:=⟨X,[(77,f77 D n),(149,f149 D n),(150,zOx D n),(151,zQJ D n)]⟩
@[irreducible]def zFZ (D:Dyn)(n:Nat)(vs:List AV)(H:AH):Rs:=
 hd vs fun h vs=>hd vs fun a vs=>hd vs fun p vs=>hd vs fun j vs=>hd vs fun m vs=>hd vs fun o vs=>hd vs fun f vs=>
 bV (wU .lss f o) fun z=>
 cnd z (bV (dV 3 m f) fun C=>
 bV (ldN 3 C H) fun J=>
 bA (bxV 42 (.agg [(.int .i64 (.ofNat 0)),(.int .i64 (.ofNat 0)),(.int .u64 (.ofNat 0))])) H fun q H=>
 bR (stN 3 q J H) fun Z H=>
 bV (ldN 3 q H) fun K=>
 bR (D.fn 96 [h,K] H) fun t H=>
 bV (jN t 0) fun N=>
 bV (jN t 1) fun u=>
 bV (dV 3 j f) fun O=>
 bR (stN 3 O N H) fun a0 H=>
 bV (wU .neq u (.int .i64 (.ofNat 0))) fun S=>
 cnd S (bV (vJ [(0,1),(1,1),(2,1)] [(.int .i64 (.ofNat 0)),(.int .i64 (.ofNat 0)),(.int .u64 (.ofNat 0))] []) fun T=>
 bR (stN 3 a T H) fun a1 H=>
 bV (ldN 3 a H) fun x=>bV (some u) fun y=>some (.ret (.tuple [x,y]),H))
 (bV (wU .add f (.int .i64 (.ofNat 1))) fun Y=>
 some (.norm [h,a,p,j,m,o,Y],H)))
 (some (.exit 0 [h,a,p,j],H))
@[irreducible]def zOp (D:Dyn)(n:Nat)(vs:List AV)(H:AH):Rs:=
 hd vs fun f vs=>hd vs fun a vs=>hd vs fun y vs=>hd vs fun O vs=>
 bV (ldN 4 y H) fun S=>
 bR (f149 D n [S] H) fun h H=>
 bV (jN h 0) fun T=>
 bV (jN h 1) fun j=>
 bV (wU .neq j (.int .i64 (.ofNat 0))) fun Y=>
 cnd Y (bV (vJ [(0,1),(1,1),(2,1)] [(.int .i64 (.ofNat 0)),(.int .i64 (.ofNat 0)),(.int .u64 (.ofNat 0))] []) fun Z=>
 bR (stN 3 a Z H) fun a7 H=>
 bV (ldN 3 a H) fun t=>bV (some j) fun z=>some (.ret (.tuple [t,z]),H))
 (bV (uW f) fun a0=>
 bV (fAd 2 a0) fun a1=>
 bV (ld1 a1 H) fun a2=>
 bR (zOx D n [O,a2,T] H) fun m H=>
 bV (jN m 0) fun a3=>
 bV (jN m 1) fun o=>
 bA (bxV 55 (.agg (rep 512 [(.int .u8 (.ofNat 0))]))) H fun p H=>
 bR (stN 512 p a3 H) fun a8 H=>
 bV (wU .neq o (.int .i64 (.ofNat 0))) fun a4=>
 cnd a4 (bV (vJ [(0,1),(1,1),(2,1)] [(.int .i64 (.ofNat 0)),(.int .i64 (.ofNat 0)),(.int .u64 (.ofNat 0))] []) fun a5=>
 bR (stN 3 a a5 H) fun a9 H=>
 bV (ldN 3 a H) fun u=>bV (some o) fun C=>some (.ret (.tuple [u,C]),H))
 (bV (ldN 512 p H) fun a6=>
 bR (zQJ D n [f,a6] H) fun q H=>
 bV (jN q 0) fun J=>
 bV (jN q 1) fun K=>
 bR (stN 3 a J H) fun b0 H=>
 bV (ldN 3 a H) fun x=>bV (some K) fun N=>some (.ret (.tuple [x,N]),H)))
@[irreducible]def zOq (D:Dyn)(n:Nat)(vs:List AV)(H:AH):Rs:=
 hd vs fun f vs=>hd vs fun h vs=>hd vs fun a vs=>hd vs fun j vs=>
 bV (fAd 3 a) fun m=>
 bR (stN 1 m j H) fun q H=>
 bV (fAd 0 a) fun o=>
 bV (ld1 o H) fun p=>
 jn (cnd p (some (.norm [f,h,a,(.int .u8 (.ofNat 1))],H))
 (some (.norm [f,h,a,(.int .u8 (.ofNat 2))],H))) (zOp D n)
@[irreducible]def f96 (D:Dyn)(n:Nat)(vs:List AV)(H:AH):Option (AV×AH):=
 dG (hd vs fun a vs=>hd vs fun x1 vs=>nl vs <|
 bA (bxV 42 x1) H fun f H=>
 bA (bxV 42 (.agg [(.int .i64 (.ofNat 0)),(.int .i64 (.ofNat 0)),(.int .u64 (.ofNat 0))])) H fun x4 H=>
 bV (fAd 0 f) fun y=>
 bV (ld1 y H) fun z=>
 bV (wU .neq z (.int .i64 (.ofNat 1))) fun C=>
 cnd C (bV (ldN 3 f H) fun J=>
 bR (stN 3 x4 J H) fun c0 H=>
 bV (ldN 3 x4 H) fun t=>bV (some (.int .i64 (.ofNat 0))) fun x5=>some (.ret (.tuple [t,x5]),H))
 (bV (uW a) fun K=>
 bV (fAd 3 K) fun N=>
 bV (ld1 N H) fun O=>
 bV (wU .sub O (.int .i64 (.ofNat 1))) fun S=>
 bV (uW a) fun T=>
 bV (fAd 3 T) fun Y=>
 bR (stN 1 Y S H) fun b6 H=>
 bV (uW a) fun Z=>
 bV (fAd 3 Z) fun a0=>
 bV (ld1 a0 H) fun a1=>
 bV (wU .lss a1 (.int .i64 (.ofNat 0))) fun a2=>
 cnd a2 (bV (vJ [(0,1),(1,1),(2,1)] [(.int .i64 (.ofNat 0)),(.int .i64 (.ofNat 0)),(.int .u64 (.ofNat 0))] []) fun a3=>
 bR (stN 3 x4 a3 H) fun b7 H=>
 bV (ldN 3 x4 H) fun p=>bV (some (.int .i64 (.ofNat 4))) fun u=>some (.ret (.tuple [p,u]),H))
 (bV (uW a) fun a4=>
 bV (fAd 0 a4) fun a5=>
 bV (ld1 a5 H) fun a6=>
 bV (ldN 3 f H) fun a7=>
 bA (bxV 119 (.agg [(.bool false), .nS, .nS, .nS])) H fun x6 H=>
 bR (f77 D n [a6,a7] H) fun h H=>
 bV (jN h 0) fun a8=>
 bV (jN h 1) fun j=>
 bR (stN 4 x6 a8 H) fun b8 H=>
 bV (wU .neq j (.int .i64 (.ofNat 0))) fun a9=>
 cnd a9 (bV (vJ [(0,1),(1,1),(2,1)] [(.int .i64 (.ofNat 0)),(.int .i64 (.ofNat 0)),(.int .u64 (.ofNat 0))] []) fun b0=>
 bR (stN 3 x4 b0 H) fun b9 H=>
 bV (ldN 3 x4 H) fun q=>bV (some j) fun x=>some (.ret (.tuple [q,x]),H))
 (bV (fAd 3 x6) fun b1=>
 bV (ld1 b1 H) fun b2=>
 bV (lnSl b2) fun m=>
 bA (zHV 42 3 24 [(.int .i64 (.ofNat 0)),(.int .i64 (.ofNat 0)),(.int .u64 (.ofNat 0))] m m) H fun b3 H=>
 bV (fAd 3 x6) fun b4=>
 bV (ld1 b4 H) fun o=>
 bV (lnSl o) fun b5=>
 jb 0 (kJ n (zFZ D n) [a,x4,x6,b3,o,b5,(.int .i64 (.ofNat 0))] H) (zOq D n)))))
def h96:Hint:=(.s .o (.s Hq (.s (.s .o Hq) (.s .o (.s Hq (.s .o (.s (.s .o (.b [0,4,6,8] (.l [0,4,6,8,49,50,51] (.s .o (.s (.cr .o .o) (.s (.b0 (.s .o (.s .o Hq))) .o)))))) (.s .o (.s .o (.s (.s .o (.c [0,4,6,11] .o .o)) (.s .o (.s Hq (.s .o (.s Hq Hr))))))))))))))
def t76:=ad (t75 D n) 96 (f96 D n)
def k76:KO t76:=kk k75 h96 Tryz.func96
def s43:Tb:=⟨X,[(73,f73 D n),(23,f23 D n),(96,f96 D n)]⟩
@[irreducible]def f43l0 (D:Dyn)(n:Nat)(vs:List AV)(H:AH):Rs:=
 hd vs fun j vs=>hd vs fun m vs=>hd vs fun o vs=>hd vs fun f vs=>hd vs fun h vs=>hd vs fun a vs=>
 bV (wU .lss a h) fun p=>
 cnd p (bV (dV 1 f a) fun q=>
 bV (ld1 q H) fun t=>
 bR (D.fn 70 [j,t] H) fun x H=>
 bV (wU .add a (.int .i64 (.ofNat 1))) fun u=>
 some (.norm [j,m,o,f,h,u],H))
 (some (.exit 0 [m,o],H))
@[irreducible]def f43b1 (D:Dyn)(n:Nat)(vs:List AV)(H:AH):Rs:=
 hd vs fun a vs=>hd vs fun h vs=>
 bV (vJ [(0,1),(1,1),(2,1)] [(.int .i64 (.ofNat 0)),(.int .i64 (.ofNat 0)),(.int .u64 (.ofNat 0))] []) fun o=>
 bR (stN 3 a o H) fun p H=>
 bV (ldN 3 a H) fun f=>bV (some .nS) fun j=>bV (some h) fun m=>some (.ret (.tuple [f,j,m]),H)
@[irreducible]def f43l2 (D:Dyn)(n:Nat)(vs:List AV)(H:AH):Rs:=
 hd vs fun a vs=>hd vs fun p vs=>hd vs fun j vs=>hd vs fun m vs=>hd vs fun o vs=>hd vs fun f vs=>
 bV (wU .lss f o) fun q=>
 cnd q (bV (dV 513 m f) fun t=>
 bV (ldN 513 t H) fun u=>
 bA (bxV 202 (.agg ([(.int .i64 (.ofNat 0))]++rep 512 [(.int .u8 (.ofNat 0))]))) H fun h H=>
 bR (stN 513 h u H) fun S H=>
 bV (uW a) fun x=>
 bV (fAd 1 x) fun y=>
 bV (ld1 y H) fun z=>
 bV (fAd 0 h) fun C=>
 bV (ld1 C H) fun J=>
 bV (fAd 1 h) fun K=>
 bV (ldN 512 K H) fun N=>
 bR (D.fn 97 [z,J,N] H) fun T H=>
 bV (wU .add f (.int .i64 (.ofNat 1))) fun O=>
 some (.norm [a,p,j,m,o,O],H))
 (some (.exit 2 [a,p,j],H))
@[irreducible]def f43b3 (D:Dyn)(n:Nat)(vs:List AV)(H:AH):Rs:=
 hd vs fun f vs=>hd vs fun h vs=>hd vs fun a vs=>
 some (.norm [f,h,a],H)
@[irreducible]def zQG (D:Dyn)(n:Nat)(vs:List AV)(H:AH):Rs:=
 hd vs fun a vs=>hd vs fun h vs=>hd vs fun f vs=>
 bV (uW a) fun m=>
 bV (fAd 7 m) fun o=>
 bV (ld1 o H) fun p=>
 bV (ldN 3 f H) fun q=>
 bV (uW a) fun t=>
 bV (fAd 2 t) fun u=>
 bR (stN 3 u q H) fun T H=>
 bV (uW a) fun x=>
 bV (fAd 7 x) fun y=>
 bR (stN 1 y .nS H) fun Y H=>
 bA (mkM [10]) H fun z H=>
 bV (uW a) fun C=>
 bV (fAd 5 C) fun J=>
 bR (stN 1 J z H) fun Z H=>
 bV (ldN 3 f H) fun K=>
 bR (stN 3 h K H) fun S H=>
 bV (ldN 3 h H) fun j=>bV (some p) fun N=>bV (some (.int .i64 (.ofNat 0))) fun O=>some (.ret (.tuple [j,N,O]),H)
@[irreducible]def f43 (D:Dyn)(n:Nat)(vs:List AV)(H:AH):Option (AV×AH):=
 dG (hd vs fun a vs=>hd vs fun f vs=>hd vs fun m vs=>nl vs <|
 bA (bxV 42 (.agg [(.int .i64 (.ofNat 0)),(.int .i64 (.ofNat 0)),(.int .u64 (.ofNat 0))])) H fun x6 H=>
 bR (f73 D n [a] H) fun o H=>
 jn (wnt o false (bV (dS .eql (eqP f .nP)) fun a0=>
 some (.norm [a0],H)) (some (.norm [jQ],H))) fun vs H=>hd vs fun K vs=>
 bV (pk3 (some o) (some (.bool true)) (some K)) fun a1=>
 cnd a1 (bV (vJ [(0,1),(1,1),(2,1)] [(.int .i64 (.ofNat 0)),(.int .i64 (.ofNat 0)),(.int .u64 (.ofNat 0))] []) fun a2=>
 bR (stN 3 x6 a2 H) fun d4 H=>
 bV (ldN 3 x6 H) fun N=>bV (some .nS) fun x7=>bV (some (.int .i64 (.ofNat 2))) fun x8=>some (.ret (.tuple [N,x7,x8]),H))
 (bV (wU .lss m (.int .i64 (.ofNat 1))) fun p=>
 jn (wnt p false (bV (wU .gtr m (.int .i64 (.ofNat 2147483647))) fun a3=>
 some (.norm [a3],H)) (some (.norm [jQ],H))) fun vs H=>hd vs fun O vs=>
 bV (pk3 (some p) (some (.bool true)) (some O)) fun a4=>
 cnd a4 (bV (vJ [(0,1),(1,1),(2,1)] [(.int .i64 (.ofNat 0)),(.int .i64 (.ofNat 0)),(.int .u64 (.ofNat 0))] []) fun a5=>
 bR (stN 3 x6 a5 H) fun d1 H=>
 bV (ldN 3 x6 H) fun C=>bV (some .nS) fun S=>bV (some (.int .i64 (.ofNat 1))) fun T=>some (.ret (.tuple [C,S,T]),H))
 (bV (uW a) fun a6=>
 bV (fAd 5 a6) fun q=>
 bV (ld1 q H) fun t=>
 bR (f23 D n [f] H) fun a7 H=>chk (ld1 q H) t <|
 bV (QR t H) fun a8=>
 bV (wU .lss a7 a8) fun a9=>
 cnd a9 (bV (vJ [(0,1),(1,1),(2,1)] [(.int .i64 (.ofNat 0)),(.int .i64 (.ofNat 0)),(.int .u64 (.ofNat 0))] []) fun b0=>
 bR (stN 3 x6 b0 H) fun d2 H=>
 bV (ldN 3 x6 H) fun J=>bV (some .nS) fun Y=>bV (some (.int .i64 (.ofNat 3))) fun Z=>some (.ret (.tuple [J,Y,Z]),H))
 (bV (uW a) fun b1=>
 bV (fAd 5 b1) fun b2=>
 bV (ld1 b2 H) fun b3=>
 bV (QR b3 H) fun b4=>
 bV (vJ [(0,1),(1,1),(2,1),(3,1),(4,1),(5,1)] [.nP, .nP,(.int .i64 (.ofNat 0)),(.int .i64 (.ofNat 0)), .nS, .nS] [(0,a),(1,f),(2,m),(3,b4)]) fun b5=>
 bA (bxV 198 b5) H fun h H=>
 bV (uW a) fun b6=>
 bV (fAd 2 b6) fun b7=>
 bV (ldN 3 b7 H) fun b8=>
 bR (f96 D n [h,b8] H) fun u H=>
 bV (jN u 0) fun b9=>
 bV (jN u 1) fun x=>
 bA (bxV 42 (.agg [(.int .i64 (.ofNat 0)),(.int .i64 (.ofNat 0)),(.int .u64 (.ofNat 0))])) H fun j H=>
 bR (stN 3 j b9 H) fun d3 H=>
 bV (wU .neq x (.int .i64 (.ofNat 0))) fun c0=>
 cnd c0 (bV (uW h) fun c1=>
 bV (fAd 4 c1) fun c2=>
 bV (ld1 c2 H) fun y=>
 bV (lnSl y) fun c3=>
 jb 0 (kJ n (f43l0 D n) [f,x6,x,y,c3,(.int .i64 (.ofNat 0))] H) (f43b1 D n))
 (bV (uW a) fun c4=>
 bV (fAd 1 c4) fun c5=>
 bV (ld1 c5 H) fun c6=>
 bV (dS .neq (eqP c6 .nP)) fun c7=>
 jn (cnd c7 (bV (uW h) fun c8=>
 bV (fAd 5 c8) fun c9=>
 bV (ld1 c9 H) fun z=>
 bV (lnSl z) fun d0=>
 jb 2 (kJ n (f43l2 D n) [a,x6,j,z,d0,(.int .i64 (.ofNat 0))] H) (f43b3 D n))
 (some (.norm [a,x6,j],H))) (zQG D n))))))
def h43:Hint:=(.s .o (.s Hq (.s Hq (.s Hq (.s .o (.s .o (.s (.s .o (.cl (.s (.s .o (.b [6,11] (.l [1,6,11,64,65,66] (.s .o (.s (.cr .o .o) (.s (.b0 Hr) .o)))))) Hr) .o)) (.s (.s .o (.c [0,6,10] (.s .o (.b [0,6,10] (.l [0,6,10,84,85,86] (.s .o (.s (.cr .o .o) (.s (.b0 Hr) .o)))))) .o)) (.s .o (.s .o (.s .o Hr)))))))))))
def t77:=ad (t76 D n) 43 (f43 D n)
def k77:KO t77:=kk k76 h43 Tryz.func43
def h19:Hint:=(.s .o (.s Hq Hr))
@[irreducible]def f19:=(.mk:FY (t77 D n) D n 19 Tryz.f19 h19 []).1
def t78:=ad (t77 D n) 19 (f19 D n)
def k78:KO t78:=kk k77 (ms h19) Tryz.func19
def h64:Hint:=(.s .o (.s (.s .o (.b [5] (.l [4,0,1,5] (.s (.s .o (.cr .o .o)) (.s (.b [3,0,1,5] (.s .o (.s .o (.b0 (.s .o (.c [2,0,1,5] (.s (.b [8,255] .o) (.c [0,0,1,5] (.b [9,510,12,4095] .o) .o)) (.s .o (.c [1,0,1,5] (.s (.s (.c [6,63,14,16255] (.l [0,1,2,3,4,5,8,9,10,11,12,13,6,7,14,15] .o) .o) (.cl Hr .o)) (.b [7,126,10,1023] .o)) (.s .o (.s (.c [12,4095,18,163839] (.l [0,1,2,3,4,5,6,7,8,9,10,11,17,12,13,14,15,16,18,19,20] .o) .o) (.s (.s .o (.cl .o .o)) (.s (.b [8,240,9,511] .o) (.s Hq .o))))))))))))) .o))))) Hr))
@[irreducible]def VX:=(.mk:PY (t78 D n) D n 64 Tryz.f64 h64 [] 0).1
@[irreducible]def zAI:=(.mk:PY (t78 D n) D n 64 Tryz.f64 h64 [VX D n] 1).1
@[irreducible]def K4:=(.mk:PY (t78 D n) D n 64 Tryz.f64 h64 [VX D n,zAI D n] 2).1
@[irreducible]def J3:=(.mk:PY (t78 D n) D n 64 Tryz.f64 h64 [VX D n,zAI D n,K4 D n] 3).1
@[irreducible]def fR:=(.mk:PY (t78 D n) D n 64 Tryz.f64 h64 [VX D n,zAI D n,K4 D n,J3 D n] 4).1
@[irreducible]def zOr:=(.mk:PY (t78 D n) D n 64 Tryz.f64 h64 [VX D n,zAI D n,K4 D n,J3 D n,fR D n] 5).1
@[irreducible]def f64:=(.mk:FY (t78 D n) D n 64 Tryz.f64 h64 [VX D n,zAI D n,K4 D n,J3 D n,fR D n,zOr D n]).1
def zMx (a:DG i)(n:Nat):FI 64 (f64 i n):=fk n (ms h64) a (k78 a n) Tryz.func64
def t79:=ad (t78 D n) 64 (f64 D n)
def k79:KO t79:=kc k78 zMx
def h63:Hint:=(.s .o (.s .o (.s Hq (.s .o Hr))))
@[irreducible]def f63:=(.mk:FY (t79 D n) D n 63 Tryz.f63 h63 []).1
def zMy (a:DG i)(n:Nat):FI 63 (f63 i n):=fk n (ms h63) a (k79 a n) Tryz.func63
def t80:=ad (t79 D n) 63 (f63 D n)
def k80:KO t80:=kc k79 zMy
def h52:Hint:=(.s .o (.s .o (.s .o (.s Hq Hr))))
@[irreducible]def f52:=(.mk:FY (t80 D n) D n 52 Tryz.f52 h52 []).1
def zMB (a:DG i)(n:Nat):FI 52 (f52 i n):=fk n (ms h52) a (k80 a n) Tryz.func52
def t81:=ad (t80 D n) 52 (f52 D n)
def k81:KO t81:=kc k80 zMB
def h24:Hint:=(.s .o (.s Hq Hr))
@[irreducible]def f24:=(.mk:FY (t81 D n) D n 24 Tryz.f24 h24 []).1
def t82:=ad (t81 D n) 24 (f24 D n)
def k82:KO t82:=kk k81 (ms h24) Tryz.func24
def h104:Hint:=(.s .o Hr)
@[irreducible]def f104:=(.mk:FY (t82 D n) D n 104 Tryz.f104 h104 []).1
def bY (a:DG i)(n:Nat):FI 104 (f104 i n):=fk n (ms h104) a (k82 a n) Tryz.func104
def t83:=ad (t82 D n) 104 (f104 D n)
def k83:KO t83:=kc k82 bY
def h61:Hint:=(.s .o (.s Hq (.s Hq (.s .o (.s Hq (.s (.c [4,12,7,124,10,1020,12,4095] (.l [0,1,2,3,5,6,8,9,4,7,10,11,12,13] .o) .o) .o))))))
@[irreducible]def f61:=(.mk:FY (t83 D n) D n 61 Tryz.f61 h61 []).1
def zMA (a:DG i)(n:Nat):FI 61 (f61 i n):=fk n (ms h61) a (k83 a n) Tryz.func61
def t84:=ad (t83 D n) 61 (f61 D n)
def k84:KO t84:=kc k83 zMA
def s166:Tb:=⟨X,[(61,f61 D n),(79,f79 D n)]⟩
def zQq:Hint:=(.s .o (.s Hq (.s (.s .o (.s .o (.cl (.s .o Hr) .o))) (.s (.b [10,767] .o) (.s (.s .o (.c [2,0,2,3,4,5,7,13] (.b [6,62,10,510,13,8191] .o) .o)) (.s Hq (.s Hq (.s .o (.s (.s .o (.b [1] (.l [0,0,2,3,4,5,13,15,16] (.s (.s .o (.cr .o .o)) (.s (.b0 (.s (.s .o (.cl .o .o)) Hq)) .o))))) Hr)))))))))
@[irreducible]def ZB:=(.mk:PY (s166 D n) D n 166 Tryz.f166 zQq [] 0).1
@[irreducible]def zCj:=(.mk:PY (s166 D n) D n 166 Tryz.f166 zQq [ZB D n] 1).1
@[irreducible]def BC:=(.mk:PY (s166 D n) D n 166 Tryz.f166 zQq [ZB D n,zCj D n] 2).1
@[irreducible]def f166:=(.mk:FY (s166 D n) D n 166 Tryz.f166 zQq [ZB D n,zCj D n,BC D n]).1
def zOv (a:DG i)(n:Nat):FI 166 (f166 i n):=fk n (ms zQq) a (sc (zMA a n) (sc (zCd a n) sn)) Tryz.func166
def t85:=ad (t84 D n) 166 (f166 D n)
def k85:KO t85:=kc k84 zOv
def h165:Hint:=(.s .o (.s .o (.c [0] .o .o)))
@[irreducible]def zIE:=(.mk:PY (t85 D n) D n 165 Tryz.f165 h165 [] 0).1
@[irreducible]def f165:=(.mk:FY (t85 D n) D n 165 Tryz.f165 h165 [zIE D n]).1
def t86:=ad (t85 D n) 165 (f165 D n)
def k86:KO t86:=kk k85 (ms h165) Tryz.func165
def h107:Hint:=(.s .o Hr)
@[irreducible]def f107:=(.mk:FY (t86 D n) D n 107 Tryz.f107 h107 []).1
def ZR (a:DG i)(n:Nat):FI 107 (f107 i n):=fk n (ms h107) a (k86 a n) Tryz.func107
def t87:=ad (t86 D n) 107 (f107 D n)
def k87:KO t87:=kc k86 ZR
def zPb:Tb:=⟨X,[(107,f107 D n),(79,f79 D n)]⟩
def h164:Hint:=(.s .o (.s .o (.b0 (.rf 0 [2,3,5]))))
@[irreducible]def f164:=(.mk:FY (zPb D n) D n 164 Tryz.f164 h164 []).1
def zOw (a:DG i)(n:Nat):FI 164 (f164 i n):=fk n (ms h164) a (sc (ZR a n) (sc (zCd a n) sn)) Tryz.func164
def t88:=ad (t87 D n) 164 (f164 D n)
def k88:KO t88:=kc k87 zOw
def zHr:Hint:= .o
def WT:Hint:=(.b [2] (.s (.s .o (.cl .o .o)) (.s .o (.b [1] (.l [0,3,5,7,8] (.s (.s .o (.cr .o .o)) (.s (.b0 (.s (.b [24,16777215] .o) (.cl .o .o))) .o)))))))
@[irreducible]def QZ:=(.mk:QY (zPb D n) D n 164 0 [] WT [] 0).1
@[irreducible]def zER:=(.mk:QY (zPb D n) D n 164 0 [] WT [QZ D n] 1).1
@[irreducible]def zIF:=(.mk:QY (zPb D n) D n 164 0 [] WT [QZ D n,zER D n] 2).1
@[irreducible]def WU:=(.mk:RY (zPb D n) D n 164 0 [2,3,5] [] zHr WT [QZ D n,zER D n,zIF D n]).1
theorem zHt (D:Dyn)(n:Nat):WU D n=zJX (zPb D n) D n 164 0 [2,3,5] [] (ms zHr) (ms WT):=by kernel_rfl
def zHs (a:DG i)(n:Nat):RS 164 0 (WU i n):=fW X_ok a (sc (ZR a n) (sc (zCd a n) sn)) (by kernel_rfl) (zHt i n)
def h105:Hint:=(.s .o Hr)
@[irreducible]def f105:=(.mk:FY (t88 D n) D n 105 Tryz.f105 h105 []).1
def ZS (a:DG i)(n:Nat):FI 105 (f105 i n):=fk n (ms h105) a (k88 a n) Tryz.func105
def t89:=ad (t88 D n) 105 (f105 D n)
def k89:KO t89:=kc k88 ZS
def h106:Hint:=(.s .o Hr)
@[irreducible]def f106:=(.mk:FY (t89 D n) D n 106 Tryz.f106 h106 []).1
def t90:=ad (t89 D n) 106 (f106 D n)
def k90:KO t90:=kk k89 (ms h106) Tryz.func106
def s53:Tb:=⟨X,[(104,f104 D n),(105,f105 D n)]⟩
def h53:Hint:=(.s .o (.s Hq (.s Hq (.s .o (.s .o (.s .o (.s (.s .o (.b [0,11,12,13] (.rf 0 [7,12,13]))) (.s (.s .o (.cl (.s (.b [] .o) .o) .o)) (.s (.b [] .o) .o)))))))))
@[irreducible]def f53b0:=(.mk:PY (s53 D n) D n 53 Tryz.f53 h53 [] 0).1
@[irreducible]def f53:=(.mk:FY (s53 D n) D n 53 Tryz.f53 h53 [f53b0 D n]).1
def zQF (a:DG i)(n:Nat):FI 53 (f53 i n):=fk n (ms h53) a (sc (bY a n) (sc (ZS a n) sn)) Tryz.func53
def t91:=ad (t90 D n) 53 (f53 D n)
def k91:KO t91:=kc k90 zQF
def zMi:Hint:= .o
def zMh:Hint:=(.b0 (.s (.s .o (.cl (.s .o .o) .o)) .o))
@[irreducible]def zNM:=(.mk:RY (s53 D n) D n 53 0 [7,12,13] [0] zMi zMh []).1
theorem zKA (D:Dyn)(n:Nat):zNM D n=zJX (s53 D n) D n 53 0 [7,12,13] [0] (ms zMi) (ms zMh):=by kernel_rfl
def zKz (a:DG i)(n:Nat):RS 53 0 (zNM i n):=fW X_ok a (sc (bY a n) (sc (ZS a n) sn)) (by kernel_rfl) (zKA i n)
def s56:Tb:=⟨X,[(104,f104 D n),(105,f105 D n)]⟩
def h56:Hint:=(.s .o (.s Hq (.s .o (.s .o (.s (.s .o (.b0 (.rf 0 [9]))) (.s (.s .o (.cl (.s (.b [] .o) .o) .o)) Hr))))))
@[irreducible]def f56:=(.mk:FY (s56 D n) D n 56 Tryz.f56 h56 []).1
def zQE (a:DG i)(n:Nat):FI 56 (f56 i n):=fk n (ms h56) a (sc (bY a n) (sc (ZS a n) sn)) Tryz.func56
def t92:=ad (t91 D n) 56 (f56 D n)
def k92:KO t92:=kc k91 zQE
def zMg:Hint:= .o
def zMf:Hint:=(.b0 .o)
@[irreducible]def zNL:=(.mk:RY (s56 D n) D n 56 0 [9] [] zMg zMf []).1
theorem zKy (D:Dyn)(n:Nat):zNL D n=zJX (s56 D n) D n 56 0 [9] [] (ms zMg) (ms zMf):=by kernel_rfl
def zKx (a:DG i)(n:Nat):RS 56 0 (zNL i n):=fW X_ok a (sc (bY a n) (sc (ZS a n) sn)) (by kernel_rfl) (zKy i n)
def s112:Tb:=⟨X,[(104,f104 D n),(105,f105 D n)]⟩
def h112:Hint:=(.s .o (.s .o (.s .o (.s .o (.s (.s .o (.b0 (.rf 0 [9]))) (.s (.b [] .o) .o))))))
@[irreducible]def f112:=(.mk:FY (s112 D n) D n 112 Tryz.f112 h112 []).1
def zDD (a:DG i)(n:Nat):FI 112 (f112 i n):=fk n (ms h112) a (sc (bY a n) (sc (ZS a n) sn)) Tryz.func112
def t93:=ad (t92 D n) 112 (f112 D n)
def k93:KO t93:=kc k92 zDD
def zHv:Hint:= .o
def zHu:Hint:=(.b0 .o)
@[irreducible]def zBC:=(.mk:RY (s112 D n) D n 112 0 [9] [] zHv zHu []).1
theorem zHx (D:Dyn)(n:Nat):zBC D n=zJX (s112 D n) D n 112 0 [9] [] (ms zHv) (ms zHu):=by kernel_rfl
def zHw (a:DG i)(n:Nat):RS 112 0 (zBC i n):=fW X_ok a (sc (bY a n) (sc (ZS a n) sn)) (by kernel_rfl) (zHx i n)
def h206:Hint:=(.s .o Hr)
@[irreducible]def f206:=(.mk:FY (t93 D n) D n 206 Tryz.f206 h206 []).1
def t94:=ad (t93 D n) 206 (f206 D n)
def k94:KO t94:=kk k93 (ms h206) Tryz.func206
def h167:Hint:=(.s .o (.s .o (.s .o (.s (.s .o (.cl (.s Hq Hr) .o)) (.s Hq (.s Hq (.s Hq Hr)))))))
@[irreducible]def f167:=(.mk:FY (t94 D n) D n 167 Tryz.f167 h167 []).1
def t95:=ad (t94 D n) 167 (f167 D n)
def k95:KO t95:=kk k94 (ms h167) Tryz.func167
def zL1:Hint:=(.s .o (.s .o (.s (.b [6,5] (.l [5,0,1,5] (.s (.s .o (.cr .o .o)) (.b0 (.s .o (.s (.b0 (.s .o (.c [4,0,1,5,6] .o (.s .o (.c [0,0,1,5,6] .o (.b [8,255] .o)))))) (.s .o (.s (.s .o (.c [3,0,1,5,6,7] (.s (.b [9,271,11,2047,13,8191] .o) .o) .o)) (.s (.s .o (.c [2,0,1,5,6,7] (.s (.b [9,271,11,2047,13,8191] .o) .o) .o)) (.s .o (.c [1,0,1,5] .o .o))))))))))) Hr)))
@[irreducible]def ZD:=(.mk:PY (t95 D n) D n 115 Tryz.f115 zL1 [] 0).1
@[irreducible]def ZC:=(.mk:PY (t95 D n) D n 115 Tryz.f115 zL1 [ZD D n] 1).1
@[irreducible]def Y2:=(.mk:PY (t95 D n) D n 115 Tryz.f115 zL1 [ZD D n,ZC D n] 2).1
@[irreducible]def JP:=(.mk:PY (t95 D n) D n 115 Tryz.f115 zL1 [ZD D n,ZC D n,Y2 D n] 3).1
@[irreducible]def cU:=(.mk:PY (t95 D n) D n 115 Tryz.f115 zL1 [ZD D n,ZC D n,Y2 D n,JP D n] 4).1
@[irreducible]def JO:=(.mk:PY (t95 D n) D n 115 Tryz.f115 zL1 [ZD D n,ZC D n,Y2 D n,JP D n,cU D n] 5).1
@[irreducible]def zMQ:=(.mk:PY (t95 D n) D n 115 Tryz.f115 zL1 [ZD D n,ZC D n,Y2 D n,JP D n,cU D n,JO D n] 6).1
@[irreducible]def f115:=(.mk:FY (t95 D n) D n 115 Tryz.f115 zL1 [ZD D n,ZC D n,Y2 D n,JP D n,cU D n,JO D n,zMQ D n]).1
def zDC (a:DG i)(n:Nat):FI 115 (f115 i n):=fk n (ms zL1) a (k95 a n) Tryz.func115
def t96:=ad (t95 D n) 115 (f115 D n)
def k96:KO t96:=kc k95 zDC
def h113:Hint:=(.s .o (.s .o (.s (.s .o (.s .o (.c [0,6] .o .o))) Hr)))
@[irreducible]def zEW:=(.mk:PY (t96 D n) D n 113 Tryz.f113 h113 [] 0).1
@[irreducible]def f113:=(.mk:FY (t96 D n) D n 113 Tryz.f113 h113 [zEW D n]).1
def t97:=ad (t96 D n) 113 (f113 D n)
def k97:KO t97:=kk k96 (ms h113) Tryz.func113
def h114:Hint:=(.s .o (.s .o Hr))
@[irreducible]def f114:=(.mk:FY (t97 D n) D n 114 Tryz.f114 h114 []).1
def t98:=ad (t97 D n) 114 (f114 D n)
def k98:KO t98:=kk k97 (ms h114) Tryz.func114
def s65:Tb:=⟨X,[(104,f104 D n),(107,f107 D n),(112,f112 D n),(115,f115 D n)]⟩
def h65:Hint:=(.s .o (.s Hq (.s .o (.s .o (.s (.s .o (.b0 (.rf 0 [6]))) (.s (.s .o (.cl (.s (.b [] .o) .o) .o)) (.s .o (.s .o (.s Hq (.s .o (.s Hq Hr)))))))))))
@[irreducible]def f65:=(.mk:FY (s65 D n) D n 65 Tryz.f65 h65 []).1
def zMw (a:DG i)(n:Nat):FI 65 (f65 i n):=fk n (ms h65) a (sc (bY a n) (sc (ZR a n) (sc (zDD a n) (sc (zDC a n) sn)))) Tryz.func65
def t99:=ad (t98 D n) 65 (f65 D n)
def k99:KO t99:=kc k98 zMw
def zMd:Hint:=(.s .o .o)
def zMc:Hint:=(.b0 .o)
@[irreducible]def zHl:=(.mk:RY (s65 D n) D n 65 0 [6] [] zMd zMc []).1
theorem zKu (D:Dyn)(n:Nat):zHl D n=zJX (s65 D n) D n 65 0 [6] [] (ms zMd) (ms zMc):=by kernel_rfl
def zKt (a:DG i)(n:Nat):RS 65 0 (zHl i n):=fW X_ok a (sc (bY a n) (sc (ZR a n) (sc (zDD a n) (sc (zDC a n) sn)))) (by kernel_rfl) (zKu i n)
def s60:Tb:=⟨X,[(104,f104 D n),(107,f107 D n)]⟩
def h60:Hint:=(.s .o (.s Hq (.s .o (.s .o (.s (.s .o (.b0 (.rf 0 [5]))) (.s (.s .o (.cl (.s (.b [] .o) .o) .o)) Hr))))))
@[irreducible]def f60:=(.mk:FY (s60 D n) D n 60 Tryz.f60 h60 []).1
def zQC (a:DG i)(n:Nat):FI 60 (f60 i n):=fk n (ms h60) a (sc (bY a n) (sc (ZR a n) sn)) Tryz.func60
def t100:=ad (t99 D n) 60 (f60 D n)
def k100:KO t100:=kc k99 zQC
def zMe:Hint:= .o
def zHm:Hint:=(.b0 (.s .o (.c [0] .o .o)))
@[irreducible]def f60j0:=(.mk:QY (s60 D n) D n 60 0 [] zHm [] 0).1
@[irreducible]def zNK:=(.mk:RY (s60 D n) D n 60 0 [5] [] zMe zHm [f60j0 D n]).1
theorem zKw (D:Dyn)(n:Nat):zNK D n=zJX (s60 D n) D n 60 0 [5] [] (ms zMe) (ms zHm):=by kernel_rfl
def zKv (a:DG i)(n:Nat):RS 60 0 (zNK i n):=fW X_ok a (sc (bY a n) (sc (ZR a n) sn)) (by kernel_rfl) (zKw i n)
def h58:Hint:=(.s .o (.s (.s .o (.b [1] (.l [0,0,3] (.s (.s .o (.cr .o .o)) (.s (.b0 (.s .o (.cl (.s (.b [] .o) .o) .o))) .o))))) Hr))
@[irreducible]def zQD:=(.mk:PY (t100 D n) D n 58 Tryz.f58 h58 [] 0).1
@[irreducible]def f58b1:=(.mk:PY (t100 D n) D n 58 Tryz.f58 h58 [zQD D n] 1).1
@[irreducible]def f58:=(.mk:FY (t100 D n) D n 58 Tryz.f58 h58 [zQD D n,f58b1 D n]).1
def t101:=ad (t100 D n) 58 (f58 D n)
def k101:KO t101:=kk k100 (ms h58) Tryz.func58
def h51:Hint:=(.s .o (.s .o (.s .o (.s Hq (.s .o (.s .o (.s .o (.s (.b [8,255] .o) (.s .o (.s (.b [74,17856448263350845964287,82,4835703278458516698824703] .o) .o))))))))))
@[irreducible]def f51:=(.mk:FY (t101 D n) D n 51 Tryz.f51 h51 []).1
def zIw (a:DG i)(n:Nat):FI 51 (f51 i n):=fk n (ms h51) a (k101 a n) Tryz.func51
def t102:=ad (t101 D n) 51 (f51 D n)
def k102:KO t102:=kc k101 zIw
end Go.Eng.Sh
end
noncomputable section
namespace Go.Eng.Sh
open Go.Proofs
set_option maxRecDepth 100000
variable (D:Dyn)(n:Nat)
attribute [local irreducible] bV bR hd cnd jn jb kJ wnt chk VN bA wU d7 K5 dS eqP eqS eqM eqF eqA zPo ldN ld1 stN cvI zPs zF3 zMY VS vN xJ fQ dV XG zC1 zFT fd1 fdN fAd XC lnSl QR apP apZ cpy vJ zLz pk3 s2a bxV dW zHV lkM upM dlM mkM callV nl dG tld zMU uR KH fT zEE rfC mn2 mx2 aun jN uW jQ isW aveq bO zPi
def h50:Hint:=(.s .o (.s Hq (.s (.s .o (.b [1] (.l [0,0,3] (.s (.s .o (.cr .o .o)) (.s (.b0 Hq) .o))))) Hr)))
@[irreducible]def zG1:=(.mk:PY (t102 D n) D n 50 Tryz.f50 h50 [] 0).1
@[irreducible]def zOs:=(.mk:PY (t102 D n) D n 50 Tryz.f50 h50 [zG1 D n] 1).1
@[irreducible]def f50:=(.mk:FY (t102 D n) D n 50 Tryz.f50 h50 [zG1 D n,zOs D n]).1
def zMC (a:DG i)(n:Nat):FI 50 (f50 i n):=fk n (ms h50) a (k102 a n) Tryz.func50
def t103:=ad (t102 D n) 50 (f50 D n)
def k103:KO t103:=kc k102 zMC
def h80:Hint:=(.s .o (.s Hq Hr))
@[irreducible]def f80:=(.mk:FY (t103 D n) D n 80 Tryz.f80 h80 []).1
def zMr (a:DG i)(n:Nat):FI 80 (f80 i n):=fk n (ms h80) a (k103 a n) Tryz.func80
def t104:=ad (t103 D n) 80 (f80 D n)
def k104:KO t104:=kc k103 zMr
def m80 (D:Dyn)(n:Nat)(vs:List AV)(H:AH):Option (AV×AH):=clnK (f80 D n) vs H
def zQ5 (a:DG i)(n:Nat):FI 80 (m80 i n):=zON ⟨_,Tryz.func80,rfl⟩ (AnyW.maps_Clone Tryz.clone80) (zMr a n)
def t105:=ad (t104 D n) 80 (m80 D n)
def k105:KO t105:=kc k104 zQ5
attribute [local irreducible] m80
def h28:Hint:=(.s .o (.s Hq (.s .o (.s .o (.s .o Hr)))))
@[irreducible]def f28:=(.mk:FY (t105 D n) D n 28 Tryz.f28 h28 []).1
def zMD (a:DG i)(n:Nat):FI 28 (f28 i n):=fk n (ms h28) a (k105 a n) Tryz.func28
def t106:=ad (t105 D n) 28 (f28 D n)
def k106:KO t106:=kc k105 zMD
def h67:Hint:=(.s .o (.s .o (.s .o (.s (.b [4,5] (.l [3,0,1,5,6,7] (.s (.s .o (.cr .o .o)) (.b0 (.b0 (.s (.b [] .o) (.c [2,0,1,5,6,7] (.s (.b [13,8191] .o) .o) (.s (.b [] .o) (.c [1,0,1,5,6,7] (.s (.b [13,8191] .o) .o) (.s (.s (.b [] .o) (.c [0,0,1,5,6,7] (.b [18,262143] .o) .o)) Hr)))))))))) Hr))))
@[irreducible]def zDA:=(.mk:PY (t106 D n) D n 67 Tryz.f67 h67 [] 0).1
@[irreducible]def zCe:=(.mk:PY (t106 D n) D n 67 Tryz.f67 h67 [zDA D n] 1).1
@[irreducible]def zAH:=(.mk:PY (t106 D n) D n 67 Tryz.f67 h67 [zDA D n,zCe D n] 2).1
@[irreducible]def VW:=(.mk:PY (t106 D n) D n 67 Tryz.f67 h67 [zDA D n,zCe D n,zAH D n] 3).1
@[irreducible]def zQA:=(.mk:PY (t106 D n) D n 67 Tryz.f67 h67 [zDA D n,zCe D n,zAH D n,VW D n] 4).1
@[irreducible]def f67:=(.mk:FY (t106 D n) D n 67 Tryz.f67 h67 [zDA D n,zCe D n,zAH D n,VW D n,zQA D n]).1
def zMu (a:DG i)(n:Nat):FI 67 (f67 i n):=fk n (ms h67) a (k106 a n) Tryz.func67
def t107:=ad (t106 D n) 67 (f67 D n)
def k107:KO t107:=kc k106 zMu
def h66:Hint:=(.s .o (.s Hq (.s (.s .o (.b [1] (.l [0,0,1,5] (.s (.s .o (.cr .o .o)) (.s (.b0 (.s (.b [] .o) (.cl Hr .o))) .o))))) Hr)))
@[irreducible]def zIv:=(.mk:PY (t107 D n) D n 66 Tryz.f66 h66 [] 0).1
@[irreducible]def zQB:=(.mk:PY (t107 D n) D n 66 Tryz.f66 h66 [zIv D n] 1).1
@[irreducible]def f66:=(.mk:FY (t107 D n) D n 66 Tryz.f66 h66 [zIv D n,zQB D n]).1
def zMv (a:DG i)(n:Nat):FI 66 (f66 i n):=fk n (ms h66) a (k107 a n) Tryz.func66
def t108:=ad (t107 D n) 66 (f66 D n)
def k108:KO t108:=kc k107 zMv
def h11:Hint:=(.s .o (.s Hq (.s .o (.s Hq (.s (.c [4,15] (.l [0,1,2,3,5,6,7,8,9,10,11,12,13,14,15,16,4,17,18,19] .o) .o) (.s (.b [9,511] .o) (.s Hq (.s (.s .o (.b [1] (.l [0,7,77,78,79] (.s .o (.s (.cr .o .o) (.s (.b0 (.s .o (.s (.b [8,255] .o) (.s (.b [8,255] .o) (.s (.b [16,65407,17,131071,30,1071644671,31,2147483647] .o) (.cl Hr .o)))))) .o)))))) Hr))))))))
@[irreducible]def zQL:=(.mk:PY (t108 D n) D n 11 Tryz.f11 h11 [] 0).1
@[irreducible]def f11b1:=(.mk:PY (t108 D n) D n 11 Tryz.f11 h11 [zQL D n] 1).1
@[irreducible]def f11:=(.mk:FY (t108 D n) D n 11 Tryz.f11 h11 [zQL D n,f11b1 D n]).1
def t109:=ad (t108 D n) 11 (f11 D n)
def k109:KO t109:=kk k108 (ms h11) Tryz.func11
end Go.Eng.Sh
end
noncomputable section
namespace Go.Eng.Sh
open Go.Proofs
set_option maxRecDepth 100000
def tab (D:Dyn)(n:Nat):=(t109 D n).S
def tabR (D:Dyn)(n:Nat):List ((Nat×Nat)×(Nat->ALoop->List AV->AH->Option (AV×AH))):=[((53,0),zNM D n),((56,0),zNL D n),((60,0),zNK D n),((65,0),zHl D n),((112,0),zBC D n),((164,0),WU D n),((195,0),UG D n)]
def zPG(a:DG D):SOk (tab D n):=k109 a n
def zNh(a:DG D):ROk (tabR D n):=ROk.cons (zKz a n) (ROk.cons (zKx a n) (ROk.cons (zKv a n) (ROk.cons (zKt a n) (ROk.cons (zHw a n) (ROk.cons (zHs a n) (ROk.cons (zHp a n) (ROk.nil)))))))
def dy (n:Nat):Dyn:=dyOf tab tabR n
def dy_ok (n:Nat):DG (dy n):=zJ0 zPG zNh n
end Go.Eng.Sh
end
noncomputable section
namespace Go.Eng.Sh
open Go.Proofs
set_option maxRecDepth 1000000
theorem c51_r:zNB (f51 (dy 100000) 100000 [] ⟨.leaf,0⟩)=true:=by kernel_rfl
def c51 (w:World):Calls PP 51 #[] w fun e a=>e= .returned (.bool true)/\RowKit.Below w.heap.size w a:=zLv (zIw (dy_ok 100000) 100000) c51_r w
end Go.Eng.Sh
end
noncomputable section
namespace Go.Eng.Sh
open Go.Proofs
set_option maxRecDepth 1000000
def z51 (D:Dyn)(n:Nat)(vs:List AV)(H:AH):Option (AV×AH):=cloK (f51 D n) vs H
def zPw (a:DG i)(n:Nat):FI 51 (z51 i n):=zOM ⟨_,Tryz.func51,rfl⟩ c51 (zIw a n)
variable (D:Dyn)(n:Nat)
attribute [local irreducible] bV bR hd cnd jn jb kJ wnt chk VN bA wU d7 K5 dS eqP eqS eqM eqF eqA zPo ldN ld1 stN cvI zPs zF3 zMY VS vN xJ fQ dV XG zC1 zFT fd1 fdN fAd XC lnSl QR apP apZ cpy vJ zLz pk3 s2a bxV dW zHV lkM upM dlM mkM callV nl dG tld zMU uR KH fT zEE rfC mn2 mx2 aun jN uW jQ isW aveq bO zPi m80 z51
def s11z:Tb:=⟨X,[(50,f50 D n),(51,z51 D n),(52,f52 D n),(28,f28 D n),(63,f63 D n),(64,f64 D n),(65,f65 D n),(67,f67 D n),(66,f66 D n)]⟩
def h11z:Hint:=(.s .o (.s Hq (.s .o (.s Hq (.s (.c [4,15] (.l [0,1,2,3,5,6,7,8,9,10,11,12,13,14,15,16,4,17,18,19] .o) .o) (.s (.b [9,511] .o) (.s Hq (.s (.s .o (.b [1] (.l [0,7,77,78,79] (.s .o (.s (.cr .o .o) (.s (.b0 (.s .o (.s (.b [8,255] .o) (.s (.b [8,255] .o) (.s (.b [16,65407,17,131071,30,1071644671,31,2147483647] .o) (.cl Hr .o)))))) .o)))))) Hr))))))))
@[irreducible]def XV:=(.mk:PY (s11z D n) D n 11 Tryz.f11 h11z [] 0).1
@[irreducible]def zMO:=(.mk:PY (s11z D n) D n 11 Tryz.f11 h11z [XV D n] 1).1
@[irreducible]def zPn:=(.mk:FY (s11z D n) D n 11 Tryz.f11 h11z [XV D n,zMO D n]).1
def f11z_ok (a:DG i)(n:Nat):FI 11 (zPn i n):=fk n (ms h11z) a (sc (zMC a n) (sc (zPw a n) (sc (zMB a n) (sc (zMD a n) (sc (zMy a n) (sc (zMx a n) (sc (zMw a n) (sc (zMu a n) (sc (zMv a n) sn))))))))) Tryz.func11
end Go.Eng.Sh
end
namespace Go.Nd
abbrev Str:=List UInt8
structure Ptr where
 at_:Int
 birth:Int
 sum:Int
 deriving DecidableEq
structure Node where
 leaf:Bool
 keys:List Str
 vals:List Str
 kids:List Ptr
 deriving DecidableEq
def be:Nat->Nat->Str
 | 0,_=>[]
 | k+1,n=>be k (n / 256)++[UInt8.ofNat n]
def bee (l:Str):Nat:=l.foldl (fun n c=>n*256+c.toNat) 0
theorem be_length: ∀k n,(be k n).length=k
 | 0,_=>rfl
 | k+1,n=>by simp[be,be_length k]
theorem bee_snoc (l:Str)(c:UInt8):bee (l++[c])=bee l*256+c.toNat:=by simp[bee]
theorem bee_be: ∀k n,bee (be k n)=n % 256 ^ k
 | 0,n=>by simp[be,bee,Nat.mod_one]
 | k+1,n=>by
  rw[be,bee_snoc,bee_be k,Nat.pow_succ,Nat.mul_comm (256 ^ k) 256,Nat.mod_mul];simp[UInt8.toNat_ofNat'];omega
theorem zFe (l:Str):be l.length (bee l)=l:=by
 suffices h: ∀(m:Nat) (l:Str),l.length=m->be m (bee l)=l from h _ l rfl
 intro m
 induction m with
 | zero=>intro l h;rw[zW h];rfl
 | succ m ih=>
  intro l h;obtain⟨l',c,rfl⟩: ∃l' c,l=l'++[c]:=⟨l.dropLast,l.getLast (by intro e;simp[e]at h),(List.dropLast_concat_getLast _).symm⟩;simp only[zV,yR,Nat.add_right_cancel_iff]at h;have a:c.toNat<256:=c.toNat_lt;rw[bee_snoc,be,show(bee l'*256+c.toNat) / 256=bee l' from by omega,ih l' h];congr 2;apply UInt8.toNat_inj.1;rw[UInt8.toNat_ofNat'];omega
theorem bee_lt (l:Str):bee l<256 ^ l.length:=by
 have:=bee_be l.length (bee l);rw[zFe]at this;rw[this];exact Nat.mod_lt _ (Nat.pow_pos (by omega))
def mayP (p:Ptr):Bool:=if p.at_=0 then decide (p.birth=0)&&decide (p.sum=0)else decide (0<p.at_)&&decide (p.at_<8192)&&decide (0<=p.birth)&&decide (p.birth<=2147483647)
def encP (p:Ptr):Str:=be 4 p.at_.toNat++(be 4 p.birth.toNat++be 8 p.sum.toNat)
def xV (s:Str):Ptr:=⟨(bee (s.take 4):Nat),(bee ((s.drop 4).take 4):Nat),(bee (s.drop 8):Nat)⟩
def decP (s:Str):Option Ptr:=if mayP (xV s)then some (xV s)else none
theorem encP_length (p:Ptr):(encP p).length=16:=by simp[encP,be_length]
def sumOk (p:Ptr):Prop:=0<=p.sum/\p.sum<18446744073709551616
theorem zFH {p:Ptr}(h:mayP p=true)(f:sumOk p):xV (encP p)=p:=by
 obtain⟨a,b,s⟩:=p;have j:(encP ⟨a,b,s⟩).take 4=be 4 a.toNat:=by simp[encP,be_length]
 have m:((encP ⟨a,b,s⟩).drop 4).take 4=be 4 b.toNat:=by
  rw[encP,yX (by simp[be_length]),jA (by simp[be_length])]
 have o:(encP ⟨a,b,s⟩).drop 8=be 8 s.toNat:=by
  rw[encP,<-zZ,yX (by simp[be_length])]
 simp only[xV,j,m,o,bee_be];simp only[sumOk]at f;simp only[mayP]at h;split at h
 .simp only[zE,zR]at h;simp_all
 .simp only[zE,zR]at h;congr 1<;>omega
theorem zG3 {s:Str}(h:s.length=16):encP (xV s)=s:=by
 have a:=zFe (s.take 4);have f:=zFe ((s.drop 4).take 4);have j:=zFe (s.drop 8);rw[show(s.take 4).length=4 from by simp;omega]at a;rw[show((s.drop 4).take 4).length=4 from by simp;omega]at f;rw[show(s.drop 8).length=8 from by simp;omega]at j;simp only[encP,xV,yC,a,f,j];rw[show s.drop 8=(s.drop 4).drop 4 from by rw[List.drop_drop],y6,y6]
theorem zHA {s:Str}(h:s.length=16):sumOk (xV s):=by
 have:=bee_lt (s.drop 8);rw[show(s.drop 8).length=8 from by simp;omega]at this;simp only[sumOk,xV];omega
def encT (s:Str):Str:=UInt8.ofNat s.length::s
def mayK (k:Str):Bool:=decide (1<=k.length)&&decide (k.length<=40)
def rising (lt:Str->Str->Bool):List Str->Bool
 | []=>true
 | [_]=>true
 | a::b::l=>lt a b&&rising lt (b::l)
def kidOk (p:Ptr):Bool:=decide (1<=p.at_)&&decide (p.at_<8192)&&decide (0<=p.birth)&&decide (p.birth<=2147483647)
theorem kidOk_may {p:Ptr}(h:kidOk p=true):mayP p=true:=by
 simp only[kidOk,zE,zR]at h;simp only[mayP];rw[if_neg (by omega)];simp only[zE,zR];omega
def shaped (lt:Str->Str->Bool)(n:Node):Bool:=
 n.keys.all mayK&&rising lt n.keys&&
 (if n.leaf then decide (n.vals.length=n.keys.length)&&decide (n.kids=[])&&n.vals.all (fun v=>decide (v.length<=200))
  else decide (n.keys≠[])&&decide (n.vals=[])&&decide (n.kids.length=n.keys.length+1)&&n.kids.all kidOk)
def sumL (l:List Str):Nat:=l.foldl (fun n s=>n+(1+s.length)) 0
theorem zBf (l:List Str)(a:Nat):l.foldl (fun n s=>n+(1+s.length)) a=a+sumL l:=by
 induction l generalizing a with
 | nil=>simp[sumL]
 | cons s l ih=>simp only[List.foldl_cons,sumL];rw[ih,ih];omega
theorem sumL_cons (s:Str)(l:List Str):sumL (s::l)=1+s.length+sumL l:=by
 simp only[sumL,List.foldl_cons];rw[zBf,zBf];simp[sumL]
theorem sumL_append (l m:List Str):sumL (l++m)=sumL l+sumL m:=by
 induction l with
 | nil=>simp[sumL]
 | cons s l ih=>rw[qF,sumL_cons,sumL_cons,ih];omega
def size (n:Node):Nat:=2+16*n.kids.length+sumL n.keys+sumL n.vals
def may (lt:Str->Str->Bool)(n:Node):Bool:=shaped lt n&&decide (size n<=500)
def encL:List Str->List Str->Str
 | k::ks,v::vs=>encT k++(encT v++encL ks vs)
 | _,_=>[]
def encI:List Str->List Ptr->Str
 | k::ks,p::ps=>encT k++(encP p++encI ks ps)
 | _,_=>[]
def encB (n:Node):Str:=if n.leaf then encL n.keys n.vals else match n.kids with
 | p::ps=>encP p++encI n.keys ps
 | []=>[]
def encN (n:Node):Str:=be 2 n.keys.length++encB n
def xZ:Str->Option (Str×Str)
 | []=>none
 | c::r=>if c.toNat<=r.length then some (r.take c.toNat,r.drop c.toNat)else none
def dJ (s:Str):Option (Ptr×Str):=if 16<=s.length then match decP (s.take 16)with | some p=>some (p,s.drop 16) | none=>none else none
def KI:Nat->Str->Option (List Str×List Str×Str)
 | 0,s=>some ([],[],s)
 | k+1,s=>match xZ s with
  | some (a,s)=>match xZ s with
   | some (b,s)=>match KI k s with
    | some (ks,vs,s)=>some (a::ks,b::vs,s)
    | none=>none
   | none=>none
  | none=>none
def KJ:Nat->Str->Option (List Str×List Ptr×Str)
 | 0,s=>some ([],[],s)
 | k+1,s=>match xZ s with
  | some (a,s)=>match dJ s with
   | some (b,s)=>match KJ k s with
    | some (ks,vs,s)=>some (a::ks,b::vs,s)
    | none=>none
   | none=>none
  | none=>none
theorem decL_snoc: ∀(k:Nat) (s:Str),KI (k+1) s=(KI k s).bind fun x=>(xZ x.2.2).bind fun a=>(xZ a.2).bind fun b=>some (x.1++[a.1],x.2.1++[b.1],b.2)
 | 0,s=>by
  simp only[KI,yK]
  cases xZ s with
  | none=>rfl
  | some a=>obtain⟨a,f⟩:=a;simp only[yK];cases xZ f with
   | none=>rfl
   | some b=>rfl
 | k+1,s=>by
  rw[KI]
  conv=>rhs;rw[KI]
  cases xZ s with
  | none=>rfl
  | some a=>
   obtain⟨a,f⟩:=a;simp only
   cases xZ f with
   | none=>rfl
   | some b=>
    obtain⟨b,h⟩:=b;simp only;rw[decL_snoc k h]
    cases KI k h with
    | none=>rfl
    | some x=>
     obtain⟨ks,vs,r⟩:=x;simp only[yK]
     cases xZ r with
     | none=>rfl
     | some c=>obtain⟨c,r1⟩:=c;simp only[yK];cases xZ r1 with
      | none=>rfl
      | some d=>rfl
theorem decI_snoc: ∀(k:Nat) (s:Str),KJ (k+1) s=(KJ k s).bind fun x=>(xZ x.2.2).bind fun a=>(dJ a.2).bind fun b=>some (x.1++[a.1],x.2.1++[b.1],b.2)
 | 0,s=>by
  simp only[KJ,yK]
  cases xZ s with
  | none=>rfl
  | some a=>obtain⟨a,f⟩:=a;simp only[yK];cases dJ f with
   | none=>rfl
   | some b=>rfl
 | k+1,s=>by
  rw[KJ]
  conv=>rhs;rw[KJ]
  cases xZ s with
  | none=>rfl
  | some a=>
   obtain⟨a,f⟩:=a;simp only
   cases dJ f with
   | none=>rfl
   | some b=>
    obtain⟨b,h⟩:=b;simp only;rw[decI_snoc k h]
    cases KJ k h with
    | none=>rfl
    | some x=>
     obtain⟨ks,vs,r⟩:=x;simp only[yK]
     cases xZ r with
     | none=>rfl
     | some c=>obtain⟨c,r1⟩:=c;simp only[yK];cases dJ r1 with
      | none=>rfl
      | some d=>rfl
theorem decL_all (s:Str)(k:Nat):(List.range k).all (fun i=>(KI (i+1) s).isSome)=(KI k s).isSome:=by
 induction k with
 | zero=>simp[KI]
 | succ k ih=>
  rw[List.range_succ,List.all_append,ih];simp only[List.all_cons,List.all_nil,Bool.and_true];rw[decL_snoc]
  cases KI k s<;>simp
theorem decI_all (s:Str)(k:Nat):(List.range k).all (fun i=>(KJ (i+1) s).isSome)=(KJ k s).isSome:=by
 induction k with
 | zero=>simp[KJ]
 | succ k ih=>
  rw[List.range_succ,List.all_append,ih];simp only[List.all_cons,List.all_nil,Bool.and_true];rw[decI_snoc]
  cases KJ k s<;>simp
def decB (leaf:Bool)(k:Nat)(s:Str):Option (Node×Str):=
 if leaf then match KI k s with
  | some (ks,vs,s)=>some (⟨true,ks,vs,[]⟩,s)
  | none=>none
 else match dJ s with
  | some (p,s)=>match KJ k s with
   | some (ks,ps,s)=>some (⟨false,ks,[],p::ps⟩,s)
   | none=>none
  | none=>none
def decN (lt:Str->Str->Bool)(leaf:Bool)(s:Str):Option Node:=
 if s.length<=500/\2<=s.length then match decB leaf (bee (s.take 2)) (s.drop 2)with
  | some (n,r)=>if r=[]/\may lt n=true then some n else none
  | none=>none
 else none
theorem WD (s r:Str)(h:s.length<256):xZ (encT s++r)=some (s,r):=by
 have e:(UInt8.ofNat s.length).toNat=s.length:=by rw[UInt8.toNat_ofNat'];omega
 simp only[encT,qF,xZ,e];rw[if_pos (by simp)];simp
theorem zA9 {s a r:Str}(h:xZ s=some (a,r)):s=encT a++r/\a.length<256:=by
 cases s with
 | nil=>simp[xZ]at h
 | cons c s=>
  simp only[xZ]at h;split at h
  .simp only[zB,zU]at h;obtain⟨rfl,rfl⟩:=h;have f:c.toNat<256:=c.toNat_lt;have hl:(s.take c.toNat).length=c.toNat:=by simp;omega
   refine⟨?_,by omega⟩;simp only[encT,hl,qF,y6];congr 1;apply UInt8.toNat_inj.1;rw[UInt8.toNat_ofNat'];omega
  .simp at h
theorem zBa {p:Ptr}(r:Str)(h:mayP p=true)(a:sumOk p):dJ (encP p++r)=some (p,r):=by
 have hl:=encP_length p;have f:(encP p++r).take 16=encP p:=jA hl;have j:(encP p++r).drop 16=r:=yX hl;simp only[dJ,f,j];rw[if_pos (by simp[hl])];simp only[decP,zFH h a,h,if_true]
theorem takeP_eq {s r:Str}{p:Ptr}(h:dJ s=some (p,r)):s=encP p++r/\mayP p=true/\sumOk p:=by
 simp only[dJ]at h;split at h
 .rename_i hl;split at h
  .rename_i q a;simp only[zB,zU]at h;obtain⟨rfl,rfl⟩:=h;have f:(s.take 16).length=16:=by simp;omega
   simp only[decP]at a;split at a
   .rename_i hm;simp only[zB]at a;subst a;exact⟨by rw[zG3 f,y6],hm,zHA f⟩
   .simp at a
  .simp at h
 .simp at h
theorem encL_snoc: ∀(ks vs:List Str) (k v:Str),ks.length=vs.length->encL (ks++[k]) (vs++[v])=encL ks vs++(encT k++encT v)
 | [],[],k,v,_=>by simp[encL]
 | [],_::_,_,_,h=>by simp at h
 | _::_,[],_,_,h=>by simp at h
 | a::ks,b::vs,k,v,h=>by simp[encL,encL_snoc ks vs k v (by simpa using h)]
theorem encI_snoc: ∀(ks:List Str) (vs:List Ptr) (k:Str) (v:Ptr),ks.length=vs.length->encI (ks++[k]) (vs++[v])=encI ks vs++(encT k++encP v)
 | [],[],k,v,_=>by simp[encI]
 | [],_::_,_,_,h=>by simp at h
 | _::_,[],_,_,h=>by simp at h
 | a::ks,b::vs,k,v,h=>by simp[encI,encI_snoc ks vs k v (by simpa using h)]
theorem zF1: ∀(ks vs:List Str),ks.length=vs.length->(∀k∈ks,k.length<256)->(∀v∈vs,v.length<256)->KI ks.length (encL ks vs)=some (ks,vs,[])
 | [],[],_,_,_=>rfl
 | [],_::_,h,_,_=>by simp at h
 | _::_,[],h,_,_=>by simp at h
 | k::ks,v::vs,h,hk,hv=>by
  have f:=zF1 ks vs (by simpa using h) (fun x a=>hk x (zC _ a)) (fun x a=>hv x (zC _ a));simp only[zT,KI,encL,WD k _ (hk k (zJ ..)),WD v _ (hv v (zJ ..)),f]
theorem zF2: ∀(ks:List Str) (ps:List Ptr),ks.length=ps.length->(∀k∈ks,k.length<256)->(∀p∈ps,mayP p=true/\sumOk p)->KJ ks.length (encI ks ps)=some (ks,ps,[])
 | [],[],_,_,_=>rfl
 | [],_::_,h,_,_=>by simp at h
 | _::_,[],h,_,_=>by simp at h
 | k::ks,v::vs,h,hk,hv=>by
  have j:=zF2 ks vs (by simpa using h) (fun x a=>hk x (zC _ a)) (fun x a=>hv x (zC _ a));have f:=hv v (zJ ..);simp only[zT,KJ,encI,WD k _ (hk k (zJ ..)),zBa _ f.1 f.2,j]
theorem decL_eq: ∀ {k:Nat} {s:Str} {ks vs:List Str} {r:Str},KI k s=some (ks,vs,r)->s=encL ks vs++r/\ks.length=k/\vs.length=k
 | 0,s,ks,vs,r,h=>by
  simp only[KI,zB,zU]at h;obtain⟨rfl,rfl,rfl⟩:=h;simp[encL]
 | k+1,s,ks,vs,r,h=>by
  simp only[KI]at h;split at h
  .rename_i a t f;split at h
   .rename_i b u j;split at h
    .rename_i q vs' x m;simp only[zB,zU]at h;obtain⟨rfl,rfl,rfl⟩:=h;obtain⟨rfl,_⟩:=zA9 f;obtain⟨rfl,_⟩:=zA9 j;obtain⟨rfl,o,p⟩:=decL_eq m;exact⟨by simp[encL],by simp[o],by simp[p]⟩
    .simp at h
   .simp at h
  .simp at h
theorem decI_eq: ∀ {k:Nat} {s:Str} {ks:List Str} {vs:List Ptr} {r:Str},KJ k s=some (ks,vs,r)->s=encI ks vs++r/\ks.length=k/\vs.length=k/\ ∀p∈vs,sumOk p
 | 0,s,ks,vs,r,h=>by
  simp only[KJ,zB,zU]at h;obtain⟨rfl,rfl,rfl⟩:=h;simp[encI]
 | k+1,s,ks,vs,r,h=>by
  simp only[KJ]at h;split at h
  .rename_i a y f;split at h
   .rename_i b z j;split at h
    .rename_i x vs' C m;simp only[zB,zU]at h;obtain⟨rfl,rfl,rfl⟩:=h;obtain⟨rfl,_⟩:=zA9 f;obtain⟨rfl,_,o⟩:=takeP_eq j;obtain⟨rfl,q,t,u⟩:=decI_eq m;exact⟨by simp[encI],by simp[q],by simp[t],by simpa using⟨o,u⟩⟩
    .simp at h
   .simp at h
  .simp at h
theorem encL_length: ∀(ks vs:List Str),ks.length=vs.length->(encL ks vs).length=sumL ks+sumL vs
 | [],[],_=>rfl
 | [],_::_,h=>by simp at h
 | _::_,[],h=>by simp at h
 | k::ks,v::vs,h=>by
  simp only[encL,zV,encT,zT,encL_length ks vs (by simpa using h),sumL_cons];omega
theorem encI_length: ∀(ks:List Str) (vs:List Ptr),ks.length=vs.length->(encI ks vs).length=sumL ks+16*vs.length
 | [],[],_=>rfl
 | [],_::_,h=>by simp at h
 | _::_,[],h=>by simp at h
 | k::ks,v::vs,h=>by
  simp only[encI,zV,encT,zT,encP_length,encI_length ks vs (by simpa using h),sumL_cons];omega
theorem encN_length {lt:Str->Str->Bool}{n:Node}(h:shaped lt n=true):(encN n).length=size n:=by
 obtain⟨leaf,ks,vs,ps⟩:=n;simp only[shaped,zE]at h;obtain⟨_,h⟩:=h
 cases leaf with
 | true=>
  simp only[if_true,zE,zR]at h;simp only[encN,encB,if_true,zV,be_length,encL_length _ _ h.1.1.symm,size,h.1.2,yG];omega
 | false=>
  simp only[zL,qD,zE,zR]at h
  cases ps with
  | nil=>simp at h
  | cons p ps=>
   have e:ks.length=ps.length:=by have:=h.1.2;simp at this;omega
   simp only[encN,encB,zL,qD,zV,be_length,encP_length,encI_length _ _ e,size,zT,h.1.1.2];simp[sumL];omega
theorem zFS {lt:Str->Str->Bool}{n:Node}(h:shaped lt n=true): ∀k∈n.keys,k.length<256:=by
 intro k a;simp only[shaped,zE,yE]at h;have:=h.1.1 k a;simp only[mayK,zE,zR]at this;omega
theorem sumL_ge (l:List Str):l.length<=sumL l:=by
 induction l with
 | nil=>simp
 | cons s l ih=>rw[sumL_cons,zT];omega
theorem decN_encN {lt:Str->Str->Bool}{n:Node}(h:may lt n=true)(f: ∀p∈n.kids,sumOk p):decN lt n.leaf (encN n)=some n:=by
 have hm:=h;simp only[may,zE,zR]at h;obtain⟨a,t⟩:=h;have o:=encN_length a;have j:=zFS a;have C:n.keys.length<=500:=by have:=sumL_ge n.keys;simp only[size]at t;omega
 have u:(encN n).take 2=be 2 n.keys.length:=by simp[encN,be_length]
 have x:(encN n).drop 2=encB n:=by rw[encN,yX (be_length 2 _)]
 have y:bee (be 2 n.keys.length)=n.keys.length:=by rw[bee_be];omega
 simp only[decN];rw[if_pos ⟨by omega,by rw[o,size];omega⟩,u,x,y];have key:decB n.leaf n.keys.length (encB n)=some (n,[]):=by
  obtain⟨leaf,ks,vs,ps⟩:=n;simp only[shaped,zE]at a;obtain⟨_,a⟩:=a
  cases leaf with
  | true=>
   simp only[if_true,zE,zR,yE]at a;simp only[decB,encB,if_true];rw[zF1 ks vs a.1.1.symm j (fun v z=>by have:=a.2 v z;omega)];simp[a.1.2]
  | false=>
   simp only[zL,qD,zE,zR,yE]at a
   cases ps with
   | nil=>simp at a
   | cons p ps=>
    have e:ks.length=ps.length:=by have:=a.1.2;simp at this;omega
    simp only[decB,encB,zL,qD];rw[zBa _ (kidOk_may (a.2 p (zJ ..))) (f p (zJ ..))];simp only;rw[zF2 ks ps e j (fun q m=>⟨kidOk_may (a.2 q (zC _ m)),f q (zC _ m)⟩)];simp[a.1.1.2]
 rw[key];simp[hm]
end Go.Nd
namespace Go.Eng
theorem uX {b:List AV->AH->Rs}{H:AH}{r:Rs}(st:Nat->List AV)(N:Nat)(step: ∀i,i<N->b (st i) H=some (.norm (st (i+1)),H))(f: ∀n,kJ (n+1) b (st N) H=r): ∀n,N<n->kJ n b (st 0) H=r:=by
 suffices h: ∀(m i n:Nat),i+m=N->m<n->kJ n b (st i) H=r from fun n a=>h N 0 n (by omega) a
 intro m
 induction m with
 | zero=>
  intro i n hi a;obtain⟨n,rfl⟩: ∃k,n=k+1:=⟨n - 1,by omega⟩;rw[show i=N by omega];exact f n
 | succ m ih=>
  intro i n hi a;obtain⟨n,rfl⟩: ∃k,n=k+1:=⟨n - 1,by omega⟩;rw[kD (step i (by omega))];exact ih (i+1) n (by omega) (by omega)
theorem xA (l:List F)(i:Nat)(h:i<l.length):l.take (i+1)=l.take i++[l[i]]:=by
 rw[qM h]
theorem KC (H:AH)(l:List AV)(e sz o:Nat)(g:Bool):ld1 (.ptr H.next o) (H.push (.cells l e sz g))=l[o]? :=by simp only[ld1,zRg,QN]
theorem zKU (H:AH)(l:List AV)(e sz o n:Nat)(g:Bool):ldN n (.ptr H.next o) (H.push (.cells l e sz g))=(bC l o n).map .agg:=by
 simp only[ldN,zRg];cases bC l o n<;>rfl
theorem zDp (o:Nat)(x:AObj)(A:h<H.next):ld1 (.ptr h o) (H.push x)=ld1 (.ptr h o) H:=by simp only[ld1,AH.push_get_ne _ _ A]
theorem zO9 (o n:Nat)(x:AObj)(A:h<H.next):ldN n (.ptr h o) (H.push x)=ldN n (.ptr h o) H:=by simp only[ldN,AH.push_get_ne _ _ A]
theorem uF {b:List AV->AH->Rs}(N:Nat)(I:Nat->List AV->AH->Prop)(step: ∀i vs H,i<N->I i vs H-> ∃vs' H',b vs H=some (.norm vs',H')/\I (i+1) vs' H'):
  ∀(n:Nat) (vs:List AV) (H:AH),I 0 vs H->N<n-> ∃m vs' H',kJ n b vs H=kJ (m+1) b vs' H'/\I N vs' H':=by
 suffices h: ∀(m i n:Nat) (vs:List AV) (H:AH),i+m=N->m<n->I i vs H-> ∃m vs' H',kJ n b vs H=kJ (m+1) b vs' H'/\I N vs' H' from fun n vs H j a=>h N 0 n vs H (by omega) a j
 intro m
 induction m with
 | zero=>
  intro i n vs H hi a f;obtain⟨n,rfl⟩: ∃k,n=k+1:=⟨n - 1,by omega⟩;exact⟨n,vs,H,rfl,by rw[show N=i by omega];exact f⟩
 | succ m ih=>
  intro i n vs H hi a f;obtain⟨n,rfl⟩: ∃k,n=k+1:=⟨n - 1,by omega⟩;obtain⟨vs',H',o,p⟩:=step i vs H (by omega) f;rw[kD o];exact ih (i+1) n vs' H' (by omega) (by omega) p
def notN:Ex->Bool
 | .norm _=>false
 | _=>true
theorem zI6 {e:Ex}(h:notN e=true):jn (some (e,H)) J=some (e,H):=by cases e<;>first | rfl | (simp[notN]at h)
theorem QP {b:List AV->AH->Rs}(N:Nat)(good:Nat->Bool)(I:Nat->List AV->AH->Prop)(Good t:Ex->AH->Prop)
  (step: ∀i vs H,i<N->I i vs H->good i=true-> ∃vs' H',b vs H=some (.norm vs',H')/\I (i+1) vs' H')
  (C: ∀i vs H,i<N->I i vs H->good i=false-> ∃e H',b vs H=some (e,H')/\notN e=true/\t e H')
  (z: ∀vs H,I N vs H-> ∃e H',b vs H=some (e,H')/\notN e=true/\Good e H'):
  ∀(n:Nat) (vs:List AV) (H:AH),I 0 vs H->N<n-> ∃e H',kJ n b vs H=some (e,H')/\if(List.range N).all good then Good e H' else t e H':=by
 suffices h: ∀(m i n:Nat) (vs:List AV) (H:AH),i+m=N->m<n->I i vs H->(∀j,j<i->good j=true)-> ∃e H',kJ n b vs H=some (e,H')/\if(List.range N).all good then Good e H' else t e H' from
  fun n vs H J u=>h N 0 n vs H (by omega) u J (fun j y=>by omega)
 intro m
 induction m with
 | zero=>
  intro i n vs H hi u a q;obtain⟨n,rfl⟩: ∃k,n=k+1:=⟨n - 1,by omega⟩;rw[show i=N by omega]at a q;obtain⟨e,H',f,o,x⟩:=z vs H a;refine⟨e,H', ?_, ?_⟩
  .show jn (b vs H) _=_;rw[f,zI6 o]
  .rw[if_pos (by simpa[yE]using q)];exact x
 | succ m ih=>
  intro i n vs H hi u a q;obtain⟨n,rfl⟩: ∃k,n=k+1:=⟨n - 1,by omega⟩
  cases p:good i with
  | true=>
   obtain⟨vs',H',f,o⟩:=step i vs H (by omega) a p;rw[kD f];exact ih (i+1) n vs' H' (by omega) (by omega) o (fun j y=>by
    rcases Nat.lt_succ_iff_lt_or_eq.1 y with h | rfl
    .exact q j h
    .exact p)
  | false=>
   obtain⟨e,H',f,o,x⟩:=C i vs H (by omega) a p;refine⟨e,H', ?_, ?_⟩
   .show jn (b vs H) _=_;rw[f,zI6 o]
   .rw[if_neg (by
     simp only[yE,List.mem_range];intro h;have:=h i (by omega);rw[p]at this;cases this)];exact x
theorem zGk (a:Bool)(x y:Rs):wnt jQ a x y=y:=by cases a<;>rfl
theorem zFg (k k':IntKind){a:Int}{s:Nat}(h:0<=a)(f:s<=k.bits):wU .shr (.int k a) (.int k' (s:Int))=some (.int k (a / 2 ^ s)):=by
 show fI (a.fdiv ((2 ^ (Nat.min s k.bits):Nat):Int)) (fun r=>some (AV.int k r))=_;rw[zFY,show Nat.min s k.bits=s from Nat.min_eq_left f,Int.fdiv_eq_ediv_of_nonneg _ (Int.natCast_nonneg _)];simp
theorem zFh (k k':IntKind)(a:Int){s:Nat}(f:s<=k.bits):wU .shl (.int k a) (.int k' (s:Int))=some (.int k (k.wrap (a*2 ^ s))):=by
 show mkI k (a*(2 ^ (Nat.min s k.bits):Nat))=_;rw[vZ,show Nat.min s k.bits=s from Nat.min_eq_left f];simp
theorem kO (h:isCell k=true):jU k=[k]:=by cases k<;>first | rfl | (simp[isCell]at h)
theorem Rw.isCell {k n:Nat}{H:AH}{v:AV}{l:List AV}(h:Rw k H v n l):Eng.isCell v=true:=by
 obtain⟨_,⟨rfl,_⟩ | ⟨rfl,_⟩ | ⟨A,off,cc,c,e,sz,g,rfl,_⟩⟩:=h<;>rfl
theorem J7 (k:IntKind)(a b:Int):JV (ZP k) (.int k a) (.int k b)=some (decide (a=b)):=by
 have:keq k k=true:=by rw[xX];simp
 simp only[JV,yF,this,qP,zP,xY];congr 1
theorem kK (n:Rw h H k p A):aveq k k=true:=by
 obtain⟨_,⟨rfl,_⟩ | ⟨rfl,_⟩ | ⟨v,off,cc,c,e,sz,g,rfl,_⟩⟩:=n
 .rfl
 .rfl
 .simp[aveq]
theorem kW {x:Option AV}{K:Rs}(h:x=some k)(a:aveq k k=true):chk x k K=K:=by subst h;simp[chk,a]
theorem jM (e:H.h.get h=some (.cells A w p l))(o:Nat):ld1 (.ptr h o) H=A[o]? :=by simp only[ld1,e,QN]
theorem jR (e:H.h.get h=some (.cells A w p l))(o n:Nat):ldN n (.ptr h o) H=(bC A o n).map .agg:=by simp only[ldN,e];cases bC A o n<;>rfl
theorem zQh (b c:Bool)(H:AH)(K:AV->AH->Rs):
  jn (if b=false then some (.norm [.bool c],H)else some (.norm [jQ],H)) (fun vs H=>hd vs fun y _=>bV (if b=true then some (.bool true)else some y) fun x=>K x H)=K (.bool (b||c)) H:=by
 cases b<;>simp[jn,hd,bV]
theorem zQg (p:Prop)[Decidable p](b:Bool)(H:AH)(K:AV->AH->Rs):
  jn (if ¬p then some (.norm [.bool b],H)else some (.norm [jQ],H)) (fun vs H=>hd vs fun y _=>bV (if p then some (.bool true)else some y) fun x=>K x H)=K (.bool (decide p||b)) H:=by
 by_cases h:p<;>simp[h,jn,hd,bV]
def lg:(∀(p:Prop) [Decidable p] (b:Bool) (H:AH) (K:AV->AH->Rs),jn (if ¬p then some (.norm [.bool b],H)else some (.norm [jQ],H)) (fun vs H=>hd vs fun y _=>bV (if p then some (.bool true)else some y) fun x=>K x H)=K (.bool (decide p||b)) H)/\
  (∀(p:Prop) [Decidable p] (b:Bool) (H:AH) (K:AV->AH->Rs),jn (if p then some (.norm [.bool b],H)else some (.norm [jQ],H)) (fun vs H=>hd vs fun y _=>bV (if p then some y else some (.bool false)) fun x=>K x H)=K (.bool (decide p&&b)) H)/\
  (∀(p:Prop) [Decidable p] (b:Bool) (H:AH) (K:AV->AH->Rs),jn (if p then some (.norm [jQ],H)else some (.norm [.bool b],H)) (fun vs H=>hd vs fun y _=>bV (if p then some (.bool true)else some y) fun x=>K x H)=K (.bool (decide p||b)) H)/\
  (∀(b c:Bool) (H:AH) (K:AV->AH->Rs),jn (if b=false then some (.norm [.bool c],H)else some (.norm [jQ],H)) (fun vs H=>hd vs fun y _=>bV (if b=true then some (.bool true)else some y) fun x=>K x H)=K (.bool (b||c)) H)/\
  (∀(p:Prop) [Decidable p],(decide p=true)=p)/\(∀(p:Prop) [Decidable p],(decide p=false)= ¬p)/\(∀(b:Bool),decide (b=true)=b):=
 ⟨fun p _ b H K=>zQg p b H K,fun p _ b H K=>zQj p b H K,fun p _ b H K=>jn_or p b H K,zQh,fun p _=>zR,fun p _=>by simp,fun b=>by simp⟩
def ev:(∀(v:AV) (vs:List AV) (K:AV->List AV->Rs),hd (v::vs) K=K v vs)/\
 (∀(K:Rs),nl [] K=K)/\
 (∀(v:AV) (K:AV->Rs),bV (some v) K=K v)/\
 (∀(v:AV) (H:AH) (K:AV->AH->Rs),bR (some (v,H)) K=K v H)/\
 (∀(vs:List AV) (H:AH) (K:List AV->AH->Rs),jn (some (.norm vs,H)) K=K vs H)/\
 (∀(v:AV) (H:AH) (K:List AV->AH->Rs),jn (some (.ret v,H)) K=some (.ret v,H))/\
 (∀(i:Nat) (vs:List AV) (H:AH) (K:List AV->AH->Rs),jn (some (.exit i vs,H)) K=some (.exit i vs,H))/\
 (∀(id:Nat) (vs:List AV) (H:AH) (K:List AV->AH->Rs),jb id (some (.norm vs,H)) K=K vs H)/\
 (∀(id:Nat) (v:AV) (H:AH) (K:List AV->AH->Rs),jb id (some (.ret v,H)) K=some (.ret v,H))/\
 (∀(id:Nat) (vs:List AV) (H:AH) (K:List AV->AH->Rs),jb id (some (.exit id vs,H)) K=K vs H)/\
 (∀(v:AV) (H:AH),dG (some (.ret v,H))=some (v,H))/\
 (∀(b:Bool) (x y:Rs),cnd (.bool b) x y=if b then x else y)/\
 (∀(b h:Bool) (x y:Rs),wnt (.bool b) h x y=if b=h then x else y)/\
 (∀(b:Bool) (x y:Option AV),pk3 (some (.bool b)) x y=if b then x else y)/\
 (∀(k:IntKind) (a b:Int),wU .add (.int k a) (.int k b)=some (.int k (k.wrap (a+b))))/\
 (∀(k:IntKind) (a b:Int),wU .sub (.int k a) (.int k b)=some (.int k (k.wrap (a - b))))/\
 (∀(k:IntKind) (a b:Int),wU .mul (.int k a) (.int k b)=some (.int k (k.wrap (a*b))))/\
 (∀(k:IntKind) (a b:Int),wU .eql (.int k a) (.int k b)=some (.bool (decide (a=b))))/\
 (∀(k:IntKind) (a b:Int),wU .neq (.int k a) (.int k b)=some (.bool (decide (a≠b))))/\
 (∀(k:IntKind) (a b:Int),wU .lss (.int k a) (.int k b)=some (.bool (decide (a<b))))/\
 (∀(k:IntKind) (a b:Int),wU .leq (.int k a) (.int k b)=some (.bool (decide (a<=b))))/\
 (∀(k:IntKind) (a b:Int),wU .gtr (.int k a) (.int k b)=some (.bool (decide (b<a))))/\
 (∀(k:IntKind) (a b:Int),wU .geq (.int k a) (.int k b)=some (.bool (decide (b<=a))))/\
 (∀(k k':IntKind) (z:Int),cvI k (.int k' z)=some (.int k (k.wrap z)))/\
 (∀(a b:Bool),K5 .eql (.bool a) (.bool b)=some (.bool (a==b)))/\
 (∀(a b:Bool),K5 .neq (.bool a) (.bool b)=some (.bool (!(a==b))))/\
 (∀(b:Bool),aun .not (.bool b)=some (.bool !b))/\
 (∀(l:Str),XC (S l)=some (.int .i64 (l.length:Nat)))/\
 (∀(l m:Str),d7 .eql (S l) (S m)=some (.bool (decide (l=m))))/\
 (∀(l m:Str),d7 .neq (S l) (S m)=some (.bool (decide (l≠m))))/\
 (∀(l m:Str),d7 .lss (S l) (S m)=some (.bool (ltS l m)))/\
 (∀(l m:Str),d7 .geq (S l) (S m)=some (.bool (!ltS l m)))/\
 (∀(A o:Nat),uW (.ptr A o)=some (.ptr A o))/\
 (∀(f A o:Nat),fAd f (.ptr A o)=some (.ptr A (o+f)))/\
 (∀(e:TypeId) (x:AV),bxV e x=some (.cells (jU x) e 1 false,fun A=> .ptr A 0))/\
 (∀(l:List AV),jU (.agg l)=l)/\
 (∀(H:AH) (l:List AV) (e sz o:Nat) (g:Bool),ld1 (.ptr H.next o) (H.push (.cells l e sz g))=l[o]?)/\
 (∀(H:AH) (l:List AV) (e sz o n:Nat) (g:Bool),ldN n (.ptr H.next o) (H.push (.cells l e sz g))=(bC l o n).map .agg)/\
 (∀(a:AV) (l:List AV),(a::l)[0]? =some a)/\
 (∀(a:AV) (l:List AV) (i:Nat),(a::l)[i+1]? =l[i]?)/\
 (∀(n:Nat),0+n=n)/\
 (∀(n:Nat),Int.ofNat n=(n:Int))/\
 (∀(z:Int), -9223372036854775808<=z->z<=9223372036854775807->IntKind.wrap .i64 z=z):=
 ⟨ZQ,zHT,bVs,bRs,zAA,zQf,zOa,zOb,zQk,zOc,zEq,zG7,zPz,zPW,KP,zLE,zFj,zLG,zFi,YC,zFk,zFl,zFm,zDG,zJy,VB,zOU,cL,zFf,vE,gU,zAS,zKG,zOo,fun _ _=>rfl,fun _=>rfl,KC,zKU,fun _ _=>List.getElem?_cons_zero,fun _ _ _=>j7,yZ,fun _=>rfl,fun _ j p=>wrap_i64 j p⟩
def eZ:=And.intro zGk (And.intro ev (And.intro lg ew))
def kZ (k e:Nat)(H:AH)(v:AV)(n:Nat)(l:List AV):Prop:=
 Own k e H v n l\/(l.length=n*k/\ ∃A a g,v= .slice A 0 n (2*n)/\A<H.next/\H.h.get A=some (.cells l a k g)/\n=0)
theorem kZ.len (e:kZ h p H k t A):A.length=t*h:=by
 rcases e with e | e
 .exact e.1
 .exact e.1
theorem kZ.row {k e n:Nat}{H:AH}{v:AV}{l:List AV}(h:kZ k e H v n l):Rw k H v n l:=by
 rcases h with h | ⟨a,A,f,g,rfl,j,m,o⟩
 .exact h.row
 .exact⟨a, .inr (.inr ⟨A,0,2*n,l,f,k,g,rfl,m,j,by omega,by rw[yL,zY (by omega)]⟩)⟩
theorem kZ.mono {k e n:Nat}{S:Nat->Prop}{H H':AH}{v:AV}{l:List AV}(h:kZ k e H v n l)(s:Stp S H H')(a: ∀A,Blk v A-> ¬S A):kZ k e H' v n l:=by
 rcases h with h | ⟨m,A,o,g,rfl,f,p,j⟩
 .exact .inl (h.mono s a)
 .exact .inr ⟨m,A,o,g,rfl,qG f s.next,by rw[s.keep A f (a A (zRl.2 rfl))];exact p,j⟩
theorem kZ.lt (e:kZ h p H k t A)(a:Blk k C):C<H.next:=by
 rcases e with⟨_,⟨rfl,_⟩ | ⟨n,rfl,f,_⟩⟩ | ⟨_,n,j,g,rfl,f,_⟩
 .exact(zRu.1 a).elim
 .rw[zRl.1 a];exact f
 .rw[zRl.1 a];exact f
theorem kZ.app1 {k e bytes n m:Nat}{H:AH}{v:AV}{l new:List AV}(j:H.ok)(p:0<k)(h:kZ k e H v n l)(hm:new.length=m*k)(J:n+m<=1000000000)(hb:bytes<=1000):
  ∃q H',Eng.app1 e k bytes m new v H=some (q,H')/\kZ k e H' q (n+m) (l++new)/\Stp (Blk v) H H'/\(∀B,Blk q B->Blk v B\/H.next<=B):=by
 by_cases t:m=0
 .subst t;have:new=[]:=zW (by simpa using hm);subst this;rcases h with h | ⟨t,A,o,g,rfl,u,y,O⟩
  .obtain⟨H',f,z,C,T⟩:=VD (bytes:=bytes) j p h;exact⟨v,H',f, .inl (by simpa using z),C.mono (fun _ _ x=>x.elim),fun B a=> .inl a⟩
  .have K:kQ l g k 0 (2*n) k=n:=by
    simp only[kQ,show((2*n) % 2).beq 0=true by rw[jC];rfl,zP,yP n (show 0<2 by omega)]
   have Y:Nat.blt 0 k=true:=by rw[qE];exact p
   have N:setAt l (0+n*k) []=some l:=by rw[xI (by simp;omega)];simp
   have S:(H.put A (.cells l o k g)).h.get A=some (.cells l o k g):=by rw[zRk,if_pos rfl]
   refine⟨.slice A 0 n (2*n),H.put A (.cells l o k g), ?_, .inr ⟨by simpa using t,A,o,g,rfl,u,by simpa using S,by omega⟩,(zRo j).put u _ (.inr (zRl.2 rfl)),fun B a=> .inl a⟩;simp only[Eng.app1,y,zGg,K,Nat.add_zero,Nat.ble_eq_true_of_le (zM n),zP,Y,N,zCO,kT,kF]
 .rcases h with h | ⟨hl,A,o,g,rfl,u,y,O⟩
  .obtain⟨H',f,z,C,T⟩:=KR (bytes:=bytes) j p h hm (by omega) J hb;exact⟨_,H',f, .inl z,C,fun B a=> .inr (by rw[zRl.1 a];exact zM _)⟩
  .have f:=VE (k:=k) (e:=e) (bytes:=bytes) (n:=n) (m:=m) (off:=0) (new:=new) j y (by omega) (by omega) J hb;rw[yL,zY (by omega)]at f;refine⟨_,_,f, .inl ⟨by simp[hl,hm,j8], .inr ⟨H.next,rfl,Nat.lt_succ_self _,zRg _ _⟩⟩,(zRo j).push _,fun B a=> .inr (by rw[zRl.1 a];exact zM _)⟩
theorem kZ.app {bytes m:Nat}{new:List AV}(j:H.ok)(f:0<h)(e:kZ h p H k t A)(o:srcOf h q H=some (m,new))(hm:new.length=m*h)(n:jP new=true)(s:t+m<=1000000000)(hb:bytes<=1000):
  ∃a H',apP p h bytes k q H=some (a,H')/\kZ h p H' a (t+m) (A++new)/\Stp (Blk k) H H'/\(∀B,Blk a B->Blk k B\/H.next<=B):=by
 obtain⟨a,H',v,u⟩:=e.app1 (bytes:=bytes) (e:=p) j f hm s hb;exact⟨a,H',by simp only[apP,o,n,zP,v],u⟩
theorem kZ.isCell {k e n:Nat}{H:AH}{v:AV}{l:List AV}(h:kZ k e H v n l):isCell v=true:=h.row.isCell
def Box (H:AH)(A:Nat)(v:AV):Prop:= ∃e,H.h.get A=some (.cells [v] e 1 false)
theorem Box.ld (A:Box H h k):ld1 (.ptr h 0) H=some k:=by
 obtain⟨e,A⟩:=A;rw[jM A];rfl
theorem Box.st {x:AV}(A:Box H h k)(a:H.ok)(f:Eng.isCell x=true): ∃H',stN 1 (.ptr h 0) x H=some (jQ,H')/\Box H' h x/\Stp (fun B=>B=h) H H':=by
 obtain⟨e,A⟩:=A;exact⟨_,cE A (by decide) f (by simp),⟨e,by rw[zRk,if_pos rfl];rfl⟩,(zRo a).put (a.lt A) _ (.inr rfl)⟩
theorem Box.mono (S:Box H h k)(a:H.ok)(s:Stp B H v)(f: ¬B h):Box v h k:=by
 obtain⟨e,S⟩:=S;exact⟨e,by rw[s.keep h (a.lt S) f];exact S⟩
theorem Box.lt {H:AH}{A:Nat}{v:AV}(h:Box H A v)(a:H.ok):A<H.next:=by obtain⟨e,h⟩:=h;exact a.lt h
theorem WK {k:Nat}(H:AH)(c:List AV)(e:TypeId)(sz:Nat)(g:Bool)(m cc:Nat)(a:c.length=m*k):srcOf k (.slice H.next 0 m cc) (H.push (.cells c e sz g))=some (m,c):=by
 simp only[srcOf,zRg];rw[wC _ _ _ (.inr (by omega)),yL,zY (by omega)]
end Go.Eng
namespace Go.Nd
theorem rising_ix (lt:Str->Str->Bool): ∀l:List Str,rising lt l=true↔ ∀i (h:i+1<l.length),lt l[i] l[i+1]=true
 | []=>by simp[rising]
 | [a]=>by simp[rising]
 | a::b::l=>by
  have f:=rising_ix lt (b::l);simp only[rising,zE,f];constructor
  .rintro⟨h1,h2⟩ i h
   cases i with
   | zero=>exact h1
   | succ i=>exact h2 i (by simpa using h)
  .intro h;exact⟨h 0 (by simp),fun i hi=>h (i+1) (by simpa using hi)⟩
theorem rising_take {lt:Str->Str->Bool}{l:List Str}(h:rising lt l=true)(k:Nat):rising lt (l.take k)=true:=by
 rw[rising_ix]at h⊢;intro i hi;simp only[qC]at hi;simp only[List.getElem_take];exact h i (by omega)
theorem rising_drop {lt:Str->Str->Bool}{l:List Str}(h:rising lt l=true)(k:Nat):rising lt (l.drop k)=true:=by
 rw[rising_ix]at h⊢;intro i hi;simp only[qL]at hi;simp only[List.getElem_drop];exact h (k+i) (by omega)
theorem KS {f:F->Bool}{l:List F}(h:l.all f=true)(k:Nat):(l.take k).all f=true:=by
 simp only[yE]at h⊢;exact fun x a=>h x (List.mem_of_mem_take a)
theorem KT {f:F->Bool}{l:List F}(h:l.all f=true)(k:Nat):(l.drop k).all f=true:=by
 simp only[yE]at h⊢;exact fun x a=>h x (List.mem_of_mem_drop a)
def cutA (n:Node)(k:Nat):Node:=if n.leaf then⟨true,n.keys.take k,n.vals.take k,[]⟩else⟨false,n.keys.take k,[],n.kids.take (k+1)⟩
def QD (n:Node)(k:Nat):Node:=if n.leaf then⟨true,n.keys.drop k,n.vals.drop k,[]⟩else⟨false,n.keys.drop (k+1),[],n.kids.drop (k+1)⟩
def cP (a:Node)(sep:Str)(b:Node):Node:=if a.leaf then⟨true,a.keys++b.keys,a.vals++b.vals,[]⟩else⟨false,a.keys++([sep]++b.keys),[],a.kids++b.kids⟩
def cutOk (n:Node)(k:Nat):Prop:=1<=k/\k+(if n.leaf then 1 else 2)<=n.keys.length
theorem cut_shaped {lt:Str->Str->Bool}{n:Node}(k:shaped lt n=true)(p:cutOk n h):shaped lt (cutA n h)=true/\shaped lt (QD n h)=true:=by
 obtain⟨leaf,keys,vals,kids⟩:=n;obtain⟨k1,k2⟩:=p
 cases leaf with
 | true=>
  simp only[shaped,if_true,zE,zR]at k k2;obtain⟨⟨a,f⟩,⟨j,q⟩,m⟩:=k;simp only[shaped,cutA,QD,if_true,zE,zR];exact⟨⟨⟨KS a h,rising_take f h⟩,⟨by simp[j],trivial⟩,KS m h⟩,⟨KT a h,rising_drop f h⟩,⟨by simp[j],trivial⟩,KT m h⟩
 | false=>
  simp only[shaped,zL,qD,zE,zR]at k k2;obtain⟨⟨a,f⟩,⟨⟨j,q⟩,m⟩,o⟩:=k;simp only[shaped,cutA,QD,zL,qD,zE,zR];refine⟨⟨⟨KS a h,rising_take f h⟩,⟨⟨?_,trivial⟩, ?_⟩,KS o _⟩,⟨KT a _,rising_drop f _⟩,⟨⟨?_,trivial⟩, ?_⟩,KT o _⟩
  .intro e;have:=congrArg List.length e;rw[qC]at this;simp only[yG]at this;omega
  .rw[qC,qC];omega
  .intro e;have:=congrArg List.length e;rw[qL]at this;simp only[yG]at this;omega
  .rw[qL,qL];omega
theorem sumL_drop_le (l:List Str)(k:Nat):sumL (l.drop k)<=sumL l:=by
 have:sumL l=sumL (l.take k)+sumL (l.drop k):=by rw[<-sumL_append,y6]
 omega
theorem sumL_take_le (l:List Str)(k:Nat):sumL (l.take k)<=sumL l:=by
 have:sumL l=sumL (l.take k)+sumL (l.drop k):=by rw[<-sumL_append,y6]
 omega
theorem YL (l:List Str)(k:Nat):sumL l=sumL (l.take k)+sumL (l.drop k):=by rw[<-sumL_append,y6]
theorem cut_size {lt:Str->Str->Bool}{n:Node}(k:shaped lt n=true)(a:cutOk n h):size (cutA n h)<size n/\size (QD n h)<size n:=by
 obtain⟨leaf,keys,vals,kids⟩:=n;obtain⟨k1,k2⟩:=a;have o:=YL keys h;have f:=sumL_ge (keys.take h);have j:=sumL_ge (keys.drop h);simp only[qC,qL]at f j
 cases leaf with
 | true=>
  simp only[if_true]at k2;simp only[shaped,if_true,zE,zR]at k;have p:=YL vals h;simp only[cutA,QD,if_true,size,yG,k.2.1.2];omega
 | false=>
  simp only[zL,qD]at k2;simp only[shaped,zL,qD,zE,zR]at k;have q:=k.2.1.2;have t:=YL keys (h+1);have m:=sumL_ge (keys.take (h+1));simp only[qC]at m;simp only[cutA,QD,zL,qD,size,k.2.1.1.2,qC,qL];have:sumL []=0:=rfl;omega
end Go.Nd
namespace Go.Eng.Sh
open Go.Nd (Ptr sumL)
theorem wF(s:Str)(H:AH):f137 D n [S s] H=some (.bool (Nd.mayK s),H):=by
 simp only[f137,ZQ,zHT,cL,bVs,zFm,zFk,zPz,zQi,zAA,zPW,zKH,zEq];have a:(Int.ofNat 1<=(s.length:Int))=(1<=s.length):=by simp;omega
 have f:((s.length:Int)<=Int.ofNat 40)=(s.length<=40):=by simp;omega
 simp only[a,f,Nd.mayK];by_cases h:1<=s.length<;>simp[h,bVs,dG]
theorem sumL_nil:sumL []=0:=rfl
theorem WG (l:List Str)(i:Nat)(hi:i<l.length):sumL (l.take (i+1))=sumL (l.take i)+(1+l[i].length)/\sumL (l.take i)+(1+l[i].length)<=sumL l:=by
 have a:sumL l=sumL (l.take i)+(1+l[i].length+sumL (l.drop (i+1))):=by
  rw[<-Nd.sumL_cons,<-qI hi,<-Nd.sumL_append,y6]
 refine⟨?_,by omega⟩;rw[xA l i hi,Nd.sumL_append,Nd.sumL_cons];simp[sumL]
theorem size0 (D:Dyn)(f:Nat){l:List Str}(h:Strs H k l)(x:AV)(a:Int)(n:Nat)(u:0<=a)(m:l.length<n)(hb:a+sumL l<=1000000000000):
  kJ n (JQ D f) [x, .int .i64 a,k, .int .i64 (l.length:Nat), .int .i64 (0:Nat)] H=some (.exit 0 [x, .int .i64 (a+sumL l)],H):=by
 have key:=uX (b:=JQ D f) (H:=H) (r:=some (.exit 0 [x, .int .i64 (a+sumL l)],H)) (fun i=>[x, .int .i64 (a+sumL (l.take i)),k, .int .i64 (l.length:Nat), .int .i64 (i:Nat)]) l.length (fun i hi=>by
  obtain⟨p,o,q⟩:=h.at hi;obtain⟨j,y⟩:=WG l i hi;have t:=Nd.sumL_ge l;simp(disch:=omega) [JQ,ZQ,bVs,YC,zG7,hi,o,q,cL,KP,wrap_i64,j,Int.add_assoc]) (fun n=>jW (by
  simp[JQ,ZQ,bVs,YC,zG7])) n m
 simpa[sumL_nil]using key
theorem size1 (D:Dyn)(f:Nat){l:List Str}(h:Strs H k l)(a:Int)(n:Nat)(u:0<=a)(m:l.length<n)(hb:a+sumL l<=1000000000000):
  kJ n (XW D f) [.int .i64 a,k, .int .i64 (l.length:Nat), .int .i64 (0:Nat)] H=some (.exit 2 [.int .i64 (a+sumL l)],H):=by
 have key:=uX (b:=XW D f) (H:=H) (r:=some (.exit 2 [.int .i64 (a+sumL l)],H)) (fun i=>[.int .i64 (a+sumL (l.take i)),k, .int .i64 (l.length:Nat), .int .i64 (i:Nat)]) l.length (fun i hi=>by
  obtain⟨p,o,q⟩:=h.at hi;obtain⟨j,x⟩:=WG l i hi;have t:=Nd.sumL_ge l;simp(disch:=omega) [XW,ZQ,bVs,YC,zG7,hi,o,q,cL,KP,wrap_i64,j,Int.add_assoc]) (fun n=>jW (by
  simp[XW,ZQ,bVs,YC,zG7])) n m
 simpa[sumL_nil]using key
def jS (p:Ptr):List AV:=[.int .i64 p.at_, .int .i64 p.birth, .int .u64 p.sum]
def gY (H:AH)(v:AV)(l:List Ptr):Prop:=Rw 3 H v l.length (l.flatMap jS)
def dD (H:AH)(v:AV)(n:Nd.Node):Prop:= ∃ks vs ps,v= .agg [.bool n.leaf,ks,vs,ps]/\Strs H ks n.keys/\Strs H vs n.vals/\gY H ps n.kids
theorem gY.lnSl {H:AH}{v:AV}{l:List Ptr}(h:gY H v l):Eng.lnSl v=some (.int .i64 (l.length:Int)):=Rw.lnSl h
theorem gY.prs {H H':AH}{v:AV}{l:List Ptr}(h:gY H v l)(s:Prs H H'):gY H' v l:=Rw.prs h s
theorem zQv: ∀(l:List Ptr) (i:Nat) (hi:i<l.length),((l.flatMap jS).drop (i*3)).take 3=jS l[i]
 | [],i,hi=>by simp at hi
 | p::l,0,_=>rfl
 | p::l,i+1,hi=>by
  have:=zQv l i (by simpa using hi);rw[show(i+1)*3=i*3+3 from by omega];exact this
theorem gY.at {H:AH}{v:AV}{l:List Ptr}(h:gY H v l){i:Nat}(hi:i<l.length): ∃p,(∀κ (z:Int),z=(i:Int)->dV 3 v (.int κ z)=some p)/\Eng.ldN 3 p H=some (.agg (jS l[i])):=by
 obtain⟨p,f,a⟩:=Rw.ldN h hi;rw[zQv l i hi]at a;exact⟨p,f,a⟩
theorem dD.prs {H H':AH}{v:AV}{n:Nd.Node}(h:dD H v n)(s:Prs H H'):dD H' v n:=by
 obtain⟨ks,vs,ps,rfl,a,f,j⟩:=h;exact⟨ks,vs,ps,rfl,a.prs s,f.prs s,j.prs s⟩
def small (n:Nd.Node):Prop:=n.kids.length<=100000/\sumL n.keys<=100000000/\sumL n.vals<=100000000
theorem WL(f:H.ok){nd:Nd.Node}(h:dD H k nd)(o:small nd)(u:200000000<=n):
  Ret (f110 D n [k] H) fun r H'=>r= .int .i64 (Nd.size nd:Nat)/\Prs H H':=by
 obtain⟨ks,vs,ps,rfl,j,m,p⟩:=h;obtain⟨x,y,z⟩:=o;have a:Prs H (H.push (.cells [.bool nd.leaf,ks,vs,ps] 119 1 false)):=(zRo f).push _;have q:=Nd.sumL_ge nd.keys;have t:=Nd.sumL_ge nd.vals;simp(disch:=omega) only[f110,ev,kX f,j.lnSl,m.lnSl,p.lnSl,size0 D n (j.prs a),zMR,size1 D n (m.prs a),zIQ];apply Ret.pure;refine⟨?_,a⟩;simp only[Nd.size,AV.int.injEq,true_and];omega
open Go.Nd (be mayP encP)
theorem zJw: ∀(i n:Nat),be (i+1) n=UInt8.ofNat (n / 256 ^ i)::be i n
 | 0,n=>by simp[be]
 | i+1,n=>by
  rw[be,zJw i (n / 256),Nat.div_div_eq_div_mul,Nat.mul_comm 256,<-Nat.pow_succ];rfl
theorem zNz (c:h<A.length):(A.take (h+1)++E).set h k=A.take h++(k::E):=by
 have hl:(A.take h).length=h:=by simp;omega
 rw[xA A h c,zZ,List.set_append_right _ _ (by omega),hl];simp
theorem zHy(q:H.ok){off k cc:Nat}(z:Nat)(t:H.h.get h=some (.cells A w 1 l))(hc:off+k<=A.length)(Z:k<=8)(hn:100<=n):
  ∃H',f119 D n [.slice h off k cc, .int .u64 (z:Nat)] H=some (.tuple [],H')/\H'.h.get h=some (.cells (A.take off++(jO (be k z)++A.drop (off+k))) w 1 l)/\Stp (fun B=>B=h) H H'/\H'.next=H.next:=by
 have a0:=q.lt t;have key:=uF (b:=BG D n) k (fun i vs H'=>vs=[.slice h off k cc, .int .u64 (z:Nat), .int .i64 (k:Nat), .int .i64 (i:Nat)]/\i<=k/\H'.h.get h=some (.cells (A.take (off+(k - i))++(jO (be i z)++A.drop (off+k))) w 1 l)/\Stp (fun B=>B=h) H H'/\H'.next=H.next)
  (fun i vs H' hi ⟨y,hik,hg,hst,hnx⟩=>by
   subst y;have hb:Nat.blt (k - 1 - i) k=true:=by rw[qE];omega
   have Y:((k:Int) - 1 - (i:Int))=((k - 1 - i:Nat):Int):=by omega
   have C:dV 1 (.slice h off k cc) (.int .i64 (k - 1 - i:Nat))=some (.ptr h (off+(k - 1 - i))):=by
    simp only[dV,kL _ (show(0:Int)<=((k - 1 - i:Nat):Int)by omega),yC,hb,zP,kF,Nat.mul_one]
   have j:=cE (x:= .int .u8 ((((z / 256 ^ i % 256:Nat):Nat)):Int)) (o:=off+(k - 1 - i)) hg (by decide) rfl (by simp[jO,Nd.be_length];omega);have u:(A.take (off+(k - i))++(jO (be i z)++A.drop (off+k))).set (off+(k - 1 - i)) (.int .u8 (((z / 256 ^ i % 256:Nat)):Int))=A.take (off+(k - (i+1)))++(jO (be (i+1) z)++A.drop (off+k)):=by
    rw[show off+(k - i)=off+(k - 1 - i)+1 by omega,zNz (by omega),zJw,show k - (i+1)=k - 1 - i by omega];simp[jO]
   have J:(z:Int) / 2 ^ (8*i)=((z / 256 ^ i:Nat):Int):=by
    rw[<-zMj];simp
   refine⟨_,H'.put h (.cells (A.take (off+(k - (i+1)))++(jO (be (i+1) z)++A.drop (off+k))) w 1 l), ?_,rfl,by omega,by rw[zRk,if_pos rfl], ?_,hnx⟩
   .rw[u]at j;have p:=zFg .u64 .i64 (a:=(z:Nat)) (s:=8*i) (by omega) (by simp[IntKind.bits];omega);rw[J]at p;have K:(((8:Nat):Int)*(i:Int))=((8*i:Nat):Int):=by omega
    have N:IntKind.wrap .u8 ((z / 256 ^ i:Nat):Int)=((z / 256 ^ i % 256:Nat):Int):=by rw[wrap_u8];omega
    have f:(k:Int) - ((1:Nat):Int) - (i:Int)=((k - 1 - i:Nat):Int):=by omega
    simp(disch:=omega) only[BG,ev,lnSl,f,C,K,p,N,j];simp[hi]
   .exact hst.put (by omega) _ (.inr rfl)) n _ H ⟨rfl,Nat.zero_le _,by simpa[be,jO]using t,zRo q,rfl⟩ (by omega)
 obtain⟨m,vs',H',f,rfl,_,O,S,T⟩:=key;refine⟨H', ?_,by simpa using O,S,T⟩;have hl:kJ (m+1) (BG D n) [.slice h off k cc, .int .u64 (z:Nat), .int .i64 (k:Nat), .int .i64 (k:Nat)] H'=some (.exit 0 [],H'):=jW (by simp[BG,ev]);rw[hl]at f;simp only[f119,ev,lnSl,f,zMP]
theorem zOD (p q:Ptr):eqA [6,6,10] (.agg (jS p)) (.agg (jS q))=some (decide (p=q)):=by
 obtain⟨a,b,c⟩:=p;obtain⟨j,b',c'⟩:=q;have f:=fun x y=>J7 .i64 x y
 have h:=fun x y=>J7 .u64 x y
 simp only[ZP]at f h;simp only[eqA,jS,Z9,Nat.succ_eq_add_one,yF,zT,yG,qP,zP,uC,f,h];by_cases m:a=j<;>by_cases o:b=b'<;>by_cases t:c=c'<;>simp[m,o,t]
theorem zLq (b:Bool):dS .eql (some b)=some (.bool b):=by simp only[dS,wD]
theorem zMl(f:H.ok)(p:Ptr): ∃H',f118 D n [.agg (jS p)] H=some (.bool (mayP p),H')/\Prs H H':=by
 refine⟨H.push (.cells (jS p) 42 1 false), ?_,(zRo f).push _⟩;have h:eqA [6,6,10] (.agg (jS p)) (.agg (jS ⟨0,0,0⟩))=_:=zOD p ⟨0,0,0⟩;obtain⟨a,b,c⟩:=p;simp only[jS]at h;simp only[f118,ev,kX f,jS,bC,takeN,qB,lg,vJ,fD];by_cases j:a=0
 .subst j;simp only[show((0:Nat):Int)=0 from rfl,if_true,h,zLq,ev,mayP];simp
 .simp only[show((0:Nat):Int)=0 from rfl,if_neg j,ev,mayP];rfl
def Z (n:Nat):List AV:=List.replicate n (.int .u8 (0:Nat))
theorem zNH:rep 16 [.int .u8 (0:Nat)]=Z 16:=rfl
theorem zDe(o:H.ok){off k cc:Nat}(z:Nat)(p:H.h.get h=some (.cells (A++(E++G)) w 1 l))(hp:A.length=off)(x:E.length=k)(m:k<=8)(q:100<=n):
  ∃H',f119 D n [.slice h off k cc, .int .u64 (z:Nat)] H=some (.tuple [],H')/\H'.h.get h=some (.cells (A++(jO (be k z)++G)) w 1 l)/\Stp (fun B=>B=h) H H'/\H'.next=H.next:=by
 obtain⟨H',t,j,u⟩:=zHy D n o (cc:=cc) (k:=k) (off:=off) z p (by simp;omega) m q;refine⟨H',t, ?_,u⟩;have hd:(A++(E++G)).drop (off+k)=G:=by rw[<-zZ,yX (by rw[zV];omega)]
 rw[jA hp,hd]at j;exact j
theorem slA (A lo hi:Nat)(f:lo<=hi)(j:hi<=16)(p:lo<16):xJ 16 1 (.ptr A 0) (some (.int .i64 (lo:Nat))) (some (.int .i64 (hi:Nat))) none=some (.slice A lo (hi - lo) (2*(16 - lo))):=by
 have m:Nat.ble hi 16=true:=by rw[qW];exact j
 have o:Nat.ble lo hi=true:=by rw[qW];exact f
 have a:Nat.beq 16 lo=false:=by rw[qY];intro h;have:=Nat.eq_of_beq_eq_true h;omega
 simp[xJ,kY,kL,JC,m,o,a,kF,show((32 % 2).beq 0)=true from rfl,show(32 / 2).beq lo=false from a,show Nat.blt 0 1=true from rfl]
theorem zH1 (A:Nat):xJ 16 1 (.ptr A 0) none (some (.int .i64 (4:Nat))) none=some (.slice A 0 4 32):=rfl
theorem zH0 (A:Nat):xJ 16 1 (.ptr A 0) (some (.int .i64 (8:Nat))) none none=some (.slice A 8 8 16):=rfl
theorem zPO (A:Nat):xJ 16 1 (.ptr A 0) none none none=some (.slice A 0 16 32):=rfl
theorem zCp(K:H.ok){p:Ptr}(hp:mayP p=true)(hs:Nd.sumOk p)(o:100<=n): ∃H',f72 D n [.agg (jS p)] H=some (.tuple [S (encP p), .int .i64 (0:Nat)],H')/\Prs H H':=by
 have q:Prs H (H.push (.cells (jS p) 42 1 false)):=(zRo K).push _;obtain⟨f,h2,j⟩:=zMl D n q.ok p;have a0:bC (jS p) 0 3=some (jS p):=rfl;have h0: ∃a b s:Nat,p=⟨a,b,s⟩/\a<4294967296/\b<4294967296/\s<18446744073709551616:=by
  obtain⟨a,b,s⟩:=p;simp only[Nd.sumOk]at hs;have h1:0<=a/\a<8192/\0<=b/\b<=2147483647:=by
   simp only[mayP]at hp;split at hp
   .simp only[zE,zR]at hp;omega
   .simp only[zE,zR]at hp;omega
  exact⟨a.toNat,b.toNat,s.toNat,by congr 1<;>omega,by omega,by omega,by omega⟩
 obtain⟨a,b,s,rfl,ha,hb,a7⟩:=h0;have t: ∀x:Nat,x<18446744073709551616->IntKind.wrap .u64 (x:Int)=(x:Int):=fun x hx=>by rw[wrap_u64];omega
 have m:Prs f (f.push (.cells (Z 16) 232 1 false)):=(zRo j.ok).push _;have N:(f.push (.cells (Z 16) 232 1 false)).h.get f.next=some (.cells ([]++(Z 4++Z 12)) 232 1 false):=zRg _ _
 have a1:(f.push (.cells (Z 16) 232 1 false)).next=f.next+1:=rfl
 generalize a2:f.push (.cells (Z 16) 232 1 false)=H3 at m N a1;obtain⟨H4,e4,O,st4,n4⟩:=zDe D n m.ok (cc:=32) (k:=4) (off:=0) a N rfl (by simp[Z]) (by omega) o;rw[show[]++(jO (be 4 a)++Z 12)=jO (be 4 a)++(Z 4++Z 8)from rfl]at O;obtain⟨H5,e5,T,st5,n5⟩:=zDe D n st4.ok (cc:=24) (k:=4) (off:=4) b O (by simp[jO,Nd.be_length]) (by simp[Z]) (by omega) o;rw[<-zZ,show Z 8=Z 8++[]from rfl]at T;obtain⟨u,e6,y,z,n6⟩:=zDe D n st5.ok (cc:=16) (k:=8) (off:=8) s T (by simp[jO,Nd.be_length]) (by simp[Z]) (by omega) o;have C:H3.h.get H.next=some (.cells (jS ⟨a,b,s⟩) 42 1 false):=m.get j.ok (j.get q.ok (zRg _ _))
 have a6:H.next<f.next:=by have:=j.next;rw[zRh]at this;omega
 have J:H4.h.get H.next=some (.cells (jS ⟨a,b,s⟩) 42 1 false):=by rw[st4.keep _ (by have:=m.next;omega) (by omega)];exact C
 have a3:H5.h.get H.next=some (.cells (jS ⟨a,b,s⟩) 42 1 false):=by rw[st5.keep _ (by have:=m.next;omega) (by omega)];exact J
 have Y:jO (be 4 a)++jO (be 4 b)++(jO (be 8 s)++[])=jO (encP ⟨a,b,s⟩):=by simp[encP,jO]
 rw[Y]at y;have a4:zF3 (.slice f.next 0 16 32) u=some (S (encP ⟨a,b,s⟩)):=KK ⟨by simp[jO,Nd.encP_length], .inr (.inr ⟨_,_,_,_,_,_,_,rfl,y,by have:=(z.ok).lt y;exact this,by simp[jO,Nd.encP_length],by simp[zY,jO,Nd.encP_length]⟩)⟩ (by simp)
 refine⟨u, ?_, ?_⟩
 .simp only[f72,ev,kX K,a0,qB,h2,hp];simp only[ev,kX j.ok,Bool.not_true,zL,qD,zNH,a2,zH1,zH0,zPO,slA _ 4 8 (by omega) (by omega) (by omega),jM C,jM J,jM a3,jS,t a (by omega),t b (by omega),t s (by omega),e4,e5,e6,a4]
 .have a5:Stp (fun B=>B=f.next) H3 u:=(st4.trans st5).trans z
  exact(q.trans j).trans (m.fresh a5 (fun A hA=>by omega))
theorem UD (lt:Str->Str->Bool): ∀l:List Str,Nd.rising lt l=true↔ ∀i (h:i+1<l.length),lt l[i] l[i+1]=true
 | []=>by simp[Nd.rising]
 | [a]=>by simp[Nd.rising]
 | a::b::l=>by
  have f:=UD lt (b::l);simp only[Nd.rising,zE,f];constructor
  .rintro⟨h1,h2⟩ i h
   cases i with
   | zero=>exact h1
   | succ i=>exact h2 i (by simpa using h)
  .intro h;exact⟨h 0 (by simp),fun i hi=>h (i+1) (by simpa using hi)⟩
def zFW (l:List Str)(i:Nat):Bool:=Nd.mayK (l.getD i [])&&(decide (i=0)||ltS (l.getD (i - 1) []) (l.getD i []))
theorem zIj (l:List Str):(List.range l.length).all (zFW l)=(l.all Nd.mayK&&Nd.rising ltS l):=by
 rw[yI,zE,UD];simp only[yE,List.mem_range,zFW,zE,j6,zR];constructor
 .intro h;refine⟨fun x a=> ?_,fun i hi=> ?_⟩
  .obtain⟨i,hi,rfl⟩:=List.mem_iff_getElem.1 a;have:=(h i hi).1;rwa[qK,zQ hi]at this
  .have:=(h (i+1) hi).2;simp only[Nat.add_eq_zero_iff,Nat.one_ne_zero,and_false,false_or,Nat.add_sub_cancel]at this;rwa[qK,zQ (by omega),qK,zQ hi]at this
 .rintro⟨h1,h2⟩ i hi
  refine⟨?_, ?_⟩
  .rw[qK,zQ hi];exact h1 _ (yM hi)
  .by_cases f:i=0
   .exact .inl f
   .right;have:=h2 (i - 1) (by omega);rw[qK,zQ (show i - 1<l.length by omega),qK,zQ hi];simpa[show i - 1+1=i by omega]using this
theorem zCQ (l:List F)(d:F)(f:F->Bool):(List.range l.length).all (fun i=>f (l.getD i d))=l.all f:=by
 rw[yI];simp only[yE,List.mem_range];constructor
 .intro h x a;obtain⟨i,hi,rfl⟩:=List.mem_iff_getElem.1 a;have:=h i hi;rwa[qK,zQ hi]at this
 .intro h i hi;rw[qK,zQ hi];exact h _ (yM hi)
theorem vT {l:List F}{d:F}(α:h<l.length):l.getD h d=l[h]:=by rw[qK,zQ α];rfl
theorem zNy{l:List Str}(ks:Strs H k l)(z:H.h.get h=some (.cells A p 1 false))(C:A[1]? =some k)(hl:l.length<=1000000000)(y:Nat)(K:l.length<y):
  ∃p H',kJ y (fS D n) [.ptr h 0,k, .int .i64 (l.length:Nat), .int .i64 (0:Nat)] H=some (p,H')/\if(List.range l.length).all (zFW l)then(p= .exit 0 [.ptr h 0]/\H'=H)else(p= .ret (.bool false)/\H'=H):=by
 refine QP l.length (zFW l) (fun i vs H'=>H'=H/\vs=[.ptr h 0,k, .int .i64 (l.length:Nat), .int .i64 (i:Nat)]) (fun p H'=>p= .exit 0 [.ptr h 0]/\H'=H) (fun p H'=>p= .ret (.bool false)/\H'=H) ?_ ?_ ?_ y _ H ⟨rfl,rfl⟩ K
 .rintro i vs H' hi ⟨rfl,rfl⟩ a
  obtain⟨e,o,t⟩:=ks.at hi;simp only[zFW,vT hi,zE,j6,zR]at a;refine⟨_,H', ?_,rfl,rfl⟩;have f:((i:Nat):Int)< (l.length:Int):=by omega
  by_cases J:i=0
  .subst J;simp(disch:=omega) only[fS,eZ,f,o,t,wF,a.1,y7,show((0:Nat):Int)+((1:Nat):Int)=((0+1:Nat):Int)from rfl]
  .have j:i - 1<l.length:=by omega
   obtain⟨q,q1,q2⟩:=ks.at j;have m:=a.2.resolve_left J;rw[vT j]at m;have u:((i:Nat):Int) - ((1:Nat):Int)=((i - 1:Nat):Int):=by omega
   have x:((0:Nat):Int)< (i:Int):=by omega
   simp(disch:=omega) only[fS,eZ,f,x,o,t,wF,a.1,jM z,C,u,q1,q2,m,yH]
 .rintro i vs H' hi ⟨rfl,rfl⟩ a
  obtain⟨e,o,t⟩:=ks.at hi;have f:((i:Nat):Int)< (l.length:Int):=by omega
  refine⟨.ret (.bool false),H', ?_,rfl,rfl,rfl⟩;simp only[zFW,vT hi]at a
  cases hm:Nd.mayK l[i]with
  | false=>simp(disch:=omega) only[fS,eZ,f,o,t,wF,hm]
  | true=>
   simp only[hm,Bool.true_and,Bool.or_eq_false_iff,yO]at a;have j:i - 1<l.length:=by omega
   obtain⟨q,q1,q2⟩:=ks.at j;have m:=a.2;rw[vT j]at m;have u:((i:Nat):Int) - ((1:Nat):Int)=((i - 1:Nat):Int):=by omega
   have x:((0:Nat):Int)< (i:Int):=by omega
   simp(disch:=omega) only[fS,eZ,f,x,o,t,wF,hm,jM z,C,u,q1,q2,m]
 .rintro vs H' ⟨rfl,rfl⟩
  refine⟨.exit 0 [.ptr h 0],H', ?_,rfl,rfl,rfl⟩;simp only[fS,eZ,y7]
theorem zNx{l:List Str}(h:Strs H k l)(hl:l.length<=1000000000)(m:Nat)(u:l.length<m):
  ∃e H',kJ m (Y3 D n) [k, .int .i64 (l.length:Nat), .int .i64 (0:Nat)] H=some (e,H')/\if(List.range l.length).all (fun i=>decide ((l.getD i []).length<=200))then(e= .exit 2 []/\H'=H)else(e= .ret (.bool false)/\H'=H):=by
 refine QP l.length _ (fun i a H'=>H'=H/\a=[k, .int .i64 (l.length:Nat), .int .i64 (i:Nat)]) (fun e H'=>e= .exit 2 []/\H'=H) (fun e H'=>e= .ret (.bool false)/\H'=H) ?_ ?_ ?_ m _ H ⟨rfl,rfl⟩ u
 .rintro i a H' hi ⟨rfl,rfl⟩ o
  obtain⟨p,q,t⟩:=h.at hi;simp only[vT hi,zR]at o;refine⟨_,H', ?_,rfl,rfl⟩;have f:((i:Nat):Int)< (l.length:Int):=by omega
  have j: ¬((200:Nat):Int)< ((l[i].length:Nat):Int):=by omega
  simp(disch:=omega) only[Y3,eZ,f,q,t,j,yH]
 .rintro i a H' hi ⟨rfl,rfl⟩ o
  obtain⟨p,q,t⟩:=h.at hi;simp only[vT hi,yO]at o;refine⟨.ret (.bool false),H', ?_,rfl,rfl,rfl⟩;have f:((i:Nat):Int)< (l.length:Int):=by omega
  have j:((200:Nat):Int)< ((l[i].length:Nat):Int):=by omega
  simp(disch:=omega) only[Y3,eZ,f,q,t,j,yH]
 .rintro a H' ⟨rfl,rfl⟩
  refine⟨.exit 2 [],H', ?_,rfl,rfl,rfl⟩;simp only[Y3,eZ,y7]
def pz:Ptr:=⟨0,0,0⟩
theorem zQd (x:Ptr):(((decide (x.at_< ((1:Nat):Int))||decide (((8192:Nat):Int)<=x.at_))||decide (x.birth< ((0:Nat):Int)))||decide (((2147483647:Nat):Int)<x.birth))= !(Nd.kidOk x):=by
 rw[yI];simp only[Nd.kidOk,j6,zR,yU,Bool.and_eq_false_iff,yO];omega
theorem zDK (f:H.ok)(x:Ptr): ∃a,stN 3 (.ptr H.next 0) (.agg (jS x)) (H.push (.cells [.int .i64 (0:Nat), .int .i64 (0:Nat), .int .u64 (0:Nat)] 42 1 false))=some (jQ,a)/\Prs H a/\a.next=H.next+1/\a.h.get H.next=some (.cells (jS x) 42 1 false):=by
 refine⟨_,WJ (zRg _ _) (by decide) rfl rfl (by decide), ?_,rfl,by rw[zRk,if_pos rfl];rfl⟩;exact((zRo f).push _).fresh ((zRo (f.push _)).put (by rw[zRh];omega) _ (.inr rfl)) (fun A j=>by omega)
theorem zNw(J:H.ok){l:List Ptr}(h:gY H k l)(hl:l.length<=1000000000)(y:Nat)(K:l.length<y):
  ∃e H',kJ y (XX D n) [k, .int .i64 (l.length:Nat), .int .i64 (0:Nat)] H=some (e,H')/\if(List.range l.length).all (fun i=>Nd.kidOk (l.getD i pz))then(e= .exit 4 []/\Prs H H')else(e= .ret (.bool false)/\Prs H H'):=by
 refine QP l.length _ (fun i q H'=>Prs H H'/\q=[k, .int .i64 (l.length:Nat), .int .i64 (i:Nat)]) (fun e H'=>e= .exit 4 []/\Prs H H') (fun e H'=>e= .ret (.bool false)/\Prs H H') ?_ ?_ ?_ y _ H ⟨zRo J,rfl⟩ K
 .rintro i q H' hi ⟨a,rfl⟩ f
  obtain⟨p,z,j⟩:=(h.prs a).at hi;simp only[vT hi]at f;generalize l[i]=x at f j;obtain⟨C,m,t,N,o⟩:=zDK a.ok x;have u:((i:Nat):Int)< (l.length:Int):=by omega
  have hb:=zQd x;rw[f]at hb;simp only[jS]at o m j;refine⟨_,C, ?_,a.trans t,rfl⟩;simp(disch:=omega) only[XX,eZ,u,z,j,kX a.ok,m,jM o,hb,yH]
 .rintro i q H' hi ⟨a,rfl⟩ f
  obtain⟨p,z,j⟩:=(h.prs a).at hi;simp only[vT hi]at f;generalize l[i]=x at f j;obtain⟨C,m,t,N,o⟩:=zDK a.ok x;have u:((i:Nat):Int)< (l.length:Int):=by omega
  have hb:=zQd x;rw[f]at hb;simp only[jS]at o m j;refine⟨.ret (.bool false),C, ?_,rfl,rfl,a.trans t⟩;simp(disch:=omega) only[XX,eZ,u,z,j,kX a.ok,m,jM o,hb]
 .rintro q H' ⟨a,rfl⟩
  refine⟨.exit 4 [],H', ?_,rfl,rfl,a⟩;simp only[XX,eZ,y7]
theorem bN(hk:H.ok){nd:Nd.Node}(h:dD H k nd)(hs:small nd)(hn:200000000<=n):
  ∃H',f109 D n [k] H=some (.bool (Nd.shaped ltS nd),H')/\Prs H H':=by
 obtain⟨ks,vs,ps,rfl,f,o,p⟩:=h;obtain⟨s1,s2,s3⟩:=hs;have a:Prs H (H.push (.cells [.bool nd.leaf,ks,vs,ps] 119 1 false)):=(zRo hk).push _;have j:(H.push (.cells [.bool nd.leaf,ks,vs,ps] 119 1 false)).h.get H.next=some (.cells [.bool nd.leaf,ks,vs,ps] 119 1 false):=zRg _ _
 have a1:=Nd.sumL_ge nd.keys;have a2:=Nd.sumL_ge nd.vals;have hf:f109 D n [.agg [.bool nd.leaf,ks,vs,ps]] H=dG (jb 0 (kJ n (fS D n) [.ptr H.next 0,ks, .int .i64 (nd.keys.length:Nat), .int .i64 (0:Nat)] (H.push (.cells [.bool nd.leaf,ks,vs,ps] 119 1 false))) (JR D n)):=by
  simp only[f109,eZ,kX hk,f.lnSl]
 rw[hf];generalize H.push (.cells [.bool nd.leaf,ks,vs,ps] 119 1 false)=H1 at a j;obtain⟨e0,T,e1,C⟩:=zNy D n (f.prs a) j (by rfl) (by omega) n (by omega);rw[e1];rw[zIj]at C;split at C
 .rename_i Y;obtain⟨rfl,rfl⟩:=C;simp only[Nd.shaped,Y,Bool.true_and];obtain⟨leaf,keys,vals,kids⟩:=nd;simp only at f o p j a1 a2 s1 s2 s3 Y⊢
  cases leaf with
  | true=>
   by_cases u:vals.length=keys.length/\kids.length=0
   .obtain⟨K,N⟩:=u;obtain⟨e3,x,y,m⟩:=zNx D n (o.prs a) (by omega) n (by omega);have z: ¬((vals.length:Int)≠(keys.length:Int)):=by omega
    have t: ¬((kids.length:Int)≠((0:Nat):Int)):=by omega
    have O:kids=[]:=zW N;rw[zCQ vals ([]:Str) (fun k=>decide (k.length<=200))]at m;split at m
    .rename_i q;obtain⟨rfl,rfl⟩:=m;refine⟨x, ?_,a⟩;have hr:(decide (vals.length=keys.length)&&decide (kids=[])&&vals.all fun k=>decide (k.length<=200))=true:=by simp only[K,O,q,decide_true,qP]
     simp only[JR,eZ,jM j,f.lnSl,o.lnSl,p.lnSl,z,t,y,BH,hr]
    .rename_i q;obtain⟨rfl,rfl⟩:=m;refine⟨x, ?_,a⟩;have hr:(decide (vals.length=keys.length)&&decide (kids=[])&&vals.all fun k=>decide (k.length<=200))=false:=by simp only[qY.2 q,Bool.and_false]
     simp only[JR,eZ,jM j,f.lnSl,o.lnSl,p.lnSl,z,t,y,BH,hr]
   .refine⟨T, ?_,a⟩;have hr:(decide (vals.length=keys.length)&&decide (kids=[]))=false:=by
     rw[Bool.and_eq_false_iff,yO,yO];by_cases ha:vals.length=keys.length
     .right;intro hb;exact u ⟨ha,by rw[hb];rfl⟩
     .exact .inl ha
    simp only[JR,eZ,jM j,f.lnSl,o.lnSl,p.lnSl,hr];rw[if_pos (by simp only[j6,zR];omega)];simp only[eZ]
  | false=>
   by_cases u:keys.length≠0/\vals.length=0/\kids.length=keys.length+1
   .obtain⟨K,N,a3⟩:=u;obtain⟨e3,x,y,m⟩:=zNw D n a.ok (p.prs a) (by omega) n (by omega);have z: ¬((keys.length:Int)=((0:Nat):Int)):=by omega
    have t: ¬((vals.length:Int)≠((0:Nat):Int)):=by omega
    have Z: ¬((kids.length:Int)≠(keys.length:Int)+((1:Nat):Int)):=by omega
    have a4:vals=[]:=zW N;have O:keys≠[]:=fun e=>K (by rw[e];rfl)
    rw[zCQ kids pz Nd.kidOk]at m;split at m
    .rename_i q;obtain⟨rfl,S⟩:=m;refine⟨x, ?_,a.trans S⟩;have hr:(decide (keys≠[])&&decide (vals=[])&&decide (kids.length=keys.length+1)&&kids.all Nd.kidOk)=true:=by simp only[a3,a4,q,decide_eq_true O,decide_true,qP]
     simp(disch:=omega) only[JR,eZ,jM j,f.lnSl,o.lnSl,p.lnSl,z,t,Z,y,zEX,hr]
    .rename_i q;obtain⟨rfl,S⟩:=m;refine⟨x, ?_,a.trans S⟩;have hr:(decide (keys≠[])&&decide (vals=[])&&decide (kids.length=keys.length+1)&&kids.all Nd.kidOk)=false:=by simp only[qY.2 q,Bool.and_false]
     simp(disch:=omega) only[JR,eZ,jM j,f.lnSl,o.lnSl,p.lnSl,z,t,Z,y,zEX,hr]
   .refine⟨T, ?_,a⟩;have hr:(decide (keys≠[])&&decide (vals=[])&&decide (kids.length=keys.length+1))=false:=by
     rw[qY];intro J;simp only[zE,zR]at J;exact u ⟨fun e=>J.1.1 (zW e),by rw[J.1.2];rfl,J.2⟩
    simp(disch:=omega) only[JR,eZ,jM j,f.lnSl,o.lnSl,p.lnSl,hr];rw[if_pos (by simp only[j6,zR];omega)];simp only[eZ]
 .rename_i a0;obtain⟨rfl,rfl⟩:=C;refine⟨T, ?_,a⟩;simp only[Nd.shaped,qY.2 a0,eZ]
theorem zBL (nd:Nd.Node)(ks vs ps:AV):bC [.bool nd.leaf,ks,vs,ps] 0 4=some [.bool nd.leaf,ks,vs,ps]:=rfl
theorem zO3(j:H.ok){nd:Nd.Node}(h:dD H k nd)(o:small nd)(p:200000000<=n):
  ∃H',f62 D n [k] H=some (.bool (Nd.may ltS nd),H')/\Prs H H':=by
 have q:=h;obtain⟨ks,vs,ps,rfl,N,O,S⟩:=h;have a:Prs H (H.push (.cells [.bool nd.leaf,ks,vs,ps] 119 1 false)):=(zRo j).push _;have y:(H.push (.cells [.bool nd.leaf,ks,vs,ps] 119 1 false)).h.get H.next=some (.cells [.bool nd.leaf,ks,vs,ps] 119 1 false):=zRg _ _
 obtain⟨C,t,f⟩:=bN D n a.ok (q.prs a) o p;obtain⟨z,J,K,rfl,u⟩:=WL D n f.ok (q.prs (a.trans f)) o p
 cases m:Nd.shaped ltS nd with
 | true=>
  refine⟨J, ?_,(a.trans f).trans u⟩;have x:(((Nd.size nd:Nat):Int)<=((500:Nat):Int))=(Nd.size nd<=500):=by rw[eq_iff_iff];omega
  simp only[f62,eZ,kX j,zBL,qB,t,m,jR (f.get a.ok y),K,x,Nd.may]
 | false=>
  refine⟨C, ?_,a.trans f⟩;simp only[f62,eZ,kX j,zBL,qB,t,m,Nd.may]
end Go.Eng.Sh
namespace Go.Eng
def dU (k e:Nat)(H:AH)(v:AV)(n:Nat)(l:List AV):Prop:=
 Own k e H v n l\/(l.length=n*k/\ ∃A a g,v= .slice A 0 n (2*n)/\A<H.next/\H.h.get A=some (.cells l a k g))
theorem dU.len (e:dU h p H k t A):A.length=t*h:=by
 rcases e with e | e
 .exact e.1
 .exact e.1
theorem dU.row {k e n:Nat}{H:AH}{v:AV}{l:List AV}(h:dU k e H v n l):Rw k H v n l:=by
 rcases h with h | ⟨a,A,f,g,rfl,j,m⟩
 .exact h.row
 .exact⟨a, .inr (.inr ⟨A,0,2*n,l,f,k,g,rfl,m,j,by omega,by rw[yL,zY (by omega)]⟩)⟩
theorem dU.mono {k e n:Nat}{S:Nat->Prop}{H H':AH}{v:AV}{l:List AV}(h:dU k e H v n l)(s:Stp S H H')(a: ∀A,Blk v A-> ¬S A):dU k e H' v n l:=by
 rcases h with h | ⟨j,A,m,g,rfl,f,o⟩
 .exact .inl (h.mono s a)
 .exact .inr ⟨j,A,m,g,rfl,qG f s.next,by rw[s.keep A f (a A (zRl.2 rfl))];exact o⟩
theorem dU.lt (e:dU h p H k t A)(a:Blk k C):C<H.next:=by
 rcases e with⟨_,⟨rfl,_⟩ | ⟨n,rfl,f,_⟩⟩ | ⟨_,n,j,g,rfl,f,_⟩
 .exact(zRu.1 a).elim
 .rw[zRl.1 a];exact f
 .rw[zRl.1 a];exact f
theorem dU.app1 {k e bytes n m:Nat}{H:AH}{v:AV}{l new:List AV}(j:H.ok)(p:0<k)(h:dU k e H v n l)(hm:new.length=m*k)(J:n+m<=1000000000)(hb:bytes<=1000):
  ∃q H',Eng.app1 e k bytes m new v H=some (q,H')/\dU k e H' q (n+m) (l++new)/\Stp (Blk v) H H'/\(∀B,Blk q B->Blk v B\/H.next<=B):=by
 by_cases t:m=0
 .subst t;have:new=[]:=zW (by simpa using hm);subst this;rcases h with h | ⟨t,A,o,g,rfl,u,y⟩
  .obtain⟨H',f,z,C,S⟩:=VD (bytes:=bytes) j p h;exact⟨v,H',f, .inl (by simpa using z),C.mono (fun _ _ x=>x.elim),fun B a=> .inl a⟩
  .have K:kQ l g k 0 (2*n) k=n:=by
    simp only[kQ,show((2*n) % 2).beq 0=true by rw[jC];rfl,zP,yP n (show 0<2 by omega)]
   have T:Nat.blt 0 k=true:=by rw[qE];exact p
   have N:setAt l (0+n*k) []=some l:=by rw[xI (by simp;omega)];simp
   have O:(H.put A (.cells l o k g)).h.get A=some (.cells l o k g):=by rw[zRk,if_pos rfl]
   refine⟨.slice A 0 n (2*n),H.put A (.cells l o k g), ?_, .inr ⟨by simpa using t,A,o,g,rfl,u,by simpa using O⟩,(zRo j).put u _ (.inr (zRl.2 rfl)),fun B a=> .inl a⟩;simp only[Eng.app1,y,zGg,K,Nat.add_zero,Nat.ble_eq_true_of_le (zM n),zP,T,N,zCO,kT,kF]
 .rcases h with h | ⟨hl,A,o,g,rfl,u,y⟩
  .obtain⟨H',f,z,C,S⟩:=KR (bytes:=bytes) j p h hm (by omega) J hb;exact⟨_,H',f, .inl z,C,fun B a=> .inr (by rw[zRl.1 a];exact zM _)⟩
  .have f:=VE (k:=k) (e:=e) (bytes:=bytes) (n:=n) (m:=m) (off:=0) (new:=new) j y (by omega) (by omega) J hb;rw[yL,zY (by omega)]at f;refine⟨_,_,f, .inl ⟨by simp[hl,hm,j8], .inr ⟨H.next,rfl,Nat.lt_succ_self _,zRg _ _⟩⟩,(zRo j).push _,fun B a=> .inr (by rw[zRl.1 a];exact zM _)⟩
theorem dU.app {bytes m:Nat}{new:List AV}(j:H.ok)(f:0<h)(e:dU h p H k t A)(o:srcOf h q H=some (m,new))(hm:new.length=m*h)(n:jP new=true)(s:t+m<=1000000000)(hb:bytes<=1000):
  ∃a H',apP p h bytes k q H=some (a,H')/\dU h p H' a (t+m) (A++new)/\Stp (Blk k) H H'/\(∀B,Blk a B->Blk k B\/H.next<=B):=by
 obtain⟨a,H',v,u⟩:=e.app1 (bytes:=bytes) (e:=p) j f hm s hb;exact⟨a,H',by simp only[apP,o,n,zP,v],u⟩
theorem dU.isCell {k e n:Nat}{H:AH}{v:AV}{l:List AV}(h:dU k e H v n l):isCell v=true:=h.row.isCell
end Go.Eng
namespace Go.Eng.Sh
open Go.Nd (Ptr sumL encT encP)
def zJU (P:Nat->Prop)(H:AH)(A:Nat)(l:Str):Prop:= ∃v,Box H A v/\dU 1 5 H v l.length (jO l)/\(∀B,Blk v B-> ¬P B/\B≠A)/\ ¬P A
theorem zR5 (e sz:Nat)(z x:AV)(h:isCell x=true):dW e 1 1 [z] [(0,x)]=some (.cells [x] e 1 false,fun A=> .slice A 0 1 2):=by
 simp only[dW,fD,kO h,Z9,yF,zP,rep];rfl
theorem zJU.app {P:Nat->Prop}{H:AH}{A:Nat}{l m:Str}(h:zJU P H A l)(p:H.ok)(K: ∀B,P B->B<H.next){s:AV}(N:srcOf 1 s H=some (m.length,jO m))(O:l.length+m.length<=1000000000):
  ∃v f H' j,ld1 (.ptr A 0) H=some v/\apP 5 1 1 v s H=some (f,H')/\stN 1 (.ptr A 0) f H'=some (jQ,j)/\zJU P j A (l++m)/\Stp (fun B=> ¬P B) H j:=by
 obtain⟨v,hb,S,o,u⟩:=h;obtain⟨f,H',T,y,q,z⟩:=S.app (bytes:=1) p (by decide) N (by simp[jO]) (bytesV_cells m) O (by decide);have J:Box H' A v:=hb.mono p q (fun x=>(o A x).2 rfl);obtain⟨j,Y,b2,C⟩:=J.st q.ok y.isCell;have Z:=hb.lt p;have t: ∀B,Blk f B->B≠A:=fun B a e=>by
  rcases z B a with h | h
  .exact(o B h).2 e
  .omega
 refine⟨v,f,H',j,hb.ld,T,Y,⟨f,b2, ?_,fun B a=>⟨fun hp=> ?_,t B a⟩,u⟩, ?_⟩
 .have:=y.mono C (fun B a=>t B a);simpa[jO]using this
 .rcases z B a with h | h
  .exact(o B h).1 hp
  .have:=K B hp;omega
 .exact(q.mono (fun B _ a=>(o B a).1)).trans (C.mono (fun B _ a=>by rw[a];exact u))
theorem zD1{l s:Str}(A:zJU B H h l)(f:H.ok)(o: ∀P,B P->P<H.next)(hn:l.length+s.length+1<=1000000000):
  ∃H',f193 D n [S s, .ptr h 0] H=some (.tuple [],H')/\zJU B H' h (l++encT s)/\Stp (fun P=> ¬B P) H H':=by
 have t:IntKind.wrap .u8 (s.length:Int)=(((UInt8.ofNat s.length).toNat:Nat):Int):=by rw[wrap_u8,UInt8.toNat_ofNat'];omega
 have a:Prs H (H.push (.cells [.int .u8 ((UInt8.ofNat s.length).toNat:Nat)] 5 1 false)):=(zRo f).push _;have y:zJU B (H.push (.cells [.int .u8 ((UInt8.ofNat s.length).toNat:Nat)] 5 1 false)) h l:=by
  obtain⟨v,hb,z,C,J⟩:=A;exact⟨v,hb.mono f a (fun x=>x),z.mono a (fun _ _ x=>x),C,J⟩
 have p:=WK (k:=1) H (jO [UInt8.ofNat s.length]) 5 1 false 1 2 rfl;obtain⟨v,v',H1,K,N,O,T,Y,st2⟩:=y.app a.ok (fun P j=>Nat.lt_succ_of_lt (o P j)) (m:=[UInt8.ofNat s.length]) p (by simp;omega);obtain⟨u,u',H3,Z,e4,e5,e6,h4,st4⟩:=Y.app st2.ok (fun P j=>qG (o P j) (qN a.next st2.next)) (m:=s) (zD7 s K) (by simp;omega)
 have q:ld1 (.ptr h 0) H=some v:=by
  have:=N;rw[zDp _ _ (by obtain⟨v,hb,_⟩:=A;exact hb.lt f)]at this;exact this
 refine⟨Z, ?_, ?_,(a.stp.trans st2).trans st4⟩
 .simp only[f193,eZ,q,t];rw[zR5 5 1 _ _ rfl];simp only[eZ,kX f,O,T,e4,e5,e6]
 .simpa[encT]using h4
theorem zMm{E:Nat}{l:Str}{p:Ptr}(A:zJU B H h l)(f:H.ok)(t: ∀P,B P->P<H.next)(hp:Nd.mayP p=true)(u:Nd.sumOk p)(hn:l.length+16<=1000000000)(o:100<=n):
  ∃H',f194 D n [.agg (jS p), .ptr E 0, .ptr h 0] H=some (.tuple [],H')/\zJU B H' h (l++encP p)/\Stp (fun P=> ¬B P) H H':=by
 have j:Prs H (H.push (.cells (jS p) 42 1 false)):=(zRo f).push _;obtain⟨y,z,q⟩:=zCp D n j.ok hp u o;have a:=j.trans q;have C:zJU B y h l:=by
  obtain⟨v,hb,J,K,N⟩:=A;exact⟨v,hb.mono f a (fun x=>x),J.mono a (fun _ _ x=>x),K,N⟩
 obtain⟨v,v',H3,O,S,T,Y,Z,st4⟩:=C.app a.ok (fun P hB=>qG (t P hB) a.next) (m:=encP p) (zD7 _ _) (by rw[Nd.encP_length];omega)
 refine⟨O, ?_,Z,(zRv a).trans st4⟩;simp only[f194,eZ,kX f,show bC (jS p) 0 3=some (jS p)from rfl,qB,z,jN,nth,ne_eq,not_true_eq_false,zMG,S,T,Y]
theorem zQY (m n:Nat)(x a:AV)(H:AH):callV [(109,f109 (dy (m+1)) n),(110,f110 (dy (m+1)) n)] (dy (m+1)) (.func 193 [] [a]) [x] H=f193 (dy m) m [x,a] H:=rfl
theorem zN2 (m n:Nat)(x e a:AV)(H:AH):callV [(109,f109 (dy (m+1)) n),(110,f110 (dy (m+1)) n)] (dy (m+1)) (.func 194 [] [e,a]) [x] H=f194 (dy m) m [x,e,a] H:=rfl
structure EncI (N E:Nat)(A:Nat)(H0 H:AH)(l:Str):Prop where
 prs:Prs H0 H
 n:H0.next=N
 out:zJU (fun B=>B<N\/B=E) H A l
 err:Box H E (.int .i64 (0:Nat))
def EncI.step {l l':Str}(N:EncI h p t H v l)(f:zJU (fun B=>B<h\/B=p) I t l')(a:Stp (fun B=> ¬(B<h\/B=p)) v I):EncI h p t H I l':=
 ⟨N.prs.fresh a (fun B m=>by rw[N.n];omega),N.n,f,N.err.mono N.prs.ok a (fun j=>j (.inr rfl))⟩
theorem EncI.lt {N E A:Nat}{H0 H:AH}{l:Str}(h:EncI N E A H0 H l): ∀B,(B<N\/B=E)->B<H.next:=by
 rintro B (a | rfl)
 .have:=h.prs.next;rw[h.n]at this;omega
 .exact h.err.lt h.prs.ok
theorem zL8 (m n:Nat){keys vals:List Str}(hX:H.h.get C=some (.cells [.bool true,k,q,e] 119 1 false))(x:H.ok)(O:Strs H k keys)(S:Strs H q vals)(hl:vals.length=keys.length)
  (hb:sumL keys+sumL vals<=10000000) (hd:Str) (a0:hd.length<=1000) (N:EncI h p t H v hd) (o:Nat) (y:keys.length<o):
  ∃H',kJ o (cS (dy (m+1)) n) [.ptr C 0, .ptr t 0, .ptr p 0, .func 193 [] [.ptr t 0], .func 194 [] [.ptr p 0, .ptr t 0],k, .int .i64 (keys.length:Nat), .int .i64 (0:Nat)] v=some (.exit 0 [.ptr t 0, .ptr p 0],H')/\EncI h p t H H' (hd++Nd.encL keys vals):=by
 have a1:=Nd.sumL_ge keys;have key:=uF (b:=cS (dy (m+1)) n) keys.length (fun i A H'=>A=[.ptr C 0, .ptr t 0, .ptr p 0, .func 193 [] [.ptr t 0], .func 194 [] [.ptr p 0, .ptr t 0],k, .int .i64 (keys.length:Nat), .int .i64 (i:Nat)]/\EncI h p t H H' (hd++Nd.encL (keys.take i) (vals.take i)))
  (fun i A H1 hi ⟨z,a⟩=>by
   subst z;have j:i<vals.length:=by omega
   obtain⟨E,T,Y⟩:=(O.prs a.prs).at hi;obtain⟨_,a2⟩:=WG keys i hi;obtain⟨_,a3⟩:=WG vals i j;have u:(Nd.encL (keys.take i) (vals.take i)).length=sumL (keys.take i)+sumL (vals.take i):=Nd.encL_length _ _ (by simp[hl]);obtain⟨H2,Z,o2,st2⟩:=zD1 (dy m) m (s:=keys[i]) a.out a.prs.ok a.lt (by simp only[zV,u];omega);have f:=a.step o2 st2;obtain⟨ks,q1,q2⟩:=(S.prs f.prs).at j;obtain⟨H3,e3,o3,X⟩:=zD1 (dy m) m (s:=vals[i]) f.out f.prs.ok f.lt (by simp only[zV,u,Nd.encT,zT];omega);have J:=f.step o3 X;have K:((i:Nat):Int)< (keys.length:Int):=by omega
   refine⟨_,H3, ?_,rfl, ?_⟩
   .simp(disch:=omega) only[cS,eZ,K,T,Y,zQY,Z,jM (f.prs.get x hX),q1,q2,e3,BD,yH]
   .rw[xA keys i hi,xA vals i j,Nd.encL_snoc _ _ _ _ (by simp[hl])];simpa using J) o _ v ⟨rfl,by simpa[Nd.encL]using N⟩ y
 obtain⟨H0,A,H',e1,rfl,a⟩:=key;refine⟨H', ?_,by rw[zY (zM _),zY (by omega)]at a;exact a⟩;rw[e1];exact jW (by simp only[cS,eZ,y7])
theorem zL9 (m n:Nat)(hm:100<=m){E:Nat}{keys:List Str}{k0:Ptr}{kids:List Ptr}(hX:H.h.get C=some (.cells [.bool false,k,q,e] 119 1 false))(z:H.ok)(Z:Strs H k keys)(h2:gY H e (k0::kids))(hl:kids.length=keys.length)
  (y: ∀p∈kids,Nd.mayP p=true/\Nd.sumOk p) (hb:sumL keys+16*kids.length<=10000000) (hd:Str) (a0:hd.length<=1000) (N:EncI h E t H v hd) (o:Nat) (X:keys.length<o):
  ∃H',kJ o (cS (dy (m+1)) n) [.ptr C 0, .ptr t 0, .ptr E 0, .func 193 [] [.ptr t 0], .func 194 [] [.ptr E 0, .ptr t 0],k, .int .i64 (keys.length:Nat), .int .i64 (0:Nat)] v=some (.exit 0 [.ptr t 0, .ptr E 0],H')/\EncI h E t H H' (hd++Nd.encI keys kids):=by
 have a1:=Nd.sumL_ge keys;have key:=uF (b:=cS (dy (m+1)) n) keys.length (fun i A H'=>A=[.ptr C 0, .ptr t 0, .ptr E 0, .func 193 [] [.ptr t 0], .func 194 [] [.ptr E 0, .ptr t 0],k, .int .i64 (keys.length:Nat), .int .i64 (i:Nat)]/\EncI h E t H H' (hd++Nd.encI (keys.take i) (kids.take i)))
  (fun i A H1 hi ⟨J,a⟩=>by
   subst J;have j:i<kids.length:=by omega
   obtain⟨p,p1,p2⟩:=(Z.prs a.prs).at hi;obtain⟨_,a2⟩:=WG keys i hi;have u:(Nd.encI (keys.take i) (kids.take i)).length=sumL (keys.take i)+16*(kids.take i).length:=Nd.encI_length _ _ (by simp[hl]);have x:(kids.take i).length=i:=by simp;omega
   obtain⟨H2,e2,o2,st2⟩:=zD1 (dy m) m (s:=keys[i]) a.out a.prs.ok a.lt (by simp only[zV,u,x];omega);have f:=a.step o2 st2;obtain⟨ks,q1,q2⟩:=gY.at (h2.prs f.prs) (i:=i+1) (by simpa using j);obtain⟨K,O⟩:=y _ (yM j);obtain⟨H3,e3,o3,S⟩:=zMm (dy m) m (E:=E) (p:=kids[i]) f.out f.prs.ok f.lt K O (by simp only[zV,u,x,Nd.encT,zT];omega) hm;have T:=f.step o3 S;have Y:((i:Nat):Int)< (keys.length:Int):=by omega
   simp only[List.getElem_cons_succ]at q2;refine⟨_,H3, ?_,rfl, ?_⟩
   .simp(disch:=omega) only[cS,eZ,Y,p1,p2,zQY,e2,jM (f.prs.get z hX),q1,q2,zN2,e3,BD,yH]
   .rw[xA keys i hi,xA kids i j,Nd.encI_snoc _ _ _ _ (by simp[hl])];simpa using T) o _ v ⟨rfl,by simpa[Nd.encI]using N⟩ X
 obtain⟨H0,A,H',e1,rfl,a⟩:=key;refine⟨H', ?_,by rw[zY (zM _),zY (by omega)]at a;exact a⟩;rw[e1];exact jW (by simp only[cS,eZ,y7])
def Box.new (H:AH)(v:AV)(e:TypeId):Box (H.push (.cells [v] e 1 false)) H.next v:=⟨e,zRg _ _⟩
theorem zOG (hk:H.ok)(k:Nat): ∃a m,stN 1 (.ptr (H.next+1) 0) (.slice H.next 0 2 4) ((H.push (.cells [.int .u8 (((UInt8.ofNat (k / 256)).toNat:Nat):Int), .int .u8 ((UInt8.ofNat k).toNat:Nat)] 5 1 false)).push (.cells [.nS] 216 1 false))=some (jQ,a)/\a.ok/\a.next=H.next+2/\
  stN 1 (.ptr (H.next+2) 0) (.int .i64 (0:Nat)) (a.push (.cells [.int .i64 (0:Nat)] 32 1 false))=some (jQ,m)/\EncI H.next (H.next+2) (H.next+1) H m (Nd.be 2 k):=by
 have p:Prs H (H.push (.cells [.int .u8 (((UInt8.ofNat (k / 256)).toNat:Nat):Int), .int .u8 ((UInt8.ofNat k).toNat:Nat)] 5 1 false)):=(zRo hk).push _;have K:(H.push (.cells [.int .u8 (((UInt8.ofNat (k / 256)).toNat:Nat):Int), .int .u8 ((UInt8.ofNat k).toNat:Nat)] 5 1 false)).h.get H.next=some (.cells (jO (Nd.be 2 k)) 5 1 false):=zRg _ _
 have N:(H.push (.cells [.int .u8 (((UInt8.ofNat (k / 256)).toNat:Nat):Int), .int .u8 ((UInt8.ofNat k).toNat:Nat)] 5 1 false)).next=H.next+1:=rfl
 generalize H.push (.cells [.int .u8 (((UInt8.ofNat (k / 256)).toNat:Nat):Int), .int .u8 ((UInt8.ofNat k).toNat:Nat)] 5 1 false)=H4 at p K N;have q:=Box.new H4 .nS 216;have t:Prs H4 (H4.push (.cells [.nS] 216 1 false)):=(zRo p.ok).push _;have O:(H4.push (.cells [.nS] 216 1 false)).next=H4.next+1:=rfl
 have S:=t.get p.ok K;generalize H4.push (.cells [.nS] 216 1 false)=H5 at t q O S;rw[N]at q O;obtain⟨a,u,b6,f⟩:=q.st t.ok (x:= .slice H.next 0 2 4) rfl
 have n6:=f.next
 have g6:a.h.get H.next=some (.cells (jO (Nd.be 2 k)) 5 1 false):=by rw[f.keep _ (by omega) (by omega)];exact S
 have C:a.next=H.next+2:=by
  have:a.next=H5.next:=by
   obtain⟨e,hb⟩:=q;have:=cE (x:= .slice H.next 0 2 4) (o:=0) hb (by decide) rfl (by simp)
   rw[this]at u;simp only[zB,zU,true_and]at u;rw[<-u];rfl
  omega
 have p6:Prs H a:=(p.trans t).fresh f (fun A hA=>by omega);have z:=Box.new a (.int .i64 (0:Nat)) 32;have j:Prs a (a.push (.cells [.int .i64 (0:Nat)] 32 1 false)):=(zRo f.ok).push _;have T:(a.push (.cells [.int .i64 (0:Nat)] 32 1 false)).next=a.next+1:=rfl
 have Y:=j.get f.ok g6;have J:=b6.mono f.ok j (fun x=>x);generalize Z:a.push (.cells [.int .i64 (0:Nat)] 32 1 false)=H7 at j z T Y J;rw[C]at z T;obtain⟨m,e8,b8,y⟩:=z.st j.ok (x:= .int .i64 (0:Nat)) rfl;have n8:=y.next
 refine⟨a,m,u,f.ok,C,by rw[Z];exact e8,⟨(p6.trans j).fresh y (fun A hA=>by omega),rfl,⟨_,J.mono j.ok y (by omega), .inr ⟨rfl,H.next,5,false,rfl,by omega,by rw[y.keep _ (by omega) (by omega)];exact Y⟩, ?_,by omega⟩,b8⟩⟩
 intro B hB;rw[zRl]at hB;omega
theorem ZH (a b c d:AV):bC [a,b,c,d] 0 4=some [a,b,c,d]:=rfl
def zMV (nd:Nd.Node):Str×Nat:=if Nd.shaped ltS nd then if Nd.size nd<=500 then(Nd.encN nd,0)else([],40)else([],4)
theorem zIX (m n:Nat)(hm:100<=m)(hn:200000000<=n)(Y:H.ok){nd:Nd.Node}(h:dD H k nd)(hs:small nd)(a3: ∀p∈nd.kids,Nd.sumOk p):
  ∃H',f149 (dy (m+1)) n [k] H=some (.tuple [S (zMV nd).1, .int .i64 ((zMV nd).2:Nat)],H')/\Prs H H':=by
 obtain⟨leaf,keys,vals,kids⟩:=nd;have h0:=h;obtain⟨ks,vs,ps,rfl,Z,h2,h3⟩:=h;simp only at h0 Z h2 h3 a3⊢;have hP:Prs H (H.push (.cells [.bool leaf,ks,vs,ps] 119 1 false)):=(zRo Y).push _;have hg:(H.push (.cells [.bool leaf,ks,vs,ps] 119 1 false)).h.get H.next=some (.cells [.bool leaf,ks,vs,ps] 119 1 false):=zRg _ _
 obtain⟨H2,e2,O⟩:=bN (dy (m+1)) n hP.ok (h0.prs hP) hs hn;have a8:(AV.str 0 0)=S []:=rfl
 cases K:Nd.shaped ltS ⟨leaf,keys,vals,kids⟩with
 | false=>
  refine⟨H2, ?_,hP.trans O⟩;simp only[f149,eZ,kX Y,ZH,qB,e2,K,zMV,a8]
 | true=>
  have a1:=O.get hP.ok hg;have a4:Prs H H2:=hP.trans O;obtain⟨z,o,e3,rfl,f⟩:=WL (dy (m+1)) n O.ok (h0.prs a4) hs hn;have N:=f.get O.ok a1;have t:Prs H o:=a4.trans f;by_cases a2:Nd.size ⟨leaf,keys,vals,kids⟩<=500
  .have a0: ¬((500:Nat):Int)< ((Nd.size ⟨leaf,keys,vals,kids⟩:Nat):Int):=by omega
   obtain⟨H6,H8,e6,a9,n6,e8,j⟩:=zOG f.ok keys.length;have b8:=Nd.be_length 2 keys.length;have w1:IntKind.wrap .u8 ((keys.length:Int) / 2 ^ 8)=(((UInt8.ofNat (keys.length / 256)).toNat:Nat):Int):=by rw[wrap_u8,UInt8.toNat_ofNat'];omega
   have w2:IntKind.wrap .u8 (keys.length:Int)=(((UInt8.ofNat keys.length).toNat:Nat):Int):=by rw[wrap_u8,UInt8.toNat_ofNat'];omega
   have b0: ∀x y:Int,dW 5 1 2 [.int .u8 (0:Nat)] [(0, .int .u8 x),(1, .int .u8 y)]=some (.cells [.int .u8 x, .int .u8 y] 5 1 false,fun A=> .slice A 0 2 4):=fun x y=>rfl
   have C:=K;simp only[Nd.shaped,zE]at C;have b9:=Nd.sumL_ge keys;have a5:=a2;simp only[Nd.size]at a5;have b1:=zFg .i64 .u64 (a:=(keys.length:Int)) (s:=8) (by omega) (by decide);have b2:jU AV.nS=[AV.nS]:=rfl;have b3: ∀z:Int,jU (AV.int .i64 z)=[AV.int .i64 z]:=fun _=>rfl
   have a6: ∀(J:AH) (l:Str),EncI o.next (o.next+2) (o.next+1) o J l-> ∃k,ld1 (.ptr (o.next+2) 0) J=some (.int .i64 (0:Nat))/\ld1 (.ptr (o.next+1) 0) J=some k/\zF3 k J=some (S l):=by
    intro J l j;obtain⟨k,hb,hg,_⟩:=j.out;refine⟨k,j.err.ld,hb.ld,KK hg.row ?_⟩;rcases hg with⟨_,⟨rfl,_⟩ | ⟨A,rfl,_⟩⟩ | ⟨_,A,e',g,rfl,_⟩<;>simp
   cases leaf with
   | true=>
    simp only[if_true,zE,zR]at C;obtain⟨J,e9,T⟩:=zL8 m n N f.ok (Z.prs t) (h2.prs t) C.2.1.1 (by omega) _ (by omega) j n (by omega);obtain⟨u,u1,u2,u3⟩:=a6 _ _ T;refine⟨J, ?_,t.trans T.prs⟩;simp(disch:=omega) only[f149,eZ,kX Y,ZH,qB,e2,K,jR a1,e3,a0,jM N,Z.lnSl,b1,w1,w2,b0,kX f.ok,kX (f.ok.push _),zRh,b2,e6,kX a9,n6,b3,e8,zIG,jM (j.prs.get f.ok N),e9,zES,u1,u2,u3,ne_eq,not_true_eq_false];simp only[zMV,K,if_true,if_pos a2,Nd.encN,Nd.encB]
   | false=>
    simp only[zL,qD,zE,zR,yE]at C
    cases kids with
    | nil=>simp at C
    | cons k0 kids=>
     simp only[zT]at a5 C;have b4:=C.2.2 k0 (zJ ..);obtain⟨p,p1,p2⟩:=gY.at (h3.prs (t.trans j.prs)) (i:=0) (by simp);simp only[List.getElem_cons_zero]at p2;obtain⟨J,e9,o9,b5⟩:=zMm (dy m) m (E:=o.next+2) (p:=k0) j.out j.prs.ok j.lt (Nd.kidOk_may b4) (a3 k0 (zJ ..)) (by omega) hm
     have T:=j.step o9 b5;obtain⟨b6,b7,a7⟩:=zL9 m n hm N f.ok (Z.prs t) (h3.prs t) (by omega) (fun q hq=>⟨Nd.kidOk_may (C.2.2 q (zC _ hq)),a3 q (zC _ hq)⟩) (by omega) _ (by rw[zV,Nd.encP_length];omega) T n (by omega);obtain⟨u,u1,u2,u3⟩:=a6 _ _ a7;refine⟨b6, ?_,t.trans a7.prs⟩;simp(disch:=omega) only[f149,eZ,kX Y,ZH,qB,e2,K,jR a1,e3,a0,jM N,Z.lnSl,b1,w1,w2,b0,kX f.ok,kX (f.ok.push _),zRh,b2,e6,kX a9,n6,b3,e8,jM (j.prs.get f.ok N),p1,p2,zN2,e9,zIG,jM (T.prs.get f.ok N),b7,zES,u1,u2,u3,ne_eq,not_true_eq_false];simp only[zMV,K,if_true,if_pos a2,Nd.encN,Nd.encB,zL,qD,zZ]
  .have a0:((500:Nat):Int)< ((Nd.size ⟨leaf,keys,vals,kids⟩:Nat):Int):=by omega
   refine⟨o, ?_,t⟩;simp only[f149,eZ,kX Y,ZH,qB,e2,K,jR a1,e3,a0,zMV,a2,a8]
open Go.Nd (bee mayP xV)
theorem zDL {a b:Nat}(u:a<18446744073709551616)(hb:b<256):wU .or (.int .u64 (a*256:Nat)) (.int .u64 (b:Int))=some (.int .u64 ((a*256+b):Nat))\/18446744073709551616<=a*256:=by
 by_cases h:a*256<18446744073709551616
 .left;have f:Nat.blt (a*256) (KE .u64)=true:=by rw[qE];exact h
  have j:Nat.blt b (KE .u64)=true:=by rw[qE];exact Nat.lt_trans hb (by decide)
  have m:Nat.lor (a*256) b=a*256+b:=by
   have:=Nat.two_pow_add_eq_or_of_lt (b:=b) (i:=8) (by omega) a;rw[Nat.mul_comm a 256];exact this.symm
  have o:keq .u64 .u64=true:=rfl;have p:IntKind.wrap .u64 ((a*256+b:Nat):Int)=((a*256+b:Nat):Int):=by rw[wrap_u64];omega
  have q:Q1 .or .u64 (.ofNat (a*256)) (.ofNat b)=some (.int .u64 (a*256+b:Nat)):=by
   simp only[Q1,IntKind.signed,Bool.not_false,f,j,qP,zP,m,vZ,Int.ofNat_eq_natCast,p]
  have t:wU .or (.int .u64 (.ofNat (a*256))) (.int .u64 (.ofNat b))=Q1 .or .u64 (.ofNat (a*256)) (.ofNat b):=by simp only[wU,fF,o,zP]
  exact t.trans q
 .right;omega
theorem zG9 (l:Str)(i:Nat)(h:i<l.length):(jO l)[i]? =some (.int .u8 (l[i].toNat:Nat)):=by simp[jO,h]
theorem zLC (l:Str)(i:Nat)(h:i<l.length):bee (l.take (i+1))=bee (l.take i)*256+l[i].toNat:=by rw[xA l i h,Nd.bee_snoc]
theorem zC6{l:Str}(h:Rw 1 H k l.length (jO l))(hl:l.length<=8)(N:100<=n):f226 D n [k] H=some (.int .u64 (bee l:Nat),H):=by
 have key:=uX (b:=B9 D n) (H:=H) (r:=some (.exit 0 [.int .u64 (bee l:Nat)],H)) (fun i=>[.int .u64 (bee (l.take i):Nat),k, .int .i64 (l.length:Nat), .int .i64 (i:Nat)]) l.length (fun i hi=>by
  obtain⟨p,x,u,y,f⟩:=h.ld1 hi;rw[zG9 l i hi]at f;simp only[zB]at f;subst f;have o:=Nd.bee_lt (l.take i);have m:(l.take i).length=i:=by simp;omega
  have hp:256 ^ i<=256 ^ 7:=Nat.pow_le_pow_right (by omega) (by omega);rw[m]at o;have hb:bee (l.take i)<72057594037927936:=by
   have:(256:Nat) ^ 7=72057594037927936:=by decide
   omega
  have z:l[i].toNat<256:=l[i].toNat_lt;have q:((i:Nat):Int)< (l.length:Int):=by omega
  have C:IntKind.wrap .u64 (((bee (l.take i):Nat):Int)*2 ^ 8)=((bee (l.take i)*256:Nat):Int):=by rw[wrap_u64];omega
  have J:IntKind.wrap .u64 ((l[i].toNat:Nat):Int)=((l[i].toNat:Nat):Int):=by rw[wrap_u64];omega
  have t:=(zDL (a:=bee (l.take i)) (b:=l[i].toNat) (by omega) z).resolve_right (by omega);have j:=zFh .u64 .u64 ((bee (l.take i):Nat):Int) (s:=8) (by decide);rw[C]at j;simp(disch:=omega) only[B9,eZ,q,u,y,j,J,t,zLC l i hi];simp only[yH]) (fun n=>jW (by
  simp only[B9,eZ,y7,zY (zM _)])) n (by omega)
 have K:f226 D n [k] H=dG (jb 0 (kJ n (B9 D n) [.int .u64 (bee (l.take 0):Nat),k, .int .i64 (l.length:Nat), .int .i64 (0:Nat)] H) (zIx D n)):=by
  simp only[f226,eZ,h.lnSl];rfl
 rw[K,key];simp only[eZ,zIx]
theorem zMX (s:Str)(h:s.length<4611686018427387904):zMY 5 (S s)=some (.cells (jO s) 5 1 true,fun A=> .slice A 0 s.length 1):=by
 have:Nat.blt s.length 4611686018427387904=true:=by rw[qE];exact h
 simp only[zMY,S,this,zP,V9]
theorem jV (a:H.ok){l':List AV}(l:H.h.get h=some (.cells A w 1 false))(hl:l'.length=A.length)(f:jP l'=true):
  ∃H',stN A.length (.ptr h 0) (.agg l') H=some (jQ,H')/\H'.h.get h=some (.cells l' w 1 false)/\Stp (fun B=>B=h) H H'/\H'.next=H.next:=by
 refine⟨_,WJ l (by decide) hl f (by omega), ?_,(zRo a).put (a.lt l) _ (.inr rfl),rfl⟩;rw[zRk,if_pos rfl];simp[jU]
theorem zJa(z:H.ok){s:Str}(a:s.length=16)(C:100<=n):
  ∃H',f211 D n [S s] H=some (.tuple [.agg (jS (if mayP (xV s)then xV s else pz)), .int .i64 (if mayP (xV s)then 0 else 4:Nat)],H')/\Prs H H':=by
 have a4: ¬((s.length:Int)≠((16:Nat):Int)):=by omega
 have j:Prs H (H.push (.cells (jS pz) 42 1 false)):=(zRo z).push _;have g1:(H.push (.cells (jS pz) 42 1 false)).h.get H.next=some (.cells (jS pz) 42 1 false):=zRg _ _
 have n1:(H.push (.cells (jS pz) 42 1 false)).next=H.next+1:=rfl
 generalize a5:H.push (.cells (jS pz) 42 1 false)=H1 at j g1 n1;have m:Prs H1 (H1.push (.cells (jO s) 5 1 true)):=(zRo j.ok).push _;have g2:(H1.push (.cells (jO s) 5 1 true)).h.get H1.next=some (.cells (jO s) 5 1 true):=zRg _ _
 have n2:(H1.push (.cells (jO s) 5 1 true)).next=H1.next+1:=rfl
 generalize a6:H1.push (.cells (jO s) 5 1 true)=H2 at m g2 n2;have a0:ldN 16 (.ptr H1.next 0) H2=some (.agg (jO s)):=by
  rw[jR g2,wC _ _ _ (.inr (by simp[jO,a])),yL,zY (by simp[jO,a])];rfl
 have J:Prs H2 (H2.push (.cells (Z 16) 232 1 false)):=(zRo m.ok).push _;have g3:(H2.push (.cells (Z 16) 232 1 false)).h.get H2.next=some (.cells (Z 16) 232 1 false):=zRg _ _
 have n3:(H2.push (.cells (Z 16) 232 1 false)).next=H2.next+1:=rfl
 generalize a7:H2.push (.cells (Z 16) 232 1 false)=H3 at J g3 n3;obtain⟨f,e4,g4,o,n4⟩:=jV J.ok g3 (l':=jO s) (by simp[jO,Z,a]) (bytesV_cells s);have a8:stN 16 (.ptr H2.next 0) (.agg (jO s)) H3=some (jQ,f):=e4
 have u:Prs f (f.push (.cells (jS pz) 42 1 false)):=(zRo o.ok).push _;have g5:(f.push (.cells (jS pz) 42 1 false)).h.get f.next=some (.cells (jS pz) 42 1 false):=zRg _ _
 have n5:(f.push (.cells (jS pz) 42 1 false)).next=f.next+1:=rfl
 have q:=u.get o.ok g4;generalize a9:f.push (.cells (jS pz) 42 1 false)=H5 at u g5 n5 q;have b7:Rw 1 H5 (.slice H2.next 0 4 32) (s.take 4).length (jO (s.take 4)):=by
  refine⟨by simp[jO], .inr (.inr ⟨H2.next,0,32,_,_,_,_, ?_,q,by omega,by simp[jO];omega, ?_⟩)⟩
  .simp[a]
  .simp[jO,a]
 have b8:Rw 1 H5 (.slice H2.next 4 4 24) ((s.drop 4).take 4).length (jO ((s.drop 4).take 4)):=by
  refine⟨by simp[jO], .inr (.inr ⟨H2.next,4,24,_,_,_,_, ?_,q,by omega,by simp[jO];omega, ?_⟩)⟩
  .simp[a]
  .simp[jO,a]
 have b9:Rw 1 H5 (.slice H2.next 8 8 16) (s.drop 8).length (jO (s.drop 8)):=by
  refine⟨by simp[jO], .inr (.inr ⟨H2.next,8,16,_,_,_,_, ?_,q,by omega,by simp[jO];omega, ?_⟩)⟩
  .simp[a]
  .rw[zY (by simp[jO,a])];simp[jO]
 have q1:=zC6 D n b7 (by simp;omega) C;have q2:=zC6 D n b8 (by simp;omega) C;have q3:=zC6 D n b9 (by simp;omega) C;have b1:=Nd.bee_lt (s.take 4);have b2:=Nd.bee_lt ((s.drop 4).take 4);rw[show(s.take 4).length=4 by simp;omega]at b1;rw[show((s.drop 4).take 4).length=4 by simp;omega]at b2;have w1:IntKind.wrap .i64 ((bee (s.take 4):Nat):Int)=((bee (s.take 4):Nat):Int):=wrap_i64 (by omega) (by omega);have w2:IntKind.wrap .i64 ((bee ((s.drop 4).take 4):Nat):Int)=((bee ((s.drop 4).take 4):Nat):Int):=wrap_i64 (by omega) (by omega);obtain⟨H6,e6,K,x,n6⟩:=jV u.ok g5 (l':=jS (xV s)) rfl rfl;have b0:stN 3 (.ptr f.next 0) (.agg (jS (xV s))) H5=some (jQ,H6):=e6
 obtain⟨N,e7,O⟩:=zMl D n x.ok (xV s);have g7:=O.get x.ok K;have a1:Prs H1 H6:=((((m.trans J).fresh o (fun B T=>by omega)).trans u).fresh x (fun B T=>by omega));have b3:=O.get x.ok (a1.get j.ok g1);have t:Prs H N:=(j.trans a1).trans O;have a2:bC (jS (xV s)) 0 3=some (jS (xV s)):=rfl;have c1:(AV.agg [.int .i64 (0:Nat), .int .i64 (0:Nat), .int .u64 (0:Nat)])= .agg (jS pz):=rfl;have a3:([.int .i64 (0:Nat), .int .i64 (0:Nat), .int .u64 (0:Nat)]:List AV)=jS pz:=rfl;have c0:vJ [(0,1),(1,1),(2,1)] (jS pz) []=some (.agg (jS pz)):=rfl;have b4:vJ [(0,1),(1,1),(2,1)] (jS pz) [(0, .int .i64 (bee (s.take 4):Nat)),(1, .int .i64 ((bee ((s.drop 4).take 4):Nat):Int)),(2, .int .u64 (bee (s.drop 8):Nat))]=some (.agg (jS (xV s))):=rfl;have b5: ∀A:Nat,s2a 16 (.slice A 0 16 1)=some (.ptr A 0):=fun _=>rfl
 have b6:bC (jS pz) 0 3=some (jS pz):=rfl
 cases hm:mayP (xV s)with
 | false=>
  obtain⟨p,Y,g8,s8,n8⟩:=jV t.ok b3 (l':=jS pz) rfl rfl;have y:stN 3 (.ptr H.next 0) (.agg (jS pz)) N=some (jQ,p):=Y
  refine⟨p, ?_,t.fresh s8 (fun B T=>by omega)⟩;simp(disch:=omega) only[f211,eZ,a3,kX z,a5,a4,zMX s (by omega),a,kX j.ok,a6,b5,a0,kX m.ok,zNH,a7,a8,zH1,zH0,slA _ 4 8 (by omega) (by omega) (by omega),kX o.ok,a9,q1,w1,q2,w2,q3,b4,b0,jR K,a2,qB,e7,hm,c0,y,jR g8,b6];rfl
 | true=>
  obtain⟨p,Y,g8,s8,n8⟩:=jV t.ok b3 (l':=jS (xV s)) rfl rfl;have y:stN 3 (.ptr H.next 0) (.agg (jS (xV s))) N=some (jQ,p):=Y
  refine⟨p, ?_,t.fresh s8 (fun B T=>by omega)⟩;simp(disch:=omega) only[f211,eZ,a3,kX z,a5,a4,zMX s (by omega),a,kX j.ok,a6,b5,a0,kX m.ok,zNH,a7,a8,zH1,zH0,slA _ 4 8 (by omega) (by omega) (by omega),kX o.ok,a9,q1,w1,q2,w2,q3,b4,b0,jR K,a2,qB,e7,hm,jR g7,y,jR g8];rfl
open Go.Nd (xZ dJ)
def Stp.via {T:Nat->Prop}(h:Stp B H v)(k:Stp T v I)(f: ∀A,T A->H.next<=A\/B A):Stp B H I:=
 ⟨k.ok,qN h.next k.next,fun A j m=>by
  rw[k.keep A (qG j h.next) (fun x=>by rcases f A x with y | y;omega;exact m y),h.keep A j m]⟩
structure RdI (R:Nat)(H0 H:AH)(rest:Str)(bad leaf:Bool)(kv vv pv:AV)(ks vs:List Str)(ps:List Ptr):Prop where
 prs:Stp (fun B=>B=R) H0 H
 get: ∃e,H.h.get R=some (.cells [S rest, .bool bad, .bool leaf,kv,vv,pv] e 1 false)
 k:Own 1 9 H kv ks.length (ks.map S)
 v:Own 1 9 H vv vs.length (vs.map S)
 p:Own 3 42 H pv ps.length (ps.flatMap jS)
 kb: ∀B,Blk kv B->H0.next<=B/\B≠R/\ ¬Blk vv B/\ ¬Blk pv B
 vb: ∀B,Blk vv B->H0.next<=B/\B≠R/\ ¬Blk pv B
 pb: ∀B,Blk pv B->H0.next<=B/\B≠R
 small:rest.length<=10000/\ks.length<=1000000/\vs.length<=1000000/\ps.length<=1000000
theorem RdI.put {R:Nat}{H0 H:AH}{rest:Str}{m leaf:Bool}{kv a pv:AV}{ks vs:List Str}{ps:List Ptr}(h:RdI R H0 H rest m leaf kv a pv ks vs ps){o:Nat}{x:AV}(u:isCell x=true)(y:o<6){rest':Str}{bad':Bool}(hr:rest'.length<=10000)
  (hl:[S rest, .bool m, .bool leaf,kv,a,pv].set o x=[S rest', .bool bad', .bool leaf,kv,a,pv]): ∃H',stN 1 (.ptr R o) x H=some (jQ,H')/\RdI R H0 H' rest' bad' leaf kv a pv ks vs ps:=by
 obtain⟨e,q⟩:=h.get;have t:=h.prs.ok.lt q;have j:Stp (fun B=>B=R) H (H.put R (.cells ([S rest, .bool m, .bool leaf,kv,a,pv].set o x) e 1 false)):=(zRo h.prs.ok).put t _ (.inr rfl);refine⟨_,cE q (by decide) u y,⟨h.prs.trans j,⟨e,by rw[zRk,if_pos rfl,hl]⟩,h.k.mono j (fun B f=>(h.kb B f).2.1),h.v.mono j (fun B f=>(h.vb B f).2.1),h.p.mono j (fun B f=>(h.pb B f).2),h.kb,h.vb,h.pb,hr,h.small.2⟩⟩
def wL (rest:Str)(a:Bool)(k:Nat):Str×Str×Bool:=if a then([],rest,true)else if rest.length<k then([],rest,true)else(rest.take k,rest.drop k,false)
theorem zP7:S []= .str 0 0:=rfl
theorem zA8{rest:Str}{ks vs:List Str}{ps:List Ptr}(R:RdI h H v rest l s k q e ks vs ps)(H0:Nat):
  ∃H',f172 D n [.ptr h 0, .int .i64 (H0:Nat)] v=some (S (wL rest l H0).1,H')/\RdI h H H' (wL rest l H0).2.1 (wL rest l H0).2.2 s k q e ks vs ps:=by
 obtain⟨leaf,a⟩:=R.get
 cases l with
 | true=>
  obtain⟨f,j,m⟩:=R.put (o:=1) (x:= .bool true) rfl (by decide) (rest':=rest) (bad':=true) R.small.1 rfl;refine⟨f, ?_,m⟩;simp only[f172,eZ,jM a,j,wL,zP7]
 | false=>
  by_cases u:rest.length<H0
  .obtain⟨f,j,m⟩:=R.put (o:=1) (x:= .bool true) rfl (by decide) (rest':=rest) (bad':=true) R.small.1 rfl;have p:(rest.length:Int)< (H0:Int):=by omega
   simp only[wL,u,if_true,zL,qD];refine⟨f, ?_,m⟩;simp only[f172,eZ,jM a,j,p,zP7]
  .obtain⟨f,j,m⟩:=R.put (o:=0) (x:=S (rest.drop H0)) rfl (by decide) (rest':=rest.drop H0) (bad':=false) (by have:=R.small.1;simp;omega) rfl;have p: ¬(rest.length:Int)< (H0:Int):=by omega
   have y:=zKj rest .i64 (z:=(H0:Int)) (by omega) (by omega);have C:=zKi rest .i64 (z:=(H0:Int)) (by omega) (by omega);simp only[yC]at y C;simp only[wL,u,zL,qD];refine⟨f, ?_,m⟩;simp only[f172,eZ,jM a,j,p,y,C]
def vM (rest:Str)(a:Bool):Str×Str×Bool:=if(wL rest a 1).2.2 then([],(wL rest a 1).2)else wL (wL rest a 1).2.1 false ((wL rest a 1).1.getD 0 0).toNat
theorem zB9 (rest:Str):(vM rest true).2.2=true:=by simp[vM,wL]
theorem fK {rest a r:Str}(h:xZ rest=some (a,r)):vM rest false=(a,r,false):=by
 cases rest with
 | nil=>simp[xZ]at h
 | cons c s=>
  simp only[xZ]at h;split at h
  .rename_i f;simp only[zB,zU]at h;obtain⟨rfl,rfl⟩:=h;simp[vM,wL];omega
  .simp at h
theorem YI {rest:Str}(h:xZ rest=none):(vM rest false).2.2=true:=by
 cases rest with
 | nil=>simp[vM,wL]
 | cons c s=>
  simp only[xZ]at h;split at h
  .simp at h
  .rename_i f;have j: ¬(c::s).length<1:=by simp
   have a:s.length<c.toNat:=by omega
   simp[vM,wL,a]
theorem zM5{rest:Str}{ks vs:List Str}{ps:List Ptr}(R:RdI h H v rest l s k q e ks vs ps):
  ∃H',f210 D n [.ptr h 0] v=some (S (vM rest l).1,H')/\RdI h H H' (vM rest l).2.1 (vM rest l).2.2 s k q e ks vs ps:=by
 obtain⟨y,t,f⟩:=zA8 D n R 1;obtain⟨H0,j⟩:=f.get;by_cases hb:(wL rest l 1).2.2=true
 .rw[hb]at f j;refine⟨y, ?_,by simp only[vM,hb,if_true];exact f⟩;simp only[f210,eZ,t,jM j,vM,hb,zP7]
 .have m:(wL rest l 1).2.2=false:=by simpa using hb
  have o:(wL rest l 1).1.length=1:=by
   revert m;unfold wL;split
   .intro R;simp at R
   .split
    .intro R;simp at R
    .intro _;simp;omega
  rw[m]at f j;obtain⟨C,J,K⟩:=zA8 D n f ((wL rest l 1).1.getD 0 0).toNat;have p:=zAB (wL rest l 1).1 .i64 (z:=((0:Nat):Int)) (by omega) (by simp[o]);have u:(wL rest l 1).1[(((0:Nat):Int)).toNat]'(by simp[o])=(wL rest l 1).1.getD 0 0:=by
   rw[qK,zQ (by omega)];rfl
  rw[u]at p;have N:IntKind.wrap .i64 ((((wL rest l 1).1.getD 0 0).toNat:Nat):Int)=((((wL rest l 1).1.getD 0 0).toNat:Nat):Int):=wrap_i64 (by omega) (by have:=((wL rest l 1).1.getD 0 0).toNat_lt;omega);have x:vM rest l=wL (wL rest l 1).2.1 false ((wL rest l 1).1.getD 0 0).toNat:=by simp only[vM,m,zL,qD]
  rw[x];refine⟨C, ?_,K⟩;simp only[f210,eZ,t,jM j,p,N,J]
def zR4 (x:AV)(h:isCell x=true):dW 9 1 1 [.str 0 0] [(0,x)]=some (.cells [x] 9 1 false,fun A=> .slice A 0 1 2):=zR5 9 1 _ x h
def zFo (e:Own h p H k t A):aveq k k=true:=kK e.row
theorem RdI.prsH {rest:Str}{ks vs:List Str}{ps:List Ptr}(R:RdI h H v rest l s k q e ks vs ps)(H0:Prs v I):RdI h H I rest l s k q e ks vs ps:=by
 obtain⟨H',j⟩:=R.get;exact⟨R.prs.trans (zRv H0),⟨H',H0.get R.prs.ok j⟩,R.k.mono H0 (fun _ _ x=>x),R.v.mono H0 (fun _ _ x=>x),R.p.mono H0 (fun _ _ x=>x),R.kb,R.vb,R.pb,R.small⟩
theorem RdI.lt {R:Nat}{H0 H:AH}{rest:Str}{a leaf:Bool}{kv f pv:AV}{ks vs:List Str}{ps:List Ptr}(h:RdI R H0 H rest a leaf kv f pv ks vs ps):R<H.next:=by
 obtain⟨e,j⟩:=h.get;exact h.prs.ok.lt j
theorem Own.lt {k e n:Nat}{H:AH}{v:AV}{l:List AV}(h:Own k e H v n l){B:Nat}(a:Blk v B):B<H.next:=(kZ.lt (.inl h) a)
def zM8 (H:AH)(x:AV)(e:Nat):Prs H (H.push (.cells [x] e 1 false))->srcOf 1 (.slice H.next 0 1 2) (H.push (.cells [x] e 1 false))=some (1,[x]):=fun _=>WK H [x] e 1 false 1 2 rfl
theorem zC0{rest:Str}{ks vs:List Str}{ps:List Ptr}(R:RdI h H v rest l s k q e ks vs ps)(hs:ks.length<1000000):
  ∃H' H0,f173 D n [.ptr h 0] v=some (.tuple [],H')/\RdI h H H' (vM rest l).2.1 (vM rest l).2.2 s H0 q e (ks++[(vM rest l).1]) vs ps:=by
 obtain⟨m,e1,j⟩:=zM5 D n R;generalize vM rest l=t at e1 j⊢;obtain⟨y,g0⟩:=R.get;obtain⟨e',g1⟩:=j.get;have N:Prs m (m.push (.cells [S t.1] 9 1 false)):=(zRo j.prs.ok).push _;have f:=j.prsH N;obtain⟨O,e3,T,u,n3⟩:=gH (bytes:=16) N.ok (by decide) f.k (zM8 m (S t.1) 9 N) rfl rfl (zM 1) (by omega) (by decide);generalize a3:AV.slice (m.push (.cells [S t.1] 9 1 false)).next 0 (ks.length+1) 1=H0 at e3 T
 have Z: ∀B,Blk H0 B->B=m.next+1:=fun B a=>by rw[<-a3,zRl]at a;exact a
 have a5:=j.lt;have n2:(m.push (.cells [S t.1] 9 1 false)).next=m.next+1:=rfl
 have a6:=j.prs.next
 obtain⟨K,g2⟩:=f.get;have g3:O.h.get h=some (.cells [S t.2.1, .bool t.2.2, .bool s,k,q,e] K 1 false):=by rw[u.keep _ (by omega) (fun C=>(f.kb _ C).2.1 rfl)];exact g2
 have a0:=u.ok.lt g3;have J:Stp (fun B=>B=h) O (O.put h (.cells ([S t.2.1, .bool t.2.2, .bool s,k,q,e].set 3 H0) K 1 false)):=(zRo u.ok).put a0 _ (.inr rfl);have a1:=cE (o:=3) (x:=H0) g3 (by decide) T.row.isCell (by simp);have a4: ∀B,Blk q B-> ¬Blk k B:=fun B a Y=>(f.kb B Y).2.2.1 a
 have a2: ∀B,Blk e B-> ¬Blk k B:=fun B a Y=>(f.kb B Y).2.2.2 a
 refine⟨_,H0, ?_,⟨(Stp.via f.prs u (fun B a=> .inl (f.kb B a).1)).trans J,⟨K,by rw[zRk,if_pos rfl];rfl⟩, ?_,(f.v.mono u a4).mono J (fun B a=>(f.vb B a).2.1),(f.p.mono u a2).mono J (fun B a=>(f.pb B a).2), ?_,f.vb,f.pb,⟨j.small.1,by simp;omega,R.small.2.2⟩⟩⟩
 .simp only[f173,eZ,jM g0,e1];rw[kW (by rw[jM g1];rfl) (zFo R.k),zR4 _ rfl];simp only[eZ,kX j.prs.ok,e3];rw[a1];simp only[eZ]
 .have:=T.mono J (fun B a=>by have:=Z B a;omega);simpa using this
 .intro B a;have:=Z B a;refine⟨by omega,by omega,fun C=> ?_,fun C=> ?_⟩
  .have:=Own.lt j.v C;omega
  .have:=Own.lt j.p C;omega
theorem zDX{rest:Str}{ks vs:List Str}{ps:List Ptr}(R:RdI h H v rest l s k q e ks vs ps)(hs:vs.length<1000000):
  ∃H' u,f175 D n [.ptr h 0] v=some (.tuple [],H')/\RdI h H H' (vM rest l).2.1 (vM rest l).2.2 s k u e ks (vs++[(vM rest l).1]) ps:=by
 obtain⟨m,e1,j⟩:=zM5 D n R;generalize vM rest l=t at e1 j⊢;obtain⟨z,g0⟩:=R.get;obtain⟨e',g1⟩:=j.get;have T:Prs m (m.push (.cells [S t.1] 9 1 false)):=(zRo j.prs.ok).push _;have f:=j.prsH T;obtain⟨Y,e3,Z,y,n3⟩:=gH (bytes:=16) T.ok (by decide) f.v (zM8 m (S t.1) 9 T) rfl rfl (zM 1) (by omega) (by decide);generalize a3:AV.slice (m.push (.cells [S t.1] 9 1 false)).next 0 (vs.length+1) 1=u at e3 Z
 have N: ∀B,Blk u B->B=m.next+1:=fun B a=>by rw[<-a3,zRl]at a;exact a
 have a5:=j.lt;have n2:(m.push (.cells [S t.1] 9 1 false)).next=m.next+1:=rfl
 have a6:=j.prs.next
 obtain⟨O,g2⟩:=f.get;have g3:Y.h.get h=some (.cells [S t.2.1, .bool t.2.2, .bool s,k,q,e] O 1 false):=by rw[y.keep _ (by omega) (fun J=>(f.vb _ J).2.1 rfl)];exact g2
 have a0:=y.ok.lt g3;have K:Stp (fun B=>B=h) Y (Y.put h (.cells ([S t.2.1, .bool t.2.2, .bool s,k,q,e].set 4 u) O 1 false)):=(zRo y.ok).put a0 _ (.inr rfl);have a1:=cE (o:=4) (x:=u) g3 (by decide) Z.row.isCell (by simp);have a4: ∀B,Blk k B-> ¬Blk q B:=fun B a H0=>(f.kb B a).2.2.1 H0
 have a2: ∀B,Blk e B-> ¬Blk q B:=fun B a H0=>(f.vb B H0).2.2 a
 refine⟨_,u, ?_,⟨(Stp.via f.prs y (fun B a=> .inl (f.vb B a).1)).trans K,⟨O,by rw[zRk,if_pos rfl];rfl⟩,(f.k.mono y a4).mono K (fun B a=>(f.kb B a).2.1), ?_,(f.p.mono y a2).mono K (fun B a=>(f.pb B a).2), ?_, ?_,f.pb,⟨j.small.1,R.small.2.1,by simp;omega,R.small.2.2.2⟩⟩⟩
 .simp only[f175,eZ,jM g0,e1];rw[kW (by rw[jM g1];rfl) (zFo R.v),zR4 _ rfl];simp only[eZ,kX j.prs.ok,e3];rw[a1];simp only[eZ]
 .have:=Z.mono K (fun B a=>by have:=N B a;omega);simpa using this
 .intro B a;have H0:=f.kb B a;refine⟨H0.1,H0.2.1,fun J=> ?_,H0.2.2.2⟩;have:=N B J;have:=Own.lt j.k a;omega
 .intro B a;have:=N B a;refine⟨by omega,by omega,fun J=> ?_⟩;have:=Own.lt j.p J;omega
def zDq (rest:Str)(a:Bool)(ps:List Ptr):Str×Bool×List Ptr:=if(wL rest a 16).2.2 then((wL rest a 16).2.1,true,ps)else if mayP (xV (wL rest a 16).1)then((wL rest a 16).2.1,false,ps++[xV (wL rest a 16).1])else((wL rest a 16).2.1,true,ps)
theorem zEB (rest:Str)(ps:List Ptr):(zDq rest true ps).2.1=true:=by simp[zDq,wL]
theorem zBX {rest r:Str}{p:Ptr}(ps:List Ptr)(h:dJ rest=some (p,r)):zDq rest false ps=(r,false,ps++[p]):=by
 simp only[dJ,Nd.decP]at h;split at h
 .rename_i hl;split at h
  .rename_i q a;simp only[zB,zU]at h;obtain⟨rfl,rfl⟩:=h;split at a
   .rename_i hm;simp only[zB]at a;subst a;have: ¬rest.length<16:=by omega
    simp[zDq,wL,this,hm]
   .simp at a
  .simp at h
 .simp at h
theorem zBY {rest:Str}(ps:List Ptr)(h:dJ rest=none):(zDq rest false ps).2.1=true:=by
 simp only[dJ,Nd.decP]at h;split at h
 .rename_i hl;split at h
  .simp at h
  .rename_i a;split at a
   .simp at a
   .rename_i hm;have: ¬rest.length<16:=by omega
    simp[zDq,wL,this,hm]
 .rename_i hl;have:rest.length<16:=by omega
  simp[zDq,wL,this]
theorem zAx(hn:100<=n){rest:Str}{ks vs:List Str}{ps:List Ptr}(R:RdI h H v rest l s k q e ks vs ps)(hs:ps.length<1000000):
  ∃H' z,f174 D n [.ptr h 0] v=some (.tuple [],H')/\RdI h H H' (zDq rest l ps).1 (zDq rest l ps).2.1 s k q z ks vs (zDq rest l ps).2.2:=by
 obtain⟨H1,N,u⟩:=zA8 D n R 16;obtain⟨leaf,O⟩:=u.get;have a2:(wL rest l 16).2.2=false->(wL rest l 16).1.length=16:=by
  unfold wL;split
  .intro R;simp at R
  .split
   .intro R;simp at R
   .intro _;simp;omega
 simp only[zDq];generalize wL rest l 16=t at N u O a2⊢;obtain⟨H0,r,b⟩:=t;simp only at N u O a2⊢
 cases b with
 | true=>
  refine⟨H1,e, ?_,by simpa using u⟩;simp only[f174,eZ,N,jM O]
 | false=>
  obtain⟨T,C,p2⟩:=zJa D n u.prs.ok (a2 rfl) hn;have Y:=u.prsH p2;have a4: ∀x:Ptr,∃f,stN 3 (.ptr T.next 0) (.agg (jS x)) (T.push (.cells [.int .i64 (0:Nat), .int .i64 (0:Nat), .int .u64 (0:Nat)] 42 1 false))=some (jQ,f)/\Prs T f/\f.next=T.next+1/\f.h.get T.next=some (.cells (jS x) 42 1 false):=zDK Y.prs.ok
  cases hm:mayP (xV H0)with
  | false=>
   obtain⟨f,e3,p3,n3,g3⟩:=a4 pz;have m:=Y.prsH p3;obtain⟨H4,e4,j⟩:=m.put (o:=1) (x:= .bool true) rfl (by decide) (rest':=r) (bad':=true) u.small.1 rfl;refine⟨H4,e, ?_,by simpa using j⟩;rw[hm]at C;simp only[qD,zL]at C;have a9:(((4:Nat):Int)≠((0:Nat):Int)):=by omega
   simp only[f174,eZ,N,jM O,C,jN,nth,kX Y.prs.ok,e3,a9,e4,ne_eq,yD]
  | true=>
   obtain⟨f,e3,p3,n3,g3⟩:=a4 (xV H0);have m:=Y.prsH p3;rw[hm]at C;simp only[if_true]at C;have p4:Prs f (f.push (.cells (jS (xV H0)) 42 3 false)):=(zRo m.prs.ok).push _;have j:=m.prsH p4;have n4:(f.push (.cells (jS (xV H0)) 42 3 false)).next=f.next+1:=rfl
   have a5:srcOf 3 (.slice f.next 0 1 2) (f.push (.cells (jS (xV H0)) 42 3 false))=some (1,jS (xV H0)):=WK f _ 42 3 false 1 2 rfl
   obtain⟨H5,e5,o5,J,n5⟩:=gH (bytes:=24) p4.ok (by decide) j.p a5 rfl rfl (zM 1) (by omega) (by decide);generalize b0:AV.slice (f.push (.cells (jS (xV H0)) 42 3 false)).next 0 (ps.length+1) 1=z at e5 o5
   have a0: ∀B,Blk z B->B=f.next+1:=fun B a=>by rw[<-b0,zRl]at a;exact a
   have b6:=m.lt;have b7:=m.prs.next
   obtain⟨b8,b1⟩:=m.get;obtain⟨a3,g4⟩:=j.get;have g5:H5.h.get h=some (.cells [S r, .bool false, .bool s,k,q,e] a3 1 false):=by rw[J.keep _ (by omega) (fun Z=>(j.pb _ Z).2 rfl)];exact g4
   have a6:=J.ok.lt g5;have a1:Stp (fun B=>B=h) H5 (H5.put h (.cells ([S r, .bool false, .bool s,k,q,e].set 5 z) a3 1 false)):=(zRo J.ok).put a6 _ (.inr rfl);have a7:=cE (o:=5) (x:=z) g5 (by decide) o5.row.isCell (by simp);have b2: ∀B,Blk k B-> ¬Blk e B:=fun B a y=>(j.kb B a).2.2.2 y
   have a8: ∀B,Blk q B-> ¬Blk e B:=fun B a y=>(j.vb B a).2.2 y
   have b3:dW 42 3 1 [.int .i64 (0:Nat), .int .i64 (0:Nat), .int .u64 (0:Nat)] [(0, .agg (jS (xV H0)))]=some (.cells (jS (xV H0)) 42 3 false,fun A=> .slice A 0 1 2):=rfl;have b4: ¬(((0:Nat):Int)≠((0:Nat):Int)):=by omega
   refine⟨_,z, ?_,⟨(Stp.via j.prs J (fun B a=> .inl (j.pb B a).1)).trans a1,⟨a3,by rw[zRk,if_pos rfl];rfl⟩,(j.k.mono J b2).mono a1 (fun B a=>(j.kb B a).2.1),(j.v.mono J a8).mono a1 (fun B a=>(j.vb B a).2.1), ?_, ?_, ?_, ?_,⟨u.small.1,R.small.2.1,R.small.2.2.1,by simp;omega⟩⟩⟩
   .have b5:bC (jS (xV H0)) 0 3=some (jS (xV H0)):=rfl;simp only[f174,eZ,N,jM O,C,jN,nth,kX Y.prs.ok,e3,b4,jM b1,jR g3,b5,qB,b3,kX m.prs.ok,e5];rw[a7];simp only[eZ]
   .have:=o5.mono a1 (fun B a=>by have:=a0 B a;omega);simpa using this
   .intro B a;have y:=j.kb B a;refine⟨y.1,y.2.1,y.2.2.1,fun Z=> ?_⟩;have:=a0 B Z;have:=Own.lt m.k a;omega
   .intro B a;have y:=j.vb B a;refine⟨y.1,y.2.1,fun Z=> ?_⟩;have:=a0 B Z;have:=Own.lt m.v a;omega
   .intro B a;have:=a0 B a;exact⟨by omega,by omega⟩
open Go.Nd (KI KJ)
theorem V8 (m n R:Nat)(H:AH):callV [(172,f172 (dy (m+1)) n),(174,f174 (dy (m+1)) n),(62,f62 (dy (m+1)) n)] (dy (m+1)) (.func 173 [.ptr R 0] []) [] H=f173 (dy m) m [.ptr R 0] H:=rfl
theorem zJr (m n R:Nat)(H:AH):callV [(172,f172 (dy (m+1)) n),(174,f174 (dy (m+1)) n),(62,f62 (dy (m+1)) n)] (dy (m+1)) (.func 175 [.ptr R 0] []) [] H=f175 (dy m) m [.ptr R 0] H:=rfl
theorem zDJ (m n R:Nat)(H:AH):callV [(172,f172 (dy (m+1)) n),(174,f174 (dy (m+1)) n),(62,f62 (dy (m+1)) n)] (dy (m+1)) (.func 174 [.ptr R 0] []) [] H=f174 (dy (m+1)) n [.ptr R 0] H:=rfl
theorem ix2 (a:Nat)(i:Nat)(h:i<2):dV 1 (.slice a 0 2 4) (.int .i64 i)=some (.ptr a i):=by
 have hb:Nat.blt i 2=true:=by rw[qE];exact h
 simp only[dV,kL _ (show(0:Int)<=(i:Int)by omega),yC,hb,zP,kF,yZ,Nat.mul_one]
theorem inner (m n:Nat){R:Nat}{a k i:AV}(J:H.h.get h=some (.cells [q,e] w 1 false))(x:v.h.get h=some (.cells [q,e] w 1 false))
  (K:callV [(172,f172 (dy (m+1)) n),(174,f174 (dy (m+1)) n),(62,f62 (dy (m+1)) n)] (dy (m+1)) q [] H=some (.tuple [],v)) (N:callV [(172,f172 (dy (m+1)) n),(174,f174 (dy (m+1)) n),(62,f62 (dy (m+1)) n)] (dy (m+1)) e [] v=some (.tuple [],I)) (o:Nat) (Z:3<=o):
  kJ o (Y0 (dy (m+1)) n) [a, .ptr R 0, .slice h 0 2 4,k,i, .slice h 0 2 4, .int .i64 (2:Nat), .int .i64 (0:Nat)] H=some (.exit 2 [a, .ptr R 0, .slice h 0 2 4,k,i],I):=by
 obtain⟨o,rfl⟩: ∃j,o=j+3:=⟨o - 3,by omega⟩;have y:((0:Nat):Int)< ((2:Nat):Int):=by omega
 have z:((1:Nat):Int)< ((2:Nat):Int):=by omega
 have C: ¬((2:Nat):Int)< ((2:Nat):Int):=by omega
 have O:((0:Nat):Int)+((1:Nat):Int)=((1:Nat):Int):=rfl;have S:((1:Nat):Int)+((1:Nat):Int)=((2:Nat):Int):=rfl;have T:=ix2 h 0 (by omega);have Y:=ix2 h 1 (by omega);rw[kD (vs':=[a, .ptr R 0, .slice h 0 2 4,k,i, .slice h 0 2 4, .int .i64 (2:Nat), .int .i64 (1:Nat)]) (H':=v) (by
  simp(disch:=omega) only[Y0,eZ,y,T,jM J,K,O])]
 rw[kD (vs':=[a, .ptr R 0, .slice h 0 2 4,k,i, .slice h 0 2 4, .int .i64 (2:Nat), .int .i64 (2:Nat)]) (H':=I) (by
  simp(disch:=omega) only[Y0,eZ,z,Y,jM x,N,S])]
 exact jW (by simp only[Y0,eZ,C])
theorem zQ6 (m n:Nat)(hn:3<=n){R A4:Nat}(u:H.h.get h=some (.cells [.func 173 [.ptr R 0] [], .func 175 [.ptr R 0] []] w 1 false))(S:H.ok)(hR:h≠R)
  {N:Str} (K:Nat) (hK:K<1000000) (h0:RdI R H H N false true .nS .nS .nS [] [] []) (n':Nat) (a2:K<n'):
  ∃H',kJ n' (uP (dy (m+1)) n) [.ptr A4 0, .ptr R 0, .slice h 0 2 4, .int .i64 (K:Nat), .int .i64 (0:Nat)] H=some (.exit 0 [.ptr A4 0, .ptr R 0],H')/\
   ∃kv f ks vs rest,(match KI K N with | some (a,b,r)=>ks=a/\vs=b/\rest=r/\RdI R H H' rest false true kv f .nS ks vs [] | none=>RdI R H H' rest true true kv f .nS ks vs []):=by
 have key:=QP (b:=uP (dy (m+1)) n) K (fun i=>(KI (i+1) N).isSome)
  (fun i T p=>T=[.ptr A4 0, .ptr R 0, .slice h 0 2 4, .int .i64 (K:Nat), .int .i64 (i:Nat)]/\ ∃kv f ks vs rest,KI i N=some (ks,vs,rest)/\RdI R H p rest false true kv f .nS ks vs [])
  (fun x H'=>x= .exit 0 [.ptr A4 0, .ptr R 0]/\ ∃kv f ks vs rest,KI K N=some (ks,vs,rest)/\RdI R H H' rest false true kv f .nS ks vs [])
  (fun x H'=>x= .exit 0 [.ptr A4 0, .ptr R 0]/\ ∃kv f ks vs rest,RdI R H H' rest true true kv f .nS ks vs []) ?_ ?_ ?_ n' _ H ⟨rfl,_,_,_,_,_,rfl,h0⟩ a2
 .obtain⟨x,H',k1,k2⟩:=key;rw[Nd.decL_all]at k2
  cases hd:KI K N with
  | none=>
   rw[hd]at k2;simp only[Option.isSome_none,zL,qD]at k2;obtain⟨rfl,kv,f,ks,vs,rest,o⟩:=k2;exact⟨H',k1,kv,f,ks,vs,rest,o⟩
  | some y=>
   rw[hd]at k2;simp only[jJ,if_true]at k2;obtain⟨rfl,kv,f,ks,vs,rest,q,o⟩:=k2;simp only[zB]at q;subst q;exact⟨H',k1,kv,f,ks,vs,rest,rfl,rfl,rfl,o⟩
 .rintro i T p hi ⟨rfl,kv,f,ks,vs,rest,hd,C⟩ j
  obtain⟨_,a3,a4⟩:=Nd.decL_eq hd;obtain⟨O,a5,e1,q⟩:=zC0 (dy m) m C (by omega);obtain⟨H2,a6,e2,t⟩:=zDX (dy m) m q (by omega);have hp:p.h.get h=_:=(C.prs.keep h (S.lt u) hR).trans u;have Y:O.h.get h=_:=(q.prs.keep h (S.lt u) hR).trans u;have Z:=inner m n (R:=R) (a:= .ptr A4 0) (k:= .int .i64 (K:Nat)) (i:= .int .i64 (i:Nat)) hp Y ((V8 m n R p).trans e1) ((zJr m n R O).trans e2) n hn;rw[Nd.decL_snoc,hd]at j;simp only[yK]at j;have a0:((i:Nat):Int)< (K:Int):=by omega
  cases z:xZ rest with
  | none=>rw[z]at j;simp at j
  | some a=>
   obtain⟨a,r1⟩:=a;rw[z]at j;simp only[yK]at j;rw[fK z]at q t;simp only at q t
   cases J:xZ r1 with
   | none=>rw[J]at j;simp at j
   | some b=>
    obtain⟨b,r2⟩:=b;rw[fK J]at t;simp only at t;obtain⟨ee,g2⟩:=t.get;refine⟨_,H2, ?_,rfl,_,_,_,_,_, ?_,t⟩
    .simp(disch:=omega) only[uP,eZ,a0,lnSl,Z,Y1,jM g2,yH]
    .rw[Nd.decL_snoc,hd];simp only[yK,z,J]
 .rintro i T p hi ⟨rfl,kv,f,ks,vs,rest,hd,C⟩ j
  obtain⟨_,a3,a4⟩:=Nd.decL_eq hd;obtain⟨O,a5,e1,q⟩:=zC0 (dy m) m C (by omega);obtain⟨H2,a6,e2,t⟩:=zDX (dy m) m q (by omega);have hp:p.h.get h=_:=(C.prs.keep h (S.lt u) hR).trans u;have Y:O.h.get h=_:=(q.prs.keep h (S.lt u) hR).trans u;have Z:=inner m n (R:=R) (a:= .ptr A4 0) (k:= .int .i64 (K:Nat)) (i:= .int .i64 (i:Nat)) hp Y ((V8 m n R p).trans e1) ((zJr m n R O).trans e2) n hn;rw[Nd.decL_snoc,hd]at j;simp only[yK]at j;have a0:((i:Nat):Int)< (K:Int):=by omega
  have a1:(vM (vM rest false).2.1 (vM rest false).2.2).2.2=true:=by
   cases z:xZ rest with
   | none=>rw[YI z];exact zB9 _
   | some a=>
    obtain⟨a,r1⟩:=a;rw[z]at j;simp only[yK]at j;rw[fK z]
    cases J:xZ r1 with
    | none=>exact YI J
    | some b=>rw[J]at j;simp at j
  rw[a1]at t;obtain⟨ee,g2⟩:=t.get;refine⟨.exit 0 [.ptr A4 0, .ptr R 0],H2, ?_,rfl,rfl,_,_,_,_,_,t⟩;simp(disch:=omega) only[uP,eZ,a0,lnSl,Z,Y1,jM g2]
 .rintro T p ⟨rfl,kv,f,ks,vs,rest,hd,C⟩
  refine⟨.exit 0 [.ptr A4 0, .ptr R 0],p, ?_,rfl,rfl,_,_,_,_,_,hd,C⟩;simp only[uP,eZ,y7]
theorem zQ7 (m n:Nat)(hn:100<=n){R A4:Nat}(Hs:H.h.get h=some (.cells [.func 173 [.ptr R 0] [], .func 174 [.ptr R 0] []] w 1 false))(S:H.ok)(hR:h≠R)
  {J:Str}  {N:Ptr} (K:Nat) (hK:K<1000000) (h0:RdI R H v J false false .nS .nS q [] [] [N]) (n':Nat) (a3:K<n'):
  ∃H',kJ n' (uP (dy (m+1)) n) [.ptr A4 0, .ptr R 0, .slice h 0 2 4, .int .i64 (K:Nat), .int .i64 (0:Nat)] v=some (.exit 0 [.ptr A4 0, .ptr R 0],H')/\
   ∃kv pv ks ps rest,(match KJ K J with | some (a,b,r)=>ks=a/\ps=N::b/\rest=r/\RdI R H H' rest false false kv .nS pv ks [] ps | none=>RdI R H H' rest true false kv .nS pv ks [] ps):=by
 have key:=QP (b:=uP (dy (m+1)) n) K (fun i=>(KJ (i+1) J).isSome)
  (fun i T t=>T=[.ptr A4 0, .ptr R 0, .slice h 0 2 4, .int .i64 (K:Nat), .int .i64 (i:Nat)]/\ ∃kv pv ks ps rest,KJ i J=some (ks,ps,rest)/\RdI R H t rest false false kv .nS pv ks [] (N::ps))
  (fun x H'=>x= .exit 0 [.ptr A4 0, .ptr R 0]/\ ∃kv pv ks ps rest,KJ K J=some (ks,ps,rest)/\RdI R H H' rest false false kv .nS pv ks [] (N::ps))
  (fun x H'=>x= .exit 0 [.ptr A4 0, .ptr R 0]/\ ∃kv pv ks ps rest,RdI R H H' rest true false kv .nS pv ks [] ps) ?_ ?_ ?_ n' _ v ⟨rfl,_,_,_,_,_,rfl,h0⟩ a3
 .obtain⟨x,H',k1,k2⟩:=key;rw[Nd.decI_all]at k2
  cases hd:KJ K J with
  | none=>
   rw[hd]at k2;simp only[Option.isSome_none,zL,qD]at k2;obtain⟨rfl,kv,pv,ks,ps,rest,j⟩:=k2;exact⟨H',k1,kv,pv,ks,ps,rest,j⟩
  | some y=>
   rw[hd]at k2;simp only[jJ,if_true]at k2;obtain⟨rfl,kv,pv,ks,ps,rest,o,j⟩:=k2;simp only[zB]at o;subst o;exact⟨H',k1,kv,pv,ks,N::ps,rest,rfl,rfl,rfl,j⟩
 .rintro i T t hi ⟨rfl,kv,pv,ks,ps,rest,hd,z⟩ f
  obtain⟨_,a4,a5,_⟩:=Nd.decI_eq hd;obtain⟨O,a6,e1,o⟩:=zC0 (dy m) m z (by omega);obtain⟨H2,a7,e2,p⟩:=zAx (dy (m+1)) n hn o (by simp;omega);have hp:t.h.get h=_:=(z.prs.keep h (S.lt Hs) hR).trans Hs;have Y:O.h.get h=_:=(o.prs.keep h (S.lt Hs) hR).trans Hs;have Z:=inner m n (R:=R) (a:= .ptr A4 0) (k:= .int .i64 (K:Nat)) (i:= .int .i64 (i:Nat)) hp Y ((V8 m n R t).trans e1) ((zDJ m n R O).trans e2) n (by omega);rw[Nd.decI_snoc,hd]at f;simp only[yK]at f;have a0:((i:Nat):Int)< (K:Int):=by omega
  cases u:xZ rest with
  | none=>rw[u]at f;simp at f
  | some a=>
   obtain⟨a,r1⟩:=a;rw[u]at f;simp only[yK]at f;rw[fK u]at o p;simp only at o p
   cases C:dJ r1 with
   | none=>rw[C]at f;simp at f
   | some b=>
    obtain⟨b,r2⟩:=b;rw[zBX _ C]at p;simp only at p;obtain⟨ee,g2⟩:=p.get;refine⟨_,H2, ?_,rfl,_,_,_,_,_, ?_,p⟩
    .simp(disch:=omega) only[uP,eZ,a0,lnSl,Z,Y1,jM g2,yH]
    .rw[Nd.decI_snoc,hd];simp only[yK,u,C];rfl
 .rintro i T t hi ⟨rfl,kv,pv,ks,ps,rest,hd,z⟩ f
  obtain⟨_,a4,a5,_⟩:=Nd.decI_eq hd;obtain⟨O,a6,e1,o⟩:=zC0 (dy m) m z (by omega);obtain⟨H2,a7,e2,p⟩:=zAx (dy (m+1)) n hn o (by simp;omega);have hp:t.h.get h=_:=(z.prs.keep h (S.lt Hs) hR).trans Hs;have Y:O.h.get h=_:=(o.prs.keep h (S.lt Hs) hR).trans Hs;have Z:=inner m n (R:=R) (a:= .ptr A4 0) (k:= .int .i64 (K:Nat)) (i:= .int .i64 (i:Nat)) hp Y ((V8 m n R t).trans e1) ((zDJ m n R O).trans e2) n (by omega);rw[Nd.decI_snoc,hd]at f;simp only[yK]at f;have a0:((i:Nat):Int)< (K:Int):=by omega
  have a1:(zDq (vM rest false).2.1 (vM rest false).2.2 (N::ps)).2.1=true:=by
   cases u:xZ rest with
   | none=>rw[YI u];exact zEB _ _
   | some a=>
    obtain⟨a,r1⟩:=a;rw[u]at f;simp only[yK]at f;rw[fK u]
    cases C:dJ r1 with
    | none=>exact zBY _ C
    | some b=>rw[C]at f;simp at f
  rw[a1]at p;obtain⟨ee,g2⟩:=p.get;refine⟨.exit 0 [.ptr A4 0, .ptr R 0],H2, ?_,rfl,rfl,_,_,_,_,_,p⟩;simp(disch:=omega) only[uP,eZ,a0,lnSl,Z,Y1,jM g2]
 .rintro T t ⟨rfl,kv,pv,ks,ps,rest,hd,z⟩
  refine⟨.exit 0 [.ptr A4 0, .ptr R 0],t, ?_,rfl,rfl,_,_,_,_,_,hd,z⟩;simp only[uP,eZ,y7]
def YF (H0 H:AH)(v:AV)(nd:Nd.Node):Prop:= ∃ks vs ps,v= .agg [.bool nd.leaf,ks,vs,ps]/\Own 1 9 H ks nd.keys.length (nd.keys.map S)/\Own 1 9 H vs nd.vals.length (nd.vals.map S)/\Own 3 42 H ps nd.kids.length (nd.kids.flatMap jS)/\(∀B,Blk ks B\/Blk vs B\/Blk ps B->H0.next<=B)/\(∀B,Blk ks B-> ¬Blk vs B/\ ¬Blk ps B)/\ ∀B,Blk vs B-> ¬Blk ps B
theorem YF.node {nd:Nd.Node}(h:YF H v k nd):dD v k nd:=by
 obtain⟨ks,vs,ps,e,a,f,j,_⟩:=h;exact⟨ks,vs,ps,e,a.row,f.row,j.row⟩
theorem zDM {b:Nat}(u:h<256)(hb:b<256):wU .or (.int .i64 (h*256:Nat)) (.int .i64 (b:Int))=some (.int .i64 ((h*256+b):Nat)):=by
 have f:h*256||| b=h*256+b:=by
  have:=Nat.two_pow_add_eq_or_of_lt (b:=b) (i:=8) (by omega) h;rw[Nat.mul_comm h 256];exact this.symm
 have a:keq .i64 .i64=true:=rfl;have j:BitVec.ofInt 64 ((h*256:Nat):Int)=BitVec.ofNat 64 (h*256):=BitVec.ofInt_natCast _ _;have m:BitVec.ofInt 64 (b:Int)=BitVec.ofNat 64 b:=BitVec.ofInt_natCast _ _;have o:(BitVec.ofNat 64 (h*256)||| BitVec.ofNat 64 b).toNat=h*256+b:=by
  rw[BitVec.toNat_or,BitVec.toNat_ofNat,BitVec.toNat_ofNat,Nat.mod_eq_of_lt (by omega),Nat.mod_eq_of_lt (by omega),f]
 have p:wU .or (.int .i64 (.ofNat (h*256))) (.int .i64 (.ofNat b))=Q1.slow .or .i64 (.ofNat (h*256)) (.ofNat b):=by
  simp only[wU,fF,a,zP,Q1,IntKind.signed,Bool.not_true,Bool.false_and,qH]
 have q:Q1.slow .or .i64 (.ofNat (h*256)) (.ofNat b)=some (.int .i64 (h*256+b:Nat)):=by
  have t:Q1.slow .or .i64 (.ofNat (h*256)) (.ofNat b)=fI (IntKind.wrap .i64 ((BitVec.ofInt 64 ((h*256:Nat):Int)||| BitVec.ofInt 64 (b:Int)).toNat:Nat)) (fun n=>some (.int .i64 n)):=rfl;rw[t,zFY,j,m,o,wrap_i64 (by omega) (by omega)]
 exact p.trans q
theorem head2 {s:Str}(h:2<=s.length): ∃a b,s.take 2=[a,b]/\bee (s.take 2)=a.toNat*256+b.toNat:=by
 match s,h with
 | a::b::l,_=>exact⟨a,b,rfl,by simp[bee]⟩
theorem RdI.base {rest:Str}(R:RdI h H v rest l s .nS .nS .nS [] [] [])(H0:Prs v I):RdI h I I rest l s .nS .nS .nS [] [] []:=by
 obtain⟨e,j⟩:=R.get;exact⟨zRo H0.ok,⟨e,H0.get R.prs.ok j⟩,zRw _ _ _,zRw _ _ _,zRw _ _ _,fun B a=>(zRu.1 a).elim,fun B a=>(zRu.1 a).elim,fun B a=>(zRu.1 a).elim,R.small⟩
theorem zQQ(hn:200000000<=n){A4:Nat}{rest:Str}{ks vs:List Str}{ps:List Ptr}(a:RdI h v I rest l s k q e ks vs ps)(hA: ∃c leaf,c.length=4/\v.h.get A4=some (.cells c leaf 1 false))(b0:A4≠h)
  (a5:v.ok) (h0:Prs H v) (hR:H.next<=h) (a6:H.next<=A4) (a1:l=true\/small ⟨s,ks,vs,ps⟩):
  ∃H0 H',dG (cT D n [.ptr A4 0, .ptr h 0] I)=some (.tuple [H0, .int .i64 (if l=false/\rest=[]/\Nd.may ltS ⟨s,ks,vs,ps⟩=true then 0 else 4:Nat)],H')/\Prs H H'/\((l=false/\rest=[]/\Nd.may ltS ⟨s,ks,vs,ps⟩=true)->YF H H' H0 ⟨s,ks,vs,ps⟩)/\ ∃u,H0= .agg u/\u.length=4/\jP u=true:=by
 obtain⟨leaf,t⟩:=a.get;obtain⟨c,ec,T,a2⟩:=hA;have a3:vJ [(0,1),(1,1),(2,1),(3,1)] [.bool false, .nS, .nS, .nS] []=some (.agg [.bool false, .nS, .nS, .nS]):=rfl;have a7:I.h.get A4=some (.cells c ec 1 false):=(a.prs.keep A4 (a5.lt a2) b0).trans a2;have hP:Prs H I:=h0.fresh a.prs (fun B f=>by rw[f];exact hR);have a0: ∀C,Prs I C-> ∃j,stN 4 (.ptr A4 0) (.agg [.bool false, .nS, .nS, .nS]) C=some (jQ,j)/\ldN 4 (.ptr A4 0) j=some (.agg [.bool false, .nS, .nS, .nS])/\Prs H j:=by
  intro C m;obtain⟨j,z,g3,y,n3⟩:=jV m.ok (m.get a.prs.ok a7) (l':=[.bool false, .nS, .nS, .nS]) (by simp[T]) rfl;rw[T]at z;refine⟨j,z,by rw[jR g3];rfl,(hP.trans m).fresh y (fun B f=>by rw[f];exact a6)⟩
 cases l with
 | true=>
  obtain⟨j,z,J,K⟩:=a0 I (zRo a.prs.ok);refine⟨.agg [.bool false, .nS, .nS, .nS],j, ?_,K,fun R=>by simp at R,_,rfl,rfl,rfl⟩;simp only[cT,eZ,jM t,a3,z,J,false_and,Bool.true_eq_false]
 | false=>
  have a1:=a1.resolve_left (by simp);by_cases hr:rest=[]
  .subst hr;have a9:dD I (.agg [.bool s,k,q,e]) ⟨s,ks,vs,ps⟩:=⟨k,q,e,rfl,a.k.row,a.v.row,a.p.row⟩;obtain⟨C,Y,m⟩:=zO3 D n a.prs.ok a9 a1 hn;have N: ¬(([]:Str)≠[]):=by simp
   have O:(AV.str 0 0)=S []:=rfl;have a4:bC [S [], .bool false, .bool s,k,q,e] 2 4=some [.bool s,k,q,e]:=rfl
   cases hm:Nd.may ltS ⟨s,ks,vs,ps⟩with
   | false=>
    obtain⟨j,z,J,K⟩:=a0 C m;rw[hm]at Y;refine⟨.agg [.bool false, .nS, .nS, .nS],j, ?_,K,fun R=>by simp at R,_,rfl,rfl,rfl⟩;simp only[cT,eZ,jM t,jR t,a4,qB,O,N,Y,a3,z,J,and_false]
   | true=>
    rw[hm]at Y;have a8:jP [.bool s,k,q,e]=true:=by
     rw[wJ];intro x hx;simp only[zK,List.not_mem_nil,or_false]at hx;rcases hx with rfl | rfl | rfl | rfl
     .rfl
     .exact a.k.row.isCell
     .exact a.v.row.isCell
     .exact a.p.row.isCell
    obtain⟨j,z,g3,y,n3⟩:=jV m.ok (m.get a.prs.ok a7) (l':=[.bool s,k,q,e]) (by simp[T]) a8;rw[T]at z;have b1:ldN 4 (.ptr A4 0) j=some (.agg [.bool s,k,q,e]):=by rw[jR g3];rfl
    have b2:A4<v.next:=a5.lt a2
    have Z: ∀B,Blk k B\/Blk q B\/Blk e B->v.next<=B:=by
     rintro B (R | R | R)
     .exact(a.kb B R).1
     .exact(a.vb B R).1
     .exact(a.pb B R).1
    refine⟨.agg [.bool s,k,q,e],j, ?_,(hP.trans m).fresh y (fun B f=>by rw[f];exact a6),fun _=>⟨k,q,e,rfl,(a.k.mono m (fun _ _ x=>x)).mono y (fun B f=>by have:=Z B (.inl f);omega),(a.v.mono m (fun _ _ x=>x)).mono y (fun B f=>by have:=Z B (.inr (.inl f));omega),(a.p.mono m (fun _ _ x=>x)).mono y (fun B f=>by have:=Z B (.inr (.inr f));omega),fun B f=>by have:=Z B f;have:=h0.next;omega,fun B f=>(a.kb B f).2.2,fun B f=>(a.vb B f).2.2⟩,_,rfl,rfl,a8⟩
    simp only[cT,eZ,jM t,jR t,jR (m.get a.prs.ok t),a4,qB,O,N,Y,z,b1,and_self]
  .obtain⟨j,z,J,K⟩:=a0 I (zRo a.prs.ok);have N:rest≠[]:=hr;have O:(AV.str 0 0)=S []:=rfl;refine⟨.agg [.bool false, .nS, .nS, .nS],j, ?_,K,fun R=>absurd R.2.1 hr,_,rfl,rfl,rfl⟩;simp only[cT,eZ,jM t,O,N,a3,z,J,false_and,and_false,ne_eq,yD,hr]
theorem zO6 (m n:Nat)(hn:100<=n){R A4:Nat}(f:H.h.get h=some (.cells [.func 173 [.ptr R 0] [], .func 174 [.ptr R 0] []] w 1 false))(z:H.ok)(hR:h≠R)
  {u:Str}  {ps:List Ptr} (a0:ps.length<1000) (K:Nat) (x:RdI R H v u true false .nS .nS q [] [] ps) (p:Nat) (a1:K<p):
  ∃H',kJ p (uP (dy (m+1)) n) [.ptr A4 0, .ptr R 0, .slice h 0 2 4, .int .i64 (K:Nat), .int .i64 (0:Nat)] v=some (.exit 0 [.ptr A4 0, .ptr R 0],H')/\ ∃kv q ks ps rest,RdI R H H' rest true false kv .nS q ks [] ps:=by
 obtain⟨p,rfl⟩: ∃j,p=j+1:=⟨p - 1,by omega⟩;by_cases hK:K=0
 .subst hK;refine⟨v,jW ?_,_,_,_,_,_,x⟩;simp only[uP,eZ,y7]
 .obtain⟨C,a2,e1,J⟩:=zC0 (dy m) m x (by simp);have O:=zB9 u;obtain⟨H2,a3,e2,y⟩:=zAx (dy (m+1)) n hn J (by omega);have S:v.h.get h=_:=(x.prs.keep h (z.lt f) hR).trans f;have T:C.h.get h=_:=(J.prs.keep h (z.lt f) hR).trans f;have Y:=inner m n (R:=R) (a:= .ptr A4 0) (k:= .int .i64 (K:Nat)) (i:= .int .i64 (0:Nat)) S T ((V8 m n R v).trans e1) ((zDJ m n R C).trans e2) n (by omega);have N:(zDq (vM u true).2.1 (vM u true).2.2 ps).2.1=true:=by rw[O];exact zEB _ _
  rw[N]at y;obtain⟨ee,g2⟩:=y.get;have Z:((0:Nat):Int)< (K:Int):=by omega
  refine⟨H2,jW ?_,_,_,_,_,_,y⟩;simp(disch:=omega) only[uP,eZ,Z,lnSl,Y,Y1,jM g2]
def RdI.cap {rest:Str}{ks vs:List Str}{ps:List Ptr}(R:RdI h H v rest l s k q e ks vs ps):rest.length<=10000:=R.small.1
theorem zJ9 (m n:Nat)(hn:200000000<=n)(hk:H.ok)(leaf:Bool)(s:Str):
  ∃v H',f123 (dy (m+1)) n [.bool leaf,S s] H=some (.tuple [v, .int .i64 (if(Nd.decN ltS leaf s).isSome then 0 else 4:Nat)],H')/\Prs H H'/\(∀nd,Nd.decN ltS leaf s=some nd->YF H H' v nd)/\ ∃l,v= .agg l/\l.length=4/\jP l=true:=by
 have c1:vJ [(0,1),(1,1),(2,1),(3,1)] [.bool false, .nS, .nS, .nS] []=some (.agg [.bool false, .nS, .nS, .nS]):=rfl;have x:Prs H (H.push (.cells [.bool false, .nS, .nS, .nS] 119 1 false)):=(zRo hk).push _;have g1:(H.push (.cells [.bool false, .nS, .nS, .nS] 119 1 false)).h.get H.next=some (.cells [.bool false, .nS, .nS, .nS] 119 1 false):=zRg _ _
 have n1:(H.push (.cells [.bool false, .nS, .nS, .nS] 119 1 false)).next=H.next+1:=rfl
 generalize a2:H.push (.cells [.bool false, .nS, .nS, .nS] 119 1 false)=H1 at x g1 n1;have b7: ∀H2,Prs H1 H2-> ∃j,stN 4 (.ptr H.next 0) (.agg [.bool false, .nS, .nS, .nS]) H2=some (jQ,j)/\ldN 4 (.ptr H.next 0) j=some (.agg [.bool false, .nS, .nS, .nS])/\Prs H j:=by
  intro H2 Y;obtain⟨j,u,N,s3,n3⟩:=jV Y.ok (Y.get x.ok g1) (l':=[.bool false, .nS, .nS, .nS]) rfl rfl;exact⟨j,u,by rw[jR N];rfl,(x.trans Y).fresh s3 (fun B Z=>by omega)⟩
 by_cases b8:s.length<=500
 .have a0: ¬((500:Nat):Int)< (s.length:Int):=by omega
  have a7:vJ [(0,1),(1,1),(2,1),(3,1)] [.bool false, .nS, .nS, .nS] [(0, .bool leaf)]=some (.agg [.bool leaf, .nS, .nS, .nS]):=rfl;have a8:vJ [(0,1),(1,1),(2,4)] [.str 0 0, .bool false, .bool false, .nS, .nS, .nS] [(0,S s),(2, .agg [.bool leaf, .nS, .nS, .nS])]=some (.agg [S s, .bool false, .bool leaf, .nS, .nS, .nS]):=rfl;have Y:Prs H1 (H1.push (.cells [S s, .bool false, .bool leaf, .nS, .nS, .nS] 285 1 false)):=(zRo x.ok).push _;have g2:(H1.push (.cells [S s, .bool false, .bool leaf, .nS, .nS, .nS] 285 1 false)).h.get H1.next=some (.cells [S s, .bool false, .bool leaf, .nS, .nS, .nS] 285 1 false):=zRg _ _
  have n2:(H1.push (.cells [S s, .bool false, .bool leaf, .nS, .nS, .nS] 285 1 false)).next=H1.next+1:=rfl
  generalize a9:H1.push (.cells [S s, .bool false, .bool leaf, .nS, .nS, .nS] 285 1 false)=H2 at Y g2 n2;have c3:RdI H1.next H2 H2 s false leaf .nS .nS .nS [] [] []:=⟨zRo Y.ok,⟨_,g2⟩,zRw _ _ _,zRw _ _ _,zRw _ _ _,fun B Z=>(zRu.1 Z).elim,fun B Z=>(zRu.1 Z).elim,fun B Z=>(zRu.1 Z).elim,by omega,by simp,by simp,by simp⟩
  obtain⟨j,u,t⟩:=zA8 (dy (m+1)) n c3 2;obtain⟨d4,N⟩:=t.get;have b3:Prs H1 j:=Y.fresh t.prs (fun B Z=>by omega);by_cases h2:s.length<2
  .have O:wL s false 2=([],s,true):=by simp[wL,h2]
   rw[O]at u t N;simp only at u t N;obtain⟨C,e4,l4,J⟩:=b7 j b3;have hd:Nd.decN ltS leaf s=none:=by simp only[Nd.decN];rw[if_neg (by omega)]
   refine⟨.agg [.bool false, .nS, .nS, .nS],C, ?_,J,(fun nd h=>by rw[hd]at h;cases h),_,rfl,rfl,rfl⟩;rw[hd];simp only[f123,eZ,kX hk,a2,a0,a7,a8,kX x.ok,a9,u,jM N,c1,e4,l4,Option.isSome_none]
  .have O:wL s false 2=(s.take 2,s.drop 2,false):=by simp[wL,h2]
   rw[O]at u t N;simp only at u t N;obtain⟨a,b,b4,hK⟩:=head2 (s:=s) (by omega);have ha:a.toNat<256:=a.toNat_lt;have hb:b.toNat<256:=b.toNat_lt;have x0:=zAB (s.take 2) .i64 (z:=((0:Nat):Int)) (by omega) (by simp;omega);have x1:=zAB (s.take 2) .i64 (z:=((1:Nat):Int)) (by omega) (by simp;omega);simp only[b4]at x0 x1
   replace x0:XG (S (s.take 2)) (.int .i64 (0:Nat))=some (.int .u8 a.toNat):=by rw[b4];exact x0
   replace x1:XG (S (s.take 2)) (.int .i64 (1:Nat))=some (.int .u8 b.toNat):=by rw[b4];exact x1
   have wa:IntKind.wrap .i64 (a.toNat:Int)=(a.toNat:Int):=wrap_i64 (by omega) (by omega);have wb:IntKind.wrap .i64 (b.toNat:Int)=(b.toNat:Int):=wrap_i64 (by omega) (by omega);have b0:=zFh .i64 .u64 (a.toNat:Int) (s:=8) (by decide);rw[show IntKind.wrap .i64 ((a.toNat:Int)*2 ^ 8)=((a.toNat*256:Nat):Int)from by rw[wrap_i64 (by omega) (by omega)];omega]at b0;have a3:=zDM ha hb;rw[<-hK]at a3;have c4:bee (s.take 2)<65536:=by omega
   generalize a4:bee (s.take 2)=K at a3 c4 hK;have b5: ∀(f g:FuncId) (xs ys:List AV),dW 1 1 2 [.nilFunc] [(0, .func f xs []),(1, .func g ys [])]=some (.cells [.func f xs [], .func g ys []] 1 1 false,fun A=> .slice A 0 2 4):=fun _ _ _ _=>rfl
   have J:Prs j (j.push (.cells [.func 173 [.ptr H1.next 0] [], .func 174 [.ptr H1.next 0] []] 1 1 false)):=(zRo t.prs.ok).push _
   have g4:(j.push (.cells [.func 173 [.ptr H1.next 0] [], .func 174 [.ptr H1.next 0] []] 1 1 false)).h.get j.next=some (.cells [.func 173 [.ptr H1.next 0] [], .func 174 [.ptr H1.next 0] []] 1 1 false):=zRg _ _
   have n4:(j.push (.cells [.func 173 [.ptr H1.next 0] [], .func 174 [.ptr H1.next 0] []] 1 1 false)).next=j.next+1:=rfl
   generalize b6:j.push (.cells [.func 173 [.ptr H1.next 0] [], .func 174 [.ptr H1.next 0] []] 1 1 false)=C at J g4 n4
   have n3:=t.prs.next
   have d3:(s.drop 2).length=s.length - 2:=by simp
   have a5: ∀(Hp q:AH) (rest:Str) (b1:Bool) (kv vv pv:AV) (ks vs:List Str) (ps:List Ptr),RdI H1.next Hp q rest b1 leaf kv vv pv ks vs ps->Prs H1 Hp->(b1=true\/small ⟨leaf,ks,vs,ps⟩)->
     (Nd.decN ltS leaf s=if b1=false/\rest=[]/\Nd.may ltS ⟨leaf,ks,vs,ps⟩=true then some ⟨leaf,ks,vs,ps⟩else none)->
     f123 (dy (m+1)) n [.bool leaf,S s] H=dG (cT (dy (m+1)) n [.ptr H.next 0, .ptr H1.next 0] q)->
     ∃v H',f123 (dy (m+1)) n [.bool leaf,S s] H=some (.tuple [v, .int .i64 (if(Nd.decN ltS leaf s).isSome then 0 else 4:Nat)],H')/\Prs H H'/\(∀nd,Nd.decN ltS leaf s=some nd->YF H H' v nd)/\ ∃l,v= .agg l/\l.length=4/\jP l=true:=by
    intro Hp q rest b1 kv vv pv ks vs ps hI hp c5 b9 T;obtain⟨v,H',e,p,c6,l⟩:=zQQ (dy (m+1)) n hn (A4:=H.next) hI ⟨_,_,rfl,hp.get x.ok g1⟩ (by omega) hp.ok (x.trans hp) (by omega) (zM _) c5
    refine⟨v,H', ?_,p, ?_,l⟩
    .rw[T,e,b9];split<;>rfl
    .intro nd a6;rw[b9]at a6;split at a6
     .rename_i hc;simp only[zB]at a6;subst a6;exact c6 hc
     .cases a6
   cases leaf with
   | true=>
    have p5:Prs C (C.push (.cells [.func 173 [.ptr H1.next 0] [], .func 175 [.ptr H1.next 0] []] 1 1 false)):=(zRo J.ok).push _
    have g5:(C.push (.cells [.func 173 [.ptr H1.next 0] [], .func 175 [.ptr H1.next 0] []] 1 1 false)).h.get C.next=some (.cells [.func 173 [.ptr H1.next 0] [], .func 175 [.ptr H1.next 0] []] 1 1 false):=zRg _ _
    generalize c7:C.push (.cells [.func 173 [.ptr H1.next 0] [], .func 175 [.ptr H1.next 0] []] 1 1 false)=H5 at p5 g5
    have a1:=t.base (J.trans p5);obtain⟨q,e9,kv,vv,ks,vs,rest,o⟩:=zQ6 m n (by omega) (A4:=H.next) g5 p5.ok (by omega) K (by omega) a1 n (by omega)
    have T:f123 (dy (m+1)) n [.bool true,S s] H=dG (cT (dy (m+1)) n [.ptr H.next 0, .ptr H1.next 0] q):=by
     simp(disch:=omega) only[f123,eZ,kX hk,a2,a0,a7,a8,kX x.ok,a9,u,jM N,b5,kX t.prs.ok,b6,kX J.ok,c7,zEV,x0,x1,wa,wb,b0,a3,e9]
    have c0:Prs H1 H5:=(b3.trans J).trans p5
    cases hd:KI K (s.drop 2)with
    | none=>
     rw[hd]at o;exact a5 H5 q _ _ _ _ _ _ _ _ o c0 (.inl rfl) (by simp only[Nd.decN,Nd.decB,a4,hd];simp) T
    | some y=>
     obtain⟨y1,y2,y3⟩:=y;rw[hd]at o;obtain⟨rfl,rfl,rfl,o⟩:=o;obtain⟨q1,q2,q3⟩:=Nd.decL_eq hd;have hq:=congrArg List.length q1;rw[zV,Nd.encL_length _ _ (by omega)]at hq;exact a5 H5 q _ _ _ _ _ _ _ _ o c0 (.inr ⟨by simp,by simp;omega,by simp;omega⟩) (by simp only[Nd.decN,Nd.decB,a4,hd];rw[if_pos ⟨b8,by omega⟩];simp) T
   | false=>
    have c8:=t.base J;obtain⟨H5,pv,e5,a1⟩:=zAx (dy (m+1)) n (by omega) c8 (by simp);have b2:Prs H1 C:=b3.trans J
    cases O:dJ (s.drop 2)with
    | none=>
     have c9:=zBY [] O;rw[c9]at a1;have d0:(zDq (s.drop 2) false []).2.2.length<1000:=by
      simp only[zDq];split
      .simp
      .split<;>simp
     obtain⟨q,e9,kv,d1,ks,ps,rest,o⟩:=zO6 m n (by omega) (A4:=H.next) g4 J.ok (by omega) d0 K a1 n (by omega)
     have T:f123 (dy (m+1)) n [.bool false,S s] H=dG (cT (dy (m+1)) n [.ptr H.next 0, .ptr H1.next 0] q):=by
      simp(disch:=omega) only[f123,eZ,kX hk,a2,a0,a7,a8,kX x.ok,a9,u,jM N,b5,kX t.prs.ok,b6,e5,zEV,x0,x1,wa,wb,b0,a3,e9]
     exact a5 C q _ _ _ _ _ _ _ _ o b2 (.inl rfl) (by simp only[Nd.decN,Nd.decB,a4,O];simp) T
    | some y=>
     obtain⟨p0,r0⟩:=y;rw[zBX [] O]at a1;obtain⟨d2,_,_⟩:=Nd.takeP_eq O;have c2:=congrArg List.length d2;rw[zV,Nd.encP_length]at c2;obtain⟨q,e9,kv,d1,ks,ps,rest,o⟩:=zQ7 m n (by omega) (A4:=H.next) g4 J.ok (by omega) K (by omega) a1 n (by omega)
     have T:f123 (dy (m+1)) n [.bool false,S s] H=dG (cT (dy (m+1)) n [.ptr H.next 0, .ptr H1.next 0] q):=by
      simp(disch:=omega) only[f123,eZ,kX hk,a2,a0,a7,a8,kX x.ok,a9,u,jM N,b5,kX t.prs.ok,b6,e5,zEV,x0,x1,wa,wb,b0,a3,e9]
     cases hd:KJ K r0 with
     | none=>
      rw[hd]at o;exact a5 C q _ _ _ _ _ _ _ _ o b2 (.inl rfl) (by simp only[Nd.decN,Nd.decB,a4,O,hd];simp) T
     | some y=>
      obtain⟨y1,y2,y3⟩:=y;rw[hd]at o;obtain⟨rfl,rfl,rfl,o⟩:=o;obtain⟨q1,q2,q3,_⟩:=Nd.decI_eq hd;have hq:=congrArg List.length q1;rw[zV,Nd.encI_length _ _ (by omega)]at hq;exact a5 C q _ _ _ _ _ _ _ _ o b2 (.inr ⟨by simp;omega,by simp;omega,by simp[Nd.sumL]⟩) (by simp only[Nd.decN,Nd.decB,a4,O,hd];rw[if_pos ⟨b8,by omega⟩];simp) T
 .have a0:((500:Nat):Int)< (s.length:Int):=by omega
  obtain⟨j,u,l3,p3⟩:=b7 H1 (zRo x.ok);have hd:Nd.decN ltS leaf s=none:=by simp only[Nd.decN];rw[if_neg (by omega)]
  refine⟨.agg [.bool false, .nS, .nS, .nS],j, ?_,p3,(fun nd h=>by rw[hd]at h;cases h),_,rfl,rfl,rfl⟩;rw[hd];simp only[f123,eZ,kX hk,a2,a0,c1,u,l3,Option.isSome_none]
theorem YE (x:Bool)(a b c:AV)(f:isCell a=true)(hb:isCell b=true)(h:isCell c=true):jP [.bool x,a,b,c]=true:=by
 simp only[jP,f,hb,h];rfl
def kZ.zero (k e:Nat)(A:H.h.get h=some (.cells [] w k l))(f:H.ok):kZ k e H (.slice h 0 0 0) 0 []:= .inr ⟨by simp,h,w,l,rfl,f.lt A,A,rfl⟩
theorem zCK (b:Bool):aveq (.bool b) (.bool b)=true:=by cases b<;>rfl
theorem vR (l:List Str):jP (l.map S)=true:=by
 rw[wJ];intro x a;obtain⟨s,_,rfl⟩:=qZ.1 a;rfl
theorem bF (l:List Ptr):jP (l.flatMap jS)=true:=by
 rw[wJ];intro x a;obtain⟨p,_,hp⟩:=List.mem_flatMap.1 a;simp only[jS,zK,List.not_mem_nil,or_false]at hp;rcases hp with rfl | rfl | rfl<;>rfl
theorem Rw.blk {k n:Nat}{H:AH}{v:AV}{l:List AV}(h:Rw k H v n l){B:Nat}(a:Blk v B):B<H.next:=by
 obtain⟨_,⟨rfl,_⟩ | ⟨rfl,_⟩ | ⟨A,off,cc,c,e,sz,g,rfl,_,f,_⟩⟩:=h
 .exact(zRu.1 a).elim
 .obtain⟨_,_,_,h⟩:=a;cases h
 .rw[zRl.1 a];exact f
def zRy:=@Rw.blk
def jZ (H:AH)(v:AV)(nd:Nd.Node):Prop:= ∃ks vs ps,v= .agg [.bool nd.leaf,ks,vs,ps]/\kZ 1 9 H ks nd.keys.length (nd.keys.map S)/\kZ 1 9 H vs nd.vals.length (nd.vals.map S)/\kZ 3 42 H ps nd.kids.length (nd.kids.flatMap jS)
theorem jZ.node {nd:Nd.Node}(h:jZ H k nd):dD H k nd:=by
 obtain⟨ks,vs,ps,e,a,f,j⟩:=h;exact⟨ks,vs,ps,e,a.row,f.row,j.row⟩
theorem jZ.prs {nd:Nd.Node}(h:jZ H k nd)(s:Prs H v):jZ v k nd:=by
 obtain⟨ks,vs,ps,e,a,f,j⟩:=h;exact⟨ks,vs,ps,e,a.mono s (fun _ _ x=>x),f.mono s (fun _ _ x=>x),j.mono s (fun _ _ x=>x)⟩
theorem Own.st (e:Own h p H k t A)(m:H.ok)(j:0<h)(hi:C<t){x:AV}(a:(jU x).length=h)(o:jP (jU x)=true):
  ∃n H' l',(∀κ (z:Int),z=(C:Int)->dV h k (.int κ z)=some n)/\stN h n x H=some (jQ,H')/\Own h p H' k t l'/\Stp (Blk k) H H':=by
 obtain⟨y,⟨_,rfl⟩ | ⟨l,rfl,f,q⟩⟩:=e
 .omega
 .have u:C*h+h<=t*h:=by rw[<-jI];exact yN _ hi
  have hb:Nat.blt C t=true:=by rw[qE];exact hi
  refine⟨.ptr l (0+C*h),_,_,fun κ z v=> ?_,WJ q j a o (by omega),⟨?_, .inr ⟨l,rfl,f,by rw[zRk,if_pos rfl]⟩⟩,(zRo m).put f _ (.inr (zRl.2 rfl))⟩
  .subst v;simp only[dV,kL κ (show(0:Int)<=(C:Int)by omega),yC,hb,zP,kF]
  .simp only[zV,qC,qL,a];omega
theorem zR2 (x:Nat):Nat.ble 0 x=true:=by rw[qW];omega
theorem zAf (e:kZ h p H k t A)(u:0<h)(hi:C<=t)(κ y:IntKind):
  ∃r,vN h k none (some (.int κ (C:Nat))) (some (.int y (C:Nat))) H=some r/\Rw h H r C (A.take (C*h))/\(0<C->r≠ .nS/\r≠ .eS):=by
 have f:=kL κ (z:=(C:Int)) (by omega);have j:=kL y (z:=(C:Int)) (by omega);simp only[yC]at f j;have hb:Nat.blt 0 h=true:=by rw[qE];exact u
 have i:Nat.beq C 0=decide (C=0):=by rw[yI];simp
 have x:C*h<=t*h:=yN _ hi;have b1:Nat.ble C t=true:=by rw[qW];exact hi
 have b2:Nat.ble C C=true:=by rw[qW];exact zM _
 have N:Nat.ble 0 C=true:=by rw[qW];omega
 rcases e with⟨q,⟨rfl,rfl⟩ | ⟨l,rfl,n,a⟩⟩ | ⟨q,l,J,g,rfl,n,a,K⟩
 .obtain rfl:C=0:=by omega
  exact⟨.nS,by simp only[vN,kY,f,j];simp,⟨by simp, .inl ⟨rfl,rfl⟩⟩,fun e=>absurd e (by omega)⟩
 .have m:kQ A true h 0 1 h=t:=by
   simp only[kQ,show((1 % 2).beq 0)=false from rfl,qH,yF,show Nat.beq 0 (1 / 2*h)=true from by simp,qP,zP,jY,q,jD];exact Nat.mul_div_cancel _ u
  by_cases o:C=0
  .subst o;refine⟨.slice l 0 0 0, ?_,⟨by simp, .inr (.inr ⟨l,0,0,A,p,h,true,rfl,a,n,by simp,by simp⟩)⟩,fun e=>absurd e (by omega)⟩;simp only[vN,kY,f,j,a,hb,zP];simp[JC,m,kF,zR2]
  .have v:Nat.beq C 0=false:=by rw[i];simpa using o
   refine⟨.slice l 0 C (2*C), ?_,⟨by rw[qC,q,Nat.min_eq_left x], .inr (.inr ⟨l,0,2*C,A,p,h,true,rfl,a,n,by omega,by simp⟩)⟩,fun _=>⟨by simp,by simp⟩⟩;simp only[vN,kY,f,j,a,hb,zP];simp[JC,m,b1,b2,v,kF,zR2]
 .have m:kQ A g h 0 (2*t) h=t:=by
   simp only[kQ,show((2*t) % 2).beq 0=true by rw[jC];rfl,zP,yP t (show 0<2 by omega)]
  by_cases o:C=0
  .subst o;refine⟨.slice l 0 0 0, ?_,⟨by simp, .inr (.inr ⟨l,0,0,A,J,h,g,rfl,a,n,by simp,by simp⟩)⟩,fun e=>absurd e (by omega)⟩;simp only[vN,kY,f,j,a,hb,zP];simp[JC,m,kF,zR2]
  .have v:Nat.beq C 0=false:=by rw[i];simpa using o
   refine⟨.slice l 0 C (2*C), ?_,⟨by rw[qC,q,Nat.min_eq_left x], .inr (.inr ⟨l,0,2*C,A,J,h,g,rfl,a,n,by omega,by simp⟩)⟩,fun _=>⟨by simp,by simp⟩⟩;simp only[vN,kY,f,j,a,hb,zP];simp[JC,m,b1,b2,v,kF,zR2]
theorem YN (e:kZ h p H k t A)(q:0<h)(hi:C<t)(κ:IntKind):
  ∃r,vN h k (some (.int κ (C:Nat))) none none H=some r/\Rw h H r (t - C) (A.drop (C*h))/\r≠ .nS/\r≠ .eS:=by
 have o:=kL κ (z:=(C:Int)) (by omega);simp only[yC]at o;have hb:Nat.blt 0 h=true:=by rw[qE];exact q
 have K:C*h<=t*h:=yN _ (by omega);have m:(t - C)*h=t*h - C*h:=Nat.sub_mul _ _ _;have b1:Nat.ble t t=true:=by rw[qW];exact zM _
 have b2:Nat.ble C t=true:=by rw[qW];omega
 have i:Nat.blt C t=true:=by rw[qE];exact hi
 have u:Nat.beq t C=false:=by rw[qY];intro e;have:=Nat.eq_of_beq_eq_true e;omega
 rcases e with⟨a,⟨rfl,rfl⟩ | ⟨l,rfl,n,f⟩⟩ | ⟨a,l,J,g,rfl,n,f,N⟩
 .omega
 .have j:kQ A true h 0 1 h=t:=by
   simp only[kQ,show((1 % 2).beq 0)=false from rfl,qH,yF,show Nat.beq 0 (1 / 2*h)=true from by simp,qP,zP,jY,a,jD];exact Nat.mul_div_cancel _ q
  by_cases v:C=0
  .subst v;refine⟨.slice l 0 t 1, ?_,⟨by simp[a], .inr (.inr ⟨l,0,1,A,p,h,true,by simp,f,n,by simp[a],by rw[jD,Nat.zero_mul,yL,zY (by omega)]⟩)⟩,by simp,by simp⟩;simp only[vN,kY,o,f,hb,zP];simp[JC,j,b1,kF,zR2,show Nat.beq 1 0=false from rfl]
  .have x:Nat.beq C 0=false:=by rw[qY];intro e;exact v (Nat.eq_of_beq_eq_true e)
   refine⟨.slice l (0+C*h) (t - C) (1+2*C), ?_,⟨by simp[a,m], .inr (.inr ⟨l,0+C*h,1+2*C,A,p,h,true,rfl,f,n,by omega,by rw[yZ,zY (by simp[a,m])]⟩)⟩,by simp,by simp⟩;simp only[vN,kY,o,f,hb,zP];simp[JC,j,b1,b2,i,x,kF,show Nat.beq 1 0=false from rfl]
 .have j:kQ A g h 0 (2*t) h=t:=by
   simp only[kQ,show((2*t) % 2).beq 0=true by rw[jC];rfl,zP,yP t (show 0<2 by omega)]
  have y:Nat.beq (2*t / 2) C=false:=by rw[yP t (show 0<2 by omega)];exact u
  refine⟨.slice l (0+C*h) (t - C) (2*(2*t / 2 - C)), ?_,⟨by simp[a,m], .inr (.inr ⟨l,0+C*h,2*(2*t / 2 - C),A,J,h,g,rfl,f,n,by omega,by rw[yZ,zY (by simp[a,m])]⟩)⟩,by simp,by simp⟩;simp only[vN,kY,o,f,hb,zP];simp[JC,j,b1,b2,y,kF,u]
theorem Y9(m:H.ok){l:List Str}(h:Strs H k l)(u:k≠ .nS)(x:k≠ .eS)(hl:l.length<=1000000000):
  ∃a H',f108 D n [k] H=some (a,H')/\Prs H H'/\kZ 1 9 H' a l.length (l.map S)/\ ∀B,Blk a B->H.next<=B:=by
 have f:Prs H (H.push (.cells [] 9 1 false)):=(zRo m).push _;have o:(H.push (.cells [] 9 1 false)).h.get H.next=some (.cells [] 9 1 false):=zRg _ _
 have y:(H.push (.cells [] 9 1 false)).next=H.next+1:=rfl
 generalize p:H.push (.cells [] 9 1 false)=H1 at f o y;obtain⟨a,z,C,J,K,N⟩:=(kZ.zero 1 9 o f.ok).app (bytes:=16) f.ok (by decide) (Rw.srcOf (h.prs f)) (by simp) (vR _) (by omega) (by decide);have q:dW 9 1 0 [.str 0 0] []=some (.cells [] 9 1 false,fun A=> .slice A 0 0 0):=rfl;have t:dS .eql (eqS k .nS)=some (.bool false):=by
  obtain⟨_,⟨rfl,_⟩ | ⟨rfl,_⟩ | ⟨A,off,cc,c,e,sz,g,rfl,_⟩⟩:=h
  .exact absurd rfl u
  .exact absurd rfl x
  .rfl
 refine⟨a,z, ?_,f.fresh K (fun B j=>by rw[zRl.1 j];exact zM _),by simpa using J,fun B j=> ?_⟩
 .simp only[f108,eZ,t,q,kX m,p,C]
 .rcases N B j with h | h
  .rw[zRl.1 h];exact zM _
  .omega
theorem V2(o:H.ok){l:List Ptr}(h:gY H k l)(x:k≠ .nS)(y:k≠ .eS)(hl:l.length<=1000000000):
  ∃f H',f81 D n [k] H=some (f,H')/\Prs H H'/\kZ 3 42 H' f l.length (l.flatMap jS)/\ ∀B,Blk f B->H.next<=B:=by
 have j:Prs H (H.push (.cells [] 42 3 false)):=(zRo o).push _;have p:(H.push (.cells [] 42 3 false)).h.get H.next=some (.cells [] 42 3 false):=zRg _ _
 have z:(H.push (.cells [] 42 3 false)).next=H.next+1:=rfl
 generalize q:H.push (.cells [] 42 3 false)=H1 at j p z;obtain⟨f,C,J,K,N,O⟩:=(kZ.zero 3 42 p j.ok).app (bytes:=24) j.ok (by decide) (Rw.srcOf (h.prs j)) h.1 (bF _) (by omega) (by decide);have t: ∀a b c:AV,dW 42 3 0 [a,b,c] []=some (.cells [] 42 3 false,fun A=> .slice A 0 0 0):=fun _ _ _=>rfl
 have u:dS .eql (eqS k .nS)=some (.bool false):=by
  obtain⟨_,⟨rfl,_⟩ | ⟨rfl,_⟩ | ⟨A,off,cc,c,e,sz,g,rfl,_⟩⟩:=h
  .exact absurd rfl x
  .exact absurd rfl y
  .rfl
 refine⟨f,C, ?_,j.fresh N (fun B m=>by rw[zRl.1 m];exact zM _),by simpa using K,fun B m=> ?_⟩
 .simp only[f81,eZ,u,t,kX o,q,J]
 .rcases O B m with h | h
  .rw[zRl.1 h];exact zM _
  .omega
open Go.Nd (cutOk)
def gP (nd:Nd.Node):Prop:=2<=nd.keys.length/\(nd.leaf=true\/3<=nd.keys.length)
def hbnd (nd:Nd.Node)(k:Nat):Prop:=
 (k=1\/Nd.size (Nd.cutA nd k)<=(Nd.size nd - 2) / 2+2)/\(k+(if nd.leaf then 1 else 2)=nd.keys.length\/(Nd.size nd - 2) / 2+2<Nd.size (Nd.cutA nd (k+1)))
theorem WE (l:List Str){i:Nat}(h:i<l.length):sumL (l.take (i+1))=sumL (l.take i)+(1+(l[i]).length):=by
 rw[qM h,Nd.sumL_append,Nd.sumL_cons];rfl
theorem size_leaf {nd:Nd.Node}(hl:nd.leaf=true)(a:nd.vals.length=nd.keys.length){i:Nat}(h:i<nd.keys.length):Nd.size (Nd.cutA nd (i+1))=Nd.size (Nd.cutA nd i)+(1+(nd.keys[i]).length)+(1+(nd.vals[i]'(by omega)).length):=by
 simp only[Nd.cutA,hl,if_true,Nd.size,WE nd.keys h,WE nd.vals (i:=i) (by omega)];omega
theorem size_inner {nd:Nd.Node}(hl:nd.leaf=false)(a:nd.kids.length=nd.keys.length+1)(i:h<nd.keys.length):Nd.size (Nd.cutA nd (h+1))=Nd.size (Nd.cutA nd h)+(1+(nd.keys[h]).length)+16:=by
 simp only[Nd.cutA,hl,zL,qD,Nd.size,WE nd.keys i,qC];omega
theorem zAh (nd:Nd.Node):2<=Nd.size nd:=by simp only[Nd.size];omega
theorem zEG{nd:Nd.Node}(h1:Strs H k nd.keys)(h2:Strs H q nd.vals)(m:nd.leaf=true->nd.vals.length=nd.keys.length)(hp:nd.leaf=false->nd.kids.length=nd.keys.length+1)(t:H.h.get h=some (.cells [.bool nd.leaf,k,q,e] w 1 false))
  (a:Nat) (L:Nat) (hL:L<=nd.keys.length) (hb:nd.keys.length<=1000000000) (u:Nd.size nd<=1000000000) (z:Nat) (hn:L<z):
  Fin (kJ z (QX D n) [.ptr h 0, .int .i64 (a:Nat), .int .i64 (L:Nat), .int .i64 (Nd.size (Nd.cutA nd 0) - 2:Nat), .int .i64 (L:Nat), .int .i64 (0:Nat)] H) fun x H'=>H'=H/\((∃j:Nat,0<j/\j<L/\x= .ret (.int .i64 (j:Nat))/\(j=1\/Nd.size (Nd.cutA nd j)<=a+2)/\a+2<Nd.size (Nd.cutA nd (j+1)))\/(x= .exit 0 [.int .i64 (L:Nat)]/\(L<=1\/Nd.size (Nd.cutA nd L)<=a+2))):=by
 refine Fin.loop (fun ks J H'=>H'=H/\ ∃(i:Nat),J=[.ptr h 0, .int .i64 (a:Nat), .int .i64 (L:Nat), .int .i64 (Nd.size (Nd.cutA nd i) - 2:Nat), .int .i64 (L:Nat), .int .i64 (i:Nat)]/\i<=L/\ks=L - i/\(i<=1\/Nd.size (Nd.cutA nd i)<=a+2)) ?_ z L _ H ⟨rfl,0,rfl,by omega,by omega, .inl (by omega)⟩ hn
 rintro ks J H' ⟨rfl,i,rfl,hi,rfl,S⟩
 by_cases T:i<L
 .have f:i<nd.keys.length:=by omega
  obtain⟨p,K,N⟩:=h1.at f;have o:(i:Int)< (L:Int):=by omega
  have z2:=zAh (Nd.cutA nd i);have a1:=zAh (Nd.cutA nd (i+1));have C:Fin (cR D n [.ptr h 0, .int .i64 (a:Nat), .int .i64 (L:Nat), .int .i64 ((Nd.size (Nd.cutA nd (i+1)) - 2:Nat):Int), .int .i64 (i:Nat), .int .i64 (L:Nat), .int .i64 (i:Nat)] H')
    (orN (fun Y y=> ∃k',k'<L - i/\y=H'/\ ∃(i:Nat),Y=[.ptr h 0, .int .i64 (a:Nat), .int .i64 (L:Nat), .int .i64 (Nd.size (Nd.cutA nd i) - 2:Nat), .int .i64 (L:Nat), .int .i64 (i:Nat)]/\i<=L/\k'=L - i/\(i<=1\/Nd.size (Nd.cutA nd i)<=a+2))
     (fun x y=>y=H'/\((∃j:Nat,0<j/\j<L/\x= .ret (.int .i64 (j:Nat))/\(j=1\/Nd.size (Nd.cutA nd j)<=a+2)/\a+2<Nd.size (Nd.cutA nd (j+1)))\/(x= .exit 0 [.int .i64 (L:Nat)]/\(L<=1\/Nd.size (Nd.cutA nd L)<=a+2))))):=by
   by_cases O:0<i/\a<Nd.size (Nd.cutA nd (i+1)) - 2
   .have c1:((0:Nat):Int)< (i:Int):=by omega
    have c2:(a:Int)< ((Nd.size (Nd.cutA nd (i+1)) - 2:Nat):Int):=by omega
    have:cR D n [.ptr h 0, .int .i64 (a:Nat), .int .i64 (L:Nat), .int .i64 ((Nd.size (Nd.cutA nd (i+1)) - 2:Nat):Int), .int .i64 (i:Nat), .int .i64 (L:Nat), .int .i64 (i:Nat)] H'=some (.ret (.int .i64 (i:Nat)),H'):=by
     simp(disch:=omega) only[cR,eZ,c1,c2]
    rw[this];exact⟨_,_,rfl,rfl, .inl ⟨i,O.1,T,rfl,by omega,by omega⟩⟩
   .have Z:(decide (((0:Nat):Int)< (i:Int))&&decide ((a:Int)< ((Nd.size (Nd.cutA nd (i+1)) - 2:Nat):Int)))=false:=by
     rw[qY];intro hh;simp only[zE,zR]at hh;exact O ⟨by omega,by omega⟩
    have:cR D n [.ptr h 0, .int .i64 (a:Nat), .int .i64 (L:Nat), .int .i64 ((Nd.size (Nd.cutA nd (i+1)) - 2:Nat):Int), .int .i64 (i:Nat), .int .i64 (L:Nat), .int .i64 (i:Nat)] H'=some (.norm [.ptr h 0, .int .i64 (a:Nat), .int .i64 (L:Nat), .int .i64 ((Nd.size (Nd.cutA nd (i+1)) - 2:Nat):Int), .int .i64 (L:Nat), .int .i64 (i+1:Nat)],H'):=by
     simp(disch:=omega) only[cR,eZ,Z,yH]
    rw[this];exact⟨_,_,rfl,L - (i+1),by omega,rfl,i+1,rfl,by omega,rfl,by omega⟩
  have a2:Nd.size (Nd.cutA nd i)<=1000000002:=by
   have t1:=Nd.sumL_take_le nd.keys i;have t2:=Nd.sumL_take_le nd.vals i;have:Nd.size nd=2+16*nd.kids.length+sumL nd.keys+sumL nd.vals:=rfl;have z0:sumL []=0:=rfl;simp only[Nd.cutA];split<;>simp only[Nd.size,yG,qC,z0]<;>omega
  have a3:(nd.keys[i]).length<=1000000000:=by
   have:=Nd.sumL_drop_le nd.keys i;rw[qI f,Nd.sumL_cons]at this;have:Nd.size nd=2+16*nd.kids.length+sumL nd.keys+sumL nd.vals:=rfl;omega
  cases hl:nd.leaf with
  | true=>
   rw[hl]at t;obtain⟨vs,q1,q2⟩:=h2.at (i:=i) (by rw[m hl];exact f);have hs:=size_leaf hl (m hl) f;have a4:(nd.vals[i]'(by rw[m hl];exact f)).length<=1000000000:=by
    have:=Nd.sumL_drop_le nd.vals i;rw[qI (by rw[m hl];exact f),Nd.sumL_cons]at this;have:Nd.size nd=2+16*nd.kids.length+sumL nd.keys+sumL nd.vals:=rfl;omega
   have u:((Nd.size (Nd.cutA nd (i+1)) - 2:Nat):Int)=((Nd.size (Nd.cutA nd i) - 2:Nat):Int)+(((1:Nat):Int)+(((nd.keys[i]).length:Nat):Int))+(((1:Nat):Int)+(((nd.vals[i]'(by rw[m hl];exact f)).length:Nat):Int)):=by omega
   have:QX D n [.ptr h 0, .int .i64 (a:Nat), .int .i64 (L:Nat), .int .i64 (Nd.size (Nd.cutA nd i) - 2:Nat), .int .i64 (L:Nat), .int .i64 (i:Nat)] H'=jn (some (.norm [.ptr h 0, .int .i64 (a:Nat), .int .i64 (L:Nat), .int .i64 ((Nd.size (Nd.cutA nd (i+1)) - 2:Nat):Int), .int .i64 (i:Nat), .int .i64 (L:Nat), .int .i64 (i:Nat)],H')) (cR D n):=by
    rw[u];simp(disch:=omega) only[QX,eZ,o,jM t,K,N,q1,q2]
   rw[this,zAA];exact C
  | false=>
   rw[hl]at t;have hs:=size_inner hl (hp hl) f;have u:((Nd.size (Nd.cutA nd (i+1)) - 2:Nat):Int)=((Nd.size (Nd.cutA nd i) - 2:Nat):Int)+(((1:Nat):Int)+(((nd.keys[i]).length:Nat):Int))+((16:Nat):Int):=by omega
   have:QX D n [.ptr h 0, .int .i64 (a:Nat), .int .i64 (L:Nat), .int .i64 (Nd.size (Nd.cutA nd i) - 2:Nat), .int .i64 (L:Nat), .int .i64 (i:Nat)] H'=jn (some (.norm [.ptr h 0, .int .i64 (a:Nat), .int .i64 (L:Nat), .int .i64 ((Nd.size (Nd.cutA nd (i+1)) - 2:Nat):Int), .int .i64 (i:Nat), .int .i64 (L:Nat), .int .i64 (i:Nat)],H')) (cR D n):=by
    rw[u];simp(disch:=omega) only[QX,eZ,o,jM t,K,N]
   rw[this,zAA];exact C
 .have o: ¬(i:Int)< (L:Int):=by omega
  have a0:i=L:=by omega
  subst a0;refine⟨.exit 0 [.int .i64 (i:Nat)],H', ?_,rfl, .inr ⟨rfl,S⟩⟩;simp only[QX,eZ,o]
theorem zIh(hn:200000000<=n)(q:H.ok){nd:Nd.Node}(h:dD H k nd)(T:small nd)(J:Nd.shaped ltS nd=true)(hc:gP nd):
  ∃(v:Nat) (H':AH),f227 D n [k] H=some (.int .i64 (v:Nat),H')/\Prs H H'/\cutOk nd v/\hbnd nd v:=by
 have h0:=h;obtain⟨ks,vs,ps,rfl,o,Y,h3⟩:=h;have a1:=Nd.sumL_ge nd.keys;obtain⟨s1,s2,s3⟩:=id T;obtain⟨c1,c2⟩:=hc;have Z:nd.leaf=true->nd.vals.length=nd.keys.length:=by
  intro hl;simp only[Nd.shaped,hl,if_true,zE,zR]at J;exact J.2.1.1
 have hp:nd.leaf=false->nd.kids.length=nd.keys.length+1:=by
  intro hl;simp only[Nd.shaped,hl,zL,qD,zE,zR]at J;exact J.2.1.2
 have t:Prs H (H.push (.cells [.bool nd.leaf,ks,vs,ps] 119 1 false)):=(zRo q).push _;have g1:(H.push (.cells [.bool nd.leaf,ks,vs,ps] 119 1 false)).h.get H.next=some (.cells [.bool nd.leaf,ks,vs,ps] 119 1 false):=zRg _ _
 generalize m:H.push (.cells [.bool nd.leaf,ks,vs,ps] 119 1 false)=H1 at t g1;obtain⟨z,H2,p,rfl,p2⟩:=WL D n t.ok (h0.prs t) T hn;have a:=p2.get t.ok g1;have P:Prs H H2:=t.trans p2;have u:=zLF .i64 (((Nd.size nd:Nat):Int) - ((2:Nat):Int)) ((2:Nat):Int) (by omega);have S:Nd.size nd<=1000000000:=by simp only[Nd.size];omega
 have a2:=zAh nd;have a0:IntKind.wrap .i64 ((((Nd.size nd:Nat):Int) - ((2:Nat):Int)).tdiv ((2:Nat):Int))=(((Nd.size nd - 2) / 2:Nat):Int):=by
  rw[show((Nd.size nd:Nat):Int) - ((2:Nat):Int)=((Nd.size nd - 2:Nat):Int)by omega,Int.tdiv_eq_ediv_of_nonneg (by omega)];rw[wrap_i64 (by omega) (by omega)];omega
 rw[a0]at u
 cases hl:nd.leaf with
 | true=>
  obtain⟨x,y,f,rfl,K⟩:=zEG D n (o.prs P) (Y.prs P) Z hp a ((Nd.size nd - 2) / 2) (nd.keys.length - 1) (by omega) (by omega) S n (by omega);have hL:(nd.keys.length:Int) - ((1:Nat):Int)=((nd.keys.length - 1:Nat):Int):=by omega
  rw[hl]at a m p;rw[show Nd.size (Nd.cutA nd 0) - 2=0 by simp[Nd.cutA,hl,Nd.size,sumL]]at f;rcases K with⟨j,N,j2,rfl,C,O⟩ | ⟨rfl,C⟩
  .refine⟨j,y, ?_,P,⟨N,by rw[hl];simp only[if_true];omega⟩,C, .inr O⟩;simp(disch:=omega) only[f227,eZ,kX q,m,ZH,qB,hl,p,u,jM a,o.lnSl,hL,zCh,f]
  .refine⟨nd.keys.length - 1,y, ?_,P,⟨by omega,by rw[hl];simp only[if_true];omega⟩,by omega, .inl (by rw[hl];simp only[if_true];omega)⟩;simp(disch:=omega) only[f227,eZ,kX q,m,ZH,qB,hl,p,u,jM a,o.lnSl,hL,zCh,f,zEO]
 | false=>
  have c3:3<=nd.keys.length:=by rcases c2 with h | h;rw[hl]at h;cases h;exact h
  obtain⟨x,y,f,rfl,K⟩:=zEG D n (o.prs P) (Y.prs P) Z hp a ((Nd.size nd - 2) / 2) (nd.keys.length - 2) (by omega) (by omega) S n (by omega);have hL:(nd.keys.length:Int) - ((1:Nat):Int) - ((1:Nat):Int)=((nd.keys.length - 2:Nat):Int):=by omega
  rw[hl]at a m p;rw[show Nd.size (Nd.cutA nd 0) - 2=16 by have a3:=hp hl;simp only[Nd.cutA,hl,zL,qD,Nd.size,List.take_zero,qC,yZ,show sumL []=0 from rfl];omega]at f;rcases K with⟨j,N,j2,rfl,C,O⟩ | ⟨rfl,C⟩
  .refine⟨j,y, ?_,P,⟨N,by rw[hl];simp only[zL,qD];omega⟩,C, .inr O⟩;simp(disch:=omega) only[f227,eZ,kX q,m,ZH,qB,hl,p,u,jM a,o.lnSl,hL,zCh,f]
  .refine⟨nd.keys.length - 2,y, ?_,P,⟨by omega,by rw[hl];simp only[zL,qD];omega⟩,by omega, .inl (by rw[hl];simp only[zL,qD];omega)⟩;simp(disch:=omega) only[f227,eZ,kX q,m,ZH,qB,hl,p,u,jM a,o.lnSl,hL,zCh,f,zEO]
open Go.Nd (cutA QD)
theorem bK (e:kZ h p H k t A)(u:kZ h p v k t E)(z:0<h)(lo hi x:Option AV):vN h k lo hi x v=vN h k lo hi x H:=by
 have H': ∀A:List AV,A.length=t*h->kQ A true h 0 1 h=t:=fun A m=>by
  simp only[kQ,show((1 % 2).beq 0)=false from rfl,qH,yF,show Nat.beq 0 (1 / 2*h)=true from by simp,qP,zP,jY,m,jD];exact Nat.mul_div_cancel _ z
 have y: ∀(A:List AV) (g:Bool),kQ A g h 0 (2*t) h=t:=fun A g=>by
  simp only[kQ,show((2*t) % 2).beq 0=true by rw[jC];rfl,zP,yP t (show 0<2 by omega)]
 rcases e with⟨m,⟨rfl,_⟩ | ⟨l,rfl,J,n⟩⟩ | ⟨m,l,O,g,rfl,J,n,N⟩
 .rfl
 .rcases u with⟨j,⟨a,_⟩ | ⟨q,a,o,f⟩⟩ | ⟨j,q,C,K,a,o,f,_⟩
  .cases a
  .simp only[AV.slice.injEq]at a;obtain⟨rfl,_⟩:=a;simp only[vN,n,f,H' A m,H' E j]
  .simp only[AV.slice.injEq]at a;omega
 .rcases u with⟨j,⟨a,_⟩ | ⟨q,a,o,f⟩⟩ | ⟨j,q,C,K,a,o,f,_⟩
  .cases a
  .simp only[AV.slice.injEq]at a;omega
  .simp only[AV.slice.injEq]at a;obtain⟨rfl,_⟩:=a;simp only[vN,n,f,y]
def xM (a:H.ok){o:Nat}{x:AV}(l:H.h.get h=some (.cells A w 1 false))(f:isCell x=true)(j:o<A.length):
  ∃H',stN 1 (.ptr h o) x H=some (jQ,H')/\H'.h.get h=some (.cells (A.set o x) w 1 false)/\Stp (fun B=>B=h) H H'/\H'.next=H.next:=
 ⟨_,cE l (by decide) f j,by rw[zRk,if_pos rfl],(zRo a).put (a.lt l) _ (.inr rfl),rfl⟩
theorem map_take (l:List Str)(k:Nat):(l.map S).take (k*1)=(l.take k).map S:=by simp
theorem map_drop (l:List Str)(k:Nat):(l.map S).drop (k*1)=(l.drop k).map S:=by simp
theorem XK: ∀(l:List Ptr) (k:Nat),(l.flatMap jS).take (k*3)=(l.take k).flatMap jS
 | _,0=>by simp
 | [],k+1=>by simp
 | p::l,k+1=>by
  have a:=XK l k;rw[show(k+1)*3=k*3+3 from by omega];show((jS p)++l.flatMap jS).take (k*3+3)=jS p++(l.take k).flatMap jS;rw[<-a];rfl
theorem XL: ∀(l:List Ptr) (k:Nat),(l.flatMap jS).drop (k*3)=(l.drop k).flatMap jS
 | _,0=>by simp
 | [],k+1=>by simp
 | p::l,k+1=>by
  have a:=XL l k;rw[show(k+1)*3=k*3+3 from by omega];show((jS p)++l.flatMap jS).drop (k*3+3)=(l.drop k).flatMap jS;rw[<-a];rfl
structure CutI (H0:AH)(A1 A2 A4:Nat)(H:AH)(l1 l2 l4:List AV):Prop where
 prs:Prs H0 H
 a1:H.h.get A1=some (.cells l1 119 1 false)
 a2:H.h.get A2=some (.cells l2 119 1 false)
 a4:H.h.get A4=some (.cells l4 119 1 false)
 o1:H0.next<=A1
 o2:A1<A2
 o4:A2<A4
theorem CutI.lt {H0 H:AH}{A1 A2 A4:Nat}{l1 a f:List AV}(h:CutI H0 A1 A2 A4 H l1 a f):A4<H.next:=h.prs.ok.lt h.a4
def CutI.step (H0:CutI H h p t v A E G)(s:Prs v I):CutI H h p t I A E G:=
 ⟨H0.prs.trans s,s.get H0.prs.ok H0.a1,s.get H0.prs.ok H0.a2,s.get H0.prs.ok H0.a4,H0.o1,H0.o2,H0.o4⟩
theorem CutI.st2 (H0:CutI H h p t v A E G){o:Nat}{x:AV}(j:isCell x=true)(m:o<E.length):
  ∃H',stN 1 (.ptr p o) x v=some (jQ,H')/\CutI H h p t H' A (E.set o x) G/\Stp (fun B=>B=p) v H':=by
 obtain⟨H',e,g,s,n⟩:=xM H0.prs.ok H0.a2 j m;have:=H0.o1;have:=H0.o2;have:=H0.o4;have G:=H0.lt;exact⟨H',e,⟨H0.prs.fresh s (fun B A1=>by omega),by rw[s.keep _ (by omega) (by omega)];exact H0.a1,g,by rw[s.keep _ G (by omega)];exact H0.a4,H0.o1,H0.o2,H0.o4⟩,s⟩
theorem CutI.st4 (H0:CutI H h p t v A E G){o:Nat}{x:AV}(j:isCell x=true)(m:o<G.length):
  ∃H',stN 1 (.ptr t o) x v=some (jQ,H')/\CutI H h p t H' A E (G.set o x)/\Stp (fun B=>B=t) v H':=by
 obtain⟨H',e,g,s,n⟩:=xM H0.prs.ok H0.a4 j m;have:=H0.o1;have:=H0.o2;have:=H0.o4;have G:=H0.lt;exact⟨H',e,⟨H0.prs.fresh s (fun B A1=>by omega),by rw[s.keep _ (by omega) (by omega)];exact H0.a1,by rw[s.keep _ (by omega) (by omega)];exact H0.a2,g,H0.o1,H0.o2,H0.o4⟩,s⟩
theorem CutI.all2 {l':List AV}(H0:CutI H h p t v A E G)(hl:l'.length=E.length)(j:jP l'=true):
  ∃H',stN E.length (.ptr p 0) (.agg l') v=some (jQ,H')/\CutI H h p t H' A l' G/\Stp (fun B=>B=p) v H':=by
 obtain⟨H',e,g,s,n⟩:=jV H0.prs.ok H0.a2 hl j;have:=H0.o1;have:=H0.o2;have:=H0.o4;have G:=H0.lt;exact⟨H',e,⟨H0.prs.fresh s (fun B m=>by omega),by rw[s.keep _ (by omega) (by omega)];exact H0.a1,g,by rw[s.keep _ G (by omega)];exact H0.a4,H0.o1,H0.o2,H0.o4⟩,s⟩
theorem CutI.all4 {l':List AV}(H0:CutI H h p t v A E G)(hl:l'.length=G.length)(j:jP l'=true):
  ∃H',stN G.length (.ptr t 0) (.agg l') v=some (jQ,H')/\CutI H h p t H' A E l'/\Stp (fun B=>B=t) v H':=by
 obtain⟨H',e,g,s,n⟩:=jV H0.prs.ok H0.a4 hl j;have:=H0.o1;have:=H0.o2;have:=H0.o4;have G:=H0.lt;exact⟨H',e,⟨H0.prs.fresh s (fun B m=>by omega),by rw[s.keep _ (by omega) (by omega)];exact H0.a1,by rw[s.keep _ (by omega) (by omega)];exact H0.a2,g,H0.o1,H0.o2,H0.o4⟩,s⟩
def xS (u:AV)(B:Nat):Prop:= ∃x ks vs ps,u= .agg [x,ks,vs,ps]/\(Blk ks B\/Blk vs B\/Blk ps B)
def wO {ps:AV} :xS (.agg [k,q,e,ps]) h↔(Blk q h\/Blk e h\/Blk ps h):=
 ⟨fun⟨_,_,_,_,x,ks⟩=>by simp only[AV.agg.injEq,y8,and_true]at x;obtain⟨rfl,rfl,rfl,rfl⟩:=x;exact ks,fun ks=>⟨_,_,_,_,rfl,ks⟩⟩
def vW (N:Nat)(H:AH)(v:AV)(nd:Nd.Node):Prop:=jZ H v nd/\ ∀B,xS v B->N<=B
structure FrG (A k e:Nat)(H:AH)(v:AV)(n:Nat)(l:List AV):Prop where
 g:kZ k e H v n l
 f: ∀B,Blk v B->A<B
def FrG.prs (e:FrG h p t H k C A)(s:Prs H v):FrG h p t v k C A:=⟨e.g.mono s (fun _ _ x=>x),e.f⟩
def FrG.stp {A a k e n:Nat}{H H':AH}{v:AV}{l:List AV}(h:FrG A k e H v n l)(s:Stp (fun B=>B=a) H H')(m:a<=A):FrG A k e H' v n l:=
 ⟨h.g.mono s (fun B j e=>by have:=h.f B j;omega),h.f⟩
theorem zR6 (l:Str):aveq (S l) (S l)=true:=by simp[S,aveq]
def FrG.nil (A k e:Nat)(H:AH):FrG A k e H .nS 0 []:=⟨.inl ⟨by simp, .inl ⟨rfl,rfl⟩⟩,fun B a=>(zRu.1 a).elim⟩
theorem FrG.isCell {A k e n:Nat}{H:AH}{v:AV}{l:List AV}(h:FrG A k e H v n l):isCell v=true:=h.g.isCell
theorem FrG.aveq {A k e n:Nat}{H:AH}{v:AV}{l:List AV}(h:FrG A k e H v n l):aveq v v=true:=kK h.g.row
structure FrN (A:Nat)(H:AH)(a b c:AV)(nd:Nd.Node):Prop where
 k:FrG A 1 9 H a nd.keys.length (nd.keys.map S)
 v:FrG A 1 9 H b nd.vals.length (nd.vals.map S)
 p:FrG A 3 42 H c nd.kids.length (nd.kids.flatMap jS)
theorem FrN.stp {A j:Nat}{H H':AH}{a b c:AV}{nd:Nd.Node}(h:FrN A H a b c nd)(s:Stp (fun B=>B=j) H H')(f:j<=A):FrN A H' a b c nd:=⟨h.k.stp s f,h.v.stp s f,h.p.stp s f⟩
def FrN.fresh {c:AV}{nd:Nd.Node}(A:FrN h H q e c nd)(m:p<=h): ∀B,xS (.agg [k,q,e,c]) B->p<=B:=fun B j=>by
 rcases wO.1 j with N | N | N
 .have:=A.k.f B N;omega
 .have:=A.v.f B N;omega
 .have:=A.p.f B N;omega
theorem zJd{k2 v2 j k4 a f:AV}{keys:List Str}{A2 nb:Nd.Node}
  (H0:CutI H h p t v [.bool l,k,q,e] [.bool l,k2,v2,j] [.bool l,k4,a,f]) (A1:Strs v k keys) (hR: ∀B,Blk k B->B<H.next) (u:C<keys.length) (m:FrN t v k2 v2 j A2) (hb:FrN t v k4 a f nb):
  ∃H',zIz D n [.ptr h 0, .ptr p 0, .ptr t 0, .int .i64 (C:Nat)] v=some (.ret (.tuple [.agg [.bool l,k2,v2,j],S (keys.getD C []), .agg [.bool l,k4,a,f], .int .i64 (0:Nat)]),H')/\Prs H H'/\FrN t H' k2 v2 j A2/\FrN t H' k4 a f nb:=by
 have o1:=H0.o1;have o2:=H0.o2;have o4:=H0.o4;obtain⟨A4,q1,q2⟩:=A1.at u;obtain⟨o,e1,x,y⟩:=H0.all2 (l':=[.bool l,k2,v2,j]) rfl (YE _ _ _ _ m.k.isCell m.v.isCell m.p.isCell);have N:Strs o k keys:=Rw.stp A1 y (fun B hB b=>by have:=hR B hB;omega);obtain⟨q',T,Y⟩:=N.at u;obtain rfl:A4=q':=by have:=q1 .i64 C rfl;rw[T .i64 C rfl]at this;cases this;rfl
 obtain⟨J,e2,z,K⟩:=x.all4 (l':=[.bool l,k4,a,f]) rfl (YE _ _ _ _ hb.k.isCell hb.v.isCell hb.p.isCell);have Z:stN 4 (.ptr p 0) (.agg [.bool l,k2,v2,j]) v=some (jQ,o):=e1;have a0:stN 4 (.ptr t 0) (.agg [.bool l,k4,a,f]) o=some (jQ,J):=e2;have O:aveq (.agg [.bool l,k4,a,f]) (.agg [.bool l,k4,a,f])=true:=by simp[Eng.aveq,aZ,hb.k.aveq,hb.v.aveq,hb.p.aveq]
 have hg:keys.getD C []=keys[C]:=by rw[qK,zQ u];rfl
 have l4:ldN 4 (.ptr t 0) o=some (.agg [.bool l,k4,a,f]):=by rw[jR x.a4];rfl
 refine⟨J, ?_,z.prs,(m.stp y (by omega)).stp K (by omega),(hb.stp y (by omega)).stp K (by omega)⟩;rw[hg];simp(disch:=omega) only[zIz,eZ,jR H0.a2,jR H0.a4,jM H0.a1,q1,q2,Z,a0,kW (jM x.a1 1) (kK A1),kW Y (zR6 _),kW l4 O,jR z.a2,jR z.a4,ZH,qB]
theorem zIf(q:H.ok){l:List Str}(v:kZ 1 9 H k l.length (l.map S))(hl:l.length<=1000000000)(j:0<h)(hi:h<=l.length)(A:Nat)(z:A<H.next):
  ∃r a H',vN 1 k none (some (.int .i64 (h:Nat))) (some (.int .i64 (h:Nat))) H=some r/\f108 D n [r] H=some (a,H')/\Prs H H'/\FrG A 1 9 H' a (l.take h).length ((l.take h).map S):=by
 obtain⟨r,t,w,m⟩:=zAf v (by decide) hi .i64 .i64;rw[map_take]at w;have o:(l.take h).length=h:=by rw[qC];omega
 have u:Strs H r (l.take h):=by rw[Strs,o];exact w
 obtain⟨a,H',x,p,g,f⟩:=Y9 D n q u (m j).1 (m j).2 (by omega);exact⟨r,a,H',t,x,p,g,fun B y=>by have:=f B y;omega⟩
theorem zHY(m:H.ok){l:List Str}(v:kZ 1 9 H k l.length (l.map S))(hl:l.length<=1000000000)(hi:h<l.length)(A:Nat)(z:A<H.next):
  ∃r a H',aveq r r=true/\vN 1 k (some (.int .i64 (h:Nat))) none none H=some r/\f108 D n [r] H=some (a,H')/\Prs H H'/\FrG A 1 9 H' a (l.drop h).length ((l.drop h).map S):=by
 obtain⟨r,o,w,q,t⟩:=YN v (by decide) hi .i64;rw[map_drop]at w;have j:(l.drop h).length=l.length - h:=by rw[qL]
 have u:Strs H r (l.drop h):=by rw[Strs,j];exact w
 obtain⟨a,H',x,p,g,f⟩:=Y9 D n m u q t (by omega);exact⟨r,a,H',kK w,o,x,p,g,fun B y=>by have:=f B y;omega⟩
theorem zQp(q:H.ok){l:List Ptr}(v:kZ 3 42 H k l.length (l.flatMap jS))(hl:l.length<=1000000000)(j:0<h)(hi:h<=l.length)(A:Nat)(z:A<H.next):
  ∃r a H',vN 3 k none (some (.int .i64 (h:Nat))) (some (.int .i64 (h:Nat))) H=some r/\f81 D n [r] H=some (a,H')/\Prs H H'/\FrG A 3 42 H' a (l.take h).length ((l.take h).flatMap jS):=by
 obtain⟨r,t,w,m⟩:=zAf v (by decide) hi .i64 .i64;rw[XK]at w;have o:(l.take h).length=h:=by rw[qC];omega
 have u:gY H r (l.take h):=by rw[gY,o];exact w
 obtain⟨a,H',x,p,g,f⟩:=V2 D n q u (m j).1 (m j).2 (by omega);exact⟨r,a,H',t,x,p,g,fun B y=>by have:=f B y;omega⟩
theorem zQ8(m:H.ok){l:List Ptr}(v:kZ 3 42 H k l.length (l.flatMap jS))(hl:l.length<=1000000000)(hi:h<l.length)(A:Nat)(z:A<H.next):
  ∃r a H',aveq r r=true/\vN 3 k (some (.int .i64 (h:Nat))) none none H=some r/\f81 D n [r] H=some (a,H')/\Prs H H'/\FrG A 3 42 H' a (l.drop h).length ((l.drop h).flatMap jS):=by
 obtain⟨r,o,w,q,t⟩:=YN v (by decide) hi .i64;rw[XL]at w;have j:(l.drop h).length=l.length - h:=by rw[qL]
 have u:gY H r (l.drop h):=by rw[gY,j];exact w
 obtain⟨a,H',x,p,g,f⟩:=V2 D n m u q t (by omega);exact⟨r,a,H',kK w,o,x,p,g,fun B y=>by have:=f B y;omega⟩
theorem zDH(Y:200000000<=n)(y:H.ok){nd:Nd.Node}(hb:nd.leaf=l)(h:dD H (.agg [.bool l,k,q,e]) nd)(Z:small nd):
  ∃a f j b A1 A2 A4,(∀K,bA (some (AObj.cells [.bool l,k,q,e] 119 1 false,fun A=>AV.ptr A 0)) H K=K (.ptr A1 0) a)/\(∀K,bA (some (AObj.cells [.bool false, .nS, .nS, .nS] 119 1 false,fun A=>AV.ptr A 0)) a K=K (.ptr A2 0) f)/\
   (∀K,bA (some (AObj.cells [.bool false, .nS, .nS, .nS] 119 1 false,fun A=>AV.ptr A 0)) f K=K (.ptr A4 0) j)/\f109 D n [.agg [.bool l,k,q,e]] j=some (.bool (Nd.shaped ltS nd),b)/\
   CutI H A1 A2 A4 j [.bool l,k,q,e] [.bool false, .nS, .nS, .nS] [.bool false, .nS, .nS, .nS]/\CutI H A1 A2 A4 b [.bool l,k,q,e] [.bool false, .nS, .nS, .nS] [.bool false, .nS, .nS, .nS]:=by
 have o:Prs H (H.push (.cells [.bool l,k,q,e] 119 1 false)):=(zRo y).push _;have z:(H.push (.cells [.bool l,k,q,e] 119 1 false)).h.get H.next=some (.cells [.bool l,k,q,e] 119 1 false):=zRg _ _
 have n1:(H.push (.cells [.bool l,k,q,e] 119 1 false)).next=H.next+1:=rfl
 generalize O:H.push (.cells [.bool l,k,q,e] 119 1 false)=a at o z n1;have m:Prs a (a.push (.cells [.bool false, .nS, .nS, .nS] 119 1 false)):=(zRo o.ok).push _;have C:(a.push (.cells [.bool false, .nS, .nS, .nS] 119 1 false)).h.get a.next=some (.cells [.bool false, .nS, .nS, .nS] 119 1 false):=zRg _ _
 have n2:(a.push (.cells [.bool false, .nS, .nS, .nS] 119 1 false)).next=a.next+1:=rfl
 have t:=m.get o.ok z;generalize S:a.push (.cells [.bool false, .nS, .nS, .nS] 119 1 false)=f at m C n2 t;have p:Prs f (f.push (.cells [.bool false, .nS, .nS, .nS] 119 1 false)):=(zRo m.ok).push _;have J:(f.push (.cells [.bool false, .nS, .nS, .nS] 119 1 false)).h.get f.next=some (.cells [.bool false, .nS, .nS, .nS] 119 1 false):=zRg _ _
 have u:=p.get m.ok t;have x:=p.get m.ok C;generalize T:f.push (.cells [.bool false, .nS, .nS, .nS] 119 1 false)=j at p J u x;have N:Prs H j:=(o.trans m).trans p;obtain⟨b,e4,p4⟩:=bN D n p.ok (h.prs N) Z Y;have c3:CutI H H.next a.next f.next j [.bool l,k,q,e] [.bool false, .nS, .nS, .nS] [.bool false, .nS, .nS, .nS]:=⟨N,u,x,J,by omega,by omega,by omega⟩
 refine⟨a,f,j,b,H.next,a.next,f.next,fun K=> ?_,fun K=> ?_,fun K=> ?_,e4,c3,c3.step p4⟩
 .simp only[eZ,kX y,O]
 .simp only[eZ,kX o.ok,S]
 .simp only[eZ,kX m.ok,T]
theorem zOK(hn:200000000<=n)(hk:H.ok){nd:Nd.Node}(h:jZ H k nd)(O:small nd)(z:Nd.shaped ltS nd=true)(hc:gP nd)(hl:nd.leaf=true):
  ∃v va vb H',f213 D n [k] H=some (.tuple [va,S (nd.keys.getD v []),vb, .int .i64 (0:Nat)],H')/\Prs H H'/\vW H.next H' va (cutA nd v)/\vW H.next H' vb (QD nd v)/\cutOk nd v/\hbnd nd v:=by
 have T:=h.node;obtain⟨ks,vs,ps,rfl,Y,h2,h3⟩:=h;rw[hl]at T;have d1:=Nd.sumL_ge nd.keys;have d2:nd.vals.length=nd.keys.length:=by
  simp only[Nd.shaped,hl,if_true,zE,zR]at z;exact z.2.1.1
 obtain⟨s1,s2,s3⟩:=id O;obtain⟨c1,c2⟩:=id hc;obtain⟨H1,H2,H3,H4,A1,A2,A4,b1,b2,b3,e4,i3,t⟩:=zDH D n hn hk hl T O;obtain⟨v,H5,e5,p5,⟨k1,k2⟩,kb⟩:=zIh D n hn t.prs.ok (T.prs t.prs) O z hc;simp only[hl,if_true]at k2;have i5:=t.step p5;obtain⟨H6,e6,i6,t6⟩:=i5.st2 (o:=0) (x:= .bool true) rfl (by simp);obtain⟨H7,e7,u,t7⟩:=i6.st4 (o:=0) (x:= .bool true) rfl (by simp);have m {H':AH} (p:Prs H H'):=Y.mono p (fun _ _ x=>x);have m2 {H':AH} (p:Prs H H'):=h2.mono p (fun _ _ x=>x);obtain⟨r8,k8,H8,c8,e8,p8,f8⟩:=zIf D n u.prs.ok (m u.prs) (by omega) k1 (by omega) A4 u.lt;have i8:=u.step p8;obtain⟨H9,e9,y,t9⟩:=i8.st2 (o:=1) (x:=k8) f8.isCell (by simp);have f9:=f8.stp t9 (by have:=i8.o4;omega);obtain⟨d3,k10,d4,_,a6,a7,Z,a0⟩:=zHY D n y.prs.ok (m y.prs) (by omega) (show v< _ by omega) A4 y.lt;have a8:=y.step Z;obtain⟨a9,b0,a,t11⟩:=a8.st4 (o:=1) (x:=k10) a0.isCell (by simp);have f11:=a0.stp t11 (by omega);obtain⟨d5,k12,d6,b4,b5,N,a2⟩:=zIf D n a.prs.ok (m2 a.prs) (by omega) k1 (by omega) A4 a.lt;have f:=a.step N;obtain⟨b6,k13,d7,b7,a3,b8,C,a4⟩:=zHY D n f.prs.ok (m2 f.prs) (by omega) (show v< _ by omega) A4 f.lt;have a5:vN 1 vs (some (.int .i64 (v:Nat))) none none a9=some b6:=by rw[bK (m2 f.prs) (m2 a.prs) (by decide)];exact a3
 have b9:=f.step C;obtain⟨d8,c0,c3,t14⟩:=b9.st2 (o:=2) (x:=k12) a2.isCell (by simp);obtain⟨j,c4,q,t15⟩:=c3.st4 (o:=2) (x:=k13) a4.isCell (by simp);have o4:=q.o4;have h24:=q.o1;have d9:=q.o2;have F8:FrG A4 1 9 j k8 _ _:=(((((f9.prs Z).stp t11 (by omega)).prs N).prs C).stp t14 (by omega)).stp t15 (by omega);have c5:FrG A4 1 9 j k10 _ _:=(((f11.prs N).prs C).stp t14 (by omega)).stp t15 (by omega);have c6:FrG A4 1 9 j k12 _ _:=((a2.prs C).stp t14 (by omega)).stp t15 (by omega);have c7:FrG A4 1 9 j k13 _ _:=(a4.stp t14 (by omega)).stp t15 (by omega);have na:FrN A4 j k8 k12 .nS (cutA nd v):=by
  simp only[cutA,hl,if_true];exact⟨F8,c6,FrG.nil ..⟩
 have nb:FrN A4 j k10 k13 .nS (QD nd v):=by
  simp only[QD,hl,if_true];exact⟨c5,c7,FrG.nil ..⟩
 obtain⟨c9,d0,P,J,K⟩:=zJd D n q ((m q.prs).row) (fun B hB=>Y.lt hB) (show v<nd.keys.length by omega) na nb;refine⟨v, .agg [.bool true,k8,k12, .nS], .agg [.bool true,k10,k13, .nS],c9, ?_,P, ?_, ?_,⟨k1,by rw[hl];simp only[if_true];omega⟩,kb⟩
 .have t2: ¬(nd.keys.length:Int)< ((2:Nat):Int):=by omega
  simp(maxSteps:=999999)(disch:=omega) only[f213,eZ,hl,b1,b2,b3,jR i3.a1,jR t.a1,ZH,qB,e4,z,jM t.a1,Y.row.lnSl,t2,e5,jM i5.a1,e6,kW (jM i6.a1 0) (zCK _),e7,jM u.a1,c8,e8,e9,jM y.a1,a6,a7,b0,jM a.a1,b4,a5,b5,kW (jM f.a1 2) (kK h2.row),kW a3 b7,b8,c0,c4,d0]
 .exact⟨⟨k8,k12, .nS,by simp only[cutA,hl,if_true],J.k.g,J.v.g,J.p.g⟩,J.fresh (by omega)⟩
 .exact⟨⟨k10,k13, .nS,by simp only[QD,hl,if_true],K.k.g,K.v.g,K.p.g⟩,K.fresh (by omega)⟩
theorem zLl(hn:200000000<=n)(hk:H.ok){nd:Nd.Node}(h:jZ H k nd)(T:small nd)(z:Nd.shaped ltS nd=true)(hc:gP nd)(hl:nd.leaf=false):
  ∃v va vb H',f213 D n [k] H=some (.tuple [va,S (nd.keys.getD v []),vb, .int .i64 (0:Nat)],H')/\Prs H H'/\vW H.next H' va (cutA nd v)/\vW H.next H' vb (QD nd v)/\cutOk nd v/\hbnd nd v:=by
 have Y:=h.node;obtain⟨ks,vs,ps,rfl,Z,h2,h3⟩:=h;rw[hl]at Y;have d1:=Nd.sumL_ge nd.keys;have d2:nd.kids.length=nd.keys.length+1:=by
  simp only[Nd.shaped,hl,zL,qD,zE,zR]at z;exact z.2.1.2
 obtain⟨s1,s2,s3⟩:=id T;obtain⟨c1,c2⟩:=id hc;obtain⟨H1,H2,H3,H4,A1,A2,A4,b1,b2,b3,e4,i3,t⟩:=zDH D n hn hk hl Y T;obtain⟨v,H5,e5,p5,⟨k1,k2⟩,kb⟩:=zIh D n hn t.prs.ok (Y.prs t.prs) T z hc;simp only[hl,zL,qD]at k2;have i5:=t.step p5;obtain⟨H6,e6,i6,t6⟩:=i5.st2 (o:=0) (x:= .bool false) rfl (by simp);obtain⟨H7,e7,u,t7⟩:=i6.st4 (o:=0) (x:= .bool false) rfl (by simp);have m {H':AH} (p:Prs H H'):=Z.mono p (fun _ _ x=>x);have m2 {H':AH} (p:Prs H H'):=h3.mono p (fun _ _ x=>x);obtain⟨r8,k8,H8,c8,e8,p8,f8⟩:=zIf D n u.prs.ok (m u.prs) (by omega) k1 (by omega) A4 u.lt;have i8:=u.step p8;obtain⟨H9,e9,y,t9⟩:=i8.st2 (o:=1) (x:=k8) f8.isCell (by simp);have f9:=f8.stp t9 (by have:=i8.o4;omega);obtain⟨d3,k10,d4,_,a2,a8,a3,a4⟩:=zHY D n y.prs.ok (m y.prs) (by omega) (show v+1< _ by omega) A4 y.lt;have a9:=y.step a3;obtain⟨b0,b4,a,t11⟩:=a9.st4 (o:=1) (x:=k10) a4.isCell (by simp);have f11:=a4.stp t11 (by omega);obtain⟨d5,k12,d6,a5,b5,N,a6⟩:=zQp D n a.prs.ok (m2 a.prs) (by omega) (show 0<v+1 by omega) (by omega) A4 a.lt;have f:=a.step N;obtain⟨b6,k13,d7,b7,O,b8,C,a7⟩:=zQ8 D n f.prs.ok (m2 f.prs) (by omega) (show v+1< _ by omega) A4 f.lt;have a0:vN 3 ps (some (.int .i64 (v+1:Nat))) none none b0=some b6:=by rw[bK (m2 f.prs) (m2 a.prs) (by decide)];exact O
 have b9:=f.step C;obtain⟨d8,c0,c3,t14⟩:=b9.st2 (o:=3) (x:=k12) a6.isCell (by simp);obtain⟨j,c4,q,t15⟩:=c3.st4 (o:=3) (x:=k13) a7.isCell (by simp);simp only[yH]at a2 a5 O a0;have o4:=q.o4;have h24:=q.o1;have d9:=q.o2;have F8:FrG A4 1 9 j k8 _ _:=(((((f9.prs a3).stp t11 (by omega)).prs N).prs C).stp t14 (by omega)).stp t15 (by omega);have c5:FrG A4 1 9 j k10 _ _:=(((f11.prs N).prs C).stp t14 (by omega)).stp t15 (by omega);have c6:FrG A4 3 42 j k12 _ _:=((a6.prs C).stp t14 (by omega)).stp t15 (by omega);have c7:FrG A4 3 42 j k13 _ _:=(a7.stp t14 (by omega)).stp t15 (by omega);have na:FrN A4 j k8 .nS k12 (cutA nd v):=by
  simp only[cutA,hl,zL,qD];exact⟨F8,FrG.nil ..,c6⟩
 have nb:FrN A4 j k10 .nS k13 (QD nd v):=by
  simp only[QD,hl,zL,qD];exact⟨c5,FrG.nil ..,c7⟩
 obtain⟨c9,d0,P,J,K⟩:=zJd D n q ((m q.prs).row) (fun B hB=>Z.lt hB) (show v<nd.keys.length by omega) na nb;refine⟨v, .agg [.bool false,k8, .nS,k12], .agg [.bool false,k10, .nS,k13],c9, ?_,P, ?_, ?_,⟨k1,by rw[hl];simp only[zL,qD];omega⟩,kb⟩
 .have t2: ¬(nd.keys.length:Int)< ((2:Nat):Int):=by omega
  have t3: ¬(nd.keys.length:Int)< ((3:Nat):Int):=by omega
  simp(maxSteps:=999999)(disch:=omega) only[f213,eZ,hl,b1,b2,b3,jR i3.a1,jR t.a1,ZH,qB,e4,z,jM t.a1,Z.row.lnSl,t2,t3,e5,jM i5.a1,e6,kW (jM i6.a1 0) (zCK _),e7,jM u.a1,c8,e8,e9,jM y.a1,a2,a8,b4,jM a.a1,a5,a0,b5,kW (jM f.a1 3) (kK h3.row),kW O b7,b8,c0,c4,d0]
 .exact⟨⟨k8, .nS,k12,by simp only[cutA,hl,zL,qD],J.k.g,J.v.g,J.p.g⟩,J.fresh (by omega)⟩
 .exact⟨⟨k10, .nS,k13,by simp only[QD,hl,zL,qD],K.k.g,K.v.g,K.p.g⟩,K.fresh (by omega)⟩
end Go.Eng.Sh
namespace Go.Eng
namespace T
variable {α:Type}
noncomputable def st (t:T α)(n:Nat)(a:α):T α:=(T.set 40 t n a).getD .leaf
end T
theorem Stp.ld1 {S:Nat->Prop}{H H':AH}(s:Stp S H H'){A:Nat}(o:Nat)(h:A<H.next)(a: ¬S A):Eng.ld1 (.ptr A o) H'=Eng.ld1 (.ptr A o) H:=by simp only[Eng.ld1,s.keep A h a]
theorem Stp.ldN {S:Nat->Prop}{H H':AH}(s:Stp S H H'){A:Nat}(o n:Nat)(h:A<H.next)(a: ¬S A):Eng.ldN n (.ptr A o) H'=Eng.ldN n (.ptr A o) H:=by simp only[Eng.ldN,s.keep A h a]
def Prs.l1 (s:Prs H v)(A:Nat)(o:Nat)(h:A<H.next):Eng.ld1 (.ptr A o) v=Eng.ld1 (.ptr A o) H:=s.ld1 o h (fun x=>x)
theorem Prs.b1 (s:Prs (H.push (.cells A h p l)) v)(o:Nat):Eng.ld1 (.ptr H.next o) v=A[o]? :=by
 rw[s.l1 _ _ (by rw[zRh];omega),KC]
def Prs.refl {H:AH}(h:H.ok):Prs H H:=zRo h
end Go.Eng




