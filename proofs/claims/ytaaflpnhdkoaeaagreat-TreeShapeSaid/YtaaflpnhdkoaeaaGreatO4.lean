/- A checked evaluator for the program, and what it tells, part 4: no condition. -/
import Derived.Test.YtaaflpnhdkoaeaaGreatO3
import Derived.Test.YtaaflpnhdkoaeaaGreatProg
import Derived.KernelRfl
set_option linter.all false
set_option linter.unusedVariables false
set_option linter.unusedSimpArgs false
set_option maxHeartbeats 8000000
set_option maxRecDepth 20000
variable (D:Go.Eng.Dyn)(n:Nat){H v L:Go.Eng.AH}{h w t s:Nat}{k q B:Go.Eng.AV}{i F J:List Go.Eng.AV}{A:Go.Eng.Dyn}{l:Go.TypeId}{p C:Bool}{e:Nat->Prop}{E:List (Nat×List Go.Eng.AV)}{G:Type}{I:Nat×List Go.Eng.AV}{M:List Go.Eng.AV->Go.Eng.AH->Go.Eng.Rs}
section
noncomputable section
namespace Go.Eng.Sh
open Go.Proofs
set_option maxRecDepth 100000
variable (D:Dyn)(n:Nat)
attribute [local irreducible] bV bR hd cnd jn jb kL wnt chk B7 bA wO ZV QX dJ eqP eqS eqM eqF eqA zNN ldN ld1 stN cvI zNS zE9 zLZ VL vD xK bG cN WD zBN zFP fd1 fdN fAd WC lnSl K0 apP apZ cpy uD zKf pk3 s2a bxV Q2 zHH lkM upM dlM mkM callV nl dV tld zLQ dL zAM aH zEk rfC mn2 mx2 aun jR uS jT isW aveq bU
def h138:Hint:=(.s .o (.s .o (.s .o (.s Hq (.s .o (.s Hq (.s (.s .o (.cl (.s .o (.s .o (.s (.b [8,255] .o) Hr))) .o)) (.s .o (.s (.s .o (.cl (.s (.b [8,255] .o) (.s .o Hr)) .o)) (.s .o (.s .o Hr)))))))))))
@[irreducible] def f138:=(.mk:FY (t53 D n) D n 138 Tryz.f138 h138 []).1
theorem zGn (a:DG A)(n:Nat):FI 138 (f138 A n):=fk n (ms h138) a (k53 a n) Tryz.func138
def t54:=ad (t53 D n) 138 (f138 D n)
theorem k54:KO t54:=kc k53 zGn
def zNa (D:Dyn)(n:Nat)(vs:List AV)(H:AH):Option (AV×AH):=zLl (f138 D n) vs H
theorem zL8 (a:DG A)(n:Nat):FI 138 (zNa A n):=zLk (by kernel_rfl) (zGn a n)
def t55:=ad (t54 D n) 138 (zNa D n)
theorem k55:KO t55:=kc k54 zL8
attribute [local irreducible] zNa
def h89:Hint:=(.s .o (.s Hq (.s (.c [2,3,5,31,8,255] (.l [0,1,3,4,7,2,5,6,8] .o) .o) (.s .o (.s (.s .o (.cl (.s .o Hr) .o)) (.s .o (.s .o Hr)))))))
@[irreducible] def f89:=(.mk:FY (t55 D n) D n 89 Tryz.f89 h89 []).1
def t56:=ad (t55 D n) 89 (f89 D n)
theorem k56:KO t56:=kk k55 (ms h89) Tryz.func89
def h88:Hint:=(.s .o Hr)
@[irreducible] def f88:=(.mk:FY (t56 D n) D n 88 Tryz.f88 h88 []).1
def t57:=ad (t56 D n) 88 (f88 D n)
theorem k57:KO t57:=kk k56 (ms h88) Tryz.func88
def h38:Hint:=(.s .o (.s Hq (.s Hq Hr)))
@[irreducible] def f38:=(.mk:FY (t57 D n) D n 38 Tryz.f38 h38 []).1
def t58:=ad (t57 D n) 38 (f38 D n)
theorem k58:KO t58:=kk k57 (ms h38) Tryz.func38
def h19:Hint:=(.s .o (.s Hq Hr))
@[irreducible] def f19:=(.mk:FY (t58 D n) D n 19 Tryz.f19 h19 []).1
theorem zJP (a:DG A)(n:Nat):FI 19 (f19 A n):=fk n (ms h19) a (k58 a n) Tryz.func19
def t59:=ad (t58 D n) 19 (f19 D n)
theorem k59:KO t59:=kc k58 zJP
def h24:Hint:=(.s .o (.s Hq Hr))
@[irreducible] def f24:=(.mk:FY (t59 D n) D n 24 Tryz.f24 h24 []).1
def t60:=ad (t59 D n) 24 (f24 D n)
theorem k60:KO t60:=kk k59 (ms h24) Tryz.func24
def h124:Hint:=(.s .o (.s (.s .o (.b [1] (.l [0,0,1,7,8] (.s .o (.s (.cr .o .o) (.s (.b0 (.s .o Hq)) .o)))))) Hr))
@[irreducible] def zK1:=(.mk:PY (t60 D n) D n 124 Tryz.f124 h124 [] 0).1
@[irreducible] def zNL:=(.mk:PY (t60 D n) D n 124 Tryz.f124 h124 [zK1 D n] 1).1
@[irreducible] def f124:=(.mk:FY (t60 D n) D n 124 Tryz.f124 h124 [zK1 D n,zNL D n]).1
def t61:=ad (t60 D n) 124 (f124 D n)
theorem k61:KO t61:=kk k60 (ms h124) Tryz.func124
def h78:Hint:=(.s .o (.s Hq (.s .o (.s Hq Hr))))
@[irreducible] def f78:=(.mk:FY (t61 D n) D n 78 Tryz.f78 h78 []).1
def t62:=ad (t61 D n) 78 (f78 D n)
theorem k62:KO t62:=kk k61 (ms h78) Tryz.func78
def h27:Hint:=(.s .o (.s Hq (.s Hq (.s Hq (.s .o (.s (.s .o (.b [1] (.l [0,0,1,6,32,33] (.s .o (.s (.cr .o .o) (.s (.b0 (.s .o (.s Hq (.s (.s .o (.cl (.s .o (.s Hq Hr)) .o)) (.b [4,12,7,127] .o))))) .o)))))) Hr))))))
@[irreducible] def zNF:=(.mk:PY (t62 D n) D n 27 Tryz.f27 h27 [] 0).1
@[irreducible] def f27b1:=(.mk:PY (t62 D n) D n 27 Tryz.f27 h27 [zNF D n] 1).1
@[irreducible] def f27:=(.mk:FY (t62 D n) D n 27 Tryz.f27 h27 [zNF D n,f27b1 D n]).1
def t63:=ad (t62 D n) 27 (f27 D n)
theorem k63:KO t63:=kk k62 (ms h27) Tryz.func27
def h21:Hint:=(.s .o (.s .o Hr))
@[irreducible] def f21:=(.mk:FY (t63 D n) D n 21 Tryz.f21 h21 []).1
def t64:=ad (t63 D n) 21 (f21 D n)
theorem k64:KO t64:=kk k63 (ms h21) Tryz.func21
def h148:Hint:=(.s .o (.b [1] (.l [0,0,1,3] (.s (.s .o (.cr .o .o)) (.s (.b0 (.s .o (.cl .o .o))) .o)))))
@[irreducible] def zJY:=(.mk:PY ⟨X,[]⟩ D n 148 Tryz.f148 h148 [] 0).1
@[irreducible] def zNK:=(.mk:PY ⟨X,[]⟩ D n 148 Tryz.f148 h148 [zJY D n] 1).1
@[irreducible] def f148:=(.mk:FY ⟨X,[]⟩ D n 148 Tryz.f148 h148 [zJY D n,zNK D n]).1
theorem zLI (a:DG A)(n:Nat):FI 148 (f148 A n):=fk n (ms h148) a sn Tryz.func148
def t65:=ad (t64 D n) 148 (f148 D n)
theorem k65:KO t65:=kc k64 zLI
def h95:Hint:=(.s .o Hr)
@[irreducible] def f95:=(.mk:FY (t65 D n) D n 95 Tryz.f95 h95 []).1
theorem zG9 (a:DG A)(n:Nat):FI 95 (f95 A n):=fk n (ms h95) a (k65 a n) Tryz.func95
def t66:=ad (t65 D n) 95 (f95 D n)
theorem k66:KO t66:=kc k65 zG9
def s41:Tb:=⟨X,[(73,f73 D n),(76,f76 D n),(77,f77 D n),(79,f79 D n),(95,f95 D n)]⟩
def h41:Hint:=(.s .o (.s Hq (.s Hq (.s .o (.s (.s .o (.b [2,4,6] (.l [1,0,1,4,6,28,29] (.s .o (.s (.cr .o .o) (.s (.b0 (.s Hq (.s .o (.s Hq (.s .o (.s .o (.s (.s .o (.cl (.s (.b [11,2047] .o) .o) .o)) (.s .o (.c [0,0,1,4,6,28,29] (.s .o (.b0 (.rf 0 [6]))) .o))))))))) .o)))))) (.s Hq Hr))))))
@[irreducible] def zLA:=(.mk:PY (s41 D n) D n 41 Tryz.f41 h41 [] 0).1
@[irreducible] def zNC:=(.mk:PY (s41 D n) D n 41 Tryz.f41 h41 [zLA D n] 1).1
@[irreducible] def f41b2:=(.mk:PY (s41 D n) D n 41 Tryz.f41 h41 [zLA D n,zNC D n] 2).1
@[irreducible] def f41:=(.mk:FY (s41 D n) D n 41 Tryz.f41 h41 [zLA D n,zNC D n,f41b2 D n]).1
theorem zND (a:DG A)(n:Nat):FI 41 (f41 A n):=fk n (ms h41) a (sc (zGa a n) (sc (zCU a n) (sc (zCT a n) (sc (zCS a n) (sc (zG9 a n) sn))))) Tryz.func41
def t67:=ad (t66 D n) 41 (f41 D n)
theorem k67:KO t67:=kc k66 zND
def zJC:Hint:= .o
def zJB:Hint:=(.b0 .o)
@[irreducible] def zKW:=(.mk:RY (s41 D n) D n 41 0 [6] [0] zJC zJB []).1
theorem zIc (D:Dyn)(n:Nat):zKW D n=zMq (s41 D n) D n 41 0 [6] [0] (ms zJC) (ms zJB):=by kernel_rfl
theorem zIb (a:DG A)(n:Nat):RS 41 0 (zKW A n):=VT X_ok a (sc (zGa a n) (sc (zCU a n) (sc (zCT a n) (sc (zCS a n) (sc (zG9 a n) sn))))) (by kernel_rfl) (zIc A n)
def h23:Hint:=(.s .o (.s Hq Hr))
@[irreducible] def f23:=(.mk:FY (t67 D n) D n 23 Tryz.f23 h23 []).1
def t68:=ad (t67 D n) 23 (f23 D n)
theorem k68:KO t68:=kk k67 (ms h23) Tryz.func23
def h193:Hint:=Hr
@[irreducible] def f193:=(.mk:FY (t68 D n) D n 193 Tryz.f193 h193 []).1
def t69:=ad (t68 D n) 193 (f193 D n)
theorem k69:KO t69:=kk k68 (ms h193) Tryz.func193
def h194:Hint:=(.s .o (.s .o (.s (.s .o (.c [0,2,4] .o .o)) .o)))
@[irreducible] def zJQ:=(.mk:PY (t69 D n) D n 194 Tryz.f194 h194 [] 0).1
@[irreducible] def f194:=(.mk:FY (t69 D n) D n 194 Tryz.f194 h194 [zJQ D n]).1
def t70:=ad (t69 D n) 194 (f194 D n)
theorem k70:KO t70:=kk k69 (ms h194) Tryz.func194
def zMW:Tb:=⟨X,[(109,f109 D n),(110,f110 D n)]⟩
def zMv:Hint:=(.s .o (.s Hq (.s Hq (.s .o (.s .o (.s .o (.s .o (.s (.s .o (.c [3,1,4,5,6,7] .o .o)) (.s (.s .o (.b [2,4,5] (.l [1,1,4,5,6,7,38,39,40] (.s .o (.s (.cr .o .o) (.s (.b0 (.s .o (.s .o (.s .o (.c [0,1,4,5,6,7,38,39,40] .o .o))))) .o)))))) (.s (.s .o (.cl (.s (.b [] .o) .o) .o)) Hr))))))))))
@[irreducible] def XL:=(.mk:PY (zMW D n) D n 149 Tryz.f149 zMv [] 0).1
@[irreducible] def dD:=(.mk:PY (zMW D n) D n 149 Tryz.f149 zMv [XL D n] 1).1
@[irreducible] def zCY:=(.mk:PY (zMW D n) D n 149 Tryz.f149 zMv [XL D n,dD D n] 2).1
@[irreducible] def zGl:=(.mk:PY (zMW D n) D n 149 Tryz.f149 zMv [XL D n,dD D n,zCY D n] 3).1
@[irreducible] def f149:=(.mk:FY (zMW D n) D n 149 Tryz.f149 zMv [XL D n,dD D n,zCY D n,zGl D n]).1
theorem zLH (a:DG A)(n:Nat):FI 149 (f149 A n):=fk n (ms zMv) a (sc (zGy a n) (sc (zGx a n) sn)) Tryz.func149
def t71:=ad (t70 D n) 149 (f149 D n)
theorem k71:KO t71:=kc k70 zLH
def h207:Hint:=(.s (.s (.b [] .o) (.cl .o .o)) (.s .o (.b [1] (.l [0,0,1,2,5] (.s (.s .o (.cr .o .o)) (.s (.b0 (.s (.b [11,2047] .o) (.cl .o .o))) .o))))))
@[irreducible] def bN:=(.mk:PY ⟨X,[]⟩ D n 207 Tryz.f207 h207 [] 0).1
@[irreducible] def zGf:=(.mk:PY ⟨X,[]⟩ D n 207 Tryz.f207 h207 [bN D n] 1).1
@[irreducible] def f207:=(.mk:FY ⟨X,[]⟩ D n 207 Tryz.f207 h207 [bN D n,zGf D n]).1
theorem zLC (a:DG A)(n:Nat):FI 207 (f207 A n):=fk n (ms h207) a sn Tryz.func207
def t72:=ad (t71 D n) 207 (f207 D n)
theorem k72:KO t72:=kc k71 zLC
def h168:Hint:=(.s .o Hr)
@[irreducible] def f168:=(.mk:FY (t72 D n) D n 168 Tryz.f168 h168 []).1
theorem KD (a:DG A)(n:Nat):FI 168 (f168 A n):=fk n (ms h168) a (k72 a n) Tryz.func168
def t73:=ad (t72 D n) 168 (f168 D n)
theorem k73:KO t73:=kc k72 KD
def zMV:Tb:=⟨X,[(168,f168 D n),(86,f86 D n)]⟩
def h195:Hint:=(.s .o (.s Hq (.s (.s .o (.b [1,2,3] (.l [0,1,2,3,13,14] (.s .o (.s (.cr .o .o) (.s (.b0 (.s .o (.s .o (.b0 (.rf 0 [1,2,3]))))) .o)))))) Hr)))
@[irreducible] def Y6:=(.mk:PY (zMV D n) D n 195 Tryz.f195 h195 [] 0).1
@[irreducible] def zNH:=(.mk:PY (zMV D n) D n 195 Tryz.f195 h195 [Y6 D n] 1).1
@[irreducible] def f195:=(.mk:FY (zMV D n) D n 195 Tryz.f195 h195 [Y6 D n,zNH D n]).1
theorem zLD (a:DG A)(n:Nat):FI 195 (f195 A n):=fk n (ms h195) a (sc (KD a n) (sc (zAz a n) sn)) Tryz.func195
def t74:=ad (t73 D n) 195 (f195 D n)
theorem k74:KO t74:=kc k73 zLD
def zFe:Hint:= .o
def zFd:Hint:=(.b0 (.s .o (.s .o (.s .o .o))))
@[irreducible] def WY:=(.mk:RY (zMV D n) D n 195 0 [1,2,3] [0] zFe zFd []).1
theorem zFg (D:Dyn)(n:Nat):WY D n=zMq (zMV D n) D n 195 0 [1,2,3] [0] (ms zFe) (ms zFd):=by kernel_rfl
theorem zFf (a:DG A)(n:Nat):RS 195 0 (WY A n):=VT X_ok a (sc (KD a n) (sc (zAz a n) sn)) (by kernel_rfl) (zFg A n)
def h75:Hint:=(.s .o (.s Hq (.s .o (.s Hq (.s .o Hr)))))
@[irreducible] def f75:=(.mk:FY (t74 D n) D n 75 Tryz.f75 h75 []).1
def t75:=ad (t74 D n) 75 (f75 D n)
theorem k75:KO t75:=kk k74 (ms h75) Tryz.func75
def s26:Tb:=⟨X,[(74,f74 D n),(75,f75 D n)]⟩
@[irreducible] def f26 (D:Dyn)(n:Nat)(vs:List AV)(H:AH):Option (AV×AH):=
 dV (hd vs fun a vs=>hd vs fun f vs=>hd vs fun L vs=>nl vs <|
 bA (bxV 55 L) H fun M H=>
 bR (f74 D n [a,f] H) fun h H=>
 bV (wO .neq h (.int .i64 (.ofNat 0))) fun j=>
 cnd j (bV (some h) fun x6=>some (.ret x6,H))
 (bV (uS a) fun m=>
 bV (fAd 3 m) fun o=>
 bV (ld1 o H) fun p=>
 bV (uS a) fun q=>
 bV (fAd 2 q) fun s=>
 bV (ld1 s H) fun t=>
 bV (lnSl t) fun u=>
 bR (upM [6] p f u H) fun O H=>
 bV (uS a) fun v=>
 bV (fAd 2 v) fun x=>
 bV (ld1 x H) fun y=>
 bV (ldN 512 M H) fun z=>
 bV (uD [(0,1),(1,512)] ([(.int .i64 (.ofNat 0))]++rep 512 [(.int .u8 (.ofNat 0))]) [(0,f),(1,z)]) fun C=>
 bA (Q2 153 513 1 ([(.int .i64 (.ofNat 0))]++rep 512 [(.int .u8 (.ofNat 0))]) [(0,C)]) H fun F H=>
 bR (apP 153 513 520 y F H) fun G H=>
 bV (uS a) fun I=>
 bV (fAd 2 I) fun J=>
 bR (stN 1 J G H) fun N H=>
 bR (f75 D n [a] H) fun K H=>
 bV (some K) fun i=>some (.ret i,H)))
def h26:Hint:=(.s .o (.s (.s .o Hq) (.s .o (.s .o Hr))))
def t76:=ad (t75 D n) 26 (f26 D n)
theorem k76:KO t76:=kk k75 h26 Tryz.func26
def h196:Hint:=(.s .o (.s .o (.s Hq (.s Hq Hr))))
@[irreducible] def f196:=(.mk:FY (t76 D n) D n 196 Tryz.f196 h196 []).1
def t77:=ad (t76 D n) 196 (f196 D n)
theorem k77:KO t77:=kk k76 (ms h196) Tryz.func196
def s151:Tb:=⟨X,[(195,f195 D n),(26,f26 D n),(196,f196 D n)]⟩
@[irreducible] def zNJ (D:Dyn)(n:Nat)(vs:List AV)(H:AH):Option (AV×AH):=
 dV (hd vs fun a vs=>hd vs fun x1 vs=>nl vs <|
 bA (bxV 55 x1) H fun h H=>
 bA (bxV 42 (.agg [(.int .i64 (.ofNat 0)),(.int .i64 (.ofNat 0)),(.int .u64 (.ofNat 0))])) H fun x4 H=>
 bV (uS a) fun v=>
 bV (fAd 1 v) fun x=>
 bV (ld1 x H) fun y=>
 bR (f195 D n [y] H) fun i H=>
 bV (jR i 0) fun f=>
 bV (jR i 1) fun j=>
 bV (wO .neq j (.int .i64 (.ofNat 0))) fun z=>
 cnd z (bV (uD [(0,1),(1,1),(2,1)] [(.int .i64 (.ofNat 0)),(.int .i64 (.ofNat 0)),(.int .u64 (.ofNat 0))] []) fun C=>
 bR (stN 3 x4 C H) fun b5 H=>
 bV (ldN 3 x4 H) fun s=>bV (some j) fun x5=>some (.ret (.tuple [s,x5]),H))
 (bV (uS a) fun F=>
 bV (fAd 4 F) fun G=>
 bV (ld1 G H) fun I=>
 bA (Q2 3 1 1 [(.int .i64 (.ofNat 0))] [(0,f)]) H fun J H=>
 bR (apP 3 1 8 I J H) fun K H=>
 bV (uS a) fun L=>
 bV (fAd 4 L) fun M=>
 bR (stN 1 M K H) fun b1 H=>
 bV (uS a) fun N=>
 bV (fAd 0 N) fun O=>
 bV (ld1 O H) fun Q=>
 bV (uS Q) fun S=>
 bV (fAd 0 S) fun T=>
 bV (ld1 T H) fun U=>
 bV (ldN 512 h H) fun V=>
 bR (f26 D n [U,f,V] H) fun m H=>
 bV (wO .neq m (.int .i64 (.ofNat 0))) fun W=>
 cnd W (bV (uD [(0,1),(1,1),(2,1)] [(.int .i64 (.ofNat 0)),(.int .i64 (.ofNat 0)),(.int .u64 (.ofNat 0))] []) fun Y=>
 bR (stN 3 x4 Y H) fun b2 H=>
 bV (ldN 3 x4 H) fun p=>bV (some m) fun t=>some (.ret (.tuple [p,t]),H))
 (bV (uS a) fun Z=>
 bV (fAd 5 Z) fun a0=>
 bV (ld1 a0 H) fun a1=>
 bV (ldN 512 h H) fun a2=>
 bV (uD [(0,1),(1,512)] ([(.int .i64 (.ofNat 0))]++rep 512 [(.int .u8 (.ofNat 0))]) [(0,f),(1,a2)]) fun a3=>
 bA (Q2 202 513 1 ([(.int .i64 (.ofNat 0))]++rep 512 [(.int .u8 (.ofNat 0))]) [(0,a3)]) H fun a4 H=>
 bR (apP 202 513 520 a1 a4 H) fun a5 H=>
 bV (uS a) fun a6=>
 bV (fAd 5 a6) fun a7=>
 bR (stN 1 a7 a5 H) fun b3 H=>
 bV (ldN 512 h H) fun a8=>
 bR (f196 D n [f,a8] H) fun o H=>
 bV (jR o 0) fun a9=>
 bV (jR o 1) fun b0=>
 bR (stN 3 x4 a9 H) fun b4 H=>
 bV (ldN 3 x4 H) fun q=>bV (some b0) fun u=>some (.ret (.tuple [q,u]),H))))
def h151:Hint:=(.s .o (.s .o (.s Hq (.s .o (.s (.s .o Hq) (.s .o Hr))))))
def t78:=ad (t77 D n) 151 (zNJ D n)
theorem k78:KO t78:=kk k77 h151 Tryz.func151
def s96:Tb:=⟨X,[(77,f77 D n),(149,f149 D n),(150,zLF D n),(151,zNJ D n)]⟩
@[irreducible] def zE2 (D:Dyn)(n:Nat)(vs:List AV)(H:AH):Rs:=
 hd vs fun h vs=>hd vs fun a vs=>hd vs fun o vs=>hd vs fun i vs=>hd vs fun j vs=>hd vs fun m vs=>hd vs fun f vs=>
 bV (wO .lss f m) fun v=>
 cnd v (bV (cN 3 j f) fun x=>
 bV (ldN 3 x H) fun y=>
 bA (bxV 42 (.agg [(.int .i64 (.ofNat 0)),(.int .i64 (.ofNat 0)),(.int .u64 (.ofNat 0))])) H fun p H=>
 bR (stN 3 p y H) fun K H=>
 bV (ldN 3 p H) fun z=>
 bR (D.fn 96 [h,z] H) fun q H=>
 bV (jR q 0) fun C=>
 bV (jR q 1) fun s=>
 bV (cN 3 i f) fun F=>
 bR (stN 3 F C H) fun L H=>
 bV (wO .neq s (.int .i64 (.ofNat 0))) fun G=>
 cnd G (bV (uD [(0,1),(1,1),(2,1)] [(.int .i64 (.ofNat 0)),(.int .i64 (.ofNat 0)),(.int .u64 (.ofNat 0))] []) fun I=>
 bR (stN 3 a I H) fun M H=>
 bV (ldN 3 a H) fun t=>bV (some s) fun u=>some (.ret (.tuple [t,u]),H))
 (bV (wO .add f (.int .i64 (.ofNat 1))) fun J=>
 some (.norm [h,a,o,i,j,m,J],H)))
 (some (.exit 0 [h,a,o,i],H))
@[irreducible] def zLx (D:Dyn)(n:Nat)(vs:List AV)(H:AH):Rs:=
 hd vs fun f vs=>hd vs fun a vs=>hd vs fun u vs=>hd vs fun F vs=>
 bV (ldN 4 u H) fun G=>
 bR (f149 D n [G] H) fun h H=>
 bV (jR h 0) fun I=>
 bV (jR h 1) fun i=>
 bV (wO .neq i (.int .i64 (.ofNat 0))) fun J=>
 cnd J (bV (uD [(0,1),(1,1),(2,1)] [(.int .i64 (.ofNat 0)),(.int .i64 (.ofNat 0)),(.int .u64 (.ofNat 0))] []) fun K=>
 bR (stN 3 a K H) fun U H=>
 bV (ldN 3 a H) fun q=>bV (some i) fun v=>some (.ret (.tuple [q,v]),H))
 (bV (uS f) fun L=>
 bV (fAd 2 L) fun M=>
 bV (ld1 M H) fun N=>
 bR (zLF D n [F,N,I] H) fun j H=>
 bV (jR j 0) fun O=>
 bV (jR j 1) fun m=>
 bA (bxV 55 (.agg (rep 512 [(.int .u8 (.ofNat 0))]))) H fun o H=>
 bR (stN 512 o O H) fun V H=>
 bV (wO .neq m (.int .i64 (.ofNat 0))) fun Q=>
 cnd Q (bV (uD [(0,1),(1,1),(2,1)] [(.int .i64 (.ofNat 0)),(.int .i64 (.ofNat 0)),(.int .u64 (.ofNat 0))] []) fun S=>
 bR (stN 3 a S H) fun W H=>
 bV (ldN 3 a H) fun s=>bV (some m) fun x=>some (.ret (.tuple [s,x]),H))
 (bV (ldN 512 o H) fun T=>
 bR (zNJ D n [f,T] H) fun p H=>
 bV (jR p 0) fun y=>
 bV (jR p 1) fun z=>
 bR (stN 3 a y H) fun Y H=>
 bV (ldN 3 a H) fun t=>bV (some z) fun C=>some (.ret (.tuple [t,C]),H)))
@[irreducible] def zLy (D:Dyn)(n:Nat)(vs:List AV)(H:AH):Rs:=
 hd vs fun f vs=>hd vs fun h vs=>hd vs fun a vs=>hd vs fun i vs=>
 bV (fAd 3 a) fun j=>
 bR (stN 1 j i H) fun p H=>
 bV (fAd 0 a) fun m=>
 bV (ld1 m H) fun o=>
 jn (cnd o (some (.norm [f,h,a,(.int .u8 (.ofNat 1))],H))
 (some (.norm [f,h,a,(.int .u8 (.ofNat 2))],H))) (zLx D n)
@[irreducible] def f96 (D:Dyn)(n:Nat)(vs:List AV)(H:AH):Option (AV×AH):=
 dV (hd vs fun a vs=>hd vs fun x1 vs=>nl vs <|
 bA (bxV 42 x1) H fun f H=>
 bA (bxV 42 (.agg [(.int .i64 (.ofNat 0)),(.int .i64 (.ofNat 0)),(.int .u64 (.ofNat 0))])) H fun x4 H=>
 bV (fAd 0 f) fun u=>
 bV (ld1 u H) fun v=>
 bV (wO .neq v (.int .i64 (.ofNat 1))) fun x=>
 cnd x (bV (ldN 3 f H) fun y=>
 bR (stN 3 x4 y H) fun a8 H=>
 bV (ldN 3 x4 H) fun q=>bV (some (.int .i64 (.ofNat 0))) fun x5=>some (.ret (.tuple [q,x5]),H))
 (bV (uS a) fun z=>
 bV (fAd 3 z) fun C=>
 bV (ld1 C H) fun F=>
 bV (wO .sub F (.int .i64 (.ofNat 1))) fun G=>
 bV (uS a) fun I=>
 bV (fAd 3 I) fun J=>
 bR (stN 1 J G H) fun a4 H=>
 bV (uS a) fun K=>
 bV (fAd 3 K) fun L=>
 bV (ld1 L H) fun M=>
 bV (wO .lss M (.int .i64 (.ofNat 0))) fun N=>
 cnd N (bV (uD [(0,1),(1,1),(2,1)] [(.int .i64 (.ofNat 0)),(.int .i64 (.ofNat 0)),(.int .u64 (.ofNat 0))] []) fun O=>
 bR (stN 3 x4 O H) fun a5 H=>
 bV (ldN 3 x4 H) fun o=>bV (some (.int .i64 (.ofNat 4))) fun s=>some (.ret (.tuple [o,s]),H))
 (bV (uS a) fun Q=>
 bV (fAd 0 Q) fun S=>
 bV (ld1 S H) fun T=>
 bV (ldN 3 f H) fun U=>
 bA (bxV 119 (.agg [(.bool false), .nS, .nS, .nS])) H fun x6 H=>
 bR (f77 D n [T,U] H) fun h H=>
 bV (jR h 0) fun V=>
 bV (jR h 1) fun i=>
 bR (stN 4 x6 V H) fun a6 H=>
 bV (wO .neq i (.int .i64 (.ofNat 0))) fun W=>
 cnd W (bV (uD [(0,1),(1,1),(2,1)] [(.int .i64 (.ofNat 0)),(.int .i64 (.ofNat 0)),(.int .u64 (.ofNat 0))] []) fun Y=>
 bR (stN 3 x4 Y H) fun a7 H=>
 bV (ldN 3 x4 H) fun p=>bV (some i) fun t=>some (.ret (.tuple [p,t]),H))
 (bV (fAd 3 x6) fun Z=>
 bV (ld1 Z H) fun a0=>
 bV (lnSl a0) fun j=>
 bA (zHH 42 3 24 [(.int .i64 (.ofNat 0)),(.int .i64 (.ofNat 0)),(.int .u64 (.ofNat 0))] j j) H fun a1 H=>
 bV (fAd 3 x6) fun a2=>
 bV (ld1 a2 H) fun m=>
 bV (lnSl m) fun a3=>
 jb 0 (kL n (zE2 D n) [a,x4,x6,a1,m,a3,(.int .i64 (.ofNat 0))] H) (zLy D n)))))
def h96:Hint:=(.s .o (.s Hq (.s (.s .o Hq) (.s .o (.s Hq (.s .o (.s (.s .o (.b [0,4,6,8] (.l [0,4,6,8,49,50,51] (.s .o (.s (.cr .o .o) (.s (.b0 (.s .o (.s .o Hq))) .o)))))) (.s .o (.s .o (.s (.s .o (.c [0,4,6,11] .o .o)) (.s .o (.s Hq (.s .o (.s Hq Hr))))))))))))))
def t79:=ad (t78 D n) 96 (f96 D n)
theorem k79:KO t79:=kk k78 h96 Tryz.func96
def h116:Hint:=(.s .o (.s Hq (.s Hq Hr)))
@[irreducible] def f116:=(.mk:FY (t79 D n) D n 116 Tryz.f116 h116 []).1
def t80:=ad (t79 D n) 116 (f116 D n)
theorem k80:KO t80:=kk k79 (ms h116) Tryz.func116
def h70:Hint:=(.s .o (.s (.s .o Hq) (.s (.s .o (.b0 (.s .o (.c [0] .o (.s .o (.cr .o Hr)))))) Hr)))
@[irreducible] def zLz:=(.mk:PY (t80 D n) D n 70 Tryz.f70 h70 [] 0).1
@[irreducible] def f70:=(.mk:FY (t80 D n) D n 70 Tryz.f70 h70 [zLz D n]).1
def t81:=ad (t80 D n) 70 (f70 D n)
theorem k81:KO t81:=kk k80 (ms h70) Tryz.func70
def s43:Tb:=⟨X,[(73,f73 D n),(23,f23 D n),(96,f96 D n),(70,f70 D n)]⟩
@[irreducible] def f43l0 (D:Dyn)(n:Nat)(vs:List AV)(H:AH):Rs:=
 hd vs fun i vs=>hd vs fun j vs=>hd vs fun m vs=>hd vs fun f vs=>hd vs fun h vs=>hd vs fun a vs=>
 bV (wO .lss a h) fun o=>
 cnd o (bV (cN 1 f a) fun p=>
 bV (ld1 p H) fun q=>
 bR (f70 D n [i,q] H) fun t H=>
 bV (wO .add a (.int .i64 (.ofNat 1))) fun s=>
 some (.norm [i,j,m,f,h,s],H))
 (some (.exit 0 [j,m],H))
@[irreducible] def f43b1 (D:Dyn)(n:Nat)(vs:List AV)(H:AH):Rs:=
 hd vs fun a vs=>hd vs fun h vs=>
 bV (uD [(0,1),(1,1),(2,1)] [(.int .i64 (.ofNat 0)),(.int .i64 (.ofNat 0)),(.int .u64 (.ofNat 0))] []) fun m=>
 bR (stN 3 a m H) fun o H=>
 bV (ldN 3 a H) fun f=>bV (some .nS) fun i=>bV (some h) fun j=>some (.ret (.tuple [f,i,j]),H)
@[irreducible] def f43l2 (D:Dyn)(n:Nat)(vs:List AV)(H:AH):Rs:=
 hd vs fun a vs=>hd vs fun o vs=>hd vs fun i vs=>hd vs fun j vs=>hd vs fun m vs=>hd vs fun f vs=>
 bV (wO .lss f m) fun p=>
 cnd p (bV (cN 513 j f) fun q=>
 bV (ldN 513 q H) fun s=>
 bA (bxV 202 (.agg ([(.int .i64 (.ofNat 0))]++rep 512 [(.int .u8 (.ofNat 0))]))) H fun h H=>
 bR (stN 513 h s H) fun G H=>
 bV (uS a) fun t=>
 bV (fAd 1 t) fun u=>
 bV (ld1 u H) fun v=>
 bV (fAd 0 h) fun x=>
 bV (ld1 x H) fun y=>
 bV (fAd 1 h) fun z=>
 bV (ldN 512 z H) fun C=>
 bR (D.fn 97 [v,y,C] H) fun I H=>
 bV (wO .add f (.int .i64 (.ofNat 1))) fun F=>
 some (.norm [a,o,i,j,m,F],H))
 (some (.exit 2 [a,o,i],H))
@[irreducible] def f43b3 (D:Dyn)(n:Nat)(vs:List AV)(H:AH):Rs:=
 hd vs fun f vs=>hd vs fun h vs=>hd vs fun a vs=>
 some (.norm [f,h,a],H)
@[irreducible] def zNB (D:Dyn)(n:Nat)(vs:List AV)(H:AH):Rs:=
 hd vs fun a vs=>hd vs fun h vs=>hd vs fun f vs=>
 bV (uS a) fun j=>
 bV (fAd 7 j) fun m=>
 bV (ld1 m H) fun o=>
 bV (ldN 3 f H) fun p=>
 bV (uS a) fun q=>
 bV (fAd 2 q) fun s=>
 bR (stN 3 s p H) fun I H=>
 bV (uS a) fun t=>
 bV (fAd 7 t) fun u=>
 bR (stN 1 u .nS H) fun J H=>
 bA (mkM [10]) H fun v H=>
 bV (uS a) fun x=>
 bV (fAd 5 x) fun y=>
 bR (stN 1 y v H) fun K H=>
 bV (ldN 3 f H) fun z=>
 bR (stN 3 h z H) fun G H=>
 bV (ldN 3 h H) fun i=>bV (some o) fun C=>bV (some (.int .i64 (.ofNat 0))) fun F=>some (.ret (.tuple [i,C,F]),H)
@[irreducible] def f43 (D:Dyn)(n:Nat)(vs:List AV)(H:AH):Option (AV×AH):=
 dV (hd vs fun a vs=>hd vs fun f vs=>hd vs fun j vs=>nl vs <|
 bA (bxV 42 (.agg [(.int .i64 (.ofNat 0)),(.int .i64 (.ofNat 0)),(.int .u64 (.ofNat 0))])) H fun x6 H=>
 bR (f73 D n [a] H) fun m H=>
 jn (wnt m false (bV (dJ .eql (eqP f .nP)) fun L=>
 some (.norm [L],H)) (some (.norm [jT],H))) fun vs H=>hd vs fun z vs=>
 bV (pk3 (some m) (some (.bool true)) (some z)) fun M=>
 cnd M (bV (uD [(0,1),(1,1),(2,1)] [(.int .i64 (.ofNat 0)),(.int .i64 (.ofNat 0)),(.int .u64 (.ofNat 0))] []) fun N=>
 bR (stN 3 x6 N H) fun c2 H=>
 bV (ldN 3 x6 H) fun C=>bV (some .nS) fun x7=>bV (some (.int .i64 (.ofNat 2))) fun x8=>some (.ret (.tuple [C,x7,x8]),H))
 (bV (wO .lss j (.int .i64 (.ofNat 1))) fun o=>
 jn (wnt o false (bV (wO .gtr j (.int .i64 (.ofNat 2147483647))) fun O=>
 some (.norm [O],H)) (some (.norm [jT],H))) fun vs H=>hd vs fun F vs=>
 bV (pk3 (some o) (some (.bool true)) (some F)) fun Q=>
 cnd Q (bV (uD [(0,1),(1,1),(2,1)] [(.int .i64 (.ofNat 0)),(.int .i64 (.ofNat 0)),(.int .u64 (.ofNat 0))] []) fun S=>
 bR (stN 3 x6 S H) fun b9 H=>
 bV (ldN 3 x6 H) fun x=>bV (some .nS) fun G=>bV (some (.int .i64 (.ofNat 1))) fun I=>some (.ret (.tuple [x,G,I]),H))
 (bV (uS a) fun T=>
 bV (fAd 5 T) fun p=>
 bV (ld1 p H) fun q=>
 bR (f23 D n [f] H) fun U H=>chk (ld1 p H) q <|
 bV (K0 q H) fun V=>
 bV (wO .lss U V) fun W=>
 cnd W (bV (uD [(0,1),(1,1),(2,1)] [(.int .i64 (.ofNat 0)),(.int .i64 (.ofNat 0)),(.int .u64 (.ofNat 0))] []) fun Y=>
 bR (stN 3 x6 Y H) fun c0 H=>
 bV (ldN 3 x6 H) fun y=>bV (some .nS) fun J=>bV (some (.int .i64 (.ofNat 3))) fun K=>some (.ret (.tuple [y,J,K]),H))
 (bV (uS a) fun Z=>
 bV (fAd 5 Z) fun a0=>
 bV (ld1 a0 H) fun a1=>
 bV (K0 a1 H) fun a2=>
 bV (uD [(0,1),(1,1),(2,1),(3,1),(4,1),(5,1)] [.nP, .nP,(.int .i64 (.ofNat 0)),(.int .i64 (.ofNat 0)), .nS, .nS] [(0,a),(1,f),(2,j),(3,a2)]) fun a3=>
 bA (bxV 198 a3) H fun h H=>
 bV (uS a) fun a4=>
 bV (fAd 2 a4) fun a5=>
 bV (ldN 3 a5 H) fun a6=>
 bR (f96 D n [h,a6] H) fun s H=>
 bV (jR s 0) fun a7=>
 bV (jR s 1) fun t=>
 bA (bxV 42 (.agg [(.int .i64 (.ofNat 0)),(.int .i64 (.ofNat 0)),(.int .u64 (.ofNat 0))])) H fun i H=>
 bR (stN 3 i a7 H) fun c1 H=>
 bV (wO .neq t (.int .i64 (.ofNat 0))) fun a8=>
 cnd a8 (bV (uS h) fun a9=>
 bV (fAd 4 a9) fun b0=>
 bV (ld1 b0 H) fun u=>
 bV (lnSl u) fun b1=>
 jb 0 (kL n (f43l0 D n) [f,x6,t,u,b1,(.int .i64 (.ofNat 0))] H) (f43b1 D n))
 (bV (uS a) fun b2=>
 bV (fAd 1 b2) fun b3=>
 bV (ld1 b3 H) fun b4=>
 bV (dJ .neq (eqP b4 .nP)) fun b5=>
 jn (cnd b5 (bV (uS h) fun b6=>
 bV (fAd 5 b6) fun b7=>
 bV (ld1 b7 H) fun v=>
 bV (lnSl v) fun b8=>
 jb 2 (kL n (f43l2 D n) [a,x6,i,v,b8,(.int .i64 (.ofNat 0))] H) (f43b3 D n))
 (some (.norm [a,x6,i],H))) (zNB D n))))))
def h43:Hint:=(.s .o (.s Hq (.s Hq (.s Hq (.s .o (.s .o (.s (.s .o (.cl (.s (.s .o (.b [6,11] (.l [1,6,11,64,65,66] (.s .o (.s (.cr .o .o) (.s (.b0 Hr) .o)))))) Hr) .o)) (.s (.s .o (.c [0,6,10] (.s .o (.b [0,6,10] (.l [0,6,10,84,85,86] (.s .o (.s (.cr .o .o) (.s (.b0 Hr) .o)))))) .o)) (.s .o (.s .o (.s .o Hr)))))))))))
def t82:=ad (t81 D n) 43 (f43 D n)
theorem k82:KO t82:=kk k81 h43 Tryz.func43
def h84:Hint:=(.s .o (.s Hq (.s .o (.s Hq (.s (.c [11,2047,23,8388607,25,33554431] (.l [0,1,2,3,4,5,6,7,8,9,10,12,13,14,15,16,17,18,19,20,21,22,11,23,24,25,26] .o) .o) .o)))))
@[irreducible] def f84:=(.mk:FY (t82 D n) D n 84 Tryz.f84 h84 []).1
def t83:=ad (t82 D n) 84 (f84 D n)
theorem k83:KO t83:=kk k82 (ms h84) Tryz.func84
def h83:Hint:=(.s .o Hr)
@[irreducible] def f83:=(.mk:FY (t83 D n) D n 83 Tryz.f83 h83 []).1
def t84:=ad (t83 D n) 83 (f83 D n)
theorem k84:KO t84:=kk k83 (ms h83) Tryz.func83
def h29:Hint:=(.s .o (.s Hq (.s Hq Hr)))
@[irreducible] def f29:=(.mk:FY (t84 D n) D n 29 Tryz.f29 h29 []).1
def t85:=ad (t84 D n) 29 (f29 D n)
theorem k85:KO t85:=kk k84 (ms h29) Tryz.func29
def h13:Hint:=(.s .o (.s .o (.s .o (.s .o (.s Hq (.s .o (.s .o (.s Hq (.s .o (.s (.c [21,2097151,26,67108863,31,2147483647,36,68719476735] (.l [0,1,2,3,4,5,6,7,8,9,10,11,12,13,14,15,16,17,18,19,20,21,22,23,24,25,26,27,28,29,30,31,32,33,34,35,37,36,38,39,40] .o) .o) .o))))))))))
@[irreducible] def f13:=(.mk:FY (t85 D n) D n 13 Tryz.f13 h13 []).1
theorem zGm (a:DG A)(n:Nat):FI 13 (f13 A n):=fk n (ms h13) a (k85 a n) Tryz.func13
def t86:=ad (t85 D n) 13 (f13 D n)
theorem k86:KO t86:=kc k85 zGm
def h14:Hint:=(.s .o (.s .o (.s (.s .o (.b [1,0,3] (.l [0,0,3,4] (.s (.s .o (.cr .o .o)) (.s (.b0 (.s Hq (.b [] .o))) .o))))) Hr)))
@[irreducible] def YH:=(.mk:PY (t86 D n) D n 14 Tryz.f14 h14 [] 0).1
@[irreducible] def zLG:=(.mk:PY (t86 D n) D n 14 Tryz.f14 h14 [YH D n] 1).1
@[irreducible] def f14:=(.mk:FY (t86 D n) D n 14 Tryz.f14 h14 [YH D n,zLG D n]).1
theorem zJX (a:DG A)(n:Nat):FI 14 (f14 A n):=fk n (ms h14) a (k86 a n) Tryz.func14
def t87:=ad (t86 D n) 14 (f14 D n)
theorem k87:KO t87:=kc k86 zJX
def h36:Hint:=(.s .o (.s Hq Hr))
@[irreducible] def f36:=(.mk:FY (t87 D n) D n 36 Tryz.f36 h36 []).1
def t88:=ad (t87 D n) 36 (f36 D n)
theorem k88:KO t88:=kk k87 (ms h36) Tryz.func36
def h15:Hint:=(.s .o (.s .o (.s .o (.s .o (.s .o (.s Hq Hr))))))
@[irreducible] def f15:=(.mk:FY (t88 D n) D n 15 Tryz.f15 h15 []).1
theorem zJW (a:DG A)(n:Nat):FI 15 (f15 A n):=fk n (ms h15) a (k88 a n) Tryz.func15
def t89:=ad (t88 D n) 15 (f15 D n)
theorem k89:KO t89:=kc k88 zJW
def h22:Hint:=(.s .o (.s .o (.s (.b [1,5] (.l [0,0,1,5] (.s (.s .o (.cr .o .o)) (.b0 .o)))) Hr)))
@[irreducible] def zE3:=(.mk:PY (t89 D n) D n 22 Tryz.f22 h22 [] 0).1
@[irreducible] def zNG:=(.mk:PY (t89 D n) D n 22 Tryz.f22 h22 [zE3 D n] 1).1
@[irreducible] def f22:=(.mk:FY (t89 D n) D n 22 Tryz.f22 h22 [zE3 D n,zNG D n]).1
def t90:=ad (t89 D n) 22 (f22 D n)
theorem k90:KO t90:=kk k89 (ms h22) Tryz.func22
def h16:Hint:=(.s .o (.s .o (.s (.b [] .o) (.s .o (.s (.s .o (.cl (.s (.b [8,255] .o) (.s Hq (.s .o (.s (.s .o (.c [0,8] (.c [8,254,11,2046,19,524286,22,4194303] (.l [0,1,2,3,4,5,6,7,9,10,12,13,14,15,16,17,18,8,11,19,20,21,22] .o) .o) (.c [8,254,11,2046,18,262142,21,2097151] (.l [0,1,2,3,4,5,6,7,9,10,12,13,14,15,16,17,8,11,18,19,20,21] .o) .o))) Hr)))) .o)) (.s (.b [6,63] .o) (.s Hq (.s Hq (.s (.c [8,254,16,65534,19,524287] (.l [0,1,2,3,4,5,6,7,9,10,11,12,13,14,15,8,16,17,18,19] .o) .o) Hr)))))))))
@[irreducible] def zLE:=(.mk:PY (t90 D n) D n 16 Tryz.f16 h16 [] 0).1
@[irreducible] def f16:=(.mk:FY (t90 D n) D n 16 Tryz.f16 h16 [zLE D n]).1
theorem zJV (a:DG A)(n:Nat):FI 16 (f16 A n):=fk n (ms h16) a (k90 a n) Tryz.func16
def t91:=ad (t90 D n) 16 (f16 D n)
theorem k91:KO t91:=kc k90 zJV
def h30:Hint:=(.s .o (.s Hq (.s Hq (.s .o (.s (.s .o (.b [1] (.l [0,0,4,21,22] (.s .o (.s (.cr .o .o) (.s (.b0 (.s .o (.s .o (.s Hq (.s Hq .o))))) .o)))))) Hr)))))
@[irreducible] def zGb:=(.mk:PY (t91 D n) D n 30 Tryz.f30 h30 [] 0).1
@[irreducible] def f30b1:=(.mk:PY (t91 D n) D n 30 Tryz.f30 h30 [zGb D n] 1).1
@[irreducible] def f30:=(.mk:FY (t91 D n) D n 30 Tryz.f30 h30 [zGb D n,f30b1 D n]).1
theorem zJN (a:DG A)(n:Nat):FI 30 (f30 A n):=fk n (ms h30) a (k91 a n) Tryz.func30
def t92:=ad (t91 D n) 30 (f30 D n)
theorem k92:KO t92:=kc k91 zJN
def h61:Hint:=(.s .o (.s Hq (.s Hq (.s .o (.s Hq (.s (.c [4,12,7,124,10,1020,12,4095] (.l [0,1,2,3,5,6,8,9,4,7,10,11,12,13] .o) .o) .o))))))
@[irreducible] def f61:=(.mk:FY (t92 D n) D n 61 Tryz.f61 h61 []).1
def t93:=ad (t92 D n) 61 (f61 D n)
theorem k93:KO t93:=kk k92 (ms h61) Tryz.func61
def h31:Hint:=(.s .o (.s .o (.s Hq (.s (.s .o (.b [5,0,2,3,11] (.l [0,0,2,3,4,11,13] (.s (.s .o (.cr .o .o)) (.s (.b0 Hq) .o))))) (.s Hq (.s .o (.s (.s .o (.b [4,14] (.l [3,0,2,3,11,14,15] (.s (.s .o (.cr .o .o)) (.s (.b0 (.s .o (.s .o (.s (.s .o (.c [2,0,2,3,11,14,15,16,17] .o .o)) (.s (.s .o (.c [1,0,2,3,11,14,15,16,17] .o .o)) (.s .o (.s Hq .o))))))) .o))))) Hr)))))))
@[irreducible] def ZI:=(.mk:PY (t93 D n) D n 31 Tryz.f31 h31 [] 0).1
@[irreducible] def zAD:=(.mk:PY (t93 D n) D n 31 Tryz.f31 h31 [ZI D n] 1).1
@[irreducible] def zBZ:=(.mk:PY (t93 D n) D n 31 Tryz.f31 h31 [ZI D n,zAD D n] 2).1
@[irreducible] def zBY:=(.mk:PY (t93 D n) D n 31 Tryz.f31 h31 [ZI D n,zAD D n,zBZ D n] 3).1
@[irreducible] def zLB:=(.mk:PY (t93 D n) D n 31 Tryz.f31 h31 [ZI D n,zAD D n,zBZ D n,zBY D n] 4).1
@[irreducible] def zII:=(.mk:PY (t93 D n) D n 31 Tryz.f31 h31 [ZI D n,zAD D n,zBZ D n,zBY D n,zLB D n] 5).1
@[irreducible] def f31:=(.mk:FY (t93 D n) D n 31 Tryz.f31 h31 [ZI D n,zAD D n,zBZ D n,zBY D n,zLB D n,zII D n]).1
theorem zJM (a:DG A)(n:Nat):FI 31 (f31 A n):=fk n (ms h31) a (k93 a n) Tryz.func31
def t94:=ad (t93 D n) 31 (f31 D n)
theorem k94:KO t94:=kc k93 zJM
def s117:Tb:=⟨X,[(168,f168 D n),(86,f86 D n)]⟩
def h117:Hint:=(.s .o (.s .o (.b0 (.rf 0 [3,5]))))
@[irreducible] def f117:=(.mk:FY (s117 D n) D n 117 Tryz.f117 h117 []).1
theorem zLM (a:DG A)(n:Nat):FI 117 (f117 A n):=fk n (ms h117) a (sc (KD a n) (sc (zAz a n) sn)) Tryz.func117
def t95:=ad (t94 D n) 117 (f117 D n)
theorem k95:KO t95:=kc k94 zLM
def zFi:Hint:= .o
def zFh:Hint:=(.b0 .o)
@[irreducible] def WZ:=(.mk:RY (s117 D n) D n 117 0 [3,5] [] zFi zFh []).1
theorem zFk (D:Dyn)(n:Nat):WZ D n=zMq (s117 D n) D n 117 0 [3,5] [] (ms zFi) (ms zFh):=by kernel_rfl
theorem zFj (a:DG A)(n:Nat):RS 117 0 (WZ A n):=VT X_ok a (sc (KD a n) (sc (zAz a n) sn)) (by kernel_rfl) (zFk A n)
def h71:Hint:=(.s .o (.c [0] Hr .o))
@[irreducible] def zNz:=(.mk:PY (t95 D n) D n 71 Tryz.f71 h71 [] 0).1
@[irreducible] def f71:=(.mk:FY (t95 D n) D n 71 Tryz.f71 h71 [zNz D n]).1
def t96:=ad (t95 D n) 71 (f71 D n)
theorem k96:KO t96:=kk k95 (ms h71) Tryz.func71
def h17:Hint:=(.s .o (.s .o (.s (.c [12,4095,18,163839] (.l [0,1,2,3,4,5,6,7,8,9,10,11,17,12,13,14,15,16,18,19,20] .o) .o) (.s (.s .o (.b [1,0,7] (.l [0,0,1,6,7,8] (.s (.s .o (.cr .o .o)) (.s (.b0 (.s (.b [9,511] .o) (.cl Hr .o))) .o))))) (.s .o Hr)))))
@[irreducible] def zGh:=(.mk:PY (t96 D n) D n 17 Tryz.f17 h17 [] 0).1
@[irreducible] def zNI:=(.mk:PY (t96 D n) D n 17 Tryz.f17 h17 [zGh D n] 1).1
@[irreducible] def f17:=(.mk:FY (t96 D n) D n 17 Tryz.f17 h17 [zGh D n,zNI D n]).1
theorem zJR (a:DG A)(n:Nat):FI 17 (f17 A n):=fk n (ms h17) a (k96 a n) Tryz.func17
def t97:=ad (t96 D n) 17 (f17 D n)
theorem k97:KO t97:=kc k96 zJR
def h6:Hint:=(.s .o (.s Hq (.s .o (.s Hq (.s (.s .o (.b [1] (.l [0,0,3,4] (.s (.s .o (.cr .o .o)) (.s (.b0 (.s Hq (.s .o (.s (.s (.c [25,31588351,26,67108863] (.l [0,1,2,3,4,5,6,7,8,9,10,11,12,13,14,15,16,17,18,19,20,21,22,23,24,27,25,26,28,29,30] .o) .o) (.cl Hr .o)) Hq)))) .o))))) Hr)))))
@[irreducible] def f6l0:=(.mk:PY (t97 D n) D n 6 Tryz.f6 h6 [] 0).1
@[irreducible] def f6b1:=(.mk:PY (t97 D n) D n 6 Tryz.f6 h6 [f6l0 D n] 1).1
@[irreducible] def f6:=(.mk:FY (t97 D n) D n 6 Tryz.f6 h6 [f6l0 D n,f6b1 D n]).1
def t98:=ad (t97 D n) 6 (f6 D n)
theorem k98:KO t98:=kk k97 (ms h6) Tryz.func6
end Go.Eng.Sh
end
end
section
noncomputable section
namespace Go.Eng.Sh
open Go.Proofs
set_option maxRecDepth 100000
def tab (D:Dyn)(n:Nat):=(t98 D n).S
def tabR (D:Dyn)(n:Nat):List ((Nat×Nat)×(Nat->ALoop->List AV->AH->Option (AV×AH))):=[((41,0),zKW D n),((117,0),WZ D n),((195,0),WY D n)]
theorem zMM(a:DG D):SOk (tab D n):=k98 a n
theorem zKr(a:DG D):ROk (tabR D n):=ROk.cons (zIb a n) (ROk.cons (zFj a n) (ROk.cons (zFf a n) (ROk.nil)))
def dy (n:Nat):Dyn:=dyOf tab tabR n
theorem dy_ok (n:Nat):DG (dy n):=zGG zMM zKr n
end Go.Eng.Sh
end
end
section
noncomputable section
namespace Go.Eng.Sh
open Go.Proofs
set_option maxRecDepth 1000000
theorem c13_r:zKM (f13 (dy 100000) 100000 [] ⟨.leaf,0⟩)=true:=by kernel_rfl
theorem c13 (w:World):Calls PP 13 #[] w fun e a=>e= .returned (.bool true)/\RowKit.Below w.heap.size w a:=zJ1 (zGm (dy_ok 100000) 100000) c13_r w
end Go.Eng.Sh
end
end
section
noncomputable section
namespace Go.Eng.Sh
open Go.Proofs
set_option maxRecDepth 1000000
def z13 (D:Dyn)(n:Nat)(vs:List AV)(H:AH):Option (AV×AH):=cloK (f13 D n) vs H
theorem zMD (a:DG A)(n:Nat):FI 13 (z13 A n):=zM3 ⟨_,Tryz.func13,rfl⟩ c13 (zGm a n)
variable (D:Dyn)(n:Nat)
attribute [local irreducible] bV bR hd cnd jn jb kL wnt chk B7 bA wO ZV QX dJ eqP eqS eqM eqF eqA zNN ldN ld1 stN cvI zNS zE9 zLZ VL vD xK bG cN WD zBN zFP fd1 fdN fAd WC lnSl K0 apP apZ cpy uD zKf pk3 s2a bxV Q2 zHH lkM upM dlM mkM callV nl dV tld zLQ dL zAM aH zEk rfC mn2 mx2 aun jR uS jT isW aveq bU zNa z13
def s6z:Tb:=⟨X,[(13,z13 D n),(14,f14 D n),(15,f15 D n),(16,f16 D n),(30,f30 D n),(19,f19 D n),(31,f31 D n),(17,f17 D n)]⟩
def h6z:Hint:=(.s .o (.s Hq (.s .o (.s Hq (.s (.s .o (.b [1] (.l [0,0,3,4] (.s (.s .o (.cr .o .o)) (.s (.b0 (.s Hq (.s .o (.s (.s (.c [25,31588351,26,67108863] (.l [0,1,2,3,4,5,6,7,8,9,10,11,12,13,14,15,16,17,18,19,20,21,22,23,24,27,25,26,28,29,30] .o) .o) (.cl Hr .o)) Hq)))) .o))))) Hr)))))
@[irreducible] def zAB:=(.mk:PY (s6z D n) D n 6 Tryz.f6 h6z [] 0).1
@[irreducible] def zNA:=(.mk:PY (s6z D n) D n 6 Tryz.f6 h6z [zAB D n] 1).1
@[irreducible] def f6z:=(.mk:FY (s6z D n) D n 6 Tryz.f6 h6z [zAB D n,zNA D n]).1
theorem f6z_ok (a:DG A)(n:Nat):FI 6 (f6z A n):=fk n (ms h6z) a (sc (zMD a n) (sc (zJX a n) (sc (zJW a n) (sc (zJV a n) (sc (zJN a n) (sc (zJP a n) (sc (zJM a n) (sc (zJR a n) sn)))))))) Tryz.func6
end Go.Eng.Sh
end
end
section
namespace Go.Nd
abbrev Str:=List UInt8
structure Ptr where
 at_:Int
 birth:Int
 sum:Int
 deriving DecidableEq
structure Node where
 leaf:Bool
 keys:List Str
 vals:List Str
 kids:List Ptr
 deriving DecidableEq
def be:Nat->Nat->Str
 | 0,_=>[]
 | k+1,n=>be k (n / 256)++[UInt8.ofNat n]
def bee (l:Str):Nat:=l.foldl (fun n c=>n*256+c.toNat) 0
theorem be_length: ∀k n,(be k n).length=k
 | 0,_=>rfl
 | k+1,n=>by simp[be,be_length k]
theorem bee_snoc (l:Str)(c:UInt8):bee (l++[c])=bee l*256+c.toNat:=by simp[bee]
theorem bee_be: ∀k n,bee (be k n)=n % 256 ^ k
 | 0,n=>by simp[be,bee,Nat.mod_one]
 | k+1,n=>by
  rw[be,bee_snoc,bee_be k,Nat.pow_succ,Nat.mul_comm (256 ^ k) 256,Nat.mod_mul];simp[UInt8.toNat_ofNat'];omega
theorem zDg (l:Str):be l.length (bee l)=l:=by
 suffices h: ∀(m:Nat) (l:Str),l.length=m->be m (bee l)=l from h _ l rfl
 intro m
 induction m with
 | zero=>intro l h;rw[zR h];rfl
 | succ m ih=>
  intro l h;obtain⟨l',c,rfl⟩: ∃l' c,l=l'++[c]:=⟨l.dropLast,l.getLast (by intro e;simp[e]at h),(List.dropLast_concat_getLast _).symm⟩;simp only[zV,jF,Nat.add_right_cancel_iff]at h;have a:c.toNat<256:=c.toNat_lt;rw[bee_snoc,be,show(bee l'*256+c.toNat) / 256=bee l' from by omega,ih l' h];congr 2;apply UInt8.toNat_inj.1;rw[UInt8.toNat_ofNat'];omega
theorem bee_lt (l:Str):bee l<256 ^ l.length:=by
 have:=bee_be l.length (bee l);rw[zDg]at this;rw[this];exact Nat.mod_lt _ (Nat.pow_pos (by omega))
def mayP (p:Ptr):Bool:=if p.at_=0 then decide (p.birth=0)&&decide (p.sum=0)else decide (0<p.at_)&&decide (p.at_<8192)&&decide (0<=p.birth)&&decide (p.birth<=2147483647)
def QQ (p:Ptr):Str:=be 4 p.at_.toNat++(be 4 p.birth.toNat++be 8 p.sum.toNat)
def xR (s:Str):Ptr:=⟨(bee (s.take 4):Nat),(bee ((s.drop 4).take 4):Nat),(bee (s.drop 8):Nat)⟩
def decP (s:Str):Option Ptr:=if mayP (xR s)then some (xR s)else none
theorem encP_length (p:Ptr):(QQ p).length=16:=by simp[QQ,be_length]
def sumOk (p:Ptr):Prop:=0<=p.sum/\p.sum<18446744073709551616
theorem zDQ {p:Ptr}(h:mayP p=true)(f:sumOk p):xR (QQ p)=p:=by
 obtain⟨a,b,s⟩:=p;have i:(QQ ⟨a,b,s⟩).take 4=be 4 a.toNat:=by simp[QQ,be_length]
 have j:((QQ ⟨a,b,s⟩).drop 4).take 4=be 4 b.toNat:=by
  rw[QQ,j6 (by simp[be_length]),jA (by simp[be_length])]
 have m:(QQ ⟨a,b,s⟩).drop 8=be 8 s.toNat:=by
  rw[QQ,<-qH,j6 (by simp[be_length])]
 simp only[xR,i,j,m,bee_be];simp only[sumOk]at f;simp only[mayP]at h;split at h
 .simp only[zF,zQ]at h;simp_all
 .simp only[zF,zQ]at h;congr 1<;>omega
theorem zE5 {s:Str}(h:s.length=16):QQ (xR s)=s:=by
 have a:=zDg (s.take 4);have f:=zDg ((s.drop 4).take 4);have i:=zDg (s.drop 8);rw[show(s.take 4).length=4 from by simp;omega]at a;rw[show((s.drop 4).take 4).length=4 from by simp;omega]at f;rw[show(s.drop 8).length=8 from by simp;omega]at i;simp only[QQ,xR,yD,a,f,i];rw[show s.drop 8=(s.drop 4).drop 4 from by rw[List.drop_drop],qW,qW]
theorem zFn {s:Str}(h:s.length=16):sumOk (xR s):=by
 have:=bee_lt (s.drop 8);rw[show(s.drop 8).length=8 from by simp;omega]at this;simp only[sumOk,xR];omega
def encT (s:Str):Str:=UInt8.ofNat s.length::s
def mayK (k:Str):Bool:=decide (1<=k.length)&&decide (k.length<=40)
def rising (lt:Str->Str->Bool):List Str->Bool
 | []=>true
 | [_]=>true
 | a::b::l=>lt a b&&rising lt (b::l)
def kidOk (p:Ptr):Bool:=decide (1<=p.at_)&&decide (p.at_<8192)&&decide (0<=p.birth)&&decide (p.birth<=2147483647)
theorem kidOk_may {p:Ptr}(h:kidOk p=true):mayP p=true:=by
 simp only[kidOk,zF,zQ]at h;simp only[mayP];rw[if_neg (by omega)];simp only[zF,zQ];omega
def shaped (lt:Str->Str->Bool)(n:Node):Bool:=
 n.keys.all mayK&&rising lt n.keys&&
 (if n.leaf then decide (n.vals.length=n.keys.length)&&decide (n.kids=[])&&n.vals.all (fun v=>decide (v.length<=200))
  else decide (n.keys≠[])&&decide (n.vals=[])&&decide (n.kids.length=n.keys.length+1)&&n.kids.all kidOk)
def sumL (l:List Str):Nat:=l.foldl (fun n s=>n+(1+s.length)) 0
theorem BL (l:List Str)(a:Nat):l.foldl (fun n s=>n+(1+s.length)) a=a+sumL l:=by
 induction l generalizing a with
 | nil=>simp[sumL]
 | cons s l ih=>simp only[List.foldl_cons,sumL];rw[ih,ih];omega
theorem sumL_cons (s:Str)(l:List Str):sumL (s::l)=1+s.length+sumL l:=by
 simp only[sumL,List.foldl_cons];rw[BL,BL];simp[sumL]
theorem sumL_append (l m:List Str):sumL (l++m)=sumL l+sumL m:=by
 induction l with
 | nil=>simp[sumL]
 | cons s l ih=>rw[qF,sumL_cons,sumL_cons,ih];omega
def size (n:Node):Nat:=2+16*n.kids.length+sumL n.keys+sumL n.vals
def may (lt:Str->Str->Bool)(n:Node):Bool:=shaped lt n&&decide (size n<=500)
def encL:List Str->List Str->Str
 | k::ks,v::vs=>encT k++(encT v++encL ks vs)
 | _,_=>[]
def encI:List Str->List Ptr->Str
 | k::ks,p::ps=>encT k++(QQ p++encI ks ps)
 | _,_=>[]
def encB (n:Node):Str:=if n.leaf then encL n.keys n.vals else match n.kids with
 | p::ps=>QQ p++encI n.keys ps
 | []=>[]
def encN (n:Node):Str:=be 2 n.keys.length++encB n
def xX:Str->Option (Str×Str)
 | []=>none
 | c::r=>if c.toNat<=r.length then some (r.take c.toNat,r.drop c.toNat)else none
def fO (s:Str):Option (Ptr×Str):=if 16<=s.length then match decP (s.take 16)with | some p=>some (p,s.drop 16) | none=>none else none
def YS:Nat->Str->Option (List Str×List Str×Str)
 | 0,s=>some ([],[],s)
 | k+1,s=>match xX s with
  | some (a,s)=>match xX s with
   | some (b,s)=>match YS k s with
    | some (ks,vs,s)=>some (a::ks,b::vs,s)
    | none=>none
   | none=>none
  | none=>none
def YT:Nat->Str->Option (List Str×List Ptr×Str)
 | 0,s=>some ([],[],s)
 | k+1,s=>match xX s with
  | some (a,s)=>match fO s with
   | some (b,s)=>match YT k s with
    | some (ks,vs,s)=>some (a::ks,b::vs,s)
    | none=>none
   | none=>none
  | none=>none
theorem decL_snoc: ∀(k:Nat) (s:Str),YS (k+1) s=(YS k s).bind fun x=>(xX x.2.2).bind fun a=>(xX a.2).bind fun b=>some (x.1++[a.1],x.2.1++[b.1],b.2)
 | 0,s=>by
  simp only[YS,yJ]
  cases xX s with
  | none=>rfl
  | some a=>obtain⟨a,f⟩:=a;simp only[yJ];cases xX f with
   | none=>rfl
   | some b=>rfl
 | k+1,s=>by
  rw[YS]
  conv=>rhs;rw[YS]
  cases xX s with
  | none=>rfl
  | some a=>
   obtain⟨a,f⟩:=a;simp only
   cases xX f with
   | none=>rfl
   | some b=>
    obtain⟨b,h⟩:=b;simp only;rw[decL_snoc k h]
    cases YS k h with
    | none=>rfl
    | some x=>
     obtain⟨ks,vs,r⟩:=x;simp only[yJ]
     cases xX r with
     | none=>rfl
     | some c=>obtain⟨c,i⟩:=c;simp only[yJ];cases xX i with
      | none=>rfl
      | some d=>rfl
theorem decI_snoc: ∀(k:Nat) (s:Str),YT (k+1) s=(YT k s).bind fun x=>(xX x.2.2).bind fun a=>(fO a.2).bind fun b=>some (x.1++[a.1],x.2.1++[b.1],b.2)
 | 0,s=>by
  simp only[YT,yJ]
  cases xX s with
  | none=>rfl
  | some a=>obtain⟨a,f⟩:=a;simp only[yJ];cases fO f with
   | none=>rfl
   | some b=>rfl
 | k+1,s=>by
  rw[YT]
  conv=>rhs;rw[YT]
  cases xX s with
  | none=>rfl
  | some a=>
   obtain⟨a,f⟩:=a;simp only
   cases fO f with
   | none=>rfl
   | some b=>
    obtain⟨b,h⟩:=b;simp only;rw[decI_snoc k h]
    cases YT k h with
    | none=>rfl
    | some x=>
     obtain⟨ks,vs,r⟩:=x;simp only[yJ]
     cases xX r with
     | none=>rfl
     | some c=>obtain⟨c,i⟩:=c;simp only[yJ];cases fO i with
      | none=>rfl
      | some d=>rfl
theorem decL_all (s:Str)(k:Nat):(List.range k).all (fun i=>(YS (i+1) s).isSome)=(YS k s).isSome:=by
 induction k with
 | zero=>simp[YS]
 | succ k ih=>
  rw[List.range_succ,List.all_append,ih];simp only[List.all_cons,List.all_nil,Bool.and_true];rw[decL_snoc]
  cases YS k s<;>simp
theorem decI_all (s:Str)(k:Nat):(List.range k).all (fun i=>(YT (i+1) s).isSome)=(YT k s).isSome:=by
 induction k with
 | zero=>simp[YT]
 | succ k ih=>
  rw[List.range_succ,List.all_append,ih];simp only[List.all_cons,List.all_nil,Bool.and_true];rw[decI_snoc]
  cases YT k s<;>simp
def decB (leaf:Bool)(k:Nat)(s:Str):Option (Node×Str):=
 if leaf then match YS k s with
  | some (ks,vs,s)=>some (⟨true,ks,vs,[]⟩,s)
  | none=>none
 else match fO s with
  | some (p,s)=>match YT k s with
   | some (ks,ps,s)=>some (⟨false,ks,[],p::ps⟩,s)
   | none=>none
  | none=>none
def decN (lt:Str->Str->Bool)(leaf:Bool)(s:Str):Option Node:=
 if s.length<=500/\2<=s.length then match decB leaf (bee (s.take 2)) (s.drop 2)with
  | some (n,r)=>if r=[]/\may lt n=true then some n else none
  | none=>none
 else none
theorem JC (s r:Str)(h:s.length<256):xX (encT s++r)=some (s,r):=by
 have e:(UInt8.ofNat s.length).toNat=s.length:=by rw[UInt8.toNat_ofNat'];omega
 simp only[encT,qF,xX,e];rw[if_pos (by simp)];simp
theorem VG {s a r:Str}(h:xX s=some (a,r)):s=encT a++r/\a.length<256:=by
 cases s with
 | nil=>simp[xX]at h
 | cons c s=>
  simp only[xX]at h;split at h
  .simp only[zC,zT]at h;obtain⟨rfl,rfl⟩:=h;have f:c.toNat<256:=c.toNat_lt;have hl:(s.take c.toNat).length=c.toNat:=by simp;omega
   refine⟨?_,by omega⟩;simp only[encT,hl,qF,qW];congr 1;apply UInt8.toNat_inj.1;rw[UInt8.toNat_ofNat'];omega
  .simp at h
theorem BG {p:Ptr}(r:Str)(h:mayP p=true)(a:sumOk p):fO (QQ p++r)=some (p,r):=by
 have hl:=encP_length p;have f:(QQ p++r).take 16=QQ p:=jA hl;have i:(QQ p++r).drop 16=r:=j6 hl;simp only[fO,f,i];rw[if_pos (by simp[hl])];simp only[decP,zDQ h a,h,if_true]
theorem takeP_eq {s r:Str}{p:Ptr}(h:fO s=some (p,r)):s=QQ p++r/\mayP p=true/\sumOk p:=by
 simp only[fO]at h;split at h
 .rename_i hl;split at h
  .rename_i q a;simp only[zC,zT]at h;obtain⟨rfl,rfl⟩:=h;have f:(s.take 16).length=16:=by simp;omega
   simp only[decP]at a;split at a
   .rename_i hm;simp only[zC]at a;subst a;exact⟨by rw[zE5 f,qW],hm,zFn f⟩
   .simp at a
  .simp at h
 .simp at h
theorem encL_snoc: ∀(ks vs:List Str) (k v:Str),ks.length=vs.length->encL (ks++[k]) (vs++[v])=encL ks vs++(encT k++encT v)
 | [],[],k,v,_=>by simp[encL]
 | [],_::_,_,_,h=>by simp at h
 | _::_,[],_,_,h=>by simp at h
 | a::ks,b::vs,k,v,h=>by simp[encL,encL_snoc ks vs k v (by simpa using h)]
theorem encI_snoc: ∀(ks:List Str) (vs:List Ptr) (k:Str) (v:Ptr),ks.length=vs.length->encI (ks++[k]) (vs++[v])=encI ks vs++(encT k++QQ v)
 | [],[],k,v,_=>by simp[encI]
 | [],_::_,_,_,h=>by simp at h
 | _::_,[],_,_,h=>by simp at h
 | a::ks,b::vs,k,v,h=>by simp[encI,encI_snoc ks vs k v (by simpa using h)]
theorem zD5: ∀(ks vs:List Str),ks.length=vs.length->(∀k∈ks,k.length<256)->(∀v∈vs,v.length<256)->YS ks.length (encL ks vs)=some (ks,vs,[])
 | [],[],_,_,_=>rfl
 | [],_::_,h,_,_=>by simp at h
 | _::_,[],h,_,_=>by simp at h
 | k::ks,v::vs,h,hk,hv=>by
  have f:=zD5 ks vs (by simpa using h) (fun x a=>hk x (zE _ a)) (fun x a=>hv x (zE _ a));simp only[zY,YS,encL,JC k _ (hk k (zJ ..)),JC v _ (hv v (zJ ..)),f]
theorem zD6: ∀(ks:List Str) (a:List Ptr),ks.length=a.length->(∀k∈ks,k.length<256)->(∀p∈a,mayP p=true/\sumOk p)->YT ks.length (encI ks a)=some (ks,a,[])
 | [],[],_,_,_=>rfl
 | [],_::_,h,_,_=>by simp at h
 | _::_,[],h,_,_=>by simp at h
 | k::ks,v::vs,h,hk,hv=>by
  have j:=zD6 ks vs (by simpa using h) (fun x f=>hk x (zE _ f)) (fun x f=>hv x (zE _ f));have i:=hv v (zJ ..);simp only[zY,YT,encI,JC k _ (hk k (zJ ..)),BG _ i.1 i.2,j]
theorem decL_eq: ∀ {k:Nat} {s:Str} {ks vs:List Str} {r:Str},YS k s=some (ks,vs,r)->s=encL ks vs++r/\ks.length=k/\vs.length=k
 | 0,s,ks,vs,r,h=>by
  simp only[YS,zC,zT]at h;obtain⟨rfl,rfl,rfl⟩:=h;simp[encL]
 | k+1,s,ks,vs,r,h=>by
  simp only[YS]at h;split at h
  .rename_i a q f;split at h
   .rename_i b t i;split at h
    .rename_i p vs' u j;simp only[zC,zT]at h;obtain⟨rfl,rfl,rfl⟩:=h;obtain⟨rfl,_⟩:=VG f;obtain⟨rfl,_⟩:=VG i;obtain⟨rfl,m,o⟩:=decL_eq j;exact⟨by simp[encL],by simp[m],by simp[o]⟩
    .simp at h
   .simp at h
  .simp at h
theorem decI_eq: ∀ {k:Nat} {s:Str} {ks:List Str} {vs:List Ptr} {r:Str},YT k s=some (ks,vs,r)->s=encI ks vs++r/\ks.length=k/\vs.length=k/\ ∀p∈vs,sumOk p
 | 0,s,ks,vs,r,h=>by
  simp only[YT,zC,zT]at h;obtain⟨rfl,rfl,rfl⟩:=h;simp[encI]
 | k+1,s,ks,vs,r,h=>by
  simp only[YT]at h;split at h
  .rename_i a v f;split at h
   .rename_i b x i;split at h
    .rename_i u vs' y j;simp only[zC,zT]at h;obtain⟨rfl,rfl,rfl⟩:=h;obtain⟨rfl,_⟩:=VG f;obtain⟨rfl,_,m⟩:=takeP_eq i;obtain⟨rfl,o,q,t⟩:=decI_eq j;exact⟨by simp[encI],by simp[o],by simp[q],by simpa using⟨m,t⟩⟩
    .simp at h
   .simp at h
  .simp at h
theorem encL_length: ∀(ks vs:List Str),ks.length=vs.length->(encL ks vs).length=sumL ks+sumL vs
 | [],[],_=>rfl
 | [],_::_,h=>by simp at h
 | _::_,[],h=>by simp at h
 | k::ks,v::vs,h=>by
  simp only[encL,zV,encT,zY,encL_length ks vs (by simpa using h),sumL_cons];omega
theorem encI_length: ∀(ks:List Str) (vs:List Ptr),ks.length=vs.length->(encI ks vs).length=sumL ks+16*vs.length
 | [],[],_=>rfl
 | [],_::_,h=>by simp at h
 | _::_,[],h=>by simp at h
 | k::ks,v::vs,h=>by
  simp only[encI,zV,encT,zY,encP_length,encI_length ks vs (by simpa using h),sumL_cons];omega
theorem encN_length {lt:Str->Str->Bool}{n:Node}(h:shaped lt n=true):(encN n).length=size n:=by
 obtain⟨leaf,ks,vs,a⟩:=n;simp only[shaped,zF]at h;obtain⟨_,h⟩:=h
 cases leaf with
 | true=>
  simp only[if_true,zF,zQ]at h;simp only[encN,encB,if_true,zV,be_length,encL_length _ _ h.1.1.symm,size,h.1.2,yO];omega
 | false=>
  simp only[zM,qE,zF,zQ]at h
  cases a with
  | nil=>simp at h
  | cons p a=>
   have e:ks.length=a.length:=by have:=h.1.2;simp at this;omega
   simp only[encN,encB,zM,qE,zV,be_length,encP_length,encI_length _ _ e,size,zY,h.1.1.2];simp[sumL];omega
theorem zDY {lt:Str->Str->Bool}{n:Node}(h:shaped lt n=true): ∀k∈n.keys,k.length<256:=by
 intro k a;simp only[shaped,zF,y8]at h;have:=h.1.1 k a;simp only[mayK,zF,zQ]at this;omega
theorem sumL_ge (l:List Str):l.length<=sumL l:=by
 induction l with
 | nil=>simp
 | cons s l ih=>rw[sumL_cons,zY];omega
theorem decN_encN {lt:Str->Str->Bool}{n:Node}(h:may lt n=true)(i: ∀p∈n.kids,sumOk p):decN lt n.leaf (encN n)=some n:=by
 have hm:=h;simp only[may,zF,zQ]at h;obtain⟨a,s⟩:=h;have o:=encN_length a;have j:=zDY a;have z:n.keys.length<=500:=by have:=sumL_ge n.keys;simp only[size]at s;omega
 have t:(encN n).take 2=be 2 n.keys.length:=by simp[encN,be_length]
 have u:(encN n).drop 2=encB n:=by rw[encN,j6 (be_length 2 _)]
 have x:bee (be 2 n.keys.length)=n.keys.length:=by rw[bee_be];omega
 simp only[decN];rw[if_pos ⟨by omega,by rw[o,size];omega⟩,t,u,x];have key:decB n.leaf n.keys.length (encB n)=some (n,[]):=by
  obtain⟨leaf,ks,vs,f⟩:=n;simp only[shaped,zF]at a;obtain⟨_,a⟩:=a
  cases leaf with
  | true=>
   simp only[if_true,zF,zQ,y8]at a;simp only[decB,encB,if_true];rw[zD5 ks vs a.1.1.symm j (fun v y=>by have:=a.2 v y;omega)];simp[a.1.2]
  | false=>
   simp only[zM,qE,zF,zQ,y8]at a
   cases f with
   | nil=>simp at a
   | cons p f=>
    have e:ks.length=f.length:=by have:=a.1.2;simp at this;omega
    simp only[decB,encB,zM,qE];rw[BG _ (kidOk_may (a.2 p (zJ ..))) (i p (zJ ..))];simp only;rw[zD6 ks f e j (fun q m=>⟨kidOk_may (a.2 q (zE _ m)),i q (zE _ m)⟩)];simp[a.1.1.2]
 rw[key];simp[hm]
end Go.Nd
end
section
namespace Go.Eng
theorem bK {b:List AV->AH->Rs}{H:AH}{r:Rs}(st:Nat->List AV)(N:Nat)(step: ∀i,i<N->b (st i) H=some (.norm (st (i+1)),H))(f: ∀n,kL (n+1) b (st N) H=r): ∀n,N<n->kL n b (st 0) H=r:=by
 suffices h: ∀(m i n:Nat),i+m=N->m<n->kL n b (st i) H=r from fun n a=>h N 0 n (by omega) a
 intro m
 induction m with
 | zero=>
  intro i n hi a;obtain⟨n,rfl⟩: ∃k,n=k+1:=⟨n - 1,by omega⟩;rw[show i=N by omega];exact f n
 | succ m ih=>
  intro i n hi a;obtain⟨n,rfl⟩: ∃k,n=k+1:=⟨n - 1,by omega⟩;rw[kX (step i (by omega))];exact ih (i+1) n (by omega) (by omega)
theorem wZ (l:List G)(i:Nat)(h:i<l.length):l.take (i+1)=l.take i++[l[i]]:=by
 rw[qQ h]
theorem U3 (H:AH)(l:List AV)(e sz o:Nat)(g:Bool):ld1 (.ptr H.next o) (H.push (.cells l e sz g))=l[o]? :=by simp only[ld1,zOh,Z9]
theorem zIw (H:AH)(l:List AV)(e sz o n:Nat)(g:Bool):ldN n (.ptr H.next o) (H.push (.cells l e sz g))=(uP l o n).map .agg:=by
 simp only[ldN,zOh];cases uP l o n<;>rfl
theorem zBL (o:Nat)(x:AObj)(A:h<H.next):ld1 (.ptr h o) (H.push x)=ld1 (.ptr h o) H:=by simp only[ld1,AH.push_get_ne _ _ A]
theorem zLf (o n:Nat)(x:AObj)(A:h<H.next):ldN n (.ptr h o) (H.push x)=ldN n (.ptr h o) H:=by simp only[ldN,AH.push_get_ne _ _ A]
theorem fC {b:List AV->AH->Rs}(N:Nat)(I:Nat->List AV->AH->Prop)(step: ∀i vs H,i<N->I i vs H-> ∃vs' H',b vs H=some (.norm vs',H')/\I (i+1) vs' H'):
  ∀(n:Nat) (vs:List AV) (H:AH),I 0 vs H->N<n-> ∃m vs' H',kL n b vs H=kL (m+1) b vs' H'/\I N vs' H':=by
 suffices h: ∀(m i n:Nat) (vs:List AV) (H:AH),i+m=N->m<n->I i vs H-> ∃m vs' H',kL n b vs H=kL (m+1) b vs' H'/\I N vs' H' from fun n vs H j a=>h N 0 n vs H (by omega) a j
 intro m
 induction m with
 | zero=>
  intro i n vs H hi a f;obtain⟨n,rfl⟩: ∃k,n=k+1:=⟨n - 1,by omega⟩;exact⟨n,vs,H,rfl,by rw[show N=i by omega];exact f⟩
 | succ m ih=>
  intro i n vs H hi a f;obtain⟨n,rfl⟩: ∃k,n=k+1:=⟨n - 1,by omega⟩;obtain⟨vs',H',o,p⟩:=step i vs H (by omega) f;rw[kX o];exact ih (i+1) n vs' H' (by omega) (by omega) p
def notN:Ex->Bool
 | .norm _=>false
 | _=>true
theorem zFN {e:Ex}(h:notN e=true):jn (some (e,H)) M=some (e,H):=by cases e<;>first | rfl | (simp[notN]at h)
theorem ZD {b:List AV->AH->Rs}(N:Nat)(good:Nat->Bool)(I:Nat->List AV->AH->Prop)(Good s:Ex->AH->Prop)
  (step: ∀i vs H,i<N->I i vs H->good i=true-> ∃vs' H',b vs H=some (.norm vs',H')/\I (i+1) vs' H')
  (y: ∀i vs H,i<N->I i vs H->good i=false-> ∃e H',b vs H=some (e,H')/\notN e=true/\s e H')
  (x: ∀vs H,I N vs H-> ∃e H',b vs H=some (e,H')/\notN e=true/\Good e H'):
  ∀(n:Nat) (vs:List AV) (H:AH),I 0 vs H->N<n-> ∃e H',kL n b vs H=some (e,H')/\if(List.range N).all good then Good e H' else s e H':=by
 suffices h: ∀(m i n:Nat) (vs:List AV) (H:AH),i+m=N->m<n->I i vs H->(∀j,j<i->good j=true)-> ∃e H',kL n b vs H=some (e,H')/\if(List.range N).all good then Good e H' else s e H' from
  fun n vs H z t=>h N 0 n vs H (by omega) t z (fun j v=>by omega)
 intro m
 induction m with
 | zero=>
  intro i n vs H hi t a q;obtain⟨n,rfl⟩: ∃k,n=k+1:=⟨n - 1,by omega⟩;rw[show i=N by omega]at a q;obtain⟨e,H',f,o,u⟩:=x vs H a;refine⟨e,H', ?_, ?_⟩
  .show jn (b vs H) _=_;rw[f,zFN o]
  .rw[if_pos (by simpa[y8]using q)];exact u
 | succ m ih=>
  intro i n vs H hi t a q;obtain⟨n,rfl⟩: ∃k,n=k+1:=⟨n - 1,by omega⟩
  cases p:good i with
  | true=>
   obtain⟨vs',H',f,o⟩:=step i vs H (by omega) a p;rw[kX f];exact ih (i+1) n vs' H' (by omega) (by omega) o (fun j v=>by
    rcases Nat.lt_succ_iff_lt_or_eq.1 v with h | rfl
    .exact q j h
    .exact p)
  | false=>
   obtain⟨e,H',f,o,u⟩:=y i vs H (by omega) a p;refine⟨e,H', ?_, ?_⟩
   .show jn (b vs H) _=_;rw[f,zFN o]
   .rw[if_neg (by
     simp only[y8,List.mem_range];intro h;have:=h i (by omega);rw[p]at this;cases this)];exact u
theorem zEm (a:Bool)(x y:Rs):wnt jT a x y=y:=by cases a<;>rfl
theorem zDj (k k':IntKind){a:Int}{s:Nat}(h:0<=a)(f:s<=k.bits):wO .shr (.int k a) (.int k' (s:Int))=some (.int k (a / 2 ^ s)):=by
 show fI (a.fdiv ((2 ^ (Nat.min s k.bits):Nat):Int)) (fun r=>some (AV.int k r))=_;rw[zBW,show Nat.min s k.bits=s from Nat.min_eq_left f,Int.fdiv_eq_ediv_of_nonneg _ (Int.natCast_nonneg _)];simp
theorem zDk (k k':IntKind)(a:Int){s:Nat}(f:s<=k.bits):wO .shl (.int k a) (.int k' (s:Int))=some (.int k (k.wrap (a*2 ^ s))):=by
 show mkI k (a*(2 ^ (Nat.min s k.bits):Nat))=_;rw[vT,show Nat.min s k.bits=s from Nat.min_eq_left f];simp
theorem kR (h:isCell k=true):kC k=[k]:=by cases k<;>first | rfl | (simp[isCell]at h)
theorem Rw.isCell {k n:Nat}{H:AH}{v:AV}{l:List AV}(h:Rw k H v n l):Eng.isCell v=true:=by
 obtain⟨_,⟨rfl,_⟩ | ⟨rfl,_⟩ | ⟨A,off,cc,c,e,sz,g,rfl,_⟩⟩:=h<;>rfl
theorem QU (k:IntKind)(a b:Int):zB5 (aD k) (.int k a) (.int k b)=some (decide (a=b)):=by
 have:keq k k=true:=by rw[xU];simp
 simp only[zB5,yK,this,qO,zU,xV];congr 1
theorem kK (n:Rw h H k w i):aveq k k=true:=by
 obtain⟨_,⟨rfl,_⟩ | ⟨rfl,_⟩ | ⟨A,off,cc,c,e,sz,g,rfl,_⟩⟩:=n
 .rfl
 .rfl
 .simp[aveq]
theorem kY {x:Option AV}{K:Rs}(h:x=some k)(a:aveq k k=true):chk x k K=K:=by subst h;simp[chk,a]
theorem jP (A:H.h.get h=some (.cells i l w p))(o:Nat):ld1 (.ptr h o) H=i[o]? :=by simp only[ld1,A,Z9]
theorem jU (A:H.h.get h=some (.cells i l w p))(o n:Nat):ldN n (.ptr h o) H=(uP i o n).map .agg:=by simp only[ldN,A];cases uP i o n<;>rfl
theorem zNl (b c:Bool)(H:AH)(K:AV->AH->Rs):
  jn (if b=false then some (.norm [.bool c],H)else some (.norm [jT],H)) (fun vs H=>hd vs fun y _=>bV (if b=true then some (.bool true)else some y) fun x=>K x H)=K (.bool (b||c)) H:=by
 cases b<;>simp[jn,hd,bV]
theorem zNk (p:Prop)[Decidable p](b:Bool)(H:AH)(K:AV->AH->Rs):
  jn (if ¬p then some (.norm [.bool b],H)else some (.norm [jT],H)) (fun vs H=>hd vs fun y _=>bV (if p then some (.bool true)else some y) fun x=>K x H)=K (.bool (decide p||b)) H:=by
 by_cases h:p<;>simp[h,jn,hd,bV]
theorem lg:(∀(p:Prop) [Decidable p] (b:Bool) (H:AH) (K:AV->AH->Rs),jn (if ¬p then some (.norm [.bool b],H)else some (.norm [jT],H)) (fun vs H=>hd vs fun y _=>bV (if p then some (.bool true)else some y) fun x=>K x H)=K (.bool (decide p||b)) H)/\
  (∀(p:Prop) [Decidable p] (b:Bool) (H:AH) (K:AV->AH->Rs),jn (if p then some (.norm [.bool b],H)else some (.norm [jT],H)) (fun vs H=>hd vs fun y _=>bV (if p then some y else some (.bool false)) fun x=>K x H)=K (.bool (decide p&&b)) H)/\
  (∀(p:Prop) [Decidable p] (b:Bool) (H:AH) (K:AV->AH->Rs),jn (if p then some (.norm [jT],H)else some (.norm [.bool b],H)) (fun vs H=>hd vs fun y _=>bV (if p then some (.bool true)else some y) fun x=>K x H)=K (.bool (decide p||b)) H)/\
  (∀(b c:Bool) (H:AH) (K:AV->AH->Rs),jn (if b=false then some (.norm [.bool c],H)else some (.norm [jT],H)) (fun vs H=>hd vs fun y _=>bV (if b=true then some (.bool true)else some y) fun x=>K x H)=K (.bool (b||c)) H)/\
  (∀(p:Prop) [Decidable p],(decide p=true)=p)/\(∀(p:Prop) [Decidable p],(decide p=false)= ¬p)/\(∀(b:Bool),decide (b=true)=b):=
 ⟨fun p _ b H K=>zNk p b H K,fun p _ b H K=>zNn p b H K,fun p _ b H K=>jn_or p b H K,zNl,fun p _=>zQ,fun p _=>by simp,fun b=>by simp⟩
theorem ev:(∀(v:AV) (vs:List AV) (K:AV->List AV->Rs),hd (v::vs) K=K v vs)/\
 (∀(K:Rs),nl [] K=K)/\
 (∀(v:AV) (K:AV->Rs),bV (some v) K=K v)/\
 (∀(v:AV) (H:AH) (K:AV->AH->Rs),bR (some (v,H)) K=K v H)/\
 (∀(vs:List AV) (H:AH) (K:List AV->AH->Rs),jn (some (.norm vs,H)) K=K vs H)/\
 (∀(v:AV) (H:AH) (K:List AV->AH->Rs),jn (some (.ret v,H)) K=some (.ret v,H))/\
 (∀(i:Nat) (vs:List AV) (H:AH) (K:List AV->AH->Rs),jn (some (.exit i vs,H)) K=some (.exit i vs,H))/\
 (∀(id:Nat) (vs:List AV) (H:AH) (K:List AV->AH->Rs),jb id (some (.norm vs,H)) K=K vs H)/\
 (∀(id:Nat) (v:AV) (H:AH) (K:List AV->AH->Rs),jb id (some (.ret v,H)) K=some (.ret v,H))/\
 (∀(id:Nat) (vs:List AV) (H:AH) (K:List AV->AH->Rs),jb id (some (.exit id vs,H)) K=K vs H)/\
 (∀(v:AV) (H:AH),dV (some (.ret v,H))=some (v,H))/\
 (∀(b:Bool) (x y:Rs),cnd (.bool b) x y=if b then x else y)/\
 (∀(b h:Bool) (x y:Rs),wnt (.bool b) h x y=if b=h then x else y)/\
 (∀(b:Bool) (x y:Option AV),pk3 (some (.bool b)) x y=if b then x else y)/\
 (∀(k:IntKind) (a b:Int),wO .add (.int k a) (.int k b)=some (.int k (k.wrap (a+b))))/\
 (∀(k:IntKind) (a b:Int),wO .sub (.int k a) (.int k b)=some (.int k (k.wrap (a - b))))/\
 (∀(k:IntKind) (a b:Int),wO .mul (.int k a) (.int k b)=some (.int k (k.wrap (a*b))))/\
 (∀(k:IntKind) (a b:Int),wO .eql (.int k a) (.int k b)=some (.bool (decide (a=b))))/\
 (∀(k:IntKind) (a b:Int),wO .neq (.int k a) (.int k b)=some (.bool (decide (a≠b))))/\
 (∀(k:IntKind) (a b:Int),wO .lss (.int k a) (.int k b)=some (.bool (decide (a<b))))/\
 (∀(k:IntKind) (a b:Int),wO .leq (.int k a) (.int k b)=some (.bool (decide (a<=b))))/\
 (∀(k:IntKind) (a b:Int),wO .gtr (.int k a) (.int k b)=some (.bool (decide (b<a))))/\
 (∀(k:IntKind) (a b:Int),wO .geq (.int k a) (.int k b)=some (.bool (decide (b<=a))))/\
 (∀(k k':IntKind) (z:Int),cvI k (.int k' z)=some (.int k (k.wrap z)))/\
 (∀(a b:Bool),QX .eql (.bool a) (.bool b)=some (.bool (a==b)))/\
 (∀(a b:Bool),QX .neq (.bool a) (.bool b)=some (.bool (!(a==b))))/\
 (∀(b:Bool),aun .not (.bool b)=some (.bool !b))/\
 (∀(l:Str),WC (S l)=some (.int .i64 (l.length:Nat)))/\
 (∀(l m:Str),ZV .eql (S l) (S m)=some (.bool (decide (l=m))))/\
 (∀(l m:Str),ZV .neq (S l) (S m)=some (.bool (decide (l≠m))))/\
 (∀(l m:Str),ZV .lss (S l) (S m)=some (.bool (ltS l m)))/\
 (∀(l m:Str),ZV .geq (S l) (S m)=some (.bool (!ltS l m)))/\
 (∀(A o:Nat),uS (.ptr A o)=some (.ptr A o))/\
 (∀(f A o:Nat),fAd f (.ptr A o)=some (.ptr A (o+f)))/\
 (∀(e:TypeId) (x:AV),bxV e x=some (.cells (kC x) e 1 false,fun A=> .ptr A 0))/\
 (∀(l:List AV),kC (.agg l)=l)/\
 (∀(H:AH) (l:List AV) (e sz o:Nat) (g:Bool),ld1 (.ptr H.next o) (H.push (.cells l e sz g))=l[o]?)/\
 (∀(H:AH) (l:List AV) (e sz o n:Nat) (g:Bool),ldN n (.ptr H.next o) (H.push (.cells l e sz g))=(uP l o n).map .agg)/\
 (∀(a:AV) (l:List AV),(a::l)[0]? =some a)/\
 (∀(a:AV) (l:List AV) (i:Nat),(a::l)[i+1]? =l[i]?)/\
 (∀(n:Nat),0+n=n)/\
 (∀(n:Nat),Int.ofNat n=(n:Int))/\
 (∀(z:Int), -9223372036854775808<=z->z<=9223372036854775807->IntKind.wrap .i64 z=z):=
 ⟨fD,zFB,bVs,bRs,QN,zNj,zLg,zLh,zNo,zLi,zCx,zEa,zMG,zN1,YZ,zJ7,zDn,zJ9,zDm,ZW,zDo,zDp,zDq,zC2,zHe,KU,zM8,QJ,UP,zDh,YY,zDi,zIh,zLw,fun _ _=>rfl,fun _=>rfl,U3,zIw,fun _ _=>List.getElem?_cons_zero,fun _ _ _=>yV,j7,fun _=>rfl,fun _ j p=>wrap_i64 j p⟩
def eZ:=And.intro zEm (And.intro ev (And.intro lg ew))
def wF (k e:Nat)(H:AH)(v:AV)(n:Nat)(l:List AV):Prop:=
 Own k e H v n l\/(l.length=n*k/\ ∃A a g,v= .slice A 0 n (2*n)/\A<H.next/\H.h.get A=some (.cells l a k g)/\n=0)
theorem wF.len (e:wF h w H k t i):i.length=t*h:=by
 rcases e with e | e
 .exact e.1
 .exact e.1
theorem wF.row {k e n:Nat}{H:AH}{v:AV}{l:List AV}(h:wF k e H v n l):Rw k H v n l:=by
 rcases h with h | ⟨a,A,f,g,rfl,i,j,m⟩
 .exact h.row
 .exact⟨a, .inr (.inr ⟨A,0,2*n,l,f,k,g,rfl,j,i,by omega,by rw[y9,zZ (by omega)]⟩)⟩
theorem wF.mono {k e n:Nat}{S:Nat->Prop}{H H':AH}{v:AV}{l:List AV}(h:wF k e H v n l)(s:Stp S H H')(a: ∀A,Blk v A-> ¬S A):wF k e H' v n l:=by
 rcases h with h | ⟨j,A,m,g,rfl,f,o,i⟩
 .exact .inl (h.mono s a)
 .exact .inr ⟨j,A,m,g,rfl,qJ f s.next,by rw[s.keep A f (a A (zOm.2 rfl))];exact o,i⟩
theorem wF.lt (e:wF h w H k t i)(a:Blk k s):s<H.next:=by
 rcases e with⟨_,⟨rfl,_⟩ | ⟨A,rfl,f,_⟩⟩ | ⟨_,A,n,g,rfl,f,_⟩
 .exact(zOt.1 a).elim
 .rw[zOm.1 a];exact f
 .rw[zOm.1 a];exact f
theorem wF.app1 {k e bytes n m:Nat}{H:AH}{v:AV}{l new:List AV}(i:H.ok)(o:0<k)(h:wF k e H v n l)(hm:new.length=m*k)(z:n+m<=1000000000)(hb:bytes<=1000):
  ∃p H',Eng.app1 e k bytes m new v H=some (p,H')/\wF k e H' p (n+m) (l++new)/\Stp (Blk v) H H'/\(∀B,Blk p B->Blk v B\/H.next<=B):=by
 by_cases q:m=0
 .subst q;have:new=[]:=zR (by simpa using hm);subst this;rcases h with h | ⟨q,A,j,g,rfl,s,t,G⟩
  .obtain⟨H',f,u,y,J⟩:=KX (bytes:=bytes) i o h;exact⟨v,H',f, .inl (by simpa using u),y.mono (fun _ _ x=>x.elim),fun B a=> .inl a⟩
  .have C:kP l g k 0 (2*n) k=n:=by
    simp only[kP,show((2*n) % 2).beq 0=true by rw[jB];rfl,zU,yQ n (show 0<2 by omega)]
   have K:Nat.blt 0 k=true:=by rw[qD];exact o
   have F:setAt l (0+n*k) []=some l:=by rw[xH (by simp;omega)];simp
   have I:(H.put A (.cells l j k g)).h.get A=some (.cells l j k g):=by rw[zOl,if_pos rfl]
   refine⟨.slice A 0 n (2*n),H.put A (.cells l j k g), ?_, .inr ⟨by simpa using q,A,j,g,rfl,s,by simpa using I,by omega⟩,(zOp i).put s _ (.inr (zOm.2 rfl)),fun B a=> .inl a⟩;simp only[Eng.app1,t,zEl,C,Nat.add_zero,Nat.ble_eq_true_of_le (zP n),zU,K,F,zBf,wM,kG]
 .rcases h with h | ⟨hl,A,j,g,rfl,s,t,G⟩
  .obtain⟨H',f,u,y,J⟩:=J0 (bytes:=bytes) i o h hm (by omega) z hb;exact⟨_,H',f, .inl u,y,fun B a=> .inr (by rw[zOm.1 a];exact zP _)⟩
  .have f:=KY (k:=k) (e:=e) (bytes:=bytes) (n:=n) (m:=m) (off:=0) (new:=new) i t (by omega) (by omega) z hb;rw[y9,zZ (by omega)]at f;refine⟨_,_,f, .inl ⟨by simp[hl,hm,j8], .inr ⟨H.next,rfl,Nat.lt_succ_self _,zOh _ _⟩⟩,(zOp i).push _,fun B a=> .inr (by rw[zOm.1 a];exact zP _)⟩
theorem wF.app {bytes m:Nat}{new:List AV}(s:H.ok)(f:0<h)(e:wF h w H k t i)(j:srcOf h q H=some (m,new))(hm:new.length=m*h)(o:jS new=true)(p:t+m<=1000000000)(hb:bytes<=1000):
  ∃a H',apP w h bytes k q H=some (a,H')/\wF h w H' a (t+m) (i++new)/\Stp (Blk k) H H'/\(∀B,Blk a B->Blk k B\/H.next<=B):=by
 obtain⟨a,H',v,n⟩:=e.app1 (bytes:=bytes) (e:=w) s f hm p hb;exact⟨a,H',by simp only[apP,j,o,zU,v],n⟩
theorem wF.isCell {k e n:Nat}{H:AH}{v:AV}{l:List AV}(h:wF k e H v n l):isCell v=true:=h.row.isCell
def Box (H:AH)(A:Nat)(v:AV):Prop:= ∃e,H.h.get A=some (.cells [v] e 1 false)
theorem Box.ld (A:Box H h k):ld1 (.ptr h 0) H=some k:=by
 obtain⟨e,A⟩:=A;rw[jP A];rfl
theorem Box.st {x:AV}(A:Box H h k)(a:H.ok)(f:Eng.isCell x=true): ∃H',stN 1 (.ptr h 0) x H=some (jT,H')/\Box H' h x/\Stp (fun B=>B=h) H H':=by
 obtain⟨e,A⟩:=A;exact⟨_,cI A (by decide) f (by simp),⟨e,by rw[zOl,if_pos rfl];rfl⟩,(zOp a).put (a.lt A) _ (.inr rfl)⟩
theorem Box.mono (H':Box H h k)(a:H.ok)(s:Stp e H v)(f: ¬e h):Box v h k:=by
 obtain⟨S,H'⟩:=H';exact⟨S,by rw[s.keep h (a.lt H') f];exact H'⟩
theorem Box.lt {H:AH}{A:Nat}{v:AV}(h:Box H A v)(a:H.ok):A<H.next:=by obtain⟨e,h⟩:=h;exact a.lt h
theorem JI {k:Nat}(H:AH)(c:List AV)(e:TypeId)(sz:Nat)(g:Bool)(m cc:Nat)(a:c.length=m*k):srcOf k (.slice H.next 0 m cc) (H.push (.cells c e sz g))=some (m,c):=by
 simp only[srcOf,zOh];rw[kV _ _ _ (.inr (by omega)),y9,zZ (by omega)]
end Go.Eng
end
section
namespace Go.Nd
theorem rising_ix (lt:Str->Str->Bool): ∀l:List Str,rising lt l=true↔ ∀i (h:i+1<l.length),lt l[i] l[i+1]=true
 | []=>by simp[rising]
 | [a]=>by simp[rising]
 | a::b::l=>by
  have f:=rising_ix lt (b::l);simp only[rising,zF,f];constructor
  .rintro⟨h1,h2⟩ i h
   cases i with
   | zero=>exact h1
   | succ i=>exact h2 i (by simpa using h)
  .intro h;exact⟨h 0 (by simp),fun i hi=>h (i+1) (by simpa using hi)⟩
theorem rising_take {lt:Str->Str->Bool}{l:List Str}(h:rising lt l=true)(k:Nat):rising lt (l.take k)=true:=by
 rw[rising_ix]at h⊢;intro i hi;simp only[qC]at hi;simp only[List.getElem_take];exact h i (by omega)
theorem rising_drop {lt:Str->Str->Bool}{l:List Str}(h:rising lt l=true)(k:Nat):rising lt (l.drop k)=true:=by
 rw[rising_ix]at h⊢;intro i hi;simp only[qI]at hi;simp only[List.getElem_drop];exact h (k+i) (by omega)
theorem J1 {f:G->Bool}{l:List G}(h:l.all f=true)(k:Nat):(l.take k).all f=true:=by
 simp only[y8]at h⊢;exact fun x a=>h x (List.mem_of_mem_take a)
theorem J2 {f:G->Bool}{l:List G}(h:l.all f=true)(k:Nat):(l.drop k).all f=true:=by
 simp only[y8]at h⊢;exact fun x a=>h x (List.mem_of_mem_drop a)
def cutA (n:Node)(k:Nat):Node:=if n.leaf then⟨true,n.keys.take k,n.vals.take k,[]⟩else⟨false,n.keys.take k,[],n.kids.take (k+1)⟩
def aI (n:Node)(k:Nat):Node:=if n.leaf then⟨true,n.keys.drop k,n.vals.drop k,[]⟩else⟨false,n.keys.drop (k+1),[],n.kids.drop (k+1)⟩
def d8 (a:Node)(sep:Str)(b:Node):Node:=if a.leaf then⟨true,a.keys++b.keys,a.vals++b.vals,[]⟩else⟨false,a.keys++([sep]++b.keys),[],a.kids++b.kids⟩
def cutOk (n:Node)(k:Nat):Prop:=1<=k/\k+(if n.leaf then 1 else 2)<=n.keys.length
theorem cut_shaped {lt:Str->Str->Bool}{n:Node}(k:shaped lt n=true)(m:cutOk n h):shaped lt (cutA n h)=true/\shaped lt (aI n h)=true:=by
 obtain⟨leaf,keys,vals,kids⟩:=n;obtain⟨k1,k2⟩:=m
 cases leaf with
 | true=>
  simp only[shaped,if_true,zF,zQ]at k k2;obtain⟨⟨a,f⟩,⟨i,o⟩,j⟩:=k;simp only[shaped,cutA,aI,if_true,zF,zQ];exact⟨⟨⟨J1 a h,rising_take f h⟩,⟨by simp[i],trivial⟩,J1 j h⟩,⟨J2 a h,rising_drop f h⟩,⟨by simp[i],trivial⟩,J2 j h⟩
 | false=>
  simp only[shaped,zM,qE,zF,zQ]at k k2;obtain⟨⟨a,f⟩,⟨⟨i,o⟩,j⟩,h6⟩:=k;simp only[shaped,cutA,aI,zM,qE,zF,zQ];refine⟨⟨⟨J1 a h,rising_take f h⟩,⟨⟨?_,trivial⟩, ?_⟩,J1 h6 _⟩,⟨J2 a _,rising_drop f _⟩,⟨⟨?_,trivial⟩, ?_⟩,J2 h6 _⟩
  .intro e;have:=congrArg List.length e;rw[qC]at this;simp only[yO]at this;omega
  .rw[qC,qC];omega
  .intro e;have:=congrArg List.length e;rw[qI]at this;simp only[yO]at this;omega
  .rw[qI,qI];omega
theorem sumL_drop_le (l:List Str)(k:Nat):sumL (l.drop k)<=sumL l:=by
 have:sumL l=sumL (l.take k)+sumL (l.drop k):=by rw[<-sumL_append,qW]
 omega
theorem sumL_take_le (l:List Str)(k:Nat):sumL (l.take k)<=sumL l:=by
 have:sumL l=sumL (l.take k)+sumL (l.drop k):=by rw[<-sumL_append,qW]
 omega
theorem Q6 (l:List Str)(k:Nat):sumL l=sumL (l.take k)+sumL (l.drop k):=by rw[<-sumL_append,qW]
theorem cut_size {lt:Str->Str->Bool}{n:Node}(k:shaped lt n=true)(a:cutOk n h):size (cutA n h)<size n/\size (aI n h)<size n:=by
 obtain⟨leaf,keys,vals,kids⟩:=n;obtain⟨k1,k2⟩:=a;have m:=Q6 keys h;have f:=sumL_ge (keys.take h);have i:=sumL_ge (keys.drop h);simp only[qC,qI]at f i
 cases leaf with
 | true=>
  simp only[if_true]at k2;simp only[shaped,if_true,zF,zQ]at k;have o:=Q6 vals h;simp only[cutA,aI,if_true,size,yO,k.2.1.2];omega
 | false=>
  simp only[zM,qE]at k2;simp only[shaped,zM,qE,zF,zQ]at k;have p:=k.2.1.2;have q:=Q6 keys (h+1);have j:=sumL_ge (keys.take (h+1));simp only[qC]at j;simp only[cutA,aI,zM,qE,size,k.2.1.1.2,qC,qI];have:sumL []=0:=rfl;omega
end Go.Nd
end
section
namespace Go.Eng.Sh
open Go.Nd (Ptr sumL)
theorem wD(s:Str)(H:AH):f137 D n [S s] H=some (.bool (Nd.mayK s),H):=by
 simp only[f137,fD,zFB,QJ,bVs,zDq,zDo,zMG,zNm,QN,zN1,zIi,zCx];have a:(Int.ofNat 1<=(s.length:Int))=(1<=s.length):=by simp;omega
 have f:((s.length:Int)<=Int.ofNat 40)=(s.length<=40):=by simp;omega
 simp only[a,f,Nd.mayK];by_cases h:1<=s.length<;>simp[h,bVs,dV]
theorem sumL_nil:sumL []=0:=rfl
theorem JE (l:List Str)(i:Nat)(hi:i<l.length):sumL (l.take (i+1))=sumL (l.take i)+(1+l[i].length)/\sumL (l.take i)+(1+l[i].length)<=sumL l:=by
 have a:sumL l=sumL (l.take i)+(1+l[i].length+sumL (l.drop (i+1))):=by
  rw[<-Nd.sumL_cons,<-qN hi,<-Nd.sumL_append,qW]
 refine⟨?_,by omega⟩;rw[wZ l i hi,Nd.sumL_append,Nd.sumL_cons];simp[sumL]
theorem size0 (D:Dyn)(f:Nat){l:List Str}(h:Strs H k l)(x:AV)(a:Int)(n:Nat)(t:0<=a)(m:l.length<n)(hb:a+sumL l<=1000000000000):
  kL n (Y8 D f) [x, .int .i64 a,k, .int .i64 (l.length:Nat), .int .i64 (0:Nat)] H=some (.exit 0 [x, .int .i64 (a+sumL l)],H):=by
 have key:=bK (b:=Y8 D f) (H:=H) (r:=some (.exit 0 [x, .int .i64 (a+sumL l)],H)) (fun i=>[x, .int .i64 (a+sumL (l.take i)),k, .int .i64 (l.length:Nat), .int .i64 (i:Nat)]) l.length (fun i hi=>by
  obtain⟨p,o,q⟩:=h.at hi;obtain⟨j,u⟩:=JE l i hi;have s:=Nd.sumL_ge l;simp(disch:=omega) [Y8,fD,bVs,ZW,zEa,hi,o,q,QJ,YZ,wrap_i64,j,Int.add_assoc]) (fun n=>jZ (by
  simp[Y8,fD,bVs,ZW,zEa])) n m
 simpa[sumL_nil]using key
theorem size1 (D:Dyn)(f:Nat){l:List Str}(h:Strs H k l)(a:Int)(n:Nat)(t:0<=a)(m:l.length<n)(hb:a+sumL l<=1000000000000):
  kL n (KH D f) [.int .i64 a,k, .int .i64 (l.length:Nat), .int .i64 (0:Nat)] H=some (.exit 2 [.int .i64 (a+sumL l)],H):=by
 have key:=bK (b:=KH D f) (H:=H) (r:=some (.exit 2 [.int .i64 (a+sumL l)],H)) (fun i=>[.int .i64 (a+sumL (l.take i)),k, .int .i64 (l.length:Nat), .int .i64 (i:Nat)]) l.length (fun i hi=>by
  obtain⟨p,o,q⟩:=h.at hi;obtain⟨j,u⟩:=JE l i hi;have s:=Nd.sumL_ge l;simp(disch:=omega) [KH,fD,bVs,ZW,zEa,hi,o,q,QJ,YZ,wrap_i64,j,Int.add_assoc]) (fun n=>jZ (by
  simp[KH,fD,bVs,ZW,zEa])) n m
 simpa[sumL_nil]using key
def jV (p:Ptr):List AV:=[.int .i64 p.at_, .int .i64 p.birth, .int .u64 p.sum]
def bI (H:AH)(v:AV)(l:List Ptr):Prop:=Rw 3 H v l.length (l.flatMap jV)
def fK (H:AH)(v:AV)(n:Nd.Node):Prop:= ∃ks vs a,v= .agg [.bool n.leaf,ks,vs,a]/\Strs H ks n.keys/\Strs H vs n.vals/\bI H a n.kids
theorem bI.lnSl {H:AH}{v:AV}{l:List Ptr}(h:bI H v l):Eng.lnSl v=some (.int .i64 (l.length:Int)):=Rw.lnSl h
theorem bI.prs {H H':AH}{v:AV}{l:List Ptr}(h:bI H v l)(s:Prs H H'):bI H' v l:=Rw.prs h s
theorem zNw: ∀(l:List Ptr) (i:Nat) (hi:i<l.length),((l.flatMap jV).drop (i*3)).take 3=jV l[i]
 | [],i,hi=>by simp at hi
 | p::l,0,_=>rfl
 | p::l,i+1,hi=>by
  have:=zNw l i (by simpa using hi);rw[show(i+1)*3=i*3+3 from by omega];exact this
theorem bI.at {H:AH}{v:AV}{l:List Ptr}(h:bI H v l){i:Nat}(hi:i<l.length): ∃p,(∀κ (z:Int),z=(i:Int)->cN 3 v (.int κ z)=some p)/\Eng.ldN 3 p H=some (.agg (jV l[i])):=by
 obtain⟨p,f,a⟩:=Rw.ldN h hi;rw[zNw l i hi]at a;exact⟨p,f,a⟩
theorem fK.prs {H H':AH}{v:AV}{n:Nd.Node}(h:fK H v n)(s:Prs H H'):fK H' v n:=by
 obtain⟨ks,vs,a,rfl,f,i,j⟩:=h;exact⟨ks,vs,a,rfl,f.prs s,i.prs s,j.prs s⟩
def small (n:Nd.Node):Prop:=n.kids.length<=100000/\sumL n.keys<=100000000/\sumL n.vals<=100000000
theorem JJ(i:H.ok){a:Nd.Node}(h:fK H k a)(o:small a)(u:200000000<=n):
  Ret (f110 D n [k] H) fun r H'=>r= .int .i64 (Nd.size a:Nat)/\Prs H H':=by
 obtain⟨ks,vs,p,rfl,j,m,q⟩:=h;obtain⟨x,y,z⟩:=o;have f:Prs H (H.push (.cells [.bool a.leaf,ks,vs,p] 119 1 false)):=(zOp i).push _;have s:=Nd.sumL_ge a.keys;have t:=Nd.sumL_ge a.vals;simp(disch:=omega) only[f110,ev,kT i,j.lnSl,m.lnSl,q.lnSl,size0 D n (j.prs f),zK5,size1 D n (m.prs f),zGw];apply Ret.pure;refine⟨?_,f⟩;simp only[Nd.size,AV.int.injEq,true_and];omega
open Go.Nd (be mayP QQ)
theorem zHc: ∀(i n:Nat),be (i+1) n=UInt8.ofNat (n / 256 ^ i)::be i n
 | 0,n=>by simp[be]
 | i+1,n=>by
  rw[be,zHc i (n / 256),Nat.div_div_eq_div_mul,Nat.mul_comm 256,<-Nat.pow_succ];rfl
theorem zKK (c:h<i.length):(i.take (h+1)++F).set h k=i.take h++(k::F):=by
 have hl:(i.take h).length=h:=by simp;omega
 rw[wZ i h c,qH,List.set_append_right _ _ (by omega),hl];simp
theorem zFl(q:H.ok){off k cc:Nat}(z:Nat)(t:H.h.get h=some (.cells i l 1 p))(O:off+k<=i.length)(M:k<=8)(Q:100<=n):
  ∃H',f119 D n [.slice h off k cc, .int .u64 (z:Nat)] H=some (.tuple [],H')/\H'.h.get h=some (.cells (i.take off++(jQ (be k z)++i.drop (off+k))) l 1 p)/\Stp (fun B=>B=h) H H'/\H'.next=H.next:=by
 have N:=q.lt t;have key:=fC (b:=XO D n) k (fun A vs H'=>vs=[.slice h off k cc, .int .u64 (z:Nat), .int .i64 (k:Nat), .int .i64 (A:Nat)]/\A<=k/\H'.h.get h=some (.cells (i.take (off+(k - A))++(jQ (be A z)++i.drop (off+k))) l 1 p)/\Stp (fun B=>B=h) H H'/\H'.next=H.next)
  (fun A vs H' hi ⟨v,hik,hg,hst,hnx⟩=>by
   subst v;have hb:Nat.blt (k - 1 - A) k=true:=by rw[qD];omega
   have L:((k:Int) - 1 - (A:Int))=((k - 1 - A:Nat):Int):=by omega
   have y:cN 1 (.slice h off k cc) (.int .i64 (k - 1 - A:Nat))=some (.ptr h (off+(k - 1 - A))):=by
    simp only[cN,kO _ (show(0:Int)<=((k - 1 - A:Nat):Int)by omega),yD,hb,zU,kG,Nat.mul_one]
   have j:=cI (x:= .int .u8 ((((z / 256 ^ A % 256:Nat):Nat)):Int)) (o:=off+(k - 1 - A)) hg (by decide) rfl (by simp[jQ,Nd.be_length];omega);have u:(i.take (off+(k - A))++(jQ (be A z)++i.drop (off+k))).set (off+(k - 1 - A)) (.int .u8 (((z / 256 ^ A % 256:Nat)):Int))=i.take (off+(k - (A+1)))++(jQ (be (A+1) z)++i.drop (off+k)):=by
    rw[show off+(k - A)=off+(k - 1 - A)+1 by omega,zKK (by omega),zHc,show k - (A+1)=k - 1 - A by omega];simp[jQ]
   have C:(z:Int) / 2 ^ (8*A)=((z / 256 ^ A:Nat):Int):=by
    rw[<-zJE];simp
   refine⟨_,H'.put h (.cells (i.take (off+(k - (A+1)))++(jQ (be (A+1) z)++i.drop (off+k))) l 1 p), ?_,rfl,by omega,by rw[zOl,if_pos rfl], ?_,hnx⟩
   .rw[u]at j;have c:=zDj .u64 .i64 (a:=(z:Nat)) (s:=8*A) (by omega) (by simp[IntKind.bits];omega);rw[C]at c;have F:(((8:Nat):Int)*(A:Int))=((8*A:Nat):Int):=by omega
    have G:IntKind.wrap .u8 ((z / 256 ^ A:Nat):Int)=((z / 256 ^ A % 256:Nat):Int):=by rw[wrap_u8];omega
    have f:(k:Int) - ((1:Nat):Int) - (A:Int)=((k - 1 - A:Nat):Int):=by omega
    simp(disch:=omega) only[XO,ev,lnSl,f,y,F,c,G,j];simp[hi]
   .exact hst.put (by omega) _ (.inr rfl)) n _ H ⟨rfl,Nat.zero_le _,by simpa[be,jQ]using t,zOp q,rfl⟩ (by omega)
 obtain⟨m,vs',H',f,rfl,_,I,J,K⟩:=key;refine⟨H', ?_,by simpa using I,J,K⟩;have hl:kL (m+1) (XO D n) [.slice h off k cc, .int .u64 (z:Nat), .int .i64 (k:Nat), .int .i64 (k:Nat)] H'=some (.exit 0 [],H'):=jZ (by simp[XO,ev]);rw[hl]at f;simp only[f119,ev,lnSl,f,zK4]
theorem zLO (p q:Ptr):eqA [6,6,10] (.agg (jV p)) (.agg (jV q))=some (decide (p=q)):=by
 obtain⟨a,b,c⟩:=p;obtain⟨i,j,c'⟩:=q;have f:=fun x y=>QU .i64 x y
 have h:=fun x y=>QU .u64 x y
 simp only[aD]at f h;simp only[eqA,jV,aC,Nat.succ_eq_add_one,yK,zY,yO,qO,zU,uC,f,h];by_cases m:a=i<;>by_cases o:b=j<;>by_cases s:c=c'<;>simp[m,o,s]
theorem zIW (b:Bool):dJ .eql (some b)=some (.bool b):=by simp only[dJ,wC]
theorem zJG(f:H.ok)(p:Ptr): ∃H',f118 D n [.agg (jV p)] H=some (.bool (mayP p),H')/\Prs H H':=by
 refine⟨H.push (.cells (jV p) 42 1 false), ?_,(zOp f).push _⟩;have h:eqA [6,6,10] (.agg (jV p)) (.agg (jV ⟨0,0,0⟩))=_:=zLO p ⟨0,0,0⟩;obtain⟨a,b,c⟩:=p;simp only[jV]at h;simp only[f118,ev,kT f,jV,uP,takeN,qA,lg,uD,gP];by_cases i:a=0
 .subst i;simp only[show((0:Nat):Int)=0 from rfl,if_true,h,zIW,ev,mayP];simp
 .simp only[show((0:Nat):Int)=0 from rfl,if_neg i,ev,mayP];rfl
def Z (n:Nat):List AV:=List.replicate n (.int .u8 (0:Nat))
theorem zKT:rep 16 [.int .u8 (0:Nat)]=Z 16:=rfl
theorem zBD(m:H.ok){off k cc:Nat}(z:Nat)(o:H.h.get h=some (.cells (i++(F++J)) l 1 p))(hp:i.length=off)(t:F.length=k)(j:k<=8)(pre:100<=n):
  ∃H',f119 D n [.slice h off k cc, .int .u64 (z:Nat)] H=some (.tuple [],H')/\H'.h.get h=some (.cells (i++(jQ (be k z)++J)) l 1 p)/\Stp (fun B=>B=h) H H'/\H'.next=H.next:=by
 obtain⟨H',q,A,s⟩:=zFl D n m (cc:=cc) (k:=k) (off:=off) z o (by simp;omega) j pre;refine⟨H',q, ?_,s⟩;have hd:(i++(F++J)).drop (off+k)=J:=by rw[<-qH,j6 (by rw[zV];omega)]
 rw[jA hp,hd]at A;exact A
theorem slA (A lo hi:Nat)(f:lo<=hi)(i:hi<=16)(o:lo<16):xK 16 1 (.ptr A 0) (some (.int .i64 (lo:Nat))) (some (.int .i64 (hi:Nat))) none=some (.slice A lo (hi - lo) (2*(16 - lo))):=by
 have j:Nat.ble hi 16=true:=by rw[qT];exact i
 have m:Nat.ble lo hi=true:=by rw[qT];exact f
 have a:Nat.beq 16 lo=false:=by rw[y7];intro h;have:=Nat.eq_of_beq_eq_true h;omega
 simp[xK,kU,kO,YJ,j,m,a,kG,show((32 % 2).beq 0)=true from rfl,show(32 / 2).beq lo=false from a,show Nat.blt 0 1=true from rfl]
theorem zEV (A:Nat):xK 16 1 (.ptr A 0) none (some (.int .i64 (4:Nat))) none=some (.slice A 0 4 32):=rfl
theorem zEU (A:Nat):xK 16 1 (.ptr A 0) (some (.int .i64 (8:Nat))) none none=some (.slice A 8 8 16):=rfl
theorem zMT (A:Nat):xK 16 1 (.ptr A 0) none none none=some (.slice A 0 16 32):=rfl
theorem zAN(F:H.ok){p:Ptr}(hp:mayP p=true)(U:Nd.sumOk p)(o:100<=n): ∃H',f72 D n [.agg (jV p)] H=some (.tuple [S (QQ p), .int .i64 (0:Nat)],H')/\Prs H H':=by
 have q:Prs H (H.push (.cells (jV p) 42 1 false)):=(zOp F).push _;obtain⟨f,V,i⟩:=zJG D n q.ok p;have L:uP (jV p) 0 3=some (jV p):=rfl;have W: ∃a b s:Nat,p=⟨a,b,s⟩/\a<4294967296/\b<4294967296/\s<18446744073709551616:=by
  obtain⟨a,b,s⟩:=p;simp only[Nd.sumOk]at U;have h1:0<=a/\a<8192/\0<=b/\b<=2147483647:=by
   simp only[mayP]at hp;split at hp
   .simp only[zF,zQ]at hp;omega
   .simp only[zF,zQ]at hp;omega
  exact⟨a.toNat,b.toNat,s.toNat,by congr 1<;>omega,by omega,by omega,by omega⟩
 obtain⟨a,b,s,rfl,ha,hb,a1⟩:=W;have t: ∀x:Nat,x<18446744073709551616->IntKind.wrap .u64 (x:Int)=(x:Int):=fun x hx=>by rw[wrap_u64];omega
 have j:Prs f (f.push (.cells (Z 16) 232 1 false)):=(zOp i.ok).push _;have G:(f.push (.cells (Z 16) 232 1 false)).h.get f.next=some (.cells ([]++(Z 4++Z 12)) 232 1 false):=zOh _ _
 have M:(f.push (.cells (Z 16) 232 1 false)).next=f.next+1:=rfl
 generalize N:f.push (.cells (Z 16) 232 1 false)=H3 at j G M;obtain⟨Y,e4,I,st4,n4⟩:=zBD D n j.ok (cc:=32) (k:=4) (off:=0) a G rfl (by simp[Z]) (by omega) o;rw[show[]++(jQ (be 4 a)++Z 12)=jQ (be 4 a)++(Z 4++Z 8)from rfl]at I;obtain⟨H5,e5,J,m,n5⟩:=zBD D n st4.ok (cc:=24) (k:=4) (off:=4) b I (by simp[jQ,Nd.be_length]) (by simp[Z]) (by omega) o;rw[<-qH,show Z 8=Z 8++[]from rfl]at J;obtain⟨u,e6,v,y,n6⟩:=zBD D n m.ok (cc:=16) (k:=8) (off:=8) s J (by simp[jQ,Nd.be_length]) (by simp[Z]) (by omega) o;have z:H3.h.get H.next=some (.cells (jV ⟨a,b,s⟩) 42 1 false):=j.get i.ok (i.get q.ok (zOh _ _))
 have a0:H.next<f.next:=by have:=i.next;rw[zOi]at this;omega
 have C:Y.h.get H.next=some (.cells (jV ⟨a,b,s⟩) 42 1 false):=by rw[st4.keep _ (by have:=j.next;omega) (by omega)];exact z
 have O:H5.h.get H.next=some (.cells (jV ⟨a,b,s⟩) 42 1 false):=by rw[m.keep _ (by have:=j.next;omega) (by omega)];exact C
 have K:jQ (be 4 a)++jQ (be 4 b)++(jQ (be 8 s)++[])=jQ (QQ ⟨a,b,s⟩):=by simp[QQ,jQ]
 rw[K]at v;have Q:zE9 (.slice f.next 0 16 32) u=some (S (QQ ⟨a,b,s⟩)):=YU ⟨by simp[jQ,Nd.encP_length], .inr (.inr ⟨_,_,_,_,_,_,_,rfl,v,by have:=(y.ok).lt v;exact this,by simp[jQ,Nd.encP_length],by simp[zZ,jQ,Nd.encP_length]⟩)⟩ (by simp)
 refine⟨u, ?_, ?_⟩
 .simp only[f72,ev,kT F,L,qA,V,hp];simp only[ev,kT i.ok,Bool.not_true,zM,qE,zKT,N,zEV,zEU,zMT,slA _ 4 8 (by omega) (by omega) (by omega),jP z,jP C,jP O,jV,t a (by omega),t b (by omega),t s (by omega),e4,e5,e6,Q]
 .have T:Stp (fun B=>B=f.next) H3 u:=(st4.trans m).trans y
  exact(q.trans i).trans (j.fresh T (fun A hA=>by omega))
theorem WU (lt:Str->Str->Bool): ∀l:List Str,Nd.rising lt l=true↔ ∀i (h:i+1<l.length),lt l[i] l[i+1]=true
 | []=>by simp[Nd.rising]
 | [a]=>by simp[Nd.rising]
 | a::b::l=>by
  have f:=WU lt (b::l);simp only[Nd.rising,zF,f];constructor
  .rintro⟨h1,h2⟩ i h
   cases i with
   | zero=>exact h1
   | succ i=>exact h2 i (by simpa using h)
  .intro h;exact⟨h 0 (by simp),fun i hi=>h (i+1) (by simpa using hi)⟩
def zE0 (l:List Str)(i:Nat):Bool:=Nd.mayK (l.getD i [])&&(decide (i=0)||ltS (l.getD (i - 1) []) (l.getD i []))
theorem zG0 (l:List Str):(List.range l.length).all (zE0 l)=(l.all Nd.mayK&&Nd.rising ltS l):=by
 rw[yG,zF,WU];simp only[y8,List.mem_range,zE0,zF,yZ,zQ];constructor
 .intro h;refine⟨fun x a=> ?_,fun i hi=> ?_⟩
  .obtain⟨i,hi,rfl⟩:=List.mem_iff_getElem.1 a;have:=(h i hi).1;rwa[qG,zK hi]at this
  .have:=(h (i+1) hi).2;simp only[Nat.add_eq_zero_iff,Nat.one_ne_zero,and_false,false_or,Nat.add_sub_cancel]at this;rwa[qG,zK (by omega),qG,zK hi]at this
 .rintro⟨h1,h2⟩ i hi
  refine⟨?_, ?_⟩
  .rw[qG,zK hi];exact h1 _ (yI hi)
  .by_cases f:i=0
   .exact .inl f
   .right;have:=h2 (i - 1) (by omega);rw[qG,zK (show i - 1<l.length by omega),qG,zK hi];simpa[show i - 1+1=i by omega]using this
theorem zBh (l:List G)(d:G)(f:G->Bool):(List.range l.length).all (fun i=>f (l.getD i d))=l.all f:=by
 rw[yG];simp only[y8,List.mem_range];constructor
 .intro h x a;obtain⟨i,hi,rfl⟩:=List.mem_iff_getElem.1 a;have:=h i hi;rwa[qG,zK hi]at this
 .intro h i hi;rw[qG,zK hi];exact h _ (yI hi)
theorem vN {l:List G}{d:G}(α:h<l.length):l.getD h d=l[h]:=by rw[qG,zK α];rfl
theorem zKJ{l:List Str}(ks:Strs H k l)(x:H.h.get h=some (.cells i w 1 false))(y:i[1]? =some k)(hl:l.length<=1000000000)(v:Nat)(C:l.length<v):
  ∃w H',kL v (gQ D n) [.ptr h 0,k, .int .i64 (l.length:Nat), .int .i64 (0:Nat)] H=some (w,H')/\if(List.range l.length).all (zE0 l)then(w= .exit 0 [.ptr h 0]/\H'=H)else(w= .ret (.bool false)/\H'=H):=by
 refine ZD l.length (zE0 l) (fun A vs H'=>H'=H/\vs=[.ptr h 0,k, .int .i64 (l.length:Nat), .int .i64 (A:Nat)]) (fun w H'=>w= .exit 0 [.ptr h 0]/\H'=H) (fun w H'=>w= .ret (.bool false)/\H'=H) ?_ ?_ ?_ v _ H ⟨rfl,rfl⟩ C
 .rintro A vs H' hi ⟨rfl,rfl⟩ a
  obtain⟨p,o,s⟩:=ks.at hi;simp only[zE0,vN hi,zF,yZ,zQ]at a;refine⟨_,H', ?_,rfl,rfl⟩;have f:((A:Nat):Int)< (l.length:Int):=by omega
  by_cases z:A=0
  .subst z;simp(disch:=omega) only[gQ,eZ,f,o,s,wD,a.1,yS,show((0:Nat):Int)+((1:Nat):Int)=((0+1:Nat):Int)from rfl]
  .have j:A - 1<l.length:=by omega
   obtain⟨q,q1,q2⟩:=ks.at j;have m:=a.2.resolve_left z;rw[vN j]at m;have t:((A:Nat):Int) - ((1:Nat):Int)=((A - 1:Nat):Int):=by omega
   have u:((0:Nat):Int)< (A:Int):=by omega
   simp(disch:=omega) only[gQ,eZ,f,u,o,s,wD,a.1,jP x,y,t,q1,q2,m,yF]
 .rintro A vs H' hi ⟨rfl,rfl⟩ a
  obtain⟨p,o,s⟩:=ks.at hi;have f:((A:Nat):Int)< (l.length:Int):=by omega
  refine⟨.ret (.bool false),H', ?_,rfl,rfl,rfl⟩;simp only[zE0,vN hi]at a
  cases hm:Nd.mayK l[A]with
  | false=>simp(disch:=omega) only[gQ,eZ,f,o,s,wD,hm]
  | true=>
   simp only[hm,Bool.true_and,Bool.or_eq_false_iff,yP]at a;have j:A - 1<l.length:=by omega
   obtain⟨q,q1,q2⟩:=ks.at j;have m:=a.2;rw[vN j]at m;have t:((A:Nat):Int) - ((1:Nat):Int)=((A - 1:Nat):Int):=by omega
   have u:((0:Nat):Int)< (A:Int):=by omega
   simp(disch:=omega) only[gQ,eZ,f,u,o,s,wD,hm,jP x,y,t,q1,q2,m]
 .rintro vs H' ⟨rfl,rfl⟩
  refine⟨.exit 0 [.ptr h 0],H', ?_,rfl,rfl,rfl⟩;simp only[gQ,eZ,yS]
theorem zKI{l:List Str}(h:Strs H k l)(hl:l.length<=1000000000)(m:Nat)(t:l.length<m):
  ∃e H',kL m (ZM D n) [k, .int .i64 (l.length:Nat), .int .i64 (0:Nat)] H=some (e,H')/\if(List.range l.length).all (fun i=>decide ((l.getD i []).length<=200))then(e= .exit 2 []/\H'=H)else(e= .ret (.bool false)/\H'=H):=by
 refine ZD l.length _ (fun i a H'=>H'=H/\a=[k, .int .i64 (l.length:Nat), .int .i64 (i:Nat)]) (fun e H'=>e= .exit 2 []/\H'=H) (fun e H'=>e= .ret (.bool false)/\H'=H) ?_ ?_ ?_ m _ H ⟨rfl,rfl⟩ t
 .rintro i a H' hi ⟨rfl,rfl⟩ o
  obtain⟨p,q,s⟩:=h.at hi;simp only[vN hi,zQ]at o;refine⟨_,H', ?_,rfl,rfl⟩;have f:((i:Nat):Int)< (l.length:Int):=by omega
  have j: ¬((200:Nat):Int)< ((l[i].length:Nat):Int):=by omega
  simp(disch:=omega) only[ZM,eZ,f,q,s,j,yF]
 .rintro i a H' hi ⟨rfl,rfl⟩ o
  obtain⟨p,q,s⟩:=h.at hi;simp only[vN hi,yP]at o;refine⟨.ret (.bool false),H', ?_,rfl,rfl,rfl⟩;have f:((i:Nat):Int)< (l.length:Int):=by omega
  have j:((200:Nat):Int)< ((l[i].length:Nat):Int):=by omega
  simp(disch:=omega) only[ZM,eZ,f,q,s,j,yF]
 .rintro a H' ⟨rfl,rfl⟩
  refine⟨.exit 2 [],H', ?_,rfl,rfl,rfl⟩;simp only[ZM,eZ,yS]
def pz:Ptr:=⟨0,0,0⟩
theorem zNh (x:Ptr):(((decide (x.at_< ((1:Nat):Int))||decide (((8192:Nat):Int)<=x.at_))||decide (x.birth< ((0:Nat):Int)))||decide (((2147483647:Nat):Int)<x.birth))= !(Nd.kidOk x):=by
 rw[yG];simp only[Nd.kidOk,yZ,zQ,yX,Bool.and_eq_false_iff,yP];omega
theorem zC6 (f:H.ok)(x:Ptr): ∃a,stN 3 (.ptr H.next 0) (.agg (jV x)) (H.push (.cells [.int .i64 (0:Nat), .int .i64 (0:Nat), .int .u64 (0:Nat)] 42 1 false))=some (jT,a)/\Prs H a/\a.next=H.next+1/\a.h.get H.next=some (.cells (jV x) 42 1 false):=by
 refine⟨_,JH (zOh _ _) (by decide) rfl rfl (by decide), ?_,rfl,by rw[zOl,if_pos rfl];rfl⟩;exact((zOp f).push _).fresh ((zOp (f.push _)).put (by rw[zOi];omega) _ (.inr rfl)) (fun A i=>by omega)
theorem zKH(z:H.ok){l:List Ptr}(h:bI H k l)(hl:l.length<=1000000000)(u:Nat)(C:l.length<u):
  ∃e H',kL u (KI D n) [k, .int .i64 (l.length:Nat), .int .i64 (0:Nat)] H=some (e,H')/\if(List.range l.length).all (fun i=>Nd.kidOk (l.getD i pz))then(e= .exit 4 []/\Prs H H')else(e= .ret (.bool false)/\Prs H H'):=by
 refine ZD l.length _ (fun i q H'=>Prs H H'/\q=[k, .int .i64 (l.length:Nat), .int .i64 (i:Nat)]) (fun e H'=>e= .exit 4 []/\Prs H H') (fun e H'=>e= .ret (.bool false)/\Prs H H') ?_ ?_ ?_ u _ H ⟨zOp z,rfl⟩ C
 .rintro i q H' hi ⟨a,rfl⟩ f
  obtain⟨p,v,j⟩:=(h.prs a).at hi;simp only[vN hi]at f;generalize l[i]=x at f j;obtain⟨y,m,s,F,o⟩:=zC6 a.ok x;have t:((i:Nat):Int)< (l.length:Int):=by omega
  have hb:=zNh x;rw[f]at hb;simp only[jV]at o m j;refine⟨_,y, ?_,a.trans s,rfl⟩;simp(disch:=omega) only[KI,eZ,t,v,j,kT a.ok,m,jP o,hb,yF]
 .rintro i q H' hi ⟨a,rfl⟩ f
  obtain⟨p,v,j⟩:=(h.prs a).at hi;simp only[vN hi]at f;generalize l[i]=x at f j;obtain⟨y,m,s,F,o⟩:=zC6 a.ok x;have t:((i:Nat):Int)< (l.length:Int):=by omega
  have hb:=zNh x;rw[f]at hb;simp only[jV]at o m j;refine⟨.ret (.bool false),y, ?_,rfl,rfl,a.trans s⟩;simp(disch:=omega) only[KI,eZ,t,v,j,kT a.ok,m,jP o,hb]
 .rintro q H' ⟨a,rfl⟩
  refine⟨.exit 4 [],H', ?_,rfl,rfl,a⟩;simp only[KI,eZ,yS]
theorem uX(O:H.ok){a:Nd.Node}(h:fK H k a)(Y:small a)(hn:200000000<=n):
  ∃H',f109 D n [k] H=some (.bool (Nd.shaped ltS a),H')/\Prs H H':=by
 obtain⟨ks,vs,s,rfl,i,o,p⟩:=h;obtain⟨Z,s2,s3⟩:=Y;have f:Prs H (H.push (.cells [.bool a.leaf,ks,vs,s] 119 1 false)):=(zOp O).push _;have j:(H.push (.cells [.bool a.leaf,ks,vs,s] 119 1 false)).h.get H.next=some (.cells [.bool a.leaf,ks,vs,s] 119 1 false):=zOh _ _
 have T:=Nd.sumL_ge a.keys;have U:=Nd.sumL_ge a.vals;have hf:f109 D n [.agg [.bool a.leaf,ks,vs,s]] H=dV (jb 0 (kL n (gQ D n) [.ptr H.next 0,ks, .int .i64 (a.keys.length:Nat), .int .i64 (0:Nat)] (H.push (.cells [.bool a.leaf,ks,vs,s] 119 1 false))) (Y9 D n)):=by
  simp only[f109,eZ,kT O,i.lnSl]
 rw[hf];generalize H.push (.cells [.bool a.leaf,ks,vs,s] 119 1 false)=H1 at f j;obtain⟨e0,L,e1,C⟩:=zKJ D n (i.prs f) j (by rfl) (by omega) n (by omega);rw[e1];rw[zG0]at C;split at C
 .rename_i M;obtain⟨rfl,rfl⟩:=C;simp only[Nd.shaped,M,Bool.true_and];obtain⟨leaf,keys,vals,kids⟩:=a;simp only at i o p j T U Z s2 s3 M⊢
  cases leaf with
  | true=>
   by_cases u:vals.length=keys.length/\kids.length=0
   .obtain⟨G,I⟩:=u;obtain⟨e3,x,y,m⟩:=zKI D n (o.prs f) (by omega) n (by omega);have z: ¬((vals.length:Int)≠(keys.length:Int)):=by omega
    have t: ¬((kids.length:Int)≠((0:Nat):Int)):=by omega
    have J:kids=[]:=zR I;rw[zBh vals ([]:Str) (fun k=>decide (k.length<=200))]at m;split at m
    .rename_i q;obtain⟨rfl,rfl⟩:=m;refine⟨x, ?_,f⟩;have hr:(decide (vals.length=keys.length)&&decide (kids=[])&&vals.all fun k=>decide (k.length<=200))=true:=by simp only[G,J,q,decide_true,qO]
     simp only[Y9,eZ,jP j,i.lnSl,o.lnSl,p.lnSl,z,t,y,XQ,hr]
    .rename_i q;obtain⟨rfl,rfl⟩:=m;refine⟨x, ?_,f⟩;have hr:(decide (vals.length=keys.length)&&decide (kids=[])&&vals.all fun k=>decide (k.length<=200))=false:=by simp only[y7.2 q,Bool.and_false]
     simp only[Y9,eZ,jP j,i.lnSl,o.lnSl,p.lnSl,z,t,y,XQ,hr]
   .refine⟨L, ?_,f⟩;have hr:(decide (vals.length=keys.length)&&decide (kids=[]))=false:=by
     rw[Bool.and_eq_false_iff,yP,yP];by_cases Q:vals.length=keys.length
     .right;intro hb;exact u ⟨Q,by rw[hb];rfl⟩
     .exact .inl Q
    simp only[Y9,eZ,jP j,i.lnSl,o.lnSl,p.lnSl,hr];rw[if_pos (by simp only[yZ,zQ];omega)];simp only[eZ]
  | false=>
   by_cases u:keys.length≠0/\vals.length=0/\kids.length=keys.length+1
   .obtain⟨G,I,V⟩:=u;obtain⟨e3,x,y,m⟩:=zKH D n f.ok (p.prs f) (by omega) n (by omega);have z: ¬((keys.length:Int)=((0:Nat):Int)):=by omega
    have t: ¬((vals.length:Int)≠((0:Nat):Int)):=by omega
    have N: ¬((kids.length:Int)≠(keys.length:Int)+((1:Nat):Int)):=by omega
    have W:vals=[]:=zR I;have J:keys≠[]:=fun e=>G (by rw[e];rfl)
    rw[zBh kids pz Nd.kidOk]at m;split at m
    .rename_i q;obtain⟨rfl,K⟩:=m;refine⟨x, ?_,f.trans K⟩;have hr:(decide (keys≠[])&&decide (vals=[])&&decide (kids.length=keys.length+1)&&kids.all Nd.kidOk)=true:=by simp only[V,W,q,decide_eq_true J,decide_true,qO]
     simp(disch:=omega) only[Y9,eZ,jP j,i.lnSl,o.lnSl,p.lnSl,z,t,N,y,zD2,hr]
    .rename_i q;obtain⟨rfl,K⟩:=m;refine⟨x, ?_,f.trans K⟩;have hr:(decide (keys≠[])&&decide (vals=[])&&decide (kids.length=keys.length+1)&&kids.all Nd.kidOk)=false:=by simp only[y7.2 q,Bool.and_false]
     simp(disch:=omega) only[Y9,eZ,jP j,i.lnSl,o.lnSl,p.lnSl,z,t,N,y,zD2,hr]
   .refine⟨L, ?_,f⟩;have hr:(decide (keys≠[])&&decide (vals=[])&&decide (kids.length=keys.length+1))=false:=by
     rw[y7];intro F;simp only[zF,zQ]at F;exact u ⟨fun e=>F.1.1 (zR e),by rw[F.1.2];rfl,F.2⟩
    simp(disch:=omega) only[Y9,eZ,jP j,i.lnSl,o.lnSl,p.lnSl,hr];rw[if_pos (by simp only[yZ,zQ];omega)];simp only[eZ]
 .rename_i S;obtain⟨rfl,rfl⟩:=C;refine⟨L, ?_,f⟩;simp only[Nd.shaped,y7.2 S,eZ]
theorem zAd (a:Nd.Node)(ks vs f:AV):uP [.bool a.leaf,ks,vs,f] 0 4=some [.bool a.leaf,ks,vs,f]:=rfl
theorem zFF(j:H.ok){a:Nd.Node}(h:fK H k a)(p:small a)(q:200000000<=n):
  ∃H',f62 D n [k] H=some (.bool (Nd.may ltS a),H')/\Prs H H':=by
 have s:=h;obtain⟨ks,vs,m,rfl,I,J,K⟩:=h;have f:Prs H (H.push (.cells [.bool a.leaf,ks,vs,m] 119 1 false)):=(zOp j).push _;have y:(H.push (.cells [.bool a.leaf,ks,vs,m] 119 1 false)).h.get H.next=some (.cells [.bool a.leaf,ks,vs,m] 119 1 false):=zOh _ _
 obtain⟨C,t,i⟩:=uX D n f.ok (s.prs f) p q;obtain⟨z,F,G,rfl,u⟩:=JJ D n i.ok (s.prs (f.trans i)) p q
 cases o:Nd.shaped ltS a with
 | true=>
  refine⟨F, ?_,(f.trans i).trans u⟩;have x:(((Nd.size a:Nat):Int)<=((500:Nat):Int))=(Nd.size a<=500):=by rw[eq_iff_iff];omega
  simp only[f62,eZ,kT j,zAd,qA,t,o,jU (i.get f.ok y),G,x,Nd.may]
 | false=>
  refine⟨C, ?_,f.trans i⟩;simp only[f62,eZ,kT j,zAd,qA,t,o,Nd.may]
end Go.Eng.Sh
end
section
namespace Go.Eng
def fT (k e:Nat)(H:AH)(v:AV)(n:Nat)(l:List AV):Prop:=
 Own k e H v n l\/(l.length=n*k/\ ∃A a g,v= .slice A 0 n (2*n)/\A<H.next/\H.h.get A=some (.cells l a k g))
theorem fT.len (e:fT h w H k t i):i.length=t*h:=by
 rcases e with e | e
 .exact e.1
 .exact e.1
theorem fT.row {k e n:Nat}{H:AH}{v:AV}{l:List AV}(h:fT k e H v n l):Rw k H v n l:=by
 rcases h with h | ⟨a,A,f,g,rfl,i,j⟩
 .exact h.row
 .exact⟨a, .inr (.inr ⟨A,0,2*n,l,f,k,g,rfl,j,i,by omega,by rw[y9,zZ (by omega)]⟩)⟩
theorem fT.mono {k e n:Nat}{S:Nat->Prop}{H H':AH}{v:AV}{l:List AV}(h:fT k e H v n l)(s:Stp S H H')(a: ∀A,Blk v A-> ¬S A):fT k e H' v n l:=by
 rcases h with h | ⟨i,A,j,g,rfl,f,m⟩
 .exact .inl (h.mono s a)
 .exact .inr ⟨i,A,j,g,rfl,qJ f s.next,by rw[s.keep A f (a A (zOm.2 rfl))];exact m⟩
theorem fT.lt (e:fT h w H k t i)(a:Blk k s):s<H.next:=by
 rcases e with⟨_,⟨rfl,_⟩ | ⟨A,rfl,f,_⟩⟩ | ⟨_,A,n,g,rfl,f,_⟩
 .exact(zOt.1 a).elim
 .rw[zOm.1 a];exact f
 .rw[zOm.1 a];exact f
theorem fT.app1 {k e bytes n m:Nat}{H:AH}{v:AV}{l new:List AV}(i:H.ok)(o:0<k)(h:fT k e H v n l)(hm:new.length=m*k)(z:n+m<=1000000000)(hb:bytes<=1000):
  ∃p H',Eng.app1 e k bytes m new v H=some (p,H')/\fT k e H' p (n+m) (l++new)/\Stp (Blk v) H H'/\(∀B,Blk p B->Blk v B\/H.next<=B):=by
 by_cases q:m=0
 .subst q;have:new=[]:=zR (by simpa using hm);subst this;rcases h with h | ⟨q,A,j,g,rfl,s,t⟩
  .obtain⟨H',f,u,y,I⟩:=KX (bytes:=bytes) i o h;exact⟨v,H',f, .inl (by simpa using u),y.mono (fun _ _ x=>x.elim),fun B a=> .inl a⟩
  .have C:kP l g k 0 (2*n) k=n:=by
    simp only[kP,show((2*n) % 2).beq 0=true by rw[jB];rfl,zU,yQ n (show 0<2 by omega)]
   have J:Nat.blt 0 k=true:=by rw[qD];exact o
   have F:setAt l (0+n*k) []=some l:=by rw[xH (by simp;omega)];simp
   have G:(H.put A (.cells l j k g)).h.get A=some (.cells l j k g):=by rw[zOl,if_pos rfl]
   refine⟨.slice A 0 n (2*n),H.put A (.cells l j k g), ?_, .inr ⟨by simpa using q,A,j,g,rfl,s,by simpa using G⟩,(zOp i).put s _ (.inr (zOm.2 rfl)),fun B a=> .inl a⟩;simp only[Eng.app1,t,zEl,C,Nat.add_zero,Nat.ble_eq_true_of_le (zP n),zU,J,F,zBf,wM,kG]
 .rcases h with h | ⟨hl,A,j,g,rfl,s,t⟩
  .obtain⟨H',f,u,y,I⟩:=J0 (bytes:=bytes) i o h hm (by omega) z hb;exact⟨_,H',f, .inl u,y,fun B a=> .inr (by rw[zOm.1 a];exact zP _)⟩
  .have f:=KY (k:=k) (e:=e) (bytes:=bytes) (n:=n) (m:=m) (off:=0) (new:=new) i t (by omega) (by omega) z hb;rw[y9,zZ (by omega)]at f;refine⟨_,_,f, .inl ⟨by simp[hl,hm,j8], .inr ⟨H.next,rfl,Nat.lt_succ_self _,zOh _ _⟩⟩,(zOp i).push _,fun B a=> .inr (by rw[zOm.1 a];exact zP _)⟩
theorem fT.app {bytes m:Nat}{new:List AV}(s:H.ok)(f:0<h)(e:fT h w H k t i)(j:srcOf h q H=some (m,new))(hm:new.length=m*h)(o:jS new=true)(p:t+m<=1000000000)(hb:bytes<=1000):
  ∃a H',apP w h bytes k q H=some (a,H')/\fT h w H' a (t+m) (i++new)/\Stp (Blk k) H H'/\(∀B,Blk a B->Blk k B\/H.next<=B):=by
 obtain⟨a,H',v,n⟩:=e.app1 (bytes:=bytes) (e:=w) s f hm p hb;exact⟨a,H',by simp only[apP,j,o,zU,v],n⟩
theorem fT.isCell {k e n:Nat}{H:AH}{v:AV}{l:List AV}(h:fT k e H v n l):isCell v=true:=h.row.isCell
end Go.Eng
namespace Go.Eng.Sh
open Go.Nd (Ptr sumL encT QQ)
def zHF (P:Nat->Prop)(H:AH)(A:Nat)(l:Str):Prop:= ∃v,Box H A v/\fT 1 5 H v l.length (jQ l)/\(∀B,Blk v B-> ¬P B/\B≠A)/\ ¬P A
theorem zO7 (e sz:Nat)(z x:AV)(h:isCell x=true):Q2 e 1 1 [z] [(0,x)]=some (.cells [x] e 1 false,fun A=> .slice A 0 1 2):=by
 simp only[Q2,gP,kR h,aC,yK,zU,rep];rfl
theorem zHF.app {P:Nat->Prop}{H:AH}{A:Nat}{l m:Str}(h:zHF P H A l)(o:H.ok)(F: ∀B,P B->B<H.next){s:AV}(G:srcOf 1 s H=some (m.length,jQ m))(I:l.length+m.length<=1000000000):
  ∃v f H' i,ld1 (.ptr A 0) H=some v/\apP 5 1 1 v s H=some (f,H')/\stN 1 (.ptr A 0) f H'=some (jT,i)/\zHF P i A (l++m)/\Stp (fun B=> ¬P B) H i:=by
 obtain⟨v,hb,J,j,t⟩:=h;obtain⟨f,H',K,u,p,y⟩:=J.app (bytes:=1) o (by decide) G (by simp[jQ]) (bytesV_cells m) I (by decide);have C:Box H' A v:=hb.mono o p (fun x=>(j A x).2 rfl);obtain⟨i,L,b2,z⟩:=C.st p.ok u.isCell;have M:=hb.lt o;have q: ∀B,Blk f B->B≠A:=fun B a e=>by
  rcases y B a with h | h
  .exact(j B h).2 e
  .omega
 refine⟨v,f,H',i,hb.ld,K,L,⟨f,b2, ?_,fun B a=>⟨fun hp=> ?_,q B a⟩,t⟩, ?_⟩
 .have:=u.mono z (fun B a=>q B a);simpa[jQ]using this
 .rcases y B a with h | h
  .exact(j B h).1 hp
  .have:=F B hp;omega
 .exact(p.mono (fun B _ a=>(j B a).1)).trans (z.mono (fun B _ a=>by rw[a];exact t))
theorem zBu{l s:Str}(P:zHF e H h l)(f:H.ok)(j: ∀B,e B->B<H.next)(T:l.length+s.length+1<=1000000000):
  ∃H',f193 D n [S s, .ptr h 0] H=some (.tuple [],H')/\zHF e H' h (l++encT s)/\Stp (fun B=> ¬e B) H H':=by
 have q:IntKind.wrap .u8 (s.length:Int)=(((UInt8.ofNat s.length).toNat:Nat):Int):=by rw[wrap_u8,UInt8.toNat_ofNat'];omega
 have a:Prs H (H.push (.cells [.int .u8 ((UInt8.ofNat s.length).toNat:Nat)] 5 1 false)):=(zOp f).push _;have t:zHF e (H.push (.cells [.int .u8 ((UInt8.ofNat s.length).toNat:Nat)] 5 1 false)) h l:=by
  obtain⟨v,hb,y,z,C⟩:=P;exact⟨v,hb.mono f a (fun x=>x),y.mono a (fun _ _ x=>x),z,C⟩
 have o:=JI (k:=1) H (jQ [UInt8.ofNat s.length]) 5 1 false 1 2 rfl;obtain⟨v,U,V,F,G,I,J,K,st2⟩:=t.app a.ok (fun B i=>Nat.lt_succ_of_lt (j B i)) (m:=[UInt8.ofNat s.length]) o (by simp;omega);obtain⟨u,W,Y,L,M,N,O,Q,st4⟩:=K.app st2.ok (fun B i=>qJ (j B i) (qR a.next st2.next)) (m:=s) (zBx s F) (by simp;omega)
 have p:ld1 (.ptr h 0) H=some v:=by
  have:=G;rw[zBL _ _ (by obtain⟨v,hb,_⟩:=P;exact hb.lt f)]at this;exact this
 refine⟨L, ?_, ?_,(a.stp.trans st2).trans st4⟩
 .simp only[f193,eZ,p,q];rw[zO7 5 1 _ _ rfl];simp only[eZ,kT f,I,J,M,N,O]
 .simpa[encT]using Q
theorem zJH{E:Nat}{l:Str}{p:Ptr}(P:zHF e H h l)(f:H.ok)(q: ∀B,e B->B<H.next)(hp:Nd.mayP p=true)(s:Nd.sumOk p)(N:l.length+16<=1000000000)(j:100<=n):
  ∃H',f194 D n [.agg (jV p), .ptr E 0, .ptr h 0] H=some (.tuple [],H')/\zHF e H' h (l++QQ p)/\Stp (fun B=> ¬e B) H H':=by
 have i:Prs H (H.push (.cells (jV p) 42 1 false)):=(zOp f).push _;obtain⟨t,u,o⟩:=zAN D n i.ok hp s j;have a:=i.trans o;have y:zHF e t h l:=by
  obtain⟨v,hb,z,C,F⟩:=P;exact⟨v,hb.mono f a (fun x=>x),z.mono a (fun _ _ x=>x),C,F⟩
 obtain⟨v,O,Q,G,I,J,K,L,st4⟩:=y.app a.ok (fun B M=>qJ (q B M) a.next) (m:=QQ p) (zBx _ _) (by rw[Nd.encP_length];omega)
 refine⟨G, ?_,L,(Prs.stp a).trans st4⟩;simp only[f194,eZ,kT f,show uP (jV p) 0 3=some (jV p)from rfl,qA,u,jR,nth,ne_eq,not_true_eq_false,zJQ,I,J,K]
theorem zNZ (m n:Nat)(x a:AV)(H:AH):callV [(109,f109 (dy (m+1)) n),(110,f110 (dy (m+1)) n)] (dy (m+1)) (.func 193 [] [a]) [x] H=f193 (dy m) m [x,a] H:=rfl
theorem zKe (m n:Nat)(x e a:AV)(H:AH):callV [(109,f109 (dy (m+1)) n),(110,f110 (dy (m+1)) n)] (dy (m+1)) (.func 194 [] [e,a]) [x] H=f194 (dy m) m [x,e,a] H:=rfl
structure EncI (N E:Nat)(A:Nat)(H0 H:AH)(l:Str):Prop where
 prs:Prs H0 H
 n:H0.next=N
 out:zHF (fun B=>B<N\/B=E) H A l
 err:Box H E (.int .i64 (0:Nat))
theorem EncI.step {l l':Str}(N:EncI h w t H v l)(f:zHF (fun B=>B<h\/B=w) L t l')(a:Stp (fun B=> ¬(B<h\/B=w)) v L):EncI h w t H L l':=
 ⟨N.prs.fresh a (fun B j=>by rw[N.n];omega),N.n,f,N.err.mono N.prs.ok a (fun i=>i (.inr rfl))⟩
theorem EncI.lt {N E A:Nat}{H0 H:AH}{l:Str}(h:EncI N E A H0 H l): ∀B,(B<N\/B=E)->B<H.next:=by
 rintro B (a | rfl)
 .have:=h.prs.next;rw[h.n]at this;omega
 .exact h.err.lt h.prs.ok
theorem zIK (m n:Nat){X:Nat}{keys vals:List Str}(hX:H.h.get X=some (.cells [.bool true,k,q,B] 119 1 false))(A:H.ok)(G:Strs H k keys)(I:Strs H q vals)(hl:vals.length=keys.length)
  (hb:sumL keys+sumL vals<=10000000) (hd:Str) (U:hd.length<=1000) (N:EncI h w t H v hd) (o:Nat) (x:keys.length<o):
  ∃H',kL o (dD (dy (m+1)) n) [.ptr X 0, .ptr t 0, .ptr w 0, .func 193 [] [.ptr t 0], .func 194 [] [.ptr w 0, .ptr t 0],k, .int .i64 (keys.length:Nat), .int .i64 (0:Nat)] v=some (.exit 0 [.ptr t 0, .ptr w 0],H')/\EncI h w t H H' (hd++Nd.encL keys vals):=by
 have V:=Nd.sumL_ge keys;have key:=fC (b:=dD (dy (m+1)) n) keys.length (fun i E H'=>E=[.ptr X 0, .ptr t 0, .ptr w 0, .func 193 [] [.ptr t 0], .func 194 [] [.ptr w 0, .ptr t 0],k, .int .i64 (keys.length:Nat), .int .i64 (i:Nat)]/\EncI h w t H H' (hd++Nd.encL (keys.take i) (vals.take i)))
  (fun i E Z hi ⟨y,a⟩=>by
   subst y;have j:i<vals.length:=by omega
   obtain⟨p,J,K⟩:=(G.prs a.prs).at hi;obtain⟨_,W⟩:=JE keys i hi;obtain⟨_,Y⟩:=JE vals i j;have u:(Nd.encL (keys.take i) (vals.take i)).length=sumL (keys.take i)+sumL (vals.take i):=Nd.encL_length _ _ (by simp[hl]);obtain⟨H2,L,M,st2⟩:=zBu (dy m) m (s:=keys[i]) a.out a.prs.ok a.lt (by simp only[zV,u];omega);have f:=a.step M st2;obtain⟨ks,q1,q2⟩:=(I.prs f.prs).at j;obtain⟨O,Q,S,st3⟩:=zBu (dy m) m (s:=vals[i]) f.out f.prs.ok f.lt (by simp only[zV,u,Nd.encT,zY];omega);have z:=f.step S st3;have C:((i:Nat):Int)< (keys.length:Int):=by omega
   refine⟨_,O, ?_,rfl, ?_⟩
   .simp(disch:=omega) only[dD,eZ,C,J,K,zNZ,L,jP (f.prs.get A hX),q1,q2,Q,XL,yF]
   .rw[wZ keys i hi,wZ vals i j,Nd.encL_snoc _ _ _ _ (by simp[hl])];simpa using z) o _ v ⟨rfl,by simpa[Nd.encL]using N⟩ x
 obtain⟨H0,E,H',T,rfl,a⟩:=key;refine⟨H', ?_,by rw[zZ (zP _),zZ (by omega)]at a;exact a⟩;rw[T];exact jZ (by simp only[dD,eZ,yS])
theorem zIL (m n:Nat)(hm:100<=m){E:Nat}{keys:List Str}{k0:Ptr}{kids:List Ptr}(hX:H.h.get t=some (.cells [.bool false,k,q,B] 119 1 false))(z:H.ok)(L:Strs H k keys)(M:bI H B (k0::kids))(hl:kids.length=keys.length)
  (y: ∀p∈kids,Nd.mayP p=true/\Nd.sumOk p) (hb:sumL keys+16*kids.length<=10000000) (hd:Str) (Z:hd.length<=1000) (N:EncI h E w H v hd) (o:Nat) (C:keys.length<o):
  ∃H',kL o (dD (dy (m+1)) n) [.ptr t 0, .ptr w 0, .ptr E 0, .func 193 [] [.ptr w 0], .func 194 [] [.ptr E 0, .ptr w 0],k, .int .i64 (keys.length:Nat), .int .i64 (0:Nat)] v=some (.exit 0 [.ptr w 0, .ptr E 0],H')/\EncI h E w H H' (hd++Nd.encI keys kids):=by
 have a0:=Nd.sumL_ge keys;have key:=fC (b:=dD (dy (m+1)) n) keys.length (fun i A H'=>A=[.ptr t 0, .ptr w 0, .ptr E 0, .func 193 [] [.ptr w 0], .func 194 [] [.ptr E 0, .ptr w 0],k, .int .i64 (keys.length:Nat), .int .i64 (i:Nat)]/\EncI h E w H H' (hd++Nd.encI (keys.take i) (kids.take i)))
  (fun i A H1 hi ⟨F,a⟩=>by
   subst F;have j:i<kids.length:=by omega
   obtain⟨p,O,Q⟩:=(L.prs a.prs).at hi;obtain⟨_,a1⟩:=JE keys i hi;have u:(Nd.encI (keys.take i) (kids.take i)).length=sumL (keys.take i)+16*(kids.take i).length:=Nd.encI_length _ _ (by simp[hl]);have X:(kids.take i).length=i:=by simp;omega
   obtain⟨H2,S,T,st2⟩:=zBu (dy m) m (s:=keys[i]) a.out a.prs.ok a.lt (by simp only[zV,u,X];omega);have f:=a.step T st2;obtain⟨ks,q1,q2⟩:=bI.at (M.prs f.prs) (i:=i+1) (by simpa using j);obtain⟨G,I⟩:=y _ (yI j);obtain⟨U,V,W,st3⟩:=zJH (dy m) m (E:=E) (p:=kids[i]) f.out f.prs.ok f.lt G I (by simp only[zV,u,X,Nd.encT,zY];omega) hm;have J:=f.step W st3;have K:((i:Nat):Int)< (keys.length:Int):=by omega
   simp only[List.getElem_cons_succ]at q2;refine⟨_,U, ?_,rfl, ?_⟩
   .simp(disch:=omega) only[dD,eZ,K,O,Q,zNZ,S,jP (f.prs.get z hX),q1,q2,zKe,V,XL,yF]
   .rw[wZ keys i hi,wZ kids i j,Nd.encI_snoc _ _ _ _ (by simp[hl])];simpa using J) o _ v ⟨rfl,by simpa[Nd.encI]using N⟩ C
 obtain⟨H0,A,H',Y,rfl,a⟩:=key;refine⟨H', ?_,by rw[zZ (zP _),zZ (by omega)]at a;exact a⟩;rw[Y];exact jZ (by simp only[dD,eZ,yS])
theorem Box.new (H:AH)(v:AV)(e:TypeId):Box (H.push (.cells [v] e 1 false)) H.next v:=⟨e,zOh _ _⟩
theorem zLS (L:H.ok)(k:Nat): ∃a j,stN 1 (.ptr (H.next+1) 0) (.slice H.next 0 2 4) ((H.push (.cells [.int .u8 (((UInt8.ofNat (k / 256)).toNat:Nat):Int), .int .u8 ((UInt8.ofNat k).toNat:Nat)] 5 1 false)).push (.cells [.nS] 216 1 false))=some (jT,a)/\a.ok/\a.next=H.next+2/\
  stN 1 (.ptr (H.next+2) 0) (.int .i64 (0:Nat)) (a.push (.cells [.int .i64 (0:Nat)] 32 1 false))=some (jT,j)/\EncI H.next (H.next+2) (H.next+1) H j (Nd.be 2 k):=by
 have m:Prs H (H.push (.cells [.int .u8 (((UInt8.ofNat (k / 256)).toNat:Nat):Int), .int .u8 ((UInt8.ofNat k).toNat:Nat)] 5 1 false)):=(zOp L).push _;have z:(H.push (.cells [.int .u8 (((UInt8.ofNat (k / 256)).toNat:Nat):Int), .int .u8 ((UInt8.ofNat k).toNat:Nat)] 5 1 false)).h.get H.next=some (.cells (jQ (Nd.be 2 k)) 5 1 false):=zOh _ _
 have C:(H.push (.cells [.int .u8 (((UInt8.ofNat (k / 256)).toNat:Nat):Int), .int .u8 ((UInt8.ofNat k).toNat:Nat)] 5 1 false)).next=H.next+1:=rfl
 generalize H.push (.cells [.int .u8 (((UInt8.ofNat (k / 256)).toNat:Nat):Int), .int .u8 ((UInt8.ofNat k).toNat:Nat)] 5 1 false)=H4 at m z C;have p:=Box.new H4 .nS 216;have q:Prs H4 (H4.push (.cells [.nS] 216 1 false)):=(zOp m.ok).push _;have F:(H4.push (.cells [.nS] 216 1 false)).next=H4.next+1:=rfl
 have G:=q.get m.ok z;generalize H4.push (.cells [.nS] 216 1 false)=H5 at q p F G;rw[C]at p F;obtain⟨a,s,M,f⟩:=p.st q.ok (x:= .slice H.next 0 2 4) rfl
 have V:=f.next
 have N:a.h.get H.next=some (.cells (jQ (Nd.be 2 k)) 5 1 false):=by rw[f.keep _ (by omega) (by omega)];exact G
 have v:a.next=H.next+2:=by
  have:a.next=H5.next:=by
   obtain⟨e,hb⟩:=p;have:=cI (x:= .slice H.next 0 2 4) (o:=0) hb (by decide) rfl (by simp)
   rw[this]at s;simp only[zC,zT,true_and]at s;rw[<-s];rfl
  omega
 have O:Prs H a:=(m.trans q).fresh f (fun A Q=>by omega);have u:=Box.new a (.int .i64 (0:Nat)) 32;have i:Prs a (a.push (.cells [.int .i64 (0:Nat)] 32 1 false)):=(zOp f.ok).push _;have I:(a.push (.cells [.int .i64 (0:Nat)] 32 1 false)).next=a.next+1:=rfl
 have J:=i.get f.ok N;have y:=M.mono f.ok i (fun x=>x);generalize K:a.push (.cells [.int .i64 (0:Nat)] 32 1 false)=H7 at i u I J y;rw[v]at u I;obtain⟨j,S,T,t⟩:=u.st i.ok (x:= .int .i64 (0:Nat)) rfl;have W:=t.next
 refine⟨a,j,s,f.ok,v,by rw[K];exact S,⟨(O.trans i).fresh t (fun A Q=>by omega),rfl,⟨_,y.mono i.ok t (by omega), .inr ⟨rfl,H.next,5,false,rfl,by omega,by rw[t.keep _ (by omega) (by omega)];exact J⟩, ?_,by omega⟩,T⟩⟩
 intro B U;rw[zOm]at U;omega
theorem cS (a b c d:AV):uP [a,b,c,d] 0 4=some [a,b,c,d]:=rfl
def zK9 (a:Nd.Node):Str×Nat:=if Nd.shaped ltS a then if Nd.size a<=500 then(Nd.encN a,0)else([],40)else([],4)
theorem zGD (m n:Nat)(hm:100<=m)(hn:200000000<=n)(M:H.ok){J:Nd.Node}(h:fK H k J)(hs:small J)(Y: ∀p∈J.kids,Nd.sumOk p):
  ∃H',f149 (dy (m+1)) n [k] H=some (.tuple [S (zK9 J).1, .int .i64 ((zK9 J).2:Nat)],H')/\Prs H H':=by
 obtain⟨leaf,keys,vals,kids⟩:=J;have Z:=h;obtain⟨ks,vs,ps,rfl,N,h2,h3⟩:=h;simp only at Z N h2 h3 Y⊢;have O:Prs H (H.push (.cells [.bool leaf,ks,vs,ps] 119 1 false)):=(zOp M).push _;have V:(H.push (.cells [.bool leaf,ks,vs,ps] 119 1 false)).h.get H.next=some (.cells [.bool leaf,ks,vs,ps] 119 1 false):=zOh _ _
 obtain⟨H2,W,K⟩:=uX (dy (m+1)) n O.ok (Z.prs O) hs hn;have a4:(AV.str 0 0)=S []:=rfl
 cases G:Nd.shaped ltS ⟨leaf,keys,vals,kids⟩with
 | false=>
  refine⟨H2, ?_,O.trans K⟩;simp only[f149,eZ,kT M,cS,qA,W,G,zK9,a4]
 | true=>
  have T:=K.get O.ok V;have a0:Prs H H2:=O.trans K;obtain⟨z,o,e3,rfl,f⟩:=JJ (dy (m+1)) n K.ok (Z.prs a0) hs hn;have I:=f.get K.ok T;have t:Prs H o:=a0.trans f;by_cases U:Nd.size ⟨leaf,keys,vals,kids⟩<=500
  .have Q: ¬((500:Nat):Int)< ((Nd.size ⟨leaf,keys,vals,kids⟩:Nat):Int):=by omega
   obtain⟨H6,H8,e6,a5,n6,e8,j⟩:=zLS f.ok keys.length;have b4:=Nd.be_length 2 keys.length;have w1:IntKind.wrap .u8 ((keys.length:Int) / 2 ^ 8)=(((UInt8.ofNat (keys.length / 256)).toNat:Nat):Int):=by rw[wrap_u8,UInt8.toNat_ofNat'];omega
   have w2:IntKind.wrap .u8 (keys.length:Int)=(((UInt8.ofNat keys.length).toNat:Nat):Int):=by rw[wrap_u8,UInt8.toNat_ofNat'];omega
   have a6: ∀x y:Int,Q2 5 1 2 [.int .u8 (0:Nat)] [(0, .int .u8 x),(1, .int .u8 y)]=some (.cells [.int .u8 x, .int .u8 y] 5 1 false,fun A=> .slice A 0 2 4):=fun x y=>rfl
   have C:=G;simp only[Nd.shaped,zF]at C;have b5:=Nd.sumL_ge keys;have a1:=U;simp only[Nd.size]at a1;have a7:=zDj .i64 .u64 (a:=(keys.length:Int)) (s:=8) (by omega) (by decide);have a8:kC AV.nS=[AV.nS]:=rfl;have a9: ∀z:Int,kC (AV.int .i64 z)=[AV.int .i64 z]:=fun _=>rfl
   have a2: ∀(F:AH) (l:Str),EncI o.next (o.next+2) (o.next+1) o F l-> ∃k,ld1 (.ptr (o.next+2) 0) F=some (.int .i64 (0:Nat))/\ld1 (.ptr (o.next+1) 0) F=some k/\zE9 k F=some (S l):=by
    intro F l j;obtain⟨k,hb,V,_⟩:=j.out;refine⟨k,j.err.ld,hb.ld,YU V.row ?_⟩;rcases V with⟨_,⟨rfl,_⟩ | ⟨A,rfl,_⟩⟩ | ⟨_,A,e',g,rfl,_⟩<;>simp
   cases leaf with
   | true=>
    simp only[if_true,zF,zQ]at C;obtain⟨F,e9,L⟩:=zIK m n I f.ok (N.prs t) (h2.prs t) C.2.1.1 (by omega) _ (by omega) j n (by omega);obtain⟨u,u1,u2,u3⟩:=a2 _ _ L;refine⟨F, ?_,t.trans L.prs⟩;simp(disch:=omega) only[f149,eZ,kT M,cS,qA,W,G,jU T,e3,Q,jP I,N.lnSl,a7,w1,w2,a6,kT f.ok,kT (f.ok.push _),zOi,a8,e6,kT a5,n6,a9,e8,zGl,jP (j.prs.get f.ok I),e9,zCY,u1,u2,u3,ne_eq,not_true_eq_false];simp only[zK9,G,if_true,if_pos U,Nd.encN,Nd.encB]
   | false=>
    simp only[zM,qE,zF,zQ,y8]at C
    cases kids with
    | nil=>simp at C
    | cons k0 kids=>
     simp only[zY]at a1 C;have b0:=C.2.2 k0 (zJ ..);obtain⟨p,p1,p2⟩:=bI.at (h3.prs (t.trans j.prs)) (i:=0) (by simp);simp only[List.getElem_cons_zero]at p2;obtain⟨F,e9,o9,b1⟩:=zJH (dy m) m (E:=o.next+2) (p:=k0) j.out j.prs.ok j.lt (Nd.kidOk_may b0) (Y k0 (zJ ..)) (by omega) hm
     have L:=j.step o9 b1;obtain⟨b2,b3,a3⟩:=zIL m n hm I f.ok (N.prs t) (h3.prs t) (by omega) (fun q hq=>⟨Nd.kidOk_may (C.2.2 q (zE _ hq)),Y q (zE _ hq)⟩) (by omega) _ (by rw[zV,Nd.encP_length];omega) L n (by omega);obtain⟨u,u1,u2,u3⟩:=a2 _ _ a3;refine⟨b2, ?_,t.trans a3.prs⟩;simp(disch:=omega) only[f149,eZ,kT M,cS,qA,W,G,jU T,e3,Q,jP I,N.lnSl,a7,w1,w2,a6,kT f.ok,kT (f.ok.push _),zOi,a8,e6,kT a5,n6,a9,e8,jP (j.prs.get f.ok I),p1,p2,zKe,e9,zGl,jP (L.prs.get f.ok I),b3,zCY,u1,u2,u3,ne_eq,not_true_eq_false];simp only[zK9,G,if_true,if_pos U,Nd.encN,Nd.encB,zM,qE,qH]
  .have Q:((500:Nat):Int)< ((Nd.size ⟨leaf,keys,vals,kids⟩:Nat):Int):=by omega
   refine⟨o, ?_,t⟩;simp only[f149,eZ,kT M,cS,qA,W,G,jU T,e3,Q,zK9,U,a4]
open Go.Nd (bee mayP xR)
theorem zC7 {a b:Nat}(s:a<18446744073709551616)(hb:b<256):wO .or (.int .u64 (a*256:Nat)) (.int .u64 (b:Int))=some (.int .u64 ((a*256+b):Nat))\/18446744073709551616<=a*256:=by
 by_cases h:a*256<18446744073709551616
 .left;have f:Nat.blt (a*256) (YP .u64)=true:=by rw[qD];exact h
  have j:Nat.blt b (YP .u64)=true:=by rw[qD];exact Nat.lt_trans hb (by decide)
  have m:Nat.lor (a*256) b=a*256+b:=by
   have:=Nat.two_pow_add_eq_or_of_lt (b:=b) (i:=8) (by omega) a;rw[Nat.mul_comm a 256];exact this.symm
  have o:keq .u64 .u64=true:=rfl;have p:IntKind.wrap .u64 ((a*256+b:Nat):Int)=((a*256+b:Nat):Int):=by rw[wrap_u64];omega
  have q:aQ .or .u64 (.ofNat (a*256)) (.ofNat b)=some (.int .u64 (a*256+b:Nat)):=by
   simp only[aQ,IntKind.signed,Bool.not_false,f,j,qO,zU,m,vT,Int.ofNat_eq_natCast,p]
  have h6:wO .or (.int .u64 (.ofNat (a*256))) (.int .u64 (.ofNat b))=aQ .or .u64 (.ofNat (a*256)) (.ofNat b):=by simp only[wO,bH,o,zU]
  exact h6.trans q
 .right;omega
theorem zEc (l:Str)(i:Nat)(h:i<l.length):(jQ l)[i]? =some (.int .u8 (l[i].toNat:Nat)):=by simp[jQ,h]
theorem zJ6 (l:Str)(i:Nat)(h:i<l.length):bee (l.take (i+1))=bee (l.take i)*256+l[i].toNat:=by rw[wZ l i h,Nd.bee_snoc]
theorem zAu{l:Str}(h:Rw 1 H k l.length (jQ l))(hl:l.length<=8)(I:100<=n):f226 D n [k] H=some (.int .u64 (bee l:Nat),H):=by
 have key:=bK (b:=XI D n) (H:=H) (r:=some (.exit 0 [.int .u64 (bee l:Nat)],H)) (fun i=>[.int .u64 (bee (l.take i):Nat),k, .int .i64 (l.length:Nat), .int .i64 (i:Nat)]) l.length (fun i hi=>by
  obtain⟨p,x,u,y,f⟩:=h.ld1 hi;rw[zEc l i hi]at f;simp only[zC]at f;subst f;have o:=Nd.bee_lt (l.take i);have m:(l.take i).length=i:=by simp;omega
  have hp:256 ^ i<=256 ^ 7:=Nat.pow_le_pow_right (by omega) (by omega);rw[m]at o;have hb:bee (l.take i)<72057594037927936:=by
   have:(256:Nat) ^ 7=72057594037927936:=by decide
   omega
  have z:l[i].toNat<256:=l[i].toNat_lt;have q:((i:Nat):Int)< (l.length:Int):=by omega
  have C:IntKind.wrap .u64 (((bee (l.take i):Nat):Int)*2 ^ 8)=((bee (l.take i)*256:Nat):Int):=by rw[wrap_u64];omega
  have F:IntKind.wrap .u64 ((l[i].toNat:Nat):Int)=((l[i].toNat:Nat):Int):=by rw[wrap_u64];omega
  have t:=(zC7 (a:=bee (l.take i)) (b:=l[i].toNat) (by omega) z).resolve_right (by omega);have j:=zDk .u64 .u64 ((bee (l.take i):Nat):Int) (s:=8) (by decide);rw[C]at j;simp(disch:=omega) only[XI,eZ,q,u,y,j,F,t,zJ6 l i hi];simp only[yF]) (fun n=>jZ (by
  simp only[XI,eZ,yS,zZ (zP _)])) n (by omega)
 have G:f226 D n [k] H=dV (jb 0 (kL n (XI D n) [.int .u64 (bee (l.take 0):Nat),k, .int .i64 (l.length:Nat), .int .i64 (0:Nat)] H) (zGc D n)):=by
  simp only[f226,eZ,h.lnSl];rfl
 rw[G,key];simp only[eZ,zGc]
theorem zKb (s:Str)(h:s.length<4611686018427387904):zLZ 5 (S s)=some (.cells (jQ s) 5 1 true,fun A=> .slice A 0 s.length 1):=by
 have:Nat.blt s.length 4611686018427387904=true:=by rw[qD];exact h
 simp only[zLZ,S,this,zU,KS]
theorem kD (a:H.ok){l':List AV}(A:H.h.get h=some (.cells i l 1 false))(hl:l'.length=i.length)(f:jS l'=true):
  ∃H',stN i.length (.ptr h 0) (.agg l') H=some (jT,H')/\H'.h.get h=some (.cells l' l 1 false)/\Stp (fun B=>B=h) H H'/\H'.next=H.next:=by
 refine⟨_,JH A (by decide) hl f (by omega), ?_,(zOp a).put (a.lt A) _ (.inr rfl),rfl⟩;rw[zOl,if_pos rfl];simp[kC]
theorem zGO(x:H.ok){s:Str}(a:s.length=16)(y:100<=n):
  ∃H',f211 D n [S s] H=some (.tuple [.agg (jV (if mayP (xR s)then xR s else pz)), .int .i64 (if mayP (xR s)then 0 else 4:Nat)],H')/\Prs H H':=by
 have h16: ¬((s.length:Int)≠((16:Nat):Int)):=by omega
 have i:Prs H (H.push (.cells (jV pz) 42 1 false)):=(zOp x).push _;have g1:(H.push (.cells (jV pz) 42 1 false)).h.get H.next=some (.cells (jV pz) 42 1 false):=zOh _ _
 have n1:(H.push (.cells (jV pz) 42 1 false)).next=H.next+1:=rfl
 generalize T:H.push (.cells (jV pz) 42 1 false)=H1 at i g1 n1;have j:Prs H1 (H1.push (.cells (jQ s) 5 1 true)):=(zOp i.ok).push _;have g2:(H1.push (.cells (jQ s) 5 1 true)).h.get H1.next=some (.cells (jQ s) 5 1 true):=zOh _ _
 have n2:(H1.push (.cells (jQ s) 5 1 true)).next=H1.next+1:=rfl
 generalize U:H1.push (.cells (jQ s) 5 1 true)=H2 at j g2 n2;have M:ldN 16 (.ptr H1.next 0) H2=some (.agg (jQ s)):=by
  rw[jU g2,kV _ _ _ (.inr (by simp[jQ,a])),y9,zZ (by simp[jQ,a])];rfl
 have z:Prs H2 (H2.push (.cells (Z 16) 232 1 false)):=(zOp j.ok).push _;have g3:(H2.push (.cells (Z 16) 232 1 false)).h.get H2.next=some (.cells (Z 16) 232 1 false):=zOh _ _
 have n3:(H2.push (.cells (Z 16) 232 1 false)).next=H2.next+1:=rfl
 generalize V:H2.push (.cells (Z 16) 232 1 false)=H3 at z g3 n3;obtain⟨f,e4,g4,m,n4⟩:=kD z.ok g3 (l':=jQ s) (by simp[jQ,Z,a]) (bytesV_cells s);have W:stN 16 (.ptr H2.next 0) (.agg (jQ s)) H3=some (jT,f):=e4
 have t:Prs f (f.push (.cells (jV pz) 42 1 false)):=(zOp m.ok).push _;have g5:(f.push (.cells (jV pz) 42 1 false)).h.get f.next=some (.cells (jV pz) 42 1 false):=zOh _ _
 have n5:(f.push (.cells (jV pz) 42 1 false)).next=f.next+1:=rfl
 have p:=t.get m.ok g4;generalize Y:f.push (.cells (jV pz) 42 1 false)=H5 at t g5 n5 p;have a5:Rw 1 H5 (.slice H2.next 0 4 32) (s.take 4).length (jQ (s.take 4)):=by
  refine⟨by simp[jQ], .inr (.inr ⟨H2.next,0,32,_,_,_,_, ?_,p,by omega,by simp[jQ];omega, ?_⟩)⟩
  .simp[a]
  .simp[jQ,a]
 have a6:Rw 1 H5 (.slice H2.next 4 4 24) ((s.drop 4).take 4).length (jQ ((s.drop 4).take 4)):=by
  refine⟨by simp[jQ], .inr (.inr ⟨H2.next,4,24,_,_,_,_, ?_,p,by omega,by simp[jQ];omega, ?_⟩)⟩
  .simp[a]
  .simp[jQ,a]
 have a7:Rw 1 H5 (.slice H2.next 8 8 16) (s.drop 8).length (jQ (s.drop 8)):=by
  refine⟨by simp[jQ], .inr (.inr ⟨H2.next,8,16,_,_,_,_, ?_,p,by omega,by simp[jQ];omega, ?_⟩)⟩
  .simp[a]
  .rw[zZ (by simp[jQ,a])];simp[jQ]
 have q1:=zAu D n a5 (by simp;omega) y;have q2:=zAu D n a6 (by simp;omega) y;have q3:=zAu D n a7 (by simp;omega) y;have b1:=Nd.bee_lt (s.take 4);have b2:=Nd.bee_lt ((s.drop 4).take 4);rw[show(s.take 4).length=4 by simp;omega]at b1;rw[show((s.drop 4).take 4).length=4 by simp;omega]at b2;have w1:IntKind.wrap .i64 ((bee (s.take 4):Nat):Int)=((bee (s.take 4):Nat):Int):=wrap_i64 (by omega) (by omega);have w2:IntKind.wrap .i64 ((bee ((s.drop 4).take 4):Nat):Int)=((bee ((s.drop 4).take 4):Nat):Int):=wrap_i64 (by omega) (by omega);obtain⟨H6,e6,C,u,n6⟩:=kD t.ok g5 (l':=jV (xR s)) rfl rfl;have a0:stN 3 (.ptr f.next 0) (.agg (jV (xR s))) H5=some (jT,H6):=e6
 obtain⟨F,e7,G⟩:=zJG D n u.ok (xR s);have g7:=G.get u.ok C;have N:Prs H1 H6:=((((j.trans z).fresh m (fun B I=>by omega)).trans t).fresh u (fun B I=>by omega));have a1:=G.get u.ok (N.get i.ok g1);have q:Prs H F:=(i.trans N).trans G;have O:uP (jV (xR s)) 0 3=some (jV (xR s)):=rfl;have a9:(AV.agg [.int .i64 (0:Nat), .int .i64 (0:Nat), .int .u64 (0:Nat)])= .agg (jV pz):=rfl;have Q:([.int .i64 (0:Nat), .int .i64 (0:Nat), .int .u64 (0:Nat)]:List AV)=jV pz:=rfl;have a8:uD [(0,1),(1,1),(2,1)] (jV pz) []=some (.agg (jV pz)):=rfl;have a2:uD [(0,1),(1,1),(2,1)] (jV pz) [(0, .int .i64 (bee (s.take 4):Nat)),(1, .int .i64 ((bee ((s.drop 4).take 4):Nat):Int)),(2, .int .u64 (bee (s.drop 8):Nat))]=some (.agg (jV (xR s))):=rfl;have a3: ∀A:Nat,s2a 16 (.slice A 0 16 1)=some (.ptr A 0):=fun _=>rfl
 have a4:uP (jV pz) 0 3=some (jV pz):=rfl
 cases hm:mayP (xR s)with
 | false=>
  obtain⟨o,J,K,L,n8⟩:=kD q.ok a1 (l':=jV pz) rfl rfl;have v:stN 3 (.ptr H.next 0) (.agg (jV pz)) F=some (jT,o):=J
  refine⟨o, ?_,q.fresh L (fun B I=>by omega)⟩;simp(disch:=omega) only[f211,eZ,Q,kT x,T,h16,zKb s (by omega),a,kT i.ok,U,a3,M,kT j.ok,zKT,V,W,zEV,zEU,slA _ 4 8 (by omega) (by omega) (by omega),kT m.ok,Y,q1,w1,q2,w2,q3,a2,a0,jU C,O,qA,e7,hm,a8,v,jU K,a4];rfl
 | true=>
  obtain⟨o,J,K,L,n8⟩:=kD q.ok a1 (l':=jV (xR s)) rfl rfl;have v:stN 3 (.ptr H.next 0) (.agg (jV (xR s))) F=some (jT,o):=J
  refine⟨o, ?_,q.fresh L (fun B I=>by omega)⟩;simp(disch:=omega) only[f211,eZ,Q,kT x,T,h16,zKb s (by omega),a,kT i.ok,U,a3,M,kT j.ok,zKT,V,W,zEV,zEU,slA _ 4 8 (by omega) (by omega) (by omega),kT m.ok,Y,q1,w1,q2,w2,q3,a2,a0,jU C,O,qA,e7,hm,jU g7,v,jU K];rfl
open Go.Nd (xX fO)
theorem Stp.via {T:Nat->Prop}(h:Stp e H v)(k:Stp T v L)(f: ∀A,T A->H.next<=A\/e A):Stp e H L:=
 ⟨k.ok,qR h.next k.next,fun A i j=>by
  rw[k.keep A (qJ i h.next) (fun x=>by rcases f A x with y | y;omega;exact j y),h.keep A i j]⟩
structure RdI (R:Nat)(H0 H:AH)(rest:Str)(bad leaf:Bool)(kv vv pv:AV)(ks vs:List Str)(ps:List Ptr):Prop where
 prs:Stp (fun B=>B=R) H0 H
 get: ∃e,H.h.get R=some (.cells [S rest, .bool bad, .bool leaf,kv,vv,pv] e 1 false)
 k:Own 1 9 H kv ks.length (ks.map S)
 v:Own 1 9 H vv vs.length (vs.map S)
 p:Own 3 42 H pv ps.length (ps.flatMap jV)
 kb: ∀B,Blk kv B->H0.next<=B/\B≠R/\ ¬Blk vv B/\ ¬Blk pv B
 vb: ∀B,Blk vv B->H0.next<=B/\B≠R/\ ¬Blk pv B
 pb: ∀B,Blk pv B->H0.next<=B/\B≠R
 small:rest.length<=10000/\ks.length<=1000000/\vs.length<=1000000/\ps.length<=1000000
theorem RdI.put {R:Nat}{H0 H:AH}{rest:Str}{m leaf:Bool}{kv a f:AV}{ks vs:List Str}{q:List Ptr}(h:RdI R H0 H rest m leaf kv a f ks vs q){o:Nat}{x:AV}(u:isCell x=true)(y:o<6){rest':Str}{bad':Bool}(hr:rest'.length<=10000)
  (hl:[S rest, .bool m, .bool leaf,kv,a,f].set o x=[S rest', .bool bad', .bool leaf,kv,a,f]): ∃H',stN 1 (.ptr R o) x H=some (jT,H')/\RdI R H0 H' rest' bad' leaf kv a f ks vs q:=by
 obtain⟨e,s⟩:=h.get;have t:=h.prs.ok.lt s;have j:Stp (fun B=>B=R) H (H.put R (.cells ([S rest, .bool m, .bool leaf,kv,a,f].set o x) e 1 false)):=(zOp h.prs.ok).put t _ (.inr rfl);refine⟨_,cI s (by decide) u y,⟨h.prs.trans j,⟨e,by rw[zOl,if_pos rfl,hl]⟩,h.k.mono j (fun B i=>(h.kb B i).2.1),h.v.mono j (fun B i=>(h.vb B i).2.1),h.p.mono j (fun B i=>(h.pb B i).2),h.kb,h.vb,h.pb,hr,h.small.2⟩⟩
def wK (rest:Str)(a:Bool)(k:Nat):Str×Str×Bool:=if a then([],rest,true)else if rest.length<k then([],rest,true)else(rest.take k,rest.drop k,false)
theorem zMj:S []= .str 0 0:=rfl
theorem VF{rest:Str}{ks vs:List Str}{t:List Ptr}(R:RdI h H v rest p C k q B ks vs t)(leaf:Nat):
  ∃H',f172 D n [.ptr h 0, .int .i64 (leaf:Nat)] v=some (S (wK rest p leaf).1,H')/\RdI h H H' (wK rest p leaf).2.1 (wK rest p leaf).2.2 C k q B ks vs t:=by
 obtain⟨e,a⟩:=R.get
 cases p with
 | true=>
  obtain⟨f,i,j⟩:=R.put (o:=1) (x:= .bool true) rfl (by decide) (rest':=rest) (bad':=true) R.small.1 rfl;refine⟨f, ?_,j⟩;simp only[f172,eZ,jP a,i,wK,zMj]
 | false=>
  by_cases u:rest.length<leaf
  .obtain⟨f,i,j⟩:=R.put (o:=1) (x:= .bool true) rfl (by decide) (rest':=rest) (bad':=true) R.small.1 rfl;have m:(rest.length:Int)< (leaf:Int):=by omega
   simp only[wK,u,if_true,zM,qE];refine⟨f, ?_,j⟩;simp only[f172,eZ,jP a,i,m,zMj]
  .obtain⟨f,i,j⟩:=R.put (o:=0) (x:=S (rest.drop leaf)) rfl (by decide) (rest':=rest.drop leaf) (bad':=false) (by have:=R.small.1;simp;omega) rfl;have m: ¬(rest.length:Int)< (leaf:Int):=by omega
   have H0:=zI0 rest .i64 (z:=(leaf:Int)) (by omega) (by omega);have y:=zHZ rest .i64 (z:=(leaf:Int)) (by omega) (by omega);simp only[yD]at H0 y;simp only[wK,u,zM,qE];refine⟨f, ?_,j⟩;simp only[f172,eZ,jP a,i,m,H0,y]
def vG (rest:Str)(a:Bool):Str×Str×Bool:=if(wK rest a 1).2.2 then([],(wK rest a 1).2)else wK (wK rest a 1).2.1 false ((wK rest a 1).1.getD 0 0).toNat
theorem BF (rest:Str):(vG rest true).2.2=true:=by simp[vG,wK]
theorem gH {rest a r:Str}(h:xX rest=some (a,r)):vG rest false=(a,r,false):=by
 cases rest with
 | nil=>simp[xX]at h
 | cons c s=>
  simp only[xX]at h;split at h
  .rename_i f;simp only[zC,zT]at h;obtain⟨rfl,rfl⟩:=h;simp[vG,wK];omega
  .simp at h
theorem Q3 {rest:Str}(h:xX rest=none):(vG rest false).2.2=true:=by
 cases rest with
 | nil=>simp[vG,wK]
 | cons c s=>
  simp only[xX]at h;split at h
  .simp at h
  .rename_i f;have i: ¬(c::s).length<1:=by simp
   have a:s.length<c.toNat:=by omega
   simp[vG,wK,a]
theorem zJw{rest:Str}{ks vs:List Str}{s:List Ptr}(R:RdI h H v rest p C k q B ks vs s):
  ∃H',f210 D n [.ptr h 0] v=some (S (vG rest p).1,H')/\RdI h H H' (vG rest p).2.1 (vG rest p).2.2 C k q B ks vs s:=by
 obtain⟨x,t,f⟩:=VF D n R 1;obtain⟨e,i⟩:=f.get;by_cases hb:(wK rest p 1).2.2=true
 .rw[hb]at f i;refine⟨x, ?_,by simp only[vG,hb,if_true];exact f⟩;simp only[f210,eZ,t,jP i,vG,hb,zMj]
 .have j:(wK rest p 1).2.2=false:=by simpa using hb
  have m:(wK rest p 1).1.length=1:=by
   revert j;unfold wK;split
   .intro R;simp at R
   .split
    .intro R;simp at R
    .intro _;simp;omega
  rw[j]at f i;obtain⟨y,a,F⟩:=VF D n f ((wK rest p 1).1.getD 0 0).toNat;have o:=U7 (wK rest p 1).1 .i64 (z:=((0:Nat):Int)) (by omega) (by simp[m]);have u:(wK rest p 1).1[(((0:Nat):Int)).toNat]'(by simp[m])=(wK rest p 1).1.getD 0 0:=by
   rw[qG,zK (by omega)];rfl
  rw[u]at o;have G:IntKind.wrap .i64 ((((wK rest p 1).1.getD 0 0).toNat:Nat):Int)=((((wK rest p 1).1.getD 0 0).toNat:Nat):Int):=wrap_i64 (by omega) (by have:=((wK rest p 1).1.getD 0 0).toNat_lt;omega);have H0:vG rest p=wK (wK rest p 1).2.1 false ((wK rest p 1).1.getD 0 0).toNat:=by simp only[vG,j,zM,qE]
  rw[H0];refine⟨y, ?_,F⟩;simp only[f210,eZ,t,jP i,o,G,a]
theorem zO6 (x:AV)(h:isCell x=true):Q2 9 1 1 [.str 0 0] [(0,x)]=some (.cells [x] 9 1 false,fun A=> .slice A 0 1 2):=zO7 9 1 _ x h
theorem zDr (e:Own h w H k t i):aveq k k=true:=kK e.row
theorem RdI.prsH {rest:Str}{ks vs:List Str}{j:List Ptr}(R:RdI h H v rest p C k q B ks vs j)(s:Prs v L):RdI h H L rest p C k q B ks vs j:=by
 obtain⟨e,m⟩:=R.get;exact⟨R.prs.trans (Prs.stp s),⟨e,s.get R.prs.ok m⟩,R.k.mono s (fun _ _ x=>x),R.v.mono s (fun _ _ x=>x),R.p.mono s (fun _ _ x=>x),R.kb,R.vb,R.pb,R.small⟩
theorem RdI.lt {R:Nat}{H0 H:AH}{rest:Str}{a leaf:Bool}{kv f i:AV}{ks vs:List Str}{j:List Ptr}(h:RdI R H0 H rest a leaf kv f i ks vs j):R<H.next:=by
 obtain⟨e,m⟩:=h.get;exact h.prs.ok.lt m
theorem Own.lt {k e n:Nat}{H:AH}{v:AV}{l:List AV}(h:Own k e H v n l){B:Nat}(a:Blk v B):B<H.next:=(wF.lt (.inl h) a)
theorem zJz (H:AH)(x:AV)(e:Nat):Prs H (H.push (.cells [x] e 1 false))->srcOf 1 (.slice H.next 0 1 2) (H.push (.cells [x] e 1 false))=some (1,[x]):=fun _=>JI H [x] e 1 false 1 2 rfl
theorem zAo{rest:Str}{ks vs:List Str}{M:List Ptr}(R:RdI h H v rest p C k q B ks vs M)(hs:ks.length<1000000):
  ∃H' m,f173 D n [.ptr h 0] v=some (.tuple [],H')/\RdI h H H' (vG rest p).2.1 (vG rest p).2.2 C m q B (ks++[(vG rest p).1]) vs M:=by
 obtain⟨j,N,i⟩:=zJw D n R;generalize vG rest p=t at N i⊢;obtain⟨e,Z⟩:=R.get;obtain⟨e',g1⟩:=i.get;have G:Prs j (j.push (.cells [S t.1] 9 1 false)):=(zOp i.prs.ok).push _;have f:=i.prsH G;obtain⟨I,O,J,s,n3⟩:=bD (bytes:=16) G.ok (by decide) f.k (zJz j (S t.1) 9 G) rfl rfl (zP 1) (by omega) (by decide);generalize W:AV.slice (j.push (.cells [S t.1] 9 1 false)).next 0 (ks.length+1) 1=m at O J
 have L: ∀leaf,Blk m leaf->leaf=j.next+1:=fun leaf a=>by rw[<-W,zOm]at a;exact a
 have a0:=i.lt;have n2:(j.push (.cells [S t.1] 9 1 false)).next=j.next+1:=rfl
 have a1:=i.prs.next
 obtain⟨F,g2⟩:=f.get;have Q:I.h.get h=some (.cells [S t.2.1, .bool t.2.2, .bool C,k,q,B] F 1 false):=by rw[s.keep _ (by omega) (fun z=>(f.kb _ z).2.1 rfl)];exact g2
 have T:=s.ok.lt Q;have H0:Stp (fun leaf=>leaf=h) I (I.put h (.cells ([S t.2.1, .bool t.2.2, .bool C,k,q,B].set 3 m) F 1 false)):=(zOp s.ok).put T _ (.inr rfl);have U:=cI (o:=3) (x:=m) Q (by decide) J.row.isCell (by simp);have Y: ∀leaf,Blk q leaf-> ¬Blk k leaf:=fun leaf a K=>(f.kb leaf K).2.2.1 a
 have V: ∀leaf,Blk B leaf-> ¬Blk k leaf:=fun leaf a K=>(f.kb leaf K).2.2.2 a
 refine⟨_,m, ?_,⟨(Stp.via f.prs s (fun leaf a=> .inl (f.kb leaf a).1)).trans H0,⟨F,by rw[zOl,if_pos rfl];rfl⟩, ?_,(f.v.mono s Y).mono H0 (fun leaf a=>(f.vb leaf a).2.1),(f.p.mono s V).mono H0 (fun leaf a=>(f.pb leaf a).2), ?_,f.vb,f.pb,⟨i.small.1,by simp;omega,R.small.2.2⟩⟩⟩
 .simp only[f173,eZ,jP Z,N];rw[kY (by rw[jP g1];rfl) (zDr R.k),zO6 _ rfl];simp only[eZ,kT i.prs.ok,O];rw[U];simp only[eZ]
 .have:=J.mono H0 (fun leaf a=>by have:=L leaf a;omega);simpa using this
 .intro leaf a;have:=L leaf a;refine⟨by omega,by omega,fun z=> ?_,fun z=> ?_⟩
  .have:=Own.lt i.v z;omega
  .have:=Own.lt i.p z;omega
theorem zCf{rest:Str}{ks vs:List Str}{M:List Ptr}(R:RdI h H v rest p C k q B ks vs M)(hs:vs.length<1000000):
  ∃H' u,f175 D n [.ptr h 0] v=some (.tuple [],H')/\RdI h H H' (vG rest p).2.1 (vG rest p).2.2 C k u B ks (vs++[(vG rest p).1]) M:=by
 obtain⟨j,N,i⟩:=zJw D n R;generalize vG rest p=t at N i⊢;obtain⟨e,Z⟩:=R.get;obtain⟨e',g1⟩:=i.get;have J:Prs j (j.push (.cells [S t.1] 9 1 false)):=(zOp i.prs.ok).push _;have f:=i.prsH J;obtain⟨K,O,L,s,n3⟩:=bD (bytes:=16) J.ok (by decide) f.v (zJz j (S t.1) 9 J) rfl rfl (zP 1) (by omega) (by decide);generalize W:AV.slice (j.push (.cells [S t.1] 9 1 false)).next 0 (vs.length+1) 1=u at O L
 have G: ∀leaf,Blk u leaf->leaf=j.next+1:=fun leaf a=>by rw[<-W,zOm]at a;exact a
 have a0:=i.lt;have n2:(j.push (.cells [S t.1] 9 1 false)).next=j.next+1:=rfl
 have a1:=i.prs.next
 obtain⟨I,g2⟩:=f.get;have Q:K.h.get h=some (.cells [S t.2.1, .bool t.2.2, .bool C,k,q,B] I 1 false):=by rw[s.keep _ (by omega) (fun H0=>(f.vb _ H0).2.1 rfl)];exact g2
 have T:=s.ok.lt Q;have F:Stp (fun leaf=>leaf=h) K (K.put h (.cells ([S t.2.1, .bool t.2.2, .bool C,k,q,B].set 4 u) I 1 false)):=(zOp s.ok).put T _ (.inr rfl);have U:=cI (o:=4) (x:=u) Q (by decide) L.row.isCell (by simp);have Y: ∀leaf,Blk k leaf-> ¬Blk q leaf:=fun leaf a m=>(f.kb leaf a).2.2.1 m
 have V: ∀leaf,Blk B leaf-> ¬Blk q leaf:=fun leaf a m=>(f.vb leaf m).2.2 a
 refine⟨_,u, ?_,⟨(Stp.via f.prs s (fun leaf a=> .inl (f.vb leaf a).1)).trans F,⟨I,by rw[zOl,if_pos rfl];rfl⟩,(f.k.mono s Y).mono F (fun leaf a=>(f.kb leaf a).2.1), ?_,(f.p.mono s V).mono F (fun leaf a=>(f.pb leaf a).2), ?_, ?_,f.pb,⟨i.small.1,R.small.2.1,by simp;omega,R.small.2.2.2⟩⟩⟩
 .simp only[f175,eZ,jP Z,N];rw[kY (by rw[jP g1];rfl) (zDr R.v),zO6 _ rfl];simp only[eZ,kT i.prs.ok,O];rw[U];simp only[eZ]
 .have:=L.mono F (fun leaf a=>by have:=G leaf a;omega);simpa using this
 .intro leaf a;have m:=f.kb leaf a;refine⟨m.1,m.2.1,fun H0=> ?_,m.2.2.2⟩;have:=G leaf H0;have:=Own.lt i.k a;omega
 .intro leaf a;have:=G leaf a;refine⟨by omega,by omega,fun H0=> ?_⟩;have:=Own.lt i.p H0;omega
def zBM (rest:Str)(a:Bool)(f:List Ptr):Str×Bool×List Ptr:=if(wK rest a 16).2.2 then((wK rest a 16).2.1,true,f)else if mayP (xR (wK rest a 16).1)then((wK rest a 16).2.1,false,f++[xR (wK rest a 16).1])else((wK rest a 16).2.1,true,f)
theorem zCH (rest:Str)(a:List Ptr):(zBM rest true a).2.1=true:=by simp[zBM,wK]
theorem zAl {rest r:Str}{p:Ptr}(f:List Ptr)(h:fO rest=some (p,r)):zBM rest false f=(r,false,f++[p]):=by
 simp only[fO,Nd.decP]at h;split at h
 .rename_i hl;split at h
  .rename_i q a;simp only[zC,zT]at h;obtain⟨rfl,rfl⟩:=h;split at a
   .rename_i hm;simp only[zC]at a;subst a;have: ¬rest.length<16:=by omega
    simp[zBM,wK,this,hm]
   .simp at a
  .simp at h
 .simp at h
theorem zAm {rest:Str}(f:List Ptr)(h:fO rest=none):(zBM rest false f).2.1=true:=by
 simp only[fO,Nd.decP]at h;split at h
 .rename_i hl;split at h
  .simp at h
  .rename_i a;split at a
   .simp at a
   .rename_i hm;have: ¬rest.length<16:=by omega
    simp[zBM,wK,this,hm]
 .rename_i hl;have:rest.length<16:=by omega
  simp[zBM,wK,this]
theorem U4(hn:100<=n){rest:Str}{ks vs:List Str}{H0:List Ptr}(R:RdI h H v rest p C k q B ks vs H0)(hs:H0.length<1000000):
  ∃H' z,f174 D n [.ptr h 0] v=some (.tuple [],H')/\RdI h H H' (zBM rest p H0).1 (zBM rest p H0).2.1 C k q z ks vs (zBM rest p H0).2.2:=by
 obtain⟨H1,J,u⟩:=VF D n R 16;obtain⟨e,K⟩:=u.get;have T:(wK rest p 16).2.2=false->(wK rest p 16).1.length=16:=by
  unfold wK;split
  .intro R;simp at R
  .split
   .intro R;simp at R
   .intro _;simp;omega
 simp only[zBM];generalize wK rest p 16=t at J u K T⊢;obtain⟨s,r,b⟩:=t;simp only at J u K T⊢
 cases b with
 | true=>
  refine⟨H1,B, ?_,by simpa using u⟩;simp only[f174,eZ,J,jP K]
 | false=>
  obtain⟨L,F,p2⟩:=zGO D n u.prs.ok (T rfl) hn;have M:=u.prsH p2;have a0: ∀x:Ptr,∃f,stN 3 (.ptr L.next 0) (.agg (jV x)) (L.push (.cells [.int .i64 (0:Nat), .int .i64 (0:Nat), .int .u64 (0:Nat)] 42 1 false))=some (jT,f)/\Prs L f/\f.next=L.next+1/\f.h.get L.next=some (.cells (jV x) 42 1 false):=zC6 M.prs.ok
  cases hm:mayP (xR s)with
  | false=>
   obtain⟨f,V,W,n3,g3⟩:=a0 pz;have j:=M.prsH W;obtain⟨H4,e4,i⟩:=j.put (o:=1) (x:= .bool true) rfl (by decide) (rest':=r) (bad':=true) u.small.1 rfl;refine⟨H4,B, ?_,by simpa using i⟩;rw[hm]at F;simp only[qE,zM]at F;have a5:(((4:Nat):Int)≠((0:Nat):Int)):=by omega
   simp only[f174,eZ,J,jP K,F,jR,nth,kT M.prs.ok,V,a5,e4,ne_eq,jH]
  | true=>
   obtain⟨f,V,W,n3,g3⟩:=a0 (xR s);have j:=M.prsH W;rw[hm]at F;simp only[if_true]at F;have p4:Prs f (f.push (.cells (jV (xR s)) 42 3 false)):=(zOp j.prs.ok).push _;have i:=j.prsH p4;have n4:(f.push (.cells (jV (xR s)) 42 3 false)).next=f.next+1:=rfl
   have a1:srcOf 3 (.slice f.next 0 1 2) (f.push (.cells (jV (xR s)) 42 3 false))=some (1,jV (xR s)):=JI f _ 42 3 false 1 2 rfl
   obtain⟨Y,e5,Z,G,n5⟩:=bD (bytes:=24) p4.ok (by decide) i.p a1 rfl rfl (zP 1) (by omega) (by decide);generalize a6:AV.slice (f.push (.cells (jV (xR s)) 42 3 false)).next 0 (H0.length+1) 1=z at e5 Z
   have O: ∀leaf,Blk z leaf->leaf=f.next+1:=fun leaf a=>by rw[<-a6,zOm]at a;exact a
   have b2:=j.lt;have b3:=j.prs.next
   obtain⟨b4,a7⟩:=j.get;obtain⟨U,g4⟩:=i.get;have g5:Y.h.get h=some (.cells [S r, .bool false, .bool C,k,q,B] U 1 false):=by rw[G.keep _ (by omega) (fun N=>(i.pb _ N).2 rfl)];exact g4
   have a2:=G.ok.lt g5;have Q:Stp (fun leaf=>leaf=h) Y (Y.put h (.cells ([S r, .bool false, .bool C,k,q,B].set 5 z) U 1 false)):=(zOp G.ok).put a2 _ (.inr rfl);have a3:=cI (o:=5) (x:=z) g5 (by decide) Z.row.isCell (by simp);have a8: ∀leaf,Blk k leaf-> ¬Blk B leaf:=fun leaf a m=>(i.kb leaf a).2.2.2 m
   have a4: ∀leaf,Blk q leaf-> ¬Blk B leaf:=fun leaf a m=>(i.vb leaf a).2.2 m
   have a9:Q2 42 3 1 [.int .i64 (0:Nat), .int .i64 (0:Nat), .int .u64 (0:Nat)] [(0, .agg (jV (xR s)))]=some (.cells (jV (xR s)) 42 3 false,fun A=> .slice A 0 1 2):=rfl;have b0: ¬(((0:Nat):Int)≠((0:Nat):Int)):=by omega
   refine⟨_,z, ?_,⟨(Stp.via i.prs G (fun leaf a=> .inl (i.pb leaf a).1)).trans Q,⟨U,by rw[zOl,if_pos rfl];rfl⟩,(i.k.mono G a8).mono Q (fun leaf a=>(i.kb leaf a).2.1),(i.v.mono G a4).mono Q (fun leaf a=>(i.vb leaf a).2.1), ?_, ?_, ?_, ?_,⟨u.small.1,R.small.2.1,R.small.2.2.1,by simp;omega⟩⟩⟩
   .have b1:uP (jV (xR s)) 0 3=some (jV (xR s)):=rfl;simp only[f174,eZ,J,jP K,F,jR,nth,kT M.prs.ok,V,b0,jP a7,jU g3,b1,qA,a9,kT j.prs.ok,e5];rw[a3];simp only[eZ]
   .have:=Z.mono Q (fun leaf a=>by have:=O leaf a;omega);simpa using this
   .intro leaf a;have m:=i.kb leaf a;refine⟨m.1,m.2.1,m.2.2.1,fun N=> ?_⟩;have:=O leaf N;have:=Own.lt j.k a;omega
   .intro leaf a;have m:=i.vb leaf a;refine⟨m.1,m.2.1,fun N=> ?_⟩;have:=O leaf N;have:=Own.lt j.v a;omega
   .intro leaf a;have:=O leaf a;exact⟨by omega,by omega⟩
open Go.Nd (YS YT)
theorem KR (m n R:Nat)(H:AH):callV [(172,f172 (dy (m+1)) n),(174,f174 (dy (m+1)) n),(62,f62 (dy (m+1)) n)] (dy (m+1)) (.func 173 [.ptr R 0] []) [] H=f173 (dy m) m [.ptr R 0] H:=rfl
theorem zH6 (m n R:Nat)(H:AH):callV [(172,f172 (dy (m+1)) n),(174,f174 (dy (m+1)) n),(62,f62 (dy (m+1)) n)] (dy (m+1)) (.func 175 [.ptr R 0] []) [] H=f175 (dy m) m [.ptr R 0] H:=rfl
theorem zC5 (m n R:Nat)(H:AH):callV [(172,f172 (dy (m+1)) n),(174,f174 (dy (m+1)) n),(62,f62 (dy (m+1)) n)] (dy (m+1)) (.func 174 [.ptr R 0] []) [] H=f174 (dy (m+1)) n [.ptr R 0] H:=rfl
theorem ix2 (a:Nat)(i:Nat)(h:i<2):cN 1 (.slice a 0 2 4) (.int .i64 i)=some (.ptr a i):=by
 have hb:Nat.blt i 2=true:=by rw[qD];exact h
 simp only[cN,kO _ (show(0:Int)<=(i:Int)by omega),yD,hb,zU,kG,j7,Nat.mul_one]
theorem inner (m n:Nat){R:Nat}{a k i:AV}(y:H.h.get h=some (.cells [q,B] l 1 false))(u:v.h.get h=some (.cells [q,B] l 1 false))
  (z:callV [(172,f172 (dy (m+1)) n),(174,f174 (dy (m+1)) n),(62,f62 (dy (m+1)) n)] (dy (m+1)) q [] H=some (.tuple [],v)) (C:callV [(172,f172 (dy (m+1)) n),(174,f174 (dy (m+1)) n),(62,f62 (dy (m+1)) n)] (dy (m+1)) B [] v=some (.tuple [],L)) (o:Nat) (K:3<=o):
  kL o (ZK (dy (m+1)) n) [a, .ptr R 0, .slice h 0 2 4,k,i, .slice h 0 2 4, .int .i64 (2:Nat), .int .i64 (0:Nat)] H=some (.exit 2 [a, .ptr R 0, .slice h 0 2 4,k,i],L):=by
 obtain⟨o,rfl⟩: ∃j,o=j+3:=⟨o - 3,by omega⟩;have f:((0:Nat):Int)< ((2:Nat):Int):=by omega
 have x:((1:Nat):Int)< ((2:Nat):Int):=by omega
 have h22: ¬((2:Nat):Int)< ((2:Nat):Int):=by omega
 have F:((0:Nat):Int)+((1:Nat):Int)=((1:Nat):Int):=rfl;have G:((1:Nat):Int)+((1:Nat):Int)=((2:Nat):Int):=rfl;have I:=ix2 h 0 (by omega);have J:=ix2 h 1 (by omega);rw[kX (vs':=[a, .ptr R 0, .slice h 0 2 4,k,i, .slice h 0 2 4, .int .i64 (2:Nat), .int .i64 (1:Nat)]) (H':=v) (by
  simp(disch:=omega) only[ZK,eZ,f,I,jP y,z,F])]
 rw[kX (vs':=[a, .ptr R 0, .slice h 0 2 4,k,i, .slice h 0 2 4, .int .i64 (2:Nat), .int .i64 (2:Nat)]) (H':=L) (by
  simp(disch:=omega) only[ZK,eZ,x,J,jP u,C,G])]
 exact jZ (by simp only[ZK,eZ,h22])
theorem zNb (m n:Nat)(V:3<=n){R A4:Nat}(t:H.h.get h=some (.cells [.func 173 [.ptr R 0] [], .func 175 [.ptr R 0] []] l 1 false))(G:H.ok)(hR:h≠R)
  {C:Str} (K:Nat) (hK:K<1000000) (h0:RdI R H H C false true .nS .nS .nS [] [] []) (N:Nat) (Y:K<N):
  ∃H',kL N (uH (dy (m+1)) n) [.ptr A4 0, .ptr R 0, .slice h 0 2 4, .int .i64 (K:Nat), .int .i64 (0:Nat)] H=some (.exit 0 [.ptr A4 0, .ptr R 0],H')/\
   ∃kv f ks vs rest,(match YS K C with | some (a,b,r)=>ks=a/\vs=b/\rest=r/\RdI R H H' rest false true kv f .nS ks vs [] | none=>RdI R H H' rest true true kv f .nS ks vs []):=by
 have key:=ZD (b:=uH (dy (m+1)) n) K (fun i=>(YS (i+1) C).isSome)
  (fun i I p=>I=[.ptr A4 0, .ptr R 0, .slice h 0 2 4, .int .i64 (K:Nat), .int .i64 (i:Nat)]/\ ∃kv f ks vs rest,YS i C=some (ks,vs,rest)/\RdI R H p rest false true kv f .nS ks vs [])
  (fun x H'=>x= .exit 0 [.ptr A4 0, .ptr R 0]/\ ∃kv f ks vs rest,YS K C=some (ks,vs,rest)/\RdI R H H' rest false true kv f .nS ks vs [])
  (fun x H'=>x= .exit 0 [.ptr A4 0, .ptr R 0]/\ ∃kv f ks vs rest,RdI R H H' rest true true kv f .nS ks vs []) ?_ ?_ ?_ N _ H ⟨rfl,_,_,_,_,_,rfl,h0⟩ Y
 .obtain⟨x,H',k1,k2⟩:=key;rw[Nd.decL_all]at k2
  cases hd:YS K C with
  | none=>
   rw[hd]at k2;simp only[Option.isSome_none,zM,qE]at k2;obtain⟨rfl,kv,f,ks,vs,rest,o⟩:=k2;exact⟨H',k1,kv,f,ks,vs,rest,o⟩
  | some y=>
   rw[hd]at k2;simp only[jN,if_true]at k2;obtain⟨rfl,kv,f,ks,vs,rest,q,o⟩:=k2;simp only[zC]at q;subst q;exact⟨H',k1,kv,f,ks,vs,rest,rfl,rfl,rfl,o⟩
 .rintro i I p hi ⟨rfl,kv,f,ks,vs,rest,hd,v⟩ j
  obtain⟨_,Z,a0⟩:=Nd.decL_eq hd;obtain⟨F,a1,O,q⟩:=zAo (dy m) m v (by omega);obtain⟨Q,a2,S,s⟩:=zCf (dy m) m q (by omega);have hp:p.h.get h=_:=(v.prs.keep h (G.lt t) hR).trans t;have J:F.h.get h=_:=(q.prs.keep h (G.lt t) hR).trans t;have L:=inner m n (R:=R) (a:= .ptr A4 0) (k:= .int .i64 (K:Nat)) (i:= .int .i64 (i:Nat)) hp J ((KR m n R p).trans O) ((zH6 m n R F).trans S) n V;rw[Nd.decL_snoc,hd]at j;simp only[yJ]at j;have M:((i:Nat):Int)< (K:Int):=by omega
  cases u:xX rest with
  | none=>rw[u]at j;simp at j
  | some a=>
   obtain⟨a,T⟩:=a;rw[u]at j;simp only[yJ]at j;rw[gH u]at q s;simp only at q s
   cases z:xX T with
   | none=>rw[z]at j;simp at j
   | some b=>
    obtain⟨b,r2⟩:=b;rw[gH z]at s;simp only at s;obtain⟨ee,U⟩:=s.get;refine⟨_,Q, ?_,rfl,_,_,_,_,_, ?_,s⟩
    .simp(disch:=omega) only[uH,eZ,M,lnSl,L,ZL,jP U,yF]
    .rw[Nd.decL_snoc,hd];simp only[yJ,u,z]
 .rintro i I p hi ⟨rfl,kv,f,ks,vs,rest,hd,v⟩ j
  obtain⟨_,Z,a0⟩:=Nd.decL_eq hd;obtain⟨F,a1,O,q⟩:=zAo (dy m) m v (by omega);obtain⟨Q,a2,S,s⟩:=zCf (dy m) m q (by omega);have hp:p.h.get h=_:=(v.prs.keep h (G.lt t) hR).trans t;have J:F.h.get h=_:=(q.prs.keep h (G.lt t) hR).trans t;have L:=inner m n (R:=R) (a:= .ptr A4 0) (k:= .int .i64 (K:Nat)) (i:= .int .i64 (i:Nat)) hp J ((KR m n R p).trans O) ((zH6 m n R F).trans S) n V;rw[Nd.decL_snoc,hd]at j;simp only[yJ]at j;have M:((i:Nat):Int)< (K:Int):=by omega
  have W:(vG (vG rest false).2.1 (vG rest false).2.2).2.2=true:=by
   cases u:xX rest with
   | none=>rw[Q3 u];exact BF _
   | some a=>
    obtain⟨a,T⟩:=a;rw[u]at j;simp only[yJ]at j;rw[gH u]
    cases z:xX T with
    | none=>exact Q3 z
    | some b=>rw[z]at j;simp at j
  rw[W]at s;obtain⟨ee,U⟩:=s.get;refine⟨.exit 0 [.ptr A4 0, .ptr R 0],Q, ?_,rfl,rfl,_,_,_,_,_,s⟩;simp(disch:=omega) only[uH,eZ,M,lnSl,L,ZL,jP U]
 .rintro I p ⟨rfl,kv,f,ks,vs,rest,hd,v⟩
  refine⟨.exit 0 [.ptr A4 0, .ptr R 0],p, ?_,rfl,rfl,_,_,_,_,_,hd,v⟩;simp only[uH,eZ,yS]
theorem zNc (m n:Nat)(Z:100<=n){R A4:Nat}(t:H.h.get h=some (.cells [.func 173 [.ptr R 0] [], .func 174 [.ptr R 0] []] l 1 false))(J:H.ok)(hR:h≠R)
  {F:Str}  {G:Ptr} (K:Nat) (hK:K<1000000) (h0:RdI R H v F false false .nS .nS q [] [] [G]) (S:Nat) (a2:K<S):
  ∃H',kL S (uH (dy (m+1)) n) [.ptr A4 0, .ptr R 0, .slice h 0 2 4, .int .i64 (K:Nat), .int .i64 (0:Nat)] v=some (.exit 0 [.ptr A4 0, .ptr R 0],H')/\
   ∃kv j ks f rest,(match YT K F with | some (a,b,r)=>ks=a/\f=G::b/\rest=r/\RdI R H H' rest false false kv .nS j ks [] f | none=>RdI R H H' rest true false kv .nS j ks [] f):=by
 have key:=ZD (b:=uH (dy (m+1)) n) K (fun i=>(YT (i+1) F).isSome)
  (fun i L u=>L=[.ptr A4 0, .ptr R 0, .slice h 0 2 4, .int .i64 (K:Nat), .int .i64 (i:Nat)]/\ ∃kv j ks f rest,YT i F=some (ks,f,rest)/\RdI R H u rest false false kv .nS j ks [] (G::f))
  (fun x H'=>x= .exit 0 [.ptr A4 0, .ptr R 0]/\ ∃kv j ks f rest,YT K F=some (ks,f,rest)/\RdI R H H' rest false false kv .nS j ks [] (G::f))
  (fun x H'=>x= .exit 0 [.ptr A4 0, .ptr R 0]/\ ∃kv j ks f rest,RdI R H H' rest true false kv .nS j ks [] f) ?_ ?_ ?_ S _ v ⟨rfl,_,_,_,_,_,rfl,h0⟩ a2
 .obtain⟨x,H',k1,k2⟩:=key;rw[Nd.decI_all]at k2
  cases hd:YT K F with
  | none=>
   rw[hd]at k2;simp only[Option.isSome_none,zM,qE]at k2;obtain⟨rfl,kv,j,ks,f,rest,p⟩:=k2;exact⟨H',k1,kv,j,ks,f,rest,p⟩
  | some y=>
   rw[hd]at k2;simp only[jN,if_true]at k2;obtain⟨rfl,kv,j,ks,f,rest,e,p⟩:=k2;simp only[zC]at e;subst e;exact⟨H',k1,kv,j,ks,G::f,rest,rfl,rfl,rfl,p⟩
 .rintro i L u hi ⟨rfl,kv,j,ks,f,rest,hd,z⟩ o
  obtain⟨_,a3,a4,_⟩:=Nd.decI_eq hd;obtain⟨I,a5,T,e⟩:=zAo (dy m) m z (by omega);obtain⟨U,a6,V,s⟩:=U4 (dy (m+1)) n Z e (by simp;omega);have hp:u.h.get h=_:=(z.prs.keep h (J.lt t) hR).trans t;have M:I.h.get h=_:=(e.prs.keep h (J.lt t) hR).trans t;have N:=inner m n (R:=R) (a:= .ptr A4 0) (k:= .int .i64 (K:Nat)) (i:= .int .i64 (i:Nat)) hp M ((KR m n R u).trans T) ((zC5 m n R I).trans V) n (by omega);rw[Nd.decI_snoc,hd]at o;simp only[yJ]at o;have O:((i:Nat):Int)< (K:Int):=by omega
  cases Q:xX rest with
  | none=>rw[Q]at o;simp at o
  | some a=>
   obtain⟨a,W⟩:=a;rw[Q]at o;simp only[yJ]at o;rw[gH Q]at e s;simp only at e s
   cases C:fO W with
   | none=>rw[C]at o;simp at o
   | some b=>
    obtain⟨b,r2⟩:=b;rw[zAl _ C]at s;simp only at s;obtain⟨ee,Y⟩:=s.get;refine⟨_,U, ?_,rfl,_,_,_,_,_, ?_,s⟩
    .simp(disch:=omega) only[uH,eZ,O,lnSl,N,ZL,jP Y,yF]
    .rw[Nd.decI_snoc,hd];simp only[yJ,Q,C];rfl
 .rintro i L u hi ⟨rfl,kv,j,ks,f,rest,hd,z⟩ o
  obtain⟨_,a3,a4,_⟩:=Nd.decI_eq hd;obtain⟨I,a5,T,e⟩:=zAo (dy m) m z (by omega);obtain⟨U,a6,V,s⟩:=U4 (dy (m+1)) n Z e (by simp;omega);have hp:u.h.get h=_:=(z.prs.keep h (J.lt t) hR).trans t;have M:I.h.get h=_:=(e.prs.keep h (J.lt t) hR).trans t;have N:=inner m n (R:=R) (a:= .ptr A4 0) (k:= .int .i64 (K:Nat)) (i:= .int .i64 (i:Nat)) hp M ((KR m n R u).trans T) ((zC5 m n R I).trans V) n (by omega);rw[Nd.decI_snoc,hd]at o;simp only[yJ]at o;have O:((i:Nat):Int)< (K:Int):=by omega
  have a0:(zBM (vG rest false).2.1 (vG rest false).2.2 (G::f)).2.1=true:=by
   cases Q:xX rest with
   | none=>rw[Q3 Q];exact zCH _ _
   | some a=>
    obtain⟨a,W⟩:=a;rw[Q]at o;simp only[yJ]at o;rw[gH Q]
    cases C:fO W with
    | none=>exact zAm _ C
    | some b=>rw[C]at o;simp at o
  rw[a0]at s;obtain⟨ee,Y⟩:=s.get;refine⟨.exit 0 [.ptr A4 0, .ptr R 0],U, ?_,rfl,rfl,_,_,_,_,_,s⟩;simp(disch:=omega) only[uH,eZ,O,lnSl,N,ZL,jP Y]
 .rintro L u ⟨rfl,kv,j,ks,f,rest,hd,z⟩
  refine⟨.exit 0 [.ptr A4 0, .ptr R 0],u, ?_,rfl,rfl,_,_,_,_,_,hd,z⟩;simp only[uH,eZ,yS]
def Q0 (H0 H:AH)(v:AV)(a:Nd.Node):Prop:= ∃ks vs f,v= .agg [.bool a.leaf,ks,vs,f]/\Own 1 9 H ks a.keys.length (a.keys.map S)/\Own 1 9 H vs a.vals.length (a.vals.map S)/\Own 3 42 H f a.kids.length (a.kids.flatMap jV)/\(∀B,Blk ks B\/Blk vs B\/Blk f B->H0.next<=B)/\(∀B,Blk ks B-> ¬Blk vs B/\ ¬Blk f B)/\ ∀B,Blk vs B-> ¬Blk f B
theorem Q0.node {a:Nd.Node}(h:Q0 H v k a):fK v k a:=by
 obtain⟨ks,vs,f,e,i,j,m,_⟩:=h;exact⟨ks,vs,f,e,i.row,j.row,m.row⟩
theorem zC8 {b:Nat}(s:h<256)(hb:b<256):wO .or (.int .i64 (h*256:Nat)) (.int .i64 (b:Int))=some (.int .i64 ((h*256+b):Nat)):=by
 have f:h*256||| b=h*256+b:=by
  have:=Nat.two_pow_add_eq_or_of_lt (b:=b) (i:=8) (by omega) h;rw[Nat.mul_comm h 256];exact this.symm
 have a:keq .i64 .i64=true:=rfl;have j:BitVec.ofInt 64 ((h*256:Nat):Int)=BitVec.ofNat 64 (h*256):=BitVec.ofInt_natCast _ _;have m:BitVec.ofInt 64 (b:Int)=BitVec.ofNat 64 b:=BitVec.ofInt_natCast _ _;have o:(BitVec.ofNat 64 (h*256)||| BitVec.ofNat 64 b).toNat=h*256+b:=by
  rw[BitVec.toNat_or,BitVec.toNat_ofNat,BitVec.toNat_ofNat,Nat.mod_eq_of_lt (by omega),Nat.mod_eq_of_lt (by omega),f]
 have h6:wO .or (.int .i64 (.ofNat (h*256))) (.int .i64 (.ofNat b))=aQ.slow .or .i64 (.ofNat (h*256)) (.ofNat b):=by
  simp only[wO,bH,a,zU,aQ,IntKind.signed,Bool.not_true,Bool.false_and,yH]
 have p:aQ.slow .or .i64 (.ofNat (h*256)) (.ofNat b)=some (.int .i64 (h*256+b:Nat)):=by
  have q:aQ.slow .or .i64 (.ofNat (h*256)) (.ofNat b)=fI (IntKind.wrap .i64 ((BitVec.ofInt 64 ((h*256:Nat):Int)||| BitVec.ofInt 64 (b:Int)).toNat:Nat)) (fun n=>some (.int .i64 n)):=rfl;rw[q,zBW,j,m,o,wrap_i64 (by omega) (by omega)]
 exact h6.trans p
theorem head2 {s:Str}(h:2<=s.length): ∃a b,s.take 2=[a,b]/\bee (s.take 2)=a.toNat*256+b.toNat:=by
 match s,h with
 | a::b::l,_=>exact⟨a,b,rfl,by simp[bee]⟩
theorem RdI.base {rest:Str}(R:RdI h H v rest p C .nS .nS .nS [] [] [])(s:Prs v L):RdI h L L rest p C .nS .nS .nS [] [] []:=by
 obtain⟨e,i⟩:=R.get;exact⟨zOp s.ok,⟨e,s.get R.prs.ok i⟩,zOv _ _ _,zOv _ _ _,zOv _ _ _,fun B a=>(zOt.1 a).elim,fun B a=>(zOt.1 a).elim,fun B a=>(zOt.1 a).elim,R.small⟩
theorem zNR(hn:200000000<=n){A4:Nat}{rest:Str}{ks vs:List Str}{s:List Ptr}(a:RdI h v L rest p C k q B ks vs s)(hA: ∃c e,c.length=4/\v.h.get A4=some (.cells c e 1 false))(a2:A4≠h)
  (W:v.ok) (h0:Prs H v) (hR:H.next<=h) (Y:H.next<=A4) (O:p=true\/small ⟨C,ks,vs,s⟩):
  ∃H0 H',dV (dG D n [.ptr A4 0, .ptr h 0] L)=some (.tuple [H0, .int .i64 (if p=false/\rest=[]/\Nd.may ltS ⟨C,ks,vs,s⟩=true then 0 else 4:Nat)],H')/\Prs H H'/\((p=false/\rest=[]/\Nd.may ltS ⟨C,ks,vs,s⟩=true)->Q0 H H' H0 ⟨C,ks,vs,s⟩)/\ ∃l,H0= .agg l/\l.length=4/\jS l=true:=by
 obtain⟨e,t⟩:=a.get;obtain⟨c,ec,K,Q⟩:=hA;have T:uD [(0,1),(1,1),(2,1),(3,1)] [.bool false, .nS, .nS, .nS] []=some (.agg [.bool false, .nS, .nS, .nS]):=rfl;have Z:L.h.get A4=some (.cells c ec 1 false):=(a.prs.keep A4 (W.lt Q) a2).trans Q;have hP:Prs H L:=h0.fresh a.prs (fun kv f=>by rw[f];exact hR);have N: ∀z,Prs L z-> ∃i,stN 4 (.ptr A4 0) (.agg [.bool false, .nS, .nS, .nS]) z=some (jT,i)/\ldN 4 (.ptr A4 0) i=some (.agg [.bool false, .nS, .nS, .nS])/\Prs H i:=by
  intro z j;obtain⟨i,leaf,U,y,n3⟩:=kD j.ok (j.get a.prs.ok Z) (l':=[.bool false, .nS, .nS, .nS]) (by simp[K]) rfl;rw[K]at leaf;refine⟨i,leaf,by rw[jU U];rfl,(hP.trans j).fresh y (fun kv f=>by rw[f];exact Y)⟩
 cases p with
 | true=>
  obtain⟨i,leaf,F,G⟩:=N L (zOp a.prs.ok);refine⟨.agg [.bool false, .nS, .nS, .nS],i, ?_,G,fun R=>by simp at R,_,rfl,rfl,rfl⟩;simp only[dG,eZ,jP t,T,leaf,F,false_and,Bool.true_eq_false]
 | false=>
  have O:=O.resolve_left (by simp);by_cases hr:rest=[]
  .subst hr;have a1:fK L (.agg [.bool C,k,q,B]) ⟨C,ks,vs,s⟩:=⟨k,q,B,rfl,a.k.row,a.v.row,a.p.row⟩;obtain⟨z,u,j⟩:=zFF D n a.prs.ok a1 O hn;have I: ¬(([]:Str)≠[]):=by simp
   have J:(AV.str 0 0)=S []:=rfl;have V:uP [S [], .bool false, .bool C,k,q,B] 2 4=some [.bool C,k,q,B]:=rfl
   cases hm:Nd.may ltS ⟨C,ks,vs,s⟩with
   | false=>
    obtain⟨i,leaf,F,G⟩:=N z j;rw[hm]at u;refine⟨.agg [.bool false, .nS, .nS, .nS],i, ?_,G,fun R=>by simp at R,_,rfl,rfl,rfl⟩;simp only[dG,eZ,jP t,jU t,V,qA,J,I,u,T,leaf,F,and_false]
   | true=>
    rw[hm]at u;have a0:jS [.bool C,k,q,B]=true:=by
     rw[wJ];intro x hx;simp only[zO,List.not_mem_nil,or_false]at hx;rcases hx with rfl | rfl | rfl | rfl
     .rfl
     .exact a.k.row.isCell
     .exact a.v.row.isCell
     .exact a.p.row.isCell
    obtain⟨i,leaf,U,y,n3⟩:=kD j.ok (j.get a.prs.ok Z) (l':=[.bool C,k,q,B]) (by simp[K]) a0;rw[K]at leaf;have a3:ldN 4 (.ptr A4 0) i=some (.agg [.bool C,k,q,B]):=by rw[jU U];rfl
    have a4:A4<v.next:=W.lt Q
    have M: ∀kv,Blk k kv\/Blk q kv\/Blk B kv->v.next<=kv:=by
     rintro kv (R | R | R)
     .exact(a.kb kv R).1
     .exact(a.vb kv R).1
     .exact(a.pb kv R).1
    refine⟨.agg [.bool C,k,q,B],i, ?_,(hP.trans j).fresh y (fun kv f=>by rw[f];exact Y),fun _=>⟨k,q,B,rfl,(a.k.mono j (fun _ _ x=>x)).mono y (fun kv f=>by have:=M kv (.inl f);omega),(a.v.mono j (fun _ _ x=>x)).mono y (fun kv f=>by have:=M kv (.inr (.inl f));omega),(a.p.mono j (fun _ _ x=>x)).mono y (fun kv f=>by have:=M kv (.inr (.inr f));omega),fun kv f=>by have:=M kv f;have:=h0.next;omega,fun kv f=>(a.kb kv f).2.2,fun kv f=>(a.vb kv f).2.2⟩,_,rfl,rfl,a0⟩
    simp only[dG,eZ,jP t,jU t,jU (j.get a.prs.ok t),V,qA,J,I,u,leaf,a3,and_self]
  .obtain⟨i,leaf,F,G⟩:=N L (zOp a.prs.ok);have I:rest≠[]:=hr;have J:(AV.str 0 0)=S []:=rfl;refine⟨.agg [.bool false, .nS, .nS, .nS],i, ?_,G,fun R=>absurd R.2.1 hr,_,rfl,rfl,rfl⟩;simp only[dG,eZ,jP t,J,I,T,leaf,F,false_and,and_false,ne_eq,jH,hr]
theorem zLc (m n:Nat)(O:100<=n){R A4:Nat}(s:H.h.get h=some (.cells [.func 173 [.ptr R 0] [], .func 174 [.ptr R 0] []] l 1 false))(z:H.ok)(hR:h≠R)
  {u:Str}  {p:List Ptr} (W:p.length<1000) (K:Nat) (x:RdI R H v u true false .nS .nS q [] [] p) (f:Nat) (Y:K<f):
  ∃H',kL f (uH (dy (m+1)) n) [.ptr A4 0, .ptr R 0, .slice h 0 2 4, .int .i64 (K:Nat), .int .i64 (0:Nat)] v=some (.exit 0 [.ptr A4 0, .ptr R 0],H')/\ ∃kv q ks p rest,RdI R H H' rest true false kv .nS q ks [] p:=by
 obtain⟨f,rfl⟩: ∃j,f=j+1:=⟨f - 1,by omega⟩;by_cases Q:K=0
 .subst Q;refine⟨v,jZ ?_,_,_,_,_,_,x⟩;simp only[uH,eZ,yS]
 .obtain⟨C,Z,S,F⟩:=zAo (dy m) m x (by simp);have I:=BF u;obtain⟨T,a0,U,y⟩:=U4 (dy (m+1)) n O F (by omega);have J:v.h.get h=_:=(x.prs.keep h (z.lt s) hR).trans s;have L:C.h.get h=_:=(F.prs.keep h (z.lt s) hR).trans s;have M:=inner m n (R:=R) (a:= .ptr A4 0) (k:= .int .i64 (K:Nat)) (i:= .int .i64 (0:Nat)) J L ((KR m n R v).trans S) ((zC5 m n R C).trans U) n (by omega);have G:(zBM (vG u true).2.1 (vG u true).2.2 p).2.1=true:=by rw[I];exact zCH _ _
  rw[G]at y;obtain⟨ee,V⟩:=y.get;have N:((0:Nat):Int)< (K:Int):=by omega
  refine⟨T,jZ ?_,_,_,_,_,_,y⟩;simp(disch:=omega) only[uH,eZ,N,lnSl,M,ZL,jP V]
theorem RdI.cap {rest:Str}{ks vs:List Str}{j:List Ptr}(R:RdI h H v rest p C k q B ks vs j):rest.length<=10000:=R.small.1
theorem zGN (m n:Nat)(hn:200000000<=n)(T:H.ok)(leaf:Bool)(s:Str):
  ∃v H',f123 (dy (m+1)) n [.bool leaf,S s] H=some (.tuple [v, .int .i64 (if(Nd.decN ltS leaf s).isSome then 0 else 4:Nat)],H')/\Prs H H'/\(∀J,Nd.decN ltS leaf s=some J->Q0 H H' v J)/\ ∃l,v= .agg l/\l.length=4/\jS l=true:=by
 have b7:uD [(0,1),(1,1),(2,1),(3,1)] [.bool false, .nS, .nS, .nS] []=some (.agg [.bool false, .nS, .nS, .nS]):=rfl;have u:Prs H (H.push (.cells [.bool false, .nS, .nS, .nS] 119 1 false)):=(zOp T).push _;have g1:(H.push (.cells [.bool false, .nS, .nS, .nS] 119 1 false)).h.get H.next=some (.cells [.bool false, .nS, .nS, .nS] 119 1 false):=zOh _ _
 have n1:(H.push (.cells [.bool false, .nS, .nS, .nS] 119 1 false)).next=H.next+1:=rfl
 generalize Y:H.push (.cells [.bool false, .nS, .nS, .nS] 119 1 false)=H1 at u g1 n1;have b3: ∀U,Prs H1 U-> ∃i,stN 4 (.ptr H.next 0) (.agg [.bool false, .nS, .nS, .nS]) U=some (jT,i)/\ldN 4 (.ptr H.next 0) i=some (.agg [.bool false, .nS, .nS, .nS])/\Prs H i:=by
  intro U L;obtain⟨i,t,F,s3,n3⟩:=kD L.ok (L.get u.ok g1) (l':=[.bool false, .nS, .nS, .nS]) rfl rfl;exact⟨i,t,by rw[jU F];rfl,(u.trans L).fresh s3 (fun B M=>by omega)⟩
 by_cases b4:s.length<=500
 .have O: ¬((500:Nat):Int)< (s.length:Int):=by omega
  have a3:uD [(0,1),(1,1),(2,1),(3,1)] [.bool false, .nS, .nS, .nS] [(0, .bool leaf)]=some (.agg [.bool leaf, .nS, .nS, .nS]):=rfl;have a4:uD [(0,1),(1,1),(2,4)] [.str 0 0, .bool false, .bool false, .nS, .nS, .nS] [(0,S s),(2, .agg [.bool leaf, .nS, .nS, .nS])]=some (.agg [S s, .bool false, .bool leaf, .nS, .nS, .nS]):=rfl;have L:Prs H1 (H1.push (.cells [S s, .bool false, .bool leaf, .nS, .nS, .nS] 285 1 false)):=(zOp u.ok).push _;have g2:(H1.push (.cells [S s, .bool false, .bool leaf, .nS, .nS, .nS] 285 1 false)).h.get H1.next=some (.cells [S s, .bool false, .bool leaf, .nS, .nS, .nS] 285 1 false):=zOh _ _
  have n2:(H1.push (.cells [S s, .bool false, .bool leaf, .nS, .nS, .nS] 285 1 false)).next=H1.next+1:=rfl
  generalize a5:H1.push (.cells [S s, .bool false, .bool leaf, .nS, .nS, .nS] 285 1 false)=U at L g2 n2;have b9:RdI H1.next U U s false leaf .nS .nS .nS [] [] []:=⟨zOp L.ok,⟨_,g2⟩,zOv _ _ _,zOv _ _ _,zOv _ _ _,fun B M=>(zOt.1 M).elim,fun B M=>(zOt.1 M).elim,fun B M=>(zOt.1 M).elim,by omega,by simp,by simp,by simp⟩
  obtain⟨i,t,q⟩:=VF (dy (m+1)) n b9 2;obtain⟨d0,F⟩:=q.get;have a9:Prs H1 i:=L.fresh q.prs (fun B M=>by omega);by_cases h2:s.length<2
  .have G:wK s false 2=([],s,true):=by simp[wK,h2]
   rw[G]at t q F;simp only at t q F;obtain⟨x,e4,l4,C⟩:=b3 i a9;have hd:Nd.decN ltS leaf s=none:=by simp only[Nd.decN];rw[if_neg (by omega)]
   refine⟨.agg [.bool false, .nS, .nS, .nS],x, ?_,C,(fun J h=>by rw[hd]at h;cases h),_,rfl,rfl,rfl⟩;rw[hd];simp only[f123,eZ,kT T,Y,O,a3,a4,kT u.ok,a5,t,jP F,b7,e4,l4,Option.isSome_none]
  .have G:wK s false 2=(s.take 2,s.drop 2,false):=by simp[wK,h2]
   rw[G]at t q F;simp only at t q F;obtain⟨a,b,b0,hK⟩:=head2 (s:=s) (by omega);have ha:a.toNat<256:=a.toNat_lt;have hb:b.toNat<256:=b.toNat_lt;have V:=U7 (s.take 2) .i64 (z:=((0:Nat):Int)) (by omega) (by simp;omega);have W:=U7 (s.take 2) .i64 (z:=((1:Nat):Int)) (by omega) (by simp;omega);simp only[b0]at V W
   replace V:WD (S (s.take 2)) (.int .i64 (0:Nat))=some (.int .u8 a.toNat):=by rw[b0];exact V
   replace W:WD (S (s.take 2)) (.int .i64 (1:Nat))=some (.int .u8 b.toNat):=by rw[b0];exact W
   have wa:IntKind.wrap .i64 (a.toNat:Int)=(a.toNat:Int):=wrap_i64 (by omega) (by omega);have wb:IntKind.wrap .i64 (b.toNat:Int)=(b.toNat:Int):=wrap_i64 (by omega) (by omega);have a6:=zDk .i64 .u64 (a.toNat:Int) (s:=8) (by decide);rw[show IntKind.wrap .i64 ((a.toNat:Int)*2 ^ 8)=((a.toNat*256:Nat):Int)from by rw[wrap_i64 (by omega) (by omega)];omega]at a6;have Z:=zC8 ha hb;rw[<-hK]at Z;have c0:bee (s.take 2)<65536:=by omega
   generalize a0:bee (s.take 2)=K at Z c0 hK;have b1: ∀(f g:FuncId) (xs ys:List AV),Q2 1 1 2 [.nilFunc] [(0, .func f xs []),(1, .func g ys [])]=some (.cells [.func f xs [], .func g ys []] 1 1 false,fun A=> .slice A 0 2 4):=fun _ _ _ _=>rfl
   have C:Prs i (i.push (.cells [.func 173 [.ptr H1.next 0] [], .func 174 [.ptr H1.next 0] []] 1 1 false)):=(zOp q.prs.ok).push _
   have g4:(i.push (.cells [.func 173 [.ptr H1.next 0] [], .func 174 [.ptr H1.next 0] []] 1 1 false)).h.get i.next=some (.cells [.func 173 [.ptr H1.next 0] [], .func 174 [.ptr H1.next 0] []] 1 1 false):=zOh _ _
   have n4:(i.push (.cells [.func 173 [.ptr H1.next 0] [], .func 174 [.ptr H1.next 0] []] 1 1 false)).next=i.next+1:=rfl
   generalize b2:i.push (.cells [.func 173 [.ptr H1.next 0] [], .func 174 [.ptr H1.next 0] []] 1 1 false)=x at C g4 n4
   have n3:=q.prs.next
   have c9:(s.drop 2).length=s.length - 2:=by simp
   have a1: ∀(Hp o:AH) (rest:Str) (a7:Bool) (kv vv pv:AV) (ks vs:List Str) (N:List Ptr),RdI H1.next Hp o rest a7 leaf kv vv pv ks vs N->Prs H1 Hp->(a7=true\/small ⟨leaf,ks,vs,N⟩)->
     (Nd.decN ltS leaf s=if a7=false/\rest=[]/\Nd.may ltS ⟨leaf,ks,vs,N⟩=true then some ⟨leaf,ks,vs,N⟩else none)->
     f123 (dy (m+1)) n [.bool leaf,S s] H=dV (dG (dy (m+1)) n [.ptr H.next 0, .ptr H1.next 0] o)->
     ∃v H',f123 (dy (m+1)) n [.bool leaf,S s] H=some (.tuple [v, .int .i64 (if(Nd.decN ltS leaf s).isSome then 0 else 4:Nat)],H')/\Prs H H'/\(∀J,Nd.decN ltS leaf s=some J->Q0 H H' v J)/\ ∃l,v= .agg l/\l.length=4/\jS l=true:=by
    intro Hp o rest a7 kv vv pv ks vs N hI hp c1 b5 I;obtain⟨v,H',e,p,c2,l⟩:=zNR (dy (m+1)) n hn (A4:=H.next) hI ⟨_,_,rfl,hp.get u.ok g1⟩ (by omega) hp.ok (u.trans hp) (by omega) (zP _) c1
    refine⟨v,H', ?_,p, ?_,l⟩
    .rw[I,e,b5];split<;>rfl
    .intro J a2;rw[b5]at a2;split at a2
     .rename_i hc;simp only[zC]at a2;subst a2;exact c2 hc
     .cases a2
   cases leaf with
   | true=>
    have p5:Prs x (x.push (.cells [.func 173 [.ptr H1.next 0] [], .func 175 [.ptr H1.next 0] []] 1 1 false)):=(zOp C.ok).push _
    have g5:(x.push (.cells [.func 173 [.ptr H1.next 0] [], .func 175 [.ptr H1.next 0] []] 1 1 false)).h.get x.next=some (.cells [.func 173 [.ptr H1.next 0] [], .func 175 [.ptr H1.next 0] []] 1 1 false):=zOh _ _
    generalize c3:x.push (.cells [.func 173 [.ptr H1.next 0] [], .func 175 [.ptr H1.next 0] []] 1 1 false)=H5 at p5 g5
    have Q:=q.base (C.trans p5);obtain⟨o,e9,kv,vv,ks,vs,rest,j⟩:=zNb m n (by omega) (A4:=H.next) g5 p5.ok (by omega) K (by omega) Q n (by omega)
    have I:f123 (dy (m+1)) n [.bool true,S s] H=dV (dG (dy (m+1)) n [.ptr H.next 0, .ptr H1.next 0] o):=by
     simp(disch:=omega) only[f123,eZ,kT T,Y,O,a3,a4,kT u.ok,a5,t,jP F,b1,kT q.prs.ok,b2,kT C.ok,c3,zD1,V,W,wa,wb,a6,Z,e9]
    have b6:Prs H1 H5:=(a9.trans C).trans p5
    cases hd:YS K (s.drop 2)with
    | none=>
     rw[hd]at j;exact a1 H5 o _ _ _ _ _ _ _ _ j b6 (.inl rfl) (by simp only[Nd.decN,Nd.decB,a0,hd];simp) I
    | some y=>
     obtain⟨y1,y2,y3⟩:=y;rw[hd]at j;obtain⟨rfl,rfl,rfl,j⟩:=j;obtain⟨q1,q2,q3⟩:=Nd.decL_eq hd;have hq:=congrArg List.length q1;rw[zV,Nd.encL_length _ _ (by omega)]at hq;exact a1 H5 o _ _ _ _ _ _ _ _ j b6 (.inr ⟨by simp,by simp;omega,by simp;omega⟩) (by simp only[Nd.decN,Nd.decB,a0,hd];rw[if_pos ⟨b4,by omega⟩];simp) I
   | false=>
    have c4:=q.base C;obtain⟨H5,pv,e5,Q⟩:=U4 (dy (m+1)) n (by omega) c4 (by simp);have a8:Prs H1 x:=a9.trans C
    cases G:fO (s.drop 2)with
    | none=>
     have c5:=zAm [] G;rw[c5]at Q;have c6:(zBM (s.drop 2) false []).2.2.length<1000:=by
      simp only[zBM];split
      .simp
      .split<;>simp
     obtain⟨o,e9,kv,c7,ks,N,rest,j⟩:=zLc m n (by omega) (A4:=H.next) g4 C.ok (by omega) c6 K Q n (by omega)
     have I:f123 (dy (m+1)) n [.bool false,S s] H=dV (dG (dy (m+1)) n [.ptr H.next 0, .ptr H1.next 0] o):=by
      simp(disch:=omega) only[f123,eZ,kT T,Y,O,a3,a4,kT u.ok,a5,t,jP F,b1,kT q.prs.ok,b2,e5,zD1,V,W,wa,wb,a6,Z,e9]
     exact a1 x o _ _ _ _ _ _ _ _ j a8 (.inl rfl) (by simp only[Nd.decN,Nd.decB,a0,G];simp) I
    | some y=>
     obtain⟨p0,r0⟩:=y;rw[zAl [] G]at Q;obtain⟨c8,_,_⟩:=Nd.takeP_eq G;have b8:=congrArg List.length c8;rw[zV,Nd.encP_length]at b8;obtain⟨o,e9,kv,c7,ks,N,rest,j⟩:=zNc m n (by omega) (A4:=H.next) g4 C.ok (by omega) K (by omega) Q n (by omega)
     have I:f123 (dy (m+1)) n [.bool false,S s] H=dV (dG (dy (m+1)) n [.ptr H.next 0, .ptr H1.next 0] o):=by
      simp(disch:=omega) only[f123,eZ,kT T,Y,O,a3,a4,kT u.ok,a5,t,jP F,b1,kT q.prs.ok,b2,e5,zD1,V,W,wa,wb,a6,Z,e9]
     cases hd:YT K r0 with
     | none=>
      rw[hd]at j;exact a1 x o _ _ _ _ _ _ _ _ j a8 (.inl rfl) (by simp only[Nd.decN,Nd.decB,a0,G,hd];simp) I
     | some y=>
      obtain⟨y1,y2,y3⟩:=y;rw[hd]at j;obtain⟨rfl,rfl,rfl,j⟩:=j;obtain⟨q1,q2,q3,_⟩:=Nd.decI_eq hd;have hq:=congrArg List.length q1;rw[zV,Nd.encI_length _ _ (by omega)]at hq;exact a1 x o _ _ _ _ _ _ _ _ j a8 (.inr ⟨by simp;omega,by simp;omega,by simp[Nd.sumL]⟩) (by simp only[Nd.decN,Nd.decB,a0,G,hd];rw[if_pos ⟨b4,by omega⟩];simp) I
 .have O:((500:Nat):Int)< (s.length:Int):=by omega
  obtain⟨i,t,l3,p3⟩:=b3 H1 (zOp u.ok);have hd:Nd.decN ltS leaf s=none:=by simp only[Nd.decN];rw[if_neg (by omega)]
  refine⟨.agg [.bool false, .nS, .nS, .nS],i, ?_,p3,(fun J h=>by rw[hd]at h;cases h),_,rfl,rfl,rfl⟩;rw[hd];simp only[f123,eZ,kT T,Y,O,b7,t,l3,Option.isSome_none]
theorem ZZ (x:Bool)(a b c:AV)(f:isCell a=true)(hb:isCell b=true)(h:isCell c=true):jS [.bool x,a,b,c]=true:=by
 simp only[jS,f,hb,h];rfl
theorem wF.zero (k e:Nat)(A:H.h.get h=some (.cells [] l k p))(f:H.ok):wF k e H (.slice h 0 0 0) 0 []:= .inr ⟨by simp,h,l,p,rfl,f.lt A,A,rfl⟩
theorem zBb (b:Bool):aveq (.bool b) (.bool b)=true:=by cases b<;>rfl
theorem vL (l:List Str):jS (l.map S)=true:=by
 rw[wJ];intro x a;obtain⟨s,_,rfl⟩:=qK.1 a;rfl
theorem uT (l:List Ptr):jS (l.flatMap jV)=true:=by
 rw[wJ];intro x a;obtain⟨p,_,hp⟩:=List.mem_flatMap.1 a;simp only[jV,zO,List.not_mem_nil,or_false]at hp;rcases hp with rfl | rfl | rfl<;>rfl
theorem Rw.blk {k n:Nat}{H:AH}{v:AV}{l:List AV}(h:Rw k H v n l){B:Nat}(a:Blk v B):B<H.next:=by
 obtain⟨_,⟨rfl,_⟩ | ⟨rfl,_⟩ | ⟨A,off,cc,c,e,sz,g,rfl,_,f,_⟩⟩:=h
 .exact(zOt.1 a).elim
 .obtain⟨_,_,_,h⟩:=a;cases h
 .rw[zOm.1 a];exact f
def zOx:=@Rw.blk
def kJ (H:AH)(v:AV)(a:Nd.Node):Prop:= ∃ks vs f,v= .agg [.bool a.leaf,ks,vs,f]/\wF 1 9 H ks a.keys.length (a.keys.map S)/\wF 1 9 H vs a.vals.length (a.vals.map S)/\wF 3 42 H f a.kids.length (a.kids.flatMap jV)
theorem kJ.node {a:Nd.Node}(h:kJ H k a):fK H k a:=by
 obtain⟨ks,vs,f,e,i,j,m⟩:=h;exact⟨ks,vs,f,e,i.row,j.row,m.row⟩
theorem kJ.prs {a:Nd.Node}(h:kJ H k a)(s:Prs H v):kJ v k a:=by
 obtain⟨ks,vs,f,e,i,j,m⟩:=h;exact⟨ks,vs,f,e,i.mono s (fun _ _ x=>x),j.mono s (fun _ _ x=>x),m.mono s (fun _ _ x=>x)⟩
theorem Own.st (e:Own h w H k t i)(m:H.ok)(j:0<h)(hi:s<t){x:AV}(a:(kC x).length=h)(o:jS (kC x)=true):
  ∃p H' l',(∀κ (z:Int),z=(s:Int)->cN h k (.int κ z)=some p)/\stN h p x H=some (jT,H')/\Own h w H' k t l'/\Stp (Blk k) H H':=by
 obtain⟨u,⟨_,rfl⟩ | ⟨A,rfl,f,q⟩⟩:=e
 .omega
 .have n:s*h+h<=t*h:=by rw[<-jL];exact yN _ hi
  have hb:Nat.blt s t=true:=by rw[qD];exact hi
  refine⟨.ptr A (0+s*h),_,_,fun κ z v=> ?_,JH q j a o (by omega),⟨?_, .inr ⟨A,rfl,f,by rw[zOl,if_pos rfl]⟩⟩,(zOp m).put f _ (.inr (zOm.2 rfl))⟩
  .subst v;simp only[cN,kO κ (show(0:Int)<=(s:Int)by omega),yD,hb,zU,kG]
  .simp only[zV,qC,qI,a];omega
theorem zO4 (x:Nat):Nat.ble 0 x=true:=by rw[qT];omega
theorem VM (e:wF h w H k t i)(n:0<h)(hi:s<=t)(κ x:IntKind):
  ∃r,vD h k none (some (.int κ (s:Nat))) (some (.int x (s:Nat))) H=some r/\Rw h H r s (i.take (s*h))/\(0<s->r≠ .nS/\r≠ .eS):=by
 have f:=kO κ (z:=(s:Int)) (by omega);have j:=kO x (z:=(s:Int)) (by omega);simp only[yD]at f j;have hb:Nat.blt 0 h=true:=by rw[qD];exact n
 have y:Nat.beq s 0=decide (s=0):=by rw[yG];simp
 have u:s*h<=t*h:=yN _ hi;have b1:Nat.ble s t=true:=by rw[qT];exact hi
 have b2:Nat.ble s s=true:=by rw[qT];exact zP _
 have G:Nat.ble 0 s=true:=by rw[qT];omega
 rcases e with⟨q,⟨rfl,rfl⟩ | ⟨A,rfl,p,a⟩⟩ | ⟨q,A,C,g,rfl,p,a,F⟩
 .obtain rfl:s=0:=by omega
  exact⟨.nS,by simp only[vD,kU,f,j];simp,⟨by simp, .inl ⟨rfl,rfl⟩⟩,fun e=>absurd e (by omega)⟩
 .have m:kP i true h 0 1 h=t:=by
   simp only[kP,show((1 % 2).beq 0)=false from rfl,yH,yK,show Nat.beq 0 (1 / 2*h)=true from by simp,qO,zU,kE,q,jC];exact Nat.mul_div_cancel _ n
  by_cases o:s=0
  .subst o;refine⟨.slice A 0 0 0, ?_,⟨by simp, .inr (.inr ⟨A,0,0,i,w,h,true,rfl,a,p,by simp,by simp⟩)⟩,fun e=>absurd e (by omega)⟩;simp only[vD,kU,f,j,a,hb,zU];simp[YJ,m,kG,zO4]
  .have v:Nat.beq s 0=false:=by rw[y];simpa using o
   refine⟨.slice A 0 s (2*s), ?_,⟨by rw[qC,q,Nat.min_eq_left u], .inr (.inr ⟨A,0,2*s,i,w,h,true,rfl,a,p,by omega,by simp⟩)⟩,fun _=>⟨by simp,by simp⟩⟩;simp only[vD,kU,f,j,a,hb,zU];simp[YJ,m,b1,b2,v,kG,zO4]
 .have m:kP i g h 0 (2*t) h=t:=by
   simp only[kP,show((2*t) % 2).beq 0=true by rw[jB];rfl,zU,yQ t (show 0<2 by omega)]
  by_cases o:s=0
  .subst o;refine⟨.slice A 0 0 0, ?_,⟨by simp, .inr (.inr ⟨A,0,0,i,C,h,g,rfl,a,p,by simp,by simp⟩)⟩,fun e=>absurd e (by omega)⟩;simp only[vD,kU,f,j,a,hb,zU];simp[YJ,m,kG,zO4]
  .have v:Nat.beq s 0=false:=by rw[y];simpa using o
   refine⟨.slice A 0 s (2*s), ?_,⟨by rw[qC,q,Nat.min_eq_left u], .inr (.inr ⟨A,0,2*s,i,C,h,g,rfl,a,p,by omega,by simp⟩)⟩,fun _=>⟨by simp,by simp⟩⟩;simp only[vD,kU,f,j,a,hb,zU];simp[YJ,m,b1,b2,v,kG,zO4]
theorem QA (e:wF h w H k t i)(q:0<h)(hi:s<t)(κ:IntKind):
  ∃r,vD h k (some (.int κ (s:Nat))) none none H=some r/\Rw h H r (t - s) (i.drop (s*h))/\r≠ .nS/\r≠ .eS:=by
 have o:=kO κ (z:=(s:Int)) (by omega);simp only[yD]at o;have hb:Nat.blt 0 h=true:=by rw[qD];exact q
 have F:s*h<=t*h:=yN _ (by omega);have m:(t - s)*h=t*h - s*h:=Nat.sub_mul _ _ _;have b1:Nat.ble t t=true:=by rw[qT];exact zP _
 have b2:Nat.ble s t=true:=by rw[qT];omega
 have y:Nat.blt s t=true:=by rw[qD];exact hi
 have n:Nat.beq t s=false:=by rw[y7];intro e;have:=Nat.eq_of_beq_eq_true e;omega
 rcases e with⟨a,⟨rfl,rfl⟩ | ⟨A,rfl,p,f⟩⟩ | ⟨a,A,C,g,rfl,p,f,G⟩
 .omega
 .have j:kP i true h 0 1 h=t:=by
   simp only[kP,show((1 % 2).beq 0)=false from rfl,yH,yK,show Nat.beq 0 (1 / 2*h)=true from by simp,qO,zU,kE,a,jC];exact Nat.mul_div_cancel _ q
  by_cases v:s=0
  .subst v;refine⟨.slice A 0 t 1, ?_,⟨by simp[a], .inr (.inr ⟨A,0,1,i,w,h,true,by simp,f,p,by simp[a],by rw[jC,Nat.zero_mul,y9,zZ (by omega)]⟩)⟩,by simp,by simp⟩;simp only[vD,kU,o,f,hb,zU];simp[YJ,j,b1,kG,zO4,show Nat.beq 1 0=false from rfl]
  .have u:Nat.beq s 0=false:=by rw[y7];intro e;exact v (Nat.eq_of_beq_eq_true e)
   refine⟨.slice A (0+s*h) (t - s) (1+2*s), ?_,⟨by simp[a,m], .inr (.inr ⟨A,0+s*h,1+2*s,i,w,h,true,rfl,f,p,by omega,by rw[j7,zZ (by simp[a,m])]⟩)⟩,by simp,by simp⟩;simp only[vD,kU,o,f,hb,zU];simp[YJ,j,b1,b2,y,u,kG,show Nat.beq 1 0=false from rfl]
 .have j:kP i g h 0 (2*t) h=t:=by
   simp only[kP,show((2*t) % 2).beq 0=true by rw[jB];rfl,zU,yQ t (show 0<2 by omega)]
  have x:Nat.beq (2*t / 2) s=false:=by rw[yQ t (show 0<2 by omega)];exact n
  refine⟨.slice A (0+s*h) (t - s) (2*(2*t / 2 - s)), ?_,⟨by simp[a,m], .inr (.inr ⟨A,0+s*h,2*(2*t / 2 - s),i,C,h,g,rfl,f,p,by omega,by rw[j7,zZ (by simp[a,m])]⟩)⟩,by simp,by simp⟩;simp only[vD,kU,o,f,hb,zU];simp[YJ,j,b1,b2,x,kG,n]
theorem ZS(j:H.ok){l:List Str}(h:Strs H k l)(s:k≠ .nS)(t:k≠ .eS)(hl:l.length<=1000000000):
  ∃a H',f108 D n [k] H=some (a,H')/\Prs H H'/\wF 1 9 H' a l.length (l.map S)/\ ∀B,Blk a B->H.next<=B:=by
 have f:Prs H (H.push (.cells [] 9 1 false)):=(zOp j).push _;have m:(H.push (.cells [] 9 1 false)).h.get H.next=some (.cells [] 9 1 false):=zOh _ _
 have u:(H.push (.cells [] 9 1 false)).next=H.next+1:=rfl
 generalize o:H.push (.cells [] 9 1 false)=H1 at f m u;obtain⟨a,x,y,z,C,F⟩:=(wF.zero 1 9 m f.ok).app (bytes:=16) f.ok (by decide) (Rw.srcOf (h.prs f)) (by simp) (vL _) (by omega) (by decide);have p:Q2 9 1 0 [.str 0 0] []=some (.cells [] 9 1 false,fun A=> .slice A 0 0 0):=rfl;have q:dJ .eql (eqS k .nS)=some (.bool false):=by
  obtain⟨_,⟨rfl,_⟩ | ⟨rfl,_⟩ | ⟨A,off,cc,c,e,sz,g,rfl,_⟩⟩:=h
  .exact absurd rfl s
  .exact absurd rfl t
  .rfl
 refine⟨a,x, ?_,f.fresh C (fun B i=>by rw[zOm.1 i];exact zP _),by simpa using z,fun B i=> ?_⟩
 .simp only[f108,eZ,q,p,kT j,o,y]
 .rcases F B i with h | h
  .rw[zOm.1 h];exact zP _
  .omega
theorem KN(m:H.ok){l:List Ptr}(h:bI H k l)(t:k≠ .nS)(u:k≠ .eS)(hl:l.length<=1000000000):
  ∃f H',f81 D n [k] H=some (f,H')/\Prs H H'/\wF 3 42 H' f l.length (l.flatMap jV)/\ ∀B,Blk f B->H.next<=B:=by
 have i:Prs H (H.push (.cells [] 42 3 false)):=(zOp m).push _;have o:(H.push (.cells [] 42 3 false)).h.get H.next=some (.cells [] 42 3 false):=zOh _ _
 have x:(H.push (.cells [] 42 3 false)).next=H.next+1:=rfl
 generalize p:H.push (.cells [] 42 3 false)=H1 at i o x;obtain⟨f,y,z,C,F,G⟩:=(wF.zero 3 42 o i.ok).app (bytes:=24) i.ok (by decide) (Rw.srcOf (h.prs i)) h.1 (uT _) (by omega) (by decide);have q: ∀a b c:AV,Q2 42 3 0 [a,b,c] []=some (.cells [] 42 3 false,fun A=> .slice A 0 0 0):=fun _ _ _=>rfl
 have s:dJ .eql (eqS k .nS)=some (.bool false):=by
  obtain⟨_,⟨rfl,_⟩ | ⟨rfl,_⟩ | ⟨A,off,cc,c,e,sz,g,rfl,_⟩⟩:=h
  .exact absurd rfl t
  .exact absurd rfl u
  .rfl
 refine⟨f,y, ?_,i.fresh F (fun B j=>by rw[zOm.1 j];exact zP _),by simpa using C,fun B j=> ?_⟩
 .simp only[f81,eZ,s,q,kT m,p,z]
 .rcases G B j with h | h
  .rw[zOm.1 h];exact zP _
  .omega
open Go.Nd (cutOk)
def bO (a:Nd.Node):Prop:=2<=a.keys.length/\(a.leaf=true\/3<=a.keys.length)
def hbnd (a:Nd.Node)(k:Nat):Prop:=
 (k=1\/Nd.size (Nd.cutA a k)<=(Nd.size a - 2) / 2+2)/\(k+(if a.leaf then 1 else 2)=a.keys.length\/(Nd.size a - 2) / 2+2<Nd.size (Nd.cutA a (k+1)))
theorem JD (l:List Str){i:Nat}(h:i<l.length):sumL (l.take (i+1))=sumL (l.take i)+(1+(l[i]).length):=by
 rw[qQ h,Nd.sumL_append,Nd.sumL_cons];rfl
theorem size_leaf {a:Nd.Node}(hl:a.leaf=true)(f:a.vals.length=a.keys.length){i:Nat}(h:i<a.keys.length):Nd.size (Nd.cutA a (i+1))=Nd.size (Nd.cutA a i)+(1+(a.keys[i]).length)+(1+(a.vals[i]'(by omega)).length):=by
 simp only[Nd.cutA,hl,if_true,Nd.size,JD a.keys h,JD a.vals (i:=i) (by omega)];omega
theorem size_inner {a:Nd.Node}(hl:a.leaf=false)(f:a.kids.length=a.keys.length+1)(i:h<a.keys.length):Nd.size (Nd.cutA a (h+1))=Nd.size (Nd.cutA a h)+(1+(a.keys[h]).length)+16:=by
 simp only[Nd.cutA,hl,zM,qE,Nd.size,JD a.keys i,qC];omega
theorem VN (a:Nd.Node):2<=Nd.size a:=by simp only[Nd.size];omega
theorem zCL{a:Nd.Node}(S:Strs H k a.keys)(T:Strs H q a.vals)(o:a.leaf=true->a.vals.length=a.keys.length)(hp:a.leaf=false->a.kids.length=a.keys.length+1)(t:H.h.get h=some (.cells [.bool a.leaf,k,q,B] l 1 false))
  (f:Nat) (L:Nat) (hL:L<=a.keys.length) (hb:a.keys.length<=1000000000) (u:Nd.size a<=1000000000) (y:Nat) (U:L<y):
  Fin (kL y (ZJ D n) [.ptr h 0, .int .i64 (f:Nat), .int .i64 (L:Nat), .int .i64 (Nd.size (Nd.cutA a 0) - 2:Nat), .int .i64 (L:Nat), .int .i64 (0:Nat)] H) fun x H'=>H'=H/\((∃j:Nat,0<j/\j<L/\x= .ret (.int .i64 (j:Nat))/\(j=1\/Nd.size (Nd.cutA a j)<=f+2)/\f+2<Nd.size (Nd.cutA a (j+1)))\/(x= .exit 0 [.int .i64 (L:Nat)]/\(L<=1\/Nd.size (Nd.cutA a L)<=f+2))):=by
 refine Fin.loop (fun ks C H'=>H'=H/\ ∃(i:Nat),C=[.ptr h 0, .int .i64 (f:Nat), .int .i64 (L:Nat), .int .i64 (Nd.size (Nd.cutA a i) - 2:Nat), .int .i64 (L:Nat), .int .i64 (i:Nat)]/\i<=L/\ks=L - i/\(i<=1\/Nd.size (Nd.cutA a i)<=f+2)) ?_ y L _ H ⟨rfl,0,rfl,by omega,by omega, .inl (by omega)⟩ U
 rintro ks C H' ⟨rfl,i,rfl,hi,rfl,J⟩
 by_cases K:i<L
 .have m:i<a.keys.length:=by omega
  obtain⟨p,F,G⟩:=S.at m;have s:(i:Int)< (L:Int):=by omega
  have z2:=VN (Nd.cutA a i);have Z:=VN (Nd.cutA a (i+1));have z:Fin (dB D n [.ptr h 0, .int .i64 (f:Nat), .int .i64 (L:Nat), .int .i64 ((Nd.size (Nd.cutA a (i+1)) - 2:Nat):Int), .int .i64 (i:Nat), .int .i64 (L:Nat), .int .i64 (i:Nat)] H')
    (orN (fun M v=> ∃k',k'<L - i/\v=H'/\ ∃(i:Nat),M=[.ptr h 0, .int .i64 (f:Nat), .int .i64 (L:Nat), .int .i64 (Nd.size (Nd.cutA a i) - 2:Nat), .int .i64 (L:Nat), .int .i64 (i:Nat)]/\i<=L/\k'=L - i/\(i<=1\/Nd.size (Nd.cutA a i)<=f+2))
     (fun x v=>v=H'/\((∃j:Nat,0<j/\j<L/\x= .ret (.int .i64 (j:Nat))/\(j=1\/Nd.size (Nd.cutA a j)<=f+2)/\f+2<Nd.size (Nd.cutA a (j+1)))\/(x= .exit 0 [.int .i64 (L:Nat)]/\(L<=1\/Nd.size (Nd.cutA a L)<=f+2))))):=by
   by_cases I:0<i/\f<Nd.size (Nd.cutA a (i+1)) - 2
   .have c1:((0:Nat):Int)< (i:Int):=by omega
    have c2:(f:Int)< ((Nd.size (Nd.cutA a (i+1)) - 2:Nat):Int):=by omega
    have:dB D n [.ptr h 0, .int .i64 (f:Nat), .int .i64 (L:Nat), .int .i64 ((Nd.size (Nd.cutA a (i+1)) - 2:Nat):Int), .int .i64 (i:Nat), .int .i64 (L:Nat), .int .i64 (i:Nat)] H'=some (.ret (.int .i64 (i:Nat)),H'):=by
     simp(disch:=omega) only[dB,eZ,c1,c2]
    rw[this];exact⟨_,_,rfl,rfl, .inl ⟨i,I.1,K,rfl,by omega,by omega⟩⟩
   .have N:(decide (((0:Nat):Int)< (i:Int))&&decide ((f:Int)< ((Nd.size (Nd.cutA a (i+1)) - 2:Nat):Int)))=false:=by
     rw[y7];intro V;simp only[zF,zQ]at V;exact I ⟨by omega,by omega⟩
    have:dB D n [.ptr h 0, .int .i64 (f:Nat), .int .i64 (L:Nat), .int .i64 ((Nd.size (Nd.cutA a (i+1)) - 2:Nat):Int), .int .i64 (i:Nat), .int .i64 (L:Nat), .int .i64 (i:Nat)] H'=some (.norm [.ptr h 0, .int .i64 (f:Nat), .int .i64 (L:Nat), .int .i64 ((Nd.size (Nd.cutA a (i+1)) - 2:Nat):Int), .int .i64 (L:Nat), .int .i64 (i+1:Nat)],H'):=by
     simp(disch:=omega) only[dB,eZ,N,yF]
    rw[this];exact⟨_,_,rfl,L - (i+1),by omega,rfl,i+1,rfl,by omega,rfl,by omega⟩
  have a0:Nd.size (Nd.cutA a i)<=1000000002:=by
   have t1:=Nd.sumL_take_le a.keys i;have t2:=Nd.sumL_take_le a.vals i;have:Nd.size a=2+16*a.kids.length+sumL a.keys+sumL a.vals:=rfl;have W:sumL []=0:=rfl;simp only[Nd.cutA];split<;>simp only[Nd.size,yO,qC,W]<;>omega
  have a1:(a.keys[i]).length<=1000000000:=by
   have:=Nd.sumL_drop_le a.keys i;rw[qN m,Nd.sumL_cons]at this;have:Nd.size a=2+16*a.kids.length+sumL a.keys+sumL a.vals:=rfl;omega
  cases hl:a.leaf with
  | true=>
   rw[hl]at t;obtain⟨vs,q1,q2⟩:=T.at (i:=i) (by rw[o hl];exact m);have Y:=size_leaf hl (o hl) m;have a2:(a.vals[i]'(by rw[o hl];exact m)).length<=1000000000:=by
    have:=Nd.sumL_drop_le a.vals i;rw[qN (by rw[o hl];exact m),Nd.sumL_cons]at this;have:Nd.size a=2+16*a.kids.length+sumL a.keys+sumL a.vals:=rfl;omega
   have u:((Nd.size (Nd.cutA a (i+1)) - 2:Nat):Int)=((Nd.size (Nd.cutA a i) - 2:Nat):Int)+(((1:Nat):Int)+(((a.keys[i]).length:Nat):Int))+(((1:Nat):Int)+(((a.vals[i]'(by rw[o hl];exact m)).length:Nat):Int)):=by omega
   have:ZJ D n [.ptr h 0, .int .i64 (f:Nat), .int .i64 (L:Nat), .int .i64 (Nd.size (Nd.cutA a i) - 2:Nat), .int .i64 (L:Nat), .int .i64 (i:Nat)] H'=jn (some (.norm [.ptr h 0, .int .i64 (f:Nat), .int .i64 (L:Nat), .int .i64 ((Nd.size (Nd.cutA a (i+1)) - 2:Nat):Int), .int .i64 (i:Nat), .int .i64 (L:Nat), .int .i64 (i:Nat)],H')) (dB D n):=by
    rw[u];simp(disch:=omega) only[ZJ,eZ,s,jP t,F,G,q1,q2]
   rw[this,QN];exact z
  | false=>
   rw[hl]at t;have Y:=size_inner hl (hp hl) m;have u:((Nd.size (Nd.cutA a (i+1)) - 2:Nat):Int)=((Nd.size (Nd.cutA a i) - 2:Nat):Int)+(((1:Nat):Int)+(((a.keys[i]).length:Nat):Int))+((16:Nat):Int):=by omega
   have:ZJ D n [.ptr h 0, .int .i64 (f:Nat), .int .i64 (L:Nat), .int .i64 (Nd.size (Nd.cutA a i) - 2:Nat), .int .i64 (L:Nat), .int .i64 (i:Nat)] H'=jn (some (.norm [.ptr h 0, .int .i64 (f:Nat), .int .i64 (L:Nat), .int .i64 ((Nd.size (Nd.cutA a (i+1)) - 2:Nat):Int), .int .i64 (i:Nat), .int .i64 (L:Nat), .int .i64 (i:Nat)],H')) (dB D n):=by
    rw[u];simp(disch:=omega) only[ZJ,eZ,s,jP t,F,G]
   rw[this,QN];exact z
 .have s: ¬(i:Int)< (L:Int):=by omega
  have O:i=L:=by omega
  subst O;refine⟨.exit 0 [.int .i64 (i:Nat)],H', ?_,rfl, .inr ⟨rfl,J⟩⟩;simp only[ZJ,eZ,s]
theorem zFY(T:200000000<=n)(q:H.ok){a:Nd.Node}(h:fK H k a)(L:small a)(C:Nd.shaped ltS a=true)(U:bO a):
  ∃(v:Nat) (H':AH),f227 D n [k] H=some (.int .i64 (v:Nat),H')/\Prs H H'/\cutOk a v/\hbnd a v:=by
 have V:=h;obtain⟨ks,vs,F,rfl,o,M,h3⟩:=h;have Z:=Nd.sumL_ge a.keys;obtain⟨s1,s2,s3⟩:=id L;obtain⟨c1,c2⟩:=U;have N:a.leaf=true->a.vals.length=a.keys.length:=by
  intro hl;simp only[Nd.shaped,hl,if_true,zF,zQ]at C;exact C.2.1.1
 have hp:a.leaf=false->a.kids.length=a.keys.length+1:=by
  intro hl;simp only[Nd.shaped,hl,zM,qE,zF,zQ]at C;exact C.2.1.2
 have s:Prs H (H.push (.cells [.bool a.leaf,ks,vs,F] 119 1 false)):=(zOp q).push _;have O:(H.push (.cells [.bool a.leaf,ks,vs,F] 119 1 false)).h.get H.next=some (.cells [.bool a.leaf,ks,vs,F] 119 1 false):=zOh _ _
 generalize m:H.push (.cells [.bool a.leaf,ks,vs,F] 119 1 false)=H1 at s O;obtain⟨z,W,p,rfl,Q⟩:=JJ D n s.ok (V.prs s) L T;have f:=Q.get s.ok O;have P:Prs H W:=s.trans Q;have t:=zJ8 .i64 (((Nd.size a:Nat):Int) - ((2:Nat):Int)) ((2:Nat):Int) (by omega);have K:Nd.size a<=1000000000:=by simp only[Nd.size];omega
 have a0:=VN a;have S:IntKind.wrap .i64 ((((Nd.size a:Nat):Int) - ((2:Nat):Int)).tdiv ((2:Nat):Int))=(((Nd.size a - 2) / 2:Nat):Int):=by
  rw[show((Nd.size a:Nat):Int) - ((2:Nat):Int)=((Nd.size a - 2:Nat):Int)by omega,Int.tdiv_eq_ediv_of_nonneg (by omega)];rw[wrap_i64 (by omega) (by omega)];omega
 rw[S]at t
 cases hl:a.leaf with
 | true=>
  obtain⟨x,u,i,rfl,G⟩:=zCL D n (o.prs P) (M.prs P) N hp f ((Nd.size a - 2) / 2) (a.keys.length - 1) (by omega) (by omega) K n (by omega);have hL:(a.keys.length:Int) - ((1:Nat):Int)=((a.keys.length - 1:Nat):Int):=by omega
  rw[hl]at f m p;rw[show Nd.size (Nd.cutA a 0) - 2=0 by simp[Nd.cutA,hl,Nd.size,sumL]]at i;rcases G with⟨j,I,Y,rfl,y,J⟩ | ⟨rfl,y⟩
  .refine⟨j,u, ?_,P,⟨I,by rw[hl];simp only[if_true];omega⟩,y, .inr J⟩;simp(disch:=omega) only[f227,eZ,kT q,m,cS,qA,hl,p,t,jP f,o.lnSl,hL,zAF,i]
  .refine⟨a.keys.length - 1,u, ?_,P,⟨by omega,by rw[hl];simp only[if_true];omega⟩,by omega, .inl (by rw[hl];simp only[if_true];omega)⟩;simp(disch:=omega) only[f227,eZ,kT q,m,cS,qA,hl,p,t,jP f,o.lnSl,hL,zAF,i,zCV]
 | false=>
  have c3:3<=a.keys.length:=by rcases c2 with h | h;rw[hl]at h;cases h;exact h
  obtain⟨x,u,i,rfl,G⟩:=zCL D n (o.prs P) (M.prs P) N hp f ((Nd.size a - 2) / 2) (a.keys.length - 2) (by omega) (by omega) K n (by omega);have hL:(a.keys.length:Int) - ((1:Nat):Int) - ((1:Nat):Int)=((a.keys.length - 2:Nat):Int):=by omega
  rw[hl]at f m p;rw[show Nd.size (Nd.cutA a 0) - 2=16 by have a1:=hp hl;simp only[Nd.cutA,hl,zM,qE,Nd.size,List.take_zero,qC,j7,show sumL []=0 from rfl];omega]at i;rcases G with⟨j,I,Y,rfl,y,J⟩ | ⟨rfl,y⟩
  .refine⟨j,u, ?_,P,⟨I,by rw[hl];simp only[zM,qE];omega⟩,y, .inr J⟩;simp(disch:=omega) only[f227,eZ,kT q,m,cS,qA,hl,p,t,jP f,o.lnSl,hL,zAF,i]
  .refine⟨a.keys.length - 2,u, ?_,P,⟨by omega,by rw[hl];simp only[zM,qE];omega⟩,by omega, .inl (by rw[hl];simp only[zM,qE];omega)⟩;simp(disch:=omega) only[f227,eZ,kT q,m,cS,qA,hl,p,t,jP f,o.lnSl,hL,zAF,i,zCV]
open Go.Nd (cutA aI)
theorem u5 (e:wF h w H k t i)(s:wF h w v k t F)(x:0<h)(lo hi n:Option AV):vD h k lo hi n v=vD h k lo hi n H:=by
 have q: ∀i:List AV,i.length=t*h->kP i true h 0 1 h=t:=fun i j=>by
  simp only[kP,show((1 % 2).beq 0)=false from rfl,yH,yK,show Nat.beq 0 (1 / 2*h)=true from by simp,qO,zU,kE,j,jC];exact Nat.mul_div_cancel _ x
 have u: ∀(i:List AV) (g:Bool),kP i g h 0 (2*t) h=t:=fun i g=>by
  simp only[kP,show((2*t) % 2).beq 0=true by rw[jB];rfl,zU,yQ t (show 0<2 by omega)]
 rcases e with⟨j,⟨rfl,_⟩ | ⟨A,rfl,z,o⟩⟩ | ⟨j,A,G,g,rfl,z,o,l⟩
 .rfl
 .rcases s with⟨H',⟨a,_⟩ | ⟨p,a,m,f⟩⟩ | ⟨H',p,y,C,a,m,f,_⟩
  .cases a
  .simp only[AV.slice.injEq]at a;obtain⟨rfl,_⟩:=a;simp only[vD,o,f,q i j,q F H']
  .simp only[AV.slice.injEq]at a;omega
 .rcases s with⟨H',⟨a,_⟩ | ⟨p,a,m,f⟩⟩ | ⟨H',p,y,C,a,m,f,_⟩
  .cases a
  .simp only[AV.slice.injEq]at a;omega
  .simp only[AV.slice.injEq]at a;obtain⟨rfl,_⟩:=a;simp only[vD,o,f,u]
theorem xT (a:H.ok){o:Nat}{x:AV}(A:H.h.get h=some (.cells i l 1 false))(f:isCell x=true)(e:o<i.length):
  ∃H',stN 1 (.ptr h o) x H=some (jT,H')/\H'.h.get h=some (.cells (i.set o x) l 1 false)/\Stp (fun B=>B=h) H H'/\H'.next=H.next:=
 ⟨_,cI A (by decide) f e,by rw[zOl,if_pos rfl],(zOp a).put (a.lt A) _ (.inr rfl),rfl⟩
theorem map_take (l:List Str)(k:Nat):(l.map S).take (k*1)=(l.take k).map S:=by simp
theorem map_drop (l:List Str)(k:Nat):(l.map S).drop (k*1)=(l.drop k).map S:=by simp
theorem K6: ∀(l:List Ptr) (k:Nat),(l.flatMap jV).take (k*3)=(l.take k).flatMap jV
 | _,0=>by simp
 | [],k+1=>by simp
 | p::l,k+1=>by
  have a:=K6 l k;rw[show(k+1)*3=k*3+3 from by omega];show((jV p)++l.flatMap jV).take (k*3+3)=jV p++(l.take k).flatMap jV;rw[<-a];rfl
theorem K7: ∀(l:List Ptr) (k:Nat),(l.flatMap jV).drop (k*3)=(l.drop k).flatMap jV
 | _,0=>by simp
 | [],k+1=>by simp
 | p::l,k+1=>by
  have a:=K7 l k;rw[show(k+1)*3=k*3+3 from by omega];show((jV p)++l.flatMap jV).drop (k*3+3)=(l.drop k).flatMap jV;rw[<-a];rfl
structure CutI (H0:AH)(A1 A2 A4:Nat)(H:AH)(l1 l2 l4:List AV):Prop where
 prs:Prs H0 H
 a1:H.h.get A1=some (.cells l1 119 1 false)
 a2:H.h.get A2=some (.cells l2 119 1 false)
 a4:H.h.get A4=some (.cells l4 119 1 false)
 o1:H0.next<=A1
 o2:A1<A2
 o4:A2<A4
theorem CutI.lt {H0 H:AH}{a f A4:Nat}{i j m:List AV}(h:CutI H0 a f A4 H i j m):A4<H.next:=h.prs.ok.lt h.a4
theorem CutI.step (H0:CutI H h w t v i F J)(s:Prs v L):CutI H h w t L i F J:=
 ⟨H0.prs.trans s,s.get H0.prs.ok H0.a1,s.get H0.prs.ok H0.a2,s.get H0.prs.ok H0.a4,H0.o1,H0.o2,H0.o4⟩
theorem CutI.st2 (H0:CutI H h w t v i F J){o:Nat}{x:AV}(p:isCell x=true)(q:o<F.length):
  ∃H',stN 1 (.ptr w o) x v=some (jT,H')/\CutI H h w t H' i (F.set o x) J/\Stp (fun B=>B=w) v H':=by
 obtain⟨H',e,g,s,n⟩:=xT H0.prs.ok H0.a2 p q;have:=H0.o1;have:=H0.o2;have:=H0.o4;have J:=H0.lt;exact⟨H',e,⟨H0.prs.fresh s (fun B j=>by omega),by rw[s.keep _ (by omega) (by omega)];exact H0.a1,g,by rw[s.keep _ J (by omega)];exact H0.a4,H0.o1,H0.o2,H0.o4⟩,s⟩
theorem CutI.st4 (H0:CutI H h w t v i F J){o:Nat}{x:AV}(p:isCell x=true)(q:o<J.length):
  ∃H',stN 1 (.ptr t o) x v=some (jT,H')/\CutI H h w t H' i F (J.set o x)/\Stp (fun B=>B=t) v H':=by
 obtain⟨H',e,g,s,n⟩:=xT H0.prs.ok H0.a4 p q;have:=H0.o1;have:=H0.o2;have:=H0.o4;have J:=H0.lt;exact⟨H',e,⟨H0.prs.fresh s (fun B f=>by omega),by rw[s.keep _ (by omega) (by omega)];exact H0.a1,by rw[s.keep _ (by omega) (by omega)];exact H0.a2,g,H0.o1,H0.o2,H0.o4⟩,s⟩
theorem CutI.all2 {l':List AV}(H0:CutI H h w t v i F J)(hl:l'.length=F.length)(o:jS l'=true):
  ∃H',stN F.length (.ptr w 0) (.agg l') v=some (jT,H')/\CutI H h w t H' i l' J/\Stp (fun B=>B=w) v H':=by
 obtain⟨H',e,g,s,n⟩:=kD H0.prs.ok H0.a2 hl o;have:=H0.o1;have:=H0.o2;have:=H0.o4;have J:=H0.lt;exact⟨H',e,⟨H0.prs.fresh s (fun B p=>by omega),by rw[s.keep _ (by omega) (by omega)];exact H0.a1,g,by rw[s.keep _ J (by omega)];exact H0.a4,H0.o1,H0.o2,H0.o4⟩,s⟩
theorem CutI.all4 {l':List AV}(H0:CutI H h w t v i F J)(hl:l'.length=J.length)(o:jS l'=true):
  ∃H',stN J.length (.ptr t 0) (.agg l') v=some (jT,H')/\CutI H h w t H' i F l'/\Stp (fun B=>B=t) v H':=by
 obtain⟨H',e,g,s,n⟩:=kD H0.prs.ok H0.a4 hl o;have:=H0.o1;have:=H0.o2;have:=H0.o4;have J:=H0.lt;exact⟨H',e,⟨H0.prs.fresh s (fun B p=>by omega),by rw[s.keep _ (by omega) (by omega)];exact H0.a1,by rw[s.keep _ (by omega) (by omega)];exact H0.a2,g,H0.o1,H0.o2,H0.o4⟩,s⟩
def vU (u:AV)(B:Nat):Prop:= ∃x ks vs a,u= .agg [x,ks,vs,a]/\(Blk ks B\/Blk vs B\/Blk a B)
theorem wU {a:AV} :vU (.agg [k,q,B,a]) h↔(Blk q h\/Blk B h\/Blk a h):=
 ⟨fun⟨_,_,_,_,e,x⟩=>by simp only[AV.agg.injEq,qU,and_true]at e;obtain⟨rfl,rfl,rfl,rfl⟩:=e;exact x,fun x=>⟨_,_,_,_,rfl,x⟩⟩
def vQ (N:Nat)(H:AH)(v:AV)(a:Nd.Node):Prop:=kJ H v a/\ ∀B,vU v B->N<=B
structure FrG (A k e:Nat)(H:AH)(v:AV)(n:Nat)(l:List AV):Prop where
 g:wF k e H v n l
 f: ∀B,Blk v B->A<B
theorem FrG.prs (A:FrG h w t H k s i)(e:Prs H v):FrG h w t v k s i:=⟨A.g.mono e (fun _ _ x=>x),A.f⟩
theorem FrG.stp {n:Nat}(A:FrG h t s H k n i)(a:Stp (fun B=>B=w) H v)(j:w<=h):FrG h t s v k n i:=
 ⟨A.g.mono a (fun B e s=>by have:=A.f B e;omega),A.f⟩
theorem zO8 (l:Str):aveq (S l) (S l)=true:=by simp[S,aveq]
theorem FrG.nil (A k e:Nat)(H:AH):FrG A k e H .nS 0 []:=⟨.inl ⟨by simp, .inl ⟨rfl,rfl⟩⟩,fun B a=>(zOt.1 a).elim⟩
theorem FrG.isCell {A k e n:Nat}{H:AH}{v:AV}{l:List AV}(h:FrG A k e H v n l):isCell v=true:=h.g.isCell
theorem FrG.aveq {A k e n:Nat}{H:AH}{v:AV}{l:List AV}(h:FrG A k e H v n l):aveq v v=true:=kK h.g.row
structure FrN (A:Nat)(H:AH)(a b c:AV)(nd:Nd.Node):Prop where
 k:FrG A 1 9 H a nd.keys.length (nd.keys.map S)
 v:FrG A 1 9 H b nd.vals.length (nd.vals.map S)
 p:FrG A 3 42 H c nd.kids.length (nd.kids.flatMap jV)
theorem FrN.stp {A i:Nat}{H H':AH}{a b c:AV}{j:Nd.Node}(h:FrN A H a b c j)(s:Stp (fun B=>B=i) H H')(f:i<=A):FrN A H' a b c j:=⟨h.k.stp s f,h.v.stp s f,h.p.stp s f⟩
theorem FrN.fresh {c:AV}{i:Nd.Node}(A:FrN h H q B c i)(m:w<=h): ∀x,vU (.agg [k,q,B,c]) x->w<=x:=fun x j=>by
 rcases wU.1 j with N | N | N
 .have:=A.k.f x N;omega
 .have:=A.v.f x N;omega
 .have:=A.p.f x N;omega
theorem zGR{k2 v2 i k4 a f:AV}{keys:List Str}{C nb:Nd.Node}
  (H0:CutI H h w t v [.bool p,k,q,B] [.bool p,k2,v2,i] [.bool p,k4,a,f]) (o:Strs v k keys) (hR: ∀b,Blk k b->b<H.next) (z:s<keys.length) (j:FrN t v k2 v2 i C) (hb:FrN t v k4 a f nb):
  ∃H',zGe D n [.ptr h 0, .ptr w 0, .ptr t 0, .int .i64 (s:Nat)] v=some (.ret (.tuple [.agg [.bool p,k2,v2,i],S (keys.getD s []), .agg [.bool p,k4,a,f], .int .i64 (0:Nat)]),H')/\Prs H H'/\FrN t H' k2 v2 i C/\FrN t H' k4 a f nb:=by
 have Z:=H0.o1;have o2:=H0.o2;have o4:=H0.o4;obtain⟨A4,q1,q2⟩:=o.at z;obtain⟨m,Q,u,x⟩:=H0.all2 (l':=[.bool p,k2,v2,i]) rfl (ZZ _ _ _ _ j.k.isCell j.v.isCell j.p.isCell);have I:Strs m k keys:=Rw.stp o x (fun b T e=>by have:=hR b T;omega);obtain⟨U,K,L⟩:=I.at z;obtain rfl:A4=U:=by have:=q1 .i64 s rfl;rw[K .i64 s rfl]at this;cases this;rfl
 obtain⟨F,V,y,G⟩:=u.all4 (l':=[.bool p,k4,a,f]) rfl (ZZ _ _ _ _ hb.k.isCell hb.v.isCell hb.p.isCell);have M:stN 4 (.ptr w 0) (.agg [.bool p,k2,v2,i]) v=some (jT,m):=Q;have N:stN 4 (.ptr t 0) (.agg [.bool p,k4,a,f]) m=some (jT,F):=V;have J:aveq (.agg [.bool p,k4,a,f]) (.agg [.bool p,k4,a,f])=true:=by simp[Eng.aveq,ZY,hb.k.aveq,hb.v.aveq,hb.p.aveq]
 have W:keys.getD s []=keys[s]:=by rw[qG,zK z];rfl
 have Y:ldN 4 (.ptr t 0) m=some (.agg [.bool p,k4,a,f]):=by rw[jU u.a4];rfl
 refine⟨F, ?_,y.prs,(j.stp x (by omega)).stp G (by omega),(hb.stp x (by omega)).stp G (by omega)⟩;rw[W];simp(disch:=omega) only[zGe,eZ,jU H0.a2,jU H0.a4,jP H0.a1,q1,q2,M,N,kY (jP u.a1 1) (kK o),kY L (zO8 _),kY Y J,jU y.a2,jU y.a4,cS,qA]
theorem zFV(q:H.ok){l:List Str}(v:wF 1 9 H k l.length (l.map S))(hl:l.length<=1000000000)(j:0<h)(hi:h<=l.length)(A:Nat)(y:A<H.next):
  ∃r a H',vD 1 k none (some (.int .i64 (h:Nat))) (some (.int .i64 (h:Nat))) H=some r/\f108 D n [r] H=some (a,H')/\Prs H H'/\FrG A 1 9 H' a (l.take h).length ((l.take h).map S):=by
 obtain⟨r,s,w,m⟩:=VM v (by decide) hi .i64 .i64;rw[map_take]at w;have o:(l.take h).length=h:=by rw[qC];omega
 have t:Strs H r (l.take h):=by rw[Strs,o];exact w
 obtain⟨a,H',u,p,g,f⟩:=ZS D n q t (m j).1 (m j).2 (by omega);exact⟨r,a,H',s,u,p,g,fun B x=>by have:=f B x;omega⟩
theorem zFI(m:H.ok){l:List Str}(v:wF 1 9 H k l.length (l.map S))(hl:l.length<=1000000000)(hi:h<l.length)(A:Nat)(y:A<H.next):
  ∃r a H',aveq r r=true/\vD 1 k (some (.int .i64 (h:Nat))) none none H=some r/\f108 D n [r] H=some (a,H')/\Prs H H'/\FrG A 1 9 H' a (l.drop h).length ((l.drop h).map S):=by
 obtain⟨r,o,w,q,s⟩:=QA v (by decide) hi .i64;rw[map_drop]at w;have j:(l.drop h).length=l.length - h:=by rw[qI]
 have t:Strs H r (l.drop h):=by rw[Strs,j];exact w
 obtain⟨a,H',u,p,g,f⟩:=ZS D n m t q s (by omega);exact⟨r,a,H',kK w,o,u,p,g,fun B x=>by have:=f B x;omega⟩
theorem zNs(q:H.ok){l:List Ptr}(v:wF 3 42 H k l.length (l.flatMap jV))(hl:l.length<=1000000000)(j:0<h)(hi:h<=l.length)(A:Nat)(y:A<H.next):
  ∃r a H',vD 3 k none (some (.int .i64 (h:Nat))) (some (.int .i64 (h:Nat))) H=some r/\f81 D n [r] H=some (a,H')/\Prs H H'/\FrG A 3 42 H' a (l.take h).length ((l.take h).flatMap jV):=by
 obtain⟨r,s,w,m⟩:=VM v (by decide) hi .i64 .i64;rw[K6]at w;have o:(l.take h).length=h:=by rw[qC];omega
 have t:bI H r (l.take h):=by rw[bI,o];exact w
 obtain⟨a,H',u,p,g,f⟩:=KN D n q t (m j).1 (m j).2 (by omega);exact⟨r,a,H',s,u,p,g,fun B x=>by have:=f B x;omega⟩
theorem zNd(m:H.ok){l:List Ptr}(v:wF 3 42 H k l.length (l.flatMap jV))(hl:l.length<=1000000000)(hi:h<l.length)(A:Nat)(y:A<H.next):
  ∃r a H',aveq r r=true/\vD 3 k (some (.int .i64 (h:Nat))) none none H=some r/\f81 D n [r] H=some (a,H')/\Prs H H'/\FrG A 3 42 H' a (l.drop h).length ((l.drop h).flatMap jV):=by
 obtain⟨r,o,w,q,s⟩:=QA v (by decide) hi .i64;rw[K7]at w;have j:(l.drop h).length=l.length - h:=by rw[qI]
 have t:bI H r (l.drop h):=by rw[bI,j];exact w
 obtain⟨a,H',u,p,g,f⟩:=KN D n m t q s (by omega);exact⟨r,a,H',kK w,o,u,p,g,fun B x=>by have:=f B x;omega⟩
theorem zC3(N:200000000<=n)(z:H.ok){ks:Nd.Node}(hb:ks.leaf=p)(h:fK H (.agg [.bool p,k,q,B]) ks)(O:small ks):
  ∃a i j s t u A4,(∀K,bA (some (AObj.cells [.bool p,k,q,B] 119 1 false,fun A=>AV.ptr A 0)) H K=K (.ptr t 0) a)/\(∀K,bA (some (AObj.cells [.bool false, .nS, .nS, .nS] 119 1 false,fun A=>AV.ptr A 0)) a K=K (.ptr u 0) i)/\
   (∀K,bA (some (AObj.cells [.bool false, .nS, .nS, .nS] 119 1 false,fun A=>AV.ptr A 0)) i K=K (.ptr A4 0) j)/\f109 D n [.agg [.bool p,k,q,B]] j=some (.bool (Nd.shaped ltS ks),s)/\
   CutI H t u A4 j [.bool p,k,q,B] [.bool false, .nS, .nS, .nS] [.bool false, .nS, .nS, .nS]/\CutI H t u A4 s [.bool p,k,q,B] [.bool false, .nS, .nS, .nS] [.bool false, .nS, .nS, .nS]:=by
 have o:Prs H (H.push (.cells [.bool p,k,q,B] 119 1 false)):=(zOp z).push _;have C:(H.push (.cells [.bool p,k,q,B] 119 1 false)).h.get H.next=some (.cells [.bool p,k,q,B] 119 1 false):=zOh _ _
 have Q:(H.push (.cells [.bool p,k,q,B] 119 1 false)).next=H.next+1:=rfl
 generalize J:H.push (.cells [.bool p,k,q,B] 119 1 false)=a at o C Q;have m:Prs a (a.push (.cells [.bool false, .nS, .nS, .nS] 119 1 false)):=(zOp o.ok).push _;have F:(a.push (.cells [.bool false, .nS, .nS, .nS] 119 1 false)).h.get a.next=some (.cells [.bool false, .nS, .nS, .nS] 119 1 false):=zOh _ _
 have S:(a.push (.cells [.bool false, .nS, .nS, .nS] 119 1 false)).next=a.next+1:=rfl
 have v:=m.get o.ok C;generalize L:a.push (.cells [.bool false, .nS, .nS, .nS] 119 1 false)=i at m F S v;have b:Prs i (i.push (.cells [.bool false, .nS, .nS, .nS] 119 1 false)):=(zOp m.ok).push _;have G:(i.push (.cells [.bool false, .nS, .nS, .nS] 119 1 false)).h.get i.next=some (.cells [.bool false, .nS, .nS, .nS] 119 1 false):=zOh _ _
 have x:=b.get m.ok v;have y:=b.get m.ok F;generalize M:i.push (.cells [.bool false, .nS, .nS, .nS] 119 1 false)=j at b G x y;have I:Prs H j:=(o.trans m).trans b;obtain⟨s,T,U⟩:=uX D n b.ok (h.prs I) O N;have c3:CutI H H.next a.next i.next j [.bool p,k,q,B] [.bool false, .nS, .nS, .nS] [.bool false, .nS, .nS, .nS]:=⟨I,x,y,G,by omega,by omega,by omega⟩
 refine⟨a,i,j,s,H.next,a.next,i.next,fun K=> ?_,fun K=> ?_,fun K=> ?_,T,c3,c3.step U⟩
 .simp only[eZ,kT z,J]
 .simp only[eZ,kT o.ok,L]
 .simp only[eZ,kT m.ok,M]
theorem zM0(O:200000000<=n)(hk:H.ok){a:Nd.Node}(h:kJ H k a)(I:small a)(y:Nd.shaped ltS a=true)(Q:bO a)(hl:a.leaf=true):
  ∃v T U H',f213 D n [k] H=some (.tuple [T,S (a.keys.getD v []),U, .int .i64 (0:Nat)],H')/\Prs H H'/\vQ H.next H' T (cutA a v)/\vQ H.next H' U (aI a v)/\cutOk a v/\hbnd a v:=by
 have J:=h.node;obtain⟨ks,vs,ps,rfl,K,V,h3⟩:=h;rw[hl]at J;have c7:=Nd.sumL_ge a.keys;have c9:a.vals.length=a.keys.length:=by
  simp only[Nd.shaped,hl,if_true,zF,zQ]at y;exact y.2.1.1
 obtain⟨s1,s2,s3⟩:=id I;obtain⟨c1,c2⟩:=id Q;obtain⟨H1,H2,H3,H4,A1,A2,A4,b1,b2,b3,e4,i3,s⟩:=zC3 D n O hk hl J I;obtain⟨v,H5,e5,p5,⟨k1,k2⟩,kb⟩:=zFY D n O s.prs.ok (J.prs s.prs) I y Q;simp only[hl,if_true]at k2;have W:=s.step p5;obtain⟨H6,e6,Y,t6⟩:=W.st2 (o:=0) (x:= .bool true) rfl (by simp);obtain⟨H7,e7,t,t7⟩:=Y.st4 (o:=0) (x:= .bool true) rfl (by simp);have m {H':AH} (p:Prs H H'):=K.mono p (fun _ _ x=>x);have m2 {H':AH} (p:Prs H H'):=V.mono p (fun _ _ x=>x);obtain⟨r8,k8,H8,c8,e8,p8,Z⟩:=zFV D n t.prs.ok (m t.prs) (by omega) k1 (by omega) A4 t.lt;have i8:=t.step p8;obtain⟨H9,e9,u,t9⟩:=i8.st2 (o:=1) (x:=k8) Z.isCell (by simp);have f9:=Z.stp t9 (by have:=i8.o4;omega);obtain⟨d0,k10,d1,_,a2,a3,L,M⟩:=zFI D n u.prs.ok (m u.prs) (by omega) (show v< _ by omega) A4 u.lt;have a4:=u.step L;obtain⟨a5,a6,f,t11⟩:=a4.st4 (o:=1) (x:=k10) M.isCell (by simp);have a7:=M.stp t11 (by omega);obtain⟨d2,k12,d3,a8,a9,G,N⟩:=zFV D n f.prs.ok (m2 f.prs) (by omega) k1 (by omega) A4 f.lt;have i:=f.step G;obtain⟨b0,k13,d4,b4,c13,b5,z,f13⟩:=zFI D n i.prs.ok (m2 i.prs) (by omega) (show v< _ by omega) A4 i.lt;have a0:vD 1 vs (some (.int .i64 (v:Nat))) none none a5=some b0:=by rw[u5 (m2 i.prs) (m2 f.prs) (by decide)];exact c13
 have b6:=i.step z;obtain⟨d5,b7,b8,t14⟩:=b6.st2 (o:=2) (x:=k12) N.isCell (by simp);obtain⟨j,b9,q,t15⟩:=b8.st4 (o:=2) (x:=k13) f13.isCell (by simp);have o4:=q.o4;have h24:=q.o1;have d6:=q.o2;have F8:FrG A4 1 9 j k8 _ _:=(((((f9.prs L).stp t11 (by omega)).prs G).prs z).stp t14 (by omega)).stp t15 (by omega);have c0:FrG A4 1 9 j k10 _ _:=(((a7.prs G).prs z).stp t14 (by omega)).stp t15 (by omega);have c3:FrG A4 1 9 j k12 _ _:=((N.prs z).stp t14 (by omega)).stp t15 (by omega);have c4:FrG A4 1 9 j k13 _ _:=(f13.stp t14 (by omega)).stp t15 (by omega);have na:FrN A4 j k8 k12 .nS (cutA a v):=by
  simp only[cutA,hl,if_true];exact⟨F8,c3,FrG.nil ..⟩
 have nb:FrN A4 j k10 k13 .nS (aI a v):=by
  simp only[aI,hl,if_true];exact⟨c0,c4,FrG.nil ..⟩
 obtain⟨c5,c6,P,C,F⟩:=zGR D n q ((m q.prs).row) (fun B hB=>K.lt hB) (show v<a.keys.length by omega) na nb;refine⟨v, .agg [.bool true,k8,k12, .nS], .agg [.bool true,k10,k13, .nS],c5, ?_,P, ?_, ?_,⟨k1,by rw[hl];simp only[if_true];omega⟩,kb⟩
 .have t2: ¬(a.keys.length:Int)< ((2:Nat):Int):=by omega
  simp(maxSteps:=999999)(disch:=omega) only[f213,eZ,hl,b1,b2,b3,jU i3.a1,jU s.a1,cS,qA,e4,y,jP s.a1,K.row.lnSl,t2,e5,jP W.a1,e6,kY (jP Y.a1 0) (zBb _),e7,jP t.a1,c8,e8,e9,jP u.a1,a2,a3,a6,jP f.a1,a8,a0,a9,kY (jP i.a1 2) (kK V.row),kY c13 b4,b5,b7,b9,c6]
 .exact⟨⟨k8,k12, .nS,by simp only[cutA,hl,if_true],C.k.g,C.v.g,C.p.g⟩,C.fresh (by omega)⟩
 .exact⟨⟨k10,k13, .nS,by simp only[aI,hl,if_true],F.k.g,F.v.g,F.p.g⟩,F.fresh (by omega)⟩
theorem zIS(U:200000000<=n)(hk:H.ok){a:Nd.Node}(h:kJ H k a)(I:small a)(y:Nd.shaped ltS a=true)(V:bO a)(hl:a.leaf=false):
  ∃v W Y H',f213 D n [k] H=some (.tuple [W,S (a.keys.getD v []),Y, .int .i64 (0:Nat)],H')/\Prs H H'/\vQ H.next H' W (cutA a v)/\vQ H.next H' Y (aI a v)/\cutOk a v/\hbnd a v:=by
 have J:=h.node;obtain⟨ks,vs,ps,rfl,K,h2,Z⟩:=h;rw[hl]at J;have c4:=Nd.sumL_ge a.keys;have c5:a.kids.length=a.keys.length+1:=by
  simp only[Nd.shaped,hl,zM,qE,zF,zQ]at y;exact y.2.1.2
 obtain⟨s1,s2,s3⟩:=id I;obtain⟨c1,c2⟩:=id V;obtain⟨H1,H2,H3,H4,A1,A2,A4,b1,b2,b3,e4,i3,s⟩:=zC3 D n U hk hl J I;obtain⟨v,H5,e5,p5,⟨k1,k2⟩,kb⟩:=zFY D n U s.prs.ok (J.prs s.prs) I y V;simp only[hl,zM,qE]at k2;have i5:=s.step p5;obtain⟨H6,e6,i6,t6⟩:=i5.st2 (o:=0) (x:= .bool false) rfl (by simp);obtain⟨H7,e7,t,t7⟩:=i6.st4 (o:=0) (x:= .bool false) rfl (by simp);have m {H':AH} (p:Prs H H'):=K.mono p (fun _ _ x=>x);have m2 {H':AH} (p:Prs H H'):=Z.mono p (fun _ _ x=>x);obtain⟨r8,k8,H8,c8,e8,p8,f8⟩:=zFV D n t.prs.ok (m t.prs) (by omega) k1 (by omega) A4 t.lt;have i8:=t.step p8;obtain⟨H9,e9,u,t9⟩:=i8.st2 (o:=1) (x:=k8) f8.isCell (by simp);have f9:=f8.stp t9 (by have:=i8.o4;omega);obtain⟨c6,k10,c7,_,M,a0,N,O⟩:=zFI D n u.prs.ok (m u.prs) (by omega) (show v+1< _ by omega) A4 u.lt;have a2:=u.step N;obtain⟨a3,a4,f,t11⟩:=a2.st4 (o:=1) (x:=k10) O.isCell (by simp);have a5:=O.stp t11 (by omega);obtain⟨c9,k12,d0,Q,a6,G,T⟩:=zNs D n f.prs.ok (m2 f.prs) (by omega) (show 0<v+1 by omega) (by omega) A4 f.lt;have i:=f.step G;obtain⟨a7,k13,d1,a8,c13,a9,z,f13⟩:=zNd D n i.prs.ok (m2 i.prs) (by omega) (show v+1< _ by omega) A4 i.lt;have L:vD 3 ps (some (.int .i64 (v+1:Nat))) none none a3=some a7:=by rw[u5 (m2 i.prs) (m2 f.prs) (by decide)];exact c13
 have b0:=i.step z;obtain⟨d2,b4,b5,t14⟩:=b0.st2 (o:=3) (x:=k12) T.isCell (by simp);obtain⟨j,b6,q,t15⟩:=b5.st4 (o:=3) (x:=k13) f13.isCell (by simp);simp only[yF]at M Q c13 L;have o4:=q.o4;have h24:=q.o1;have d3:=q.o2;have F8:FrG A4 1 9 j k8 _ _:=(((((f9.prs N).stp t11 (by omega)).prs G).prs z).stp t14 (by omega)).stp t15 (by omega);have b7:FrG A4 1 9 j k10 _ _:=(((a5.prs G).prs z).stp t14 (by omega)).stp t15 (by omega);have b8:FrG A4 3 42 j k12 _ _:=((T.prs z).stp t14 (by omega)).stp t15 (by omega);have b9:FrG A4 3 42 j k13 _ _:=(f13.stp t14 (by omega)).stp t15 (by omega);have na:FrN A4 j k8 .nS k12 (cutA a v):=by
  simp only[cutA,hl,zM,qE];exact⟨F8,FrG.nil ..,b8⟩
 have nb:FrN A4 j k10 .nS k13 (aI a v):=by
  simp only[aI,hl,zM,qE];exact⟨b7,FrG.nil ..,b9⟩
 obtain⟨c0,c3,P,C,F⟩:=zGR D n q ((m q.prs).row) (fun B hB=>K.lt hB) (show v<a.keys.length by omega) na nb;refine⟨v, .agg [.bool false,k8, .nS,k12], .agg [.bool false,k10, .nS,k13],c0, ?_,P, ?_, ?_,⟨k1,by rw[hl];simp only[zM,qE];omega⟩,kb⟩
 .have t2: ¬(a.keys.length:Int)< ((2:Nat):Int):=by omega
  have t3: ¬(a.keys.length:Int)< ((3:Nat):Int):=by omega
  simp(maxSteps:=999999)(disch:=omega) only[f213,eZ,hl,b1,b2,b3,jU i3.a1,jU s.a1,cS,qA,e4,y,jP s.a1,K.row.lnSl,t2,t3,e5,jP i5.a1,e6,kY (jP i6.a1 0) (zBb _),e7,jP t.a1,c8,e8,e9,jP u.a1,M,a0,a4,jP f.a1,Q,L,a6,kY (jP i.a1 3) (kK Z.row),kY c13 a8,a9,b4,b6,c3]
 .exact⟨⟨k8, .nS,k12,by simp only[cutA,hl,zM,qE],C.k.g,C.v.g,C.p.g⟩,C.fresh (by omega)⟩
 .exact⟨⟨k10, .nS,k13,by simp only[aI,hl,zM,qE],F.k.g,F.v.g,F.p.g⟩,F.fresh (by omega)⟩
end Go.Eng.Sh
end
section
namespace Go.Eng
namespace T
variable {α:Type}
noncomputable def st (t:T α)(n:Nat)(a:α):T α:=(T.set 40 t n a).getD .leaf
end T
theorem Stp.ld1 {S:Nat->Prop}{H H':AH}(s:Stp S H H'){A:Nat}(o:Nat)(h:A<H.next)(a: ¬S A):Eng.ld1 (.ptr A o) H'=Eng.ld1 (.ptr A o) H:=by simp only[Eng.ld1,s.keep A h a]
theorem Stp.ldN {S:Nat->Prop}{H H':AH}(s:Stp S H H'){A:Nat}(o n:Nat)(h:A<H.next)(a: ¬S A):Eng.ldN n (.ptr A o) H'=Eng.ldN n (.ptr A o) H:=by simp only[Eng.ldN,s.keep A h a]
theorem Prs.refl {H:AH}(h:H.ok):Prs H H:=zOp h
def Rws (k:Nat)(H:AH):List AV->List (Nat×List AV)->Prop
 | [],[]=>True
 | v::vs,r::rs=>(Rw k H v r.1 r.2/\jS r.2=true)/\Rws k H vs rs
 | _,_=>False
theorem Rws.len {k:Nat}{H:AH} : ∀ {vs:List AV} {rs:List (Nat×List AV)},Rws k H vs rs->vs.length=rs.length
 | [],[],_=>rfl
 | _::vs,_::rs,h=>by simp only[zY,Rws.len h.2]
 | [],_::_,h=>h.elim
 | _::_,[],h=>h.elim
theorem Rws.at {k:Nat}{H:AH} : ∀ {vs:List AV} {rs:List (Nat×List AV)} {i:Nat} {x:AV},Rws k H vs rs->vs[i]? =some x-> ∃r,rs[i]? =some r/\Rw k H x r.1 r.2/\jS r.2=true
 | [],[],_,_,_,h=>by simp at h
 | _::vs,r::rs,0,x,h,hx=>by simp only[List.getElem?_cons_zero,zC]at hx;subst hx;exact⟨r,rfl,h.1⟩
 | _::vs,_::rs,i+1,x,h,hx=>by simp only[yV]at hx⊢;exact Rws.at h.2 hx
 | [],_::_,_,_,h,_=>h.elim
 | _::_,[],_,_,h,_=>h.elim
theorem Rws.prs {k:Nat}{H H':AH}(s:Prs H H'): ∀ {vs:List AV} {rs:List (Nat×List AV)},Rws k H vs rs->Rws k H' vs rs
 | [],[],_=>trivial
 | _::vs,_::rs,h=>⟨⟨h.1.1.prs s,h.1.2⟩,Rws.prs s h.2⟩
 | [],_::_,h=>h.elim
 | _::_,[],h=>h.elim
def gG (rs:List (Nat×List AV)):Nat:=(rs.map Prod.fst).sum
def zEb (rs:List (Nat×List AV)):List AV:=rs.flatMap Prod.snd
theorem aX (rs:E[h]? =some I):gG (E.take (h+1))=gG (E.take h)+I.1:=by
 obtain⟨hi,rfl⟩:=qP.1 rs;rw[qQ hi];simp only[gG,List.map_append,List.sum_append,yE,List.map_nil,List.sum_cons,List.sum_nil,Nat.add_zero]
theorem zB7 (rs:E[h]? =some I):zEb (E.take (h+1))=zEb (E.take h)++I.2:=by
 obtain⟨hi,rfl⟩:=qP.1 rs;rw[qQ hi];simp only[zEb,jJ,qM,List.flatMap_nil,yC]
theorem Q5 (rs:List (Nat×List AV))(i:Nat):gG (rs.take i)<=gG rs:=by
 have:rs=rs.take i++rs.drop i:=(qW i rs).symm
 conv=>rhs;rw[this]
 simp only[gG,List.map_append,List.sum_append];omega
def Part (k e:Nat)(H:AH)(v:AV)(n:Nat)(l:List AV)(a:Nat):Prop:=
 (a=0/\v= .nS/\n=0/\l=[])\/ ∃A rest,v= .slice A 0 n 1/\A<H.next/\H.h.get A=some (.cells (l++rest) e k true)/\l.length=n*k/\rest.length=(a - n)*k/\n<=a
theorem Part.own (e:Part h w H k t i t):Own h w H k t i:=by
 rcases e with⟨rfl,rfl,_,rfl⟩ | ⟨A,rest,rfl,f,a,hl,hr,_⟩
 .exact zOv _ _ _
 .have:rest=[]:=zR (by rw[hr,Nat.sub_self,Nat.zero_mul]);subst this;rw[yC]at a;exact⟨hl, .inr ⟨A,rfl,f,a⟩⟩
theorem Part.app {bytes:Nat}{m:Nat}{new:List AV}(p:H.ok)(j:0<h)(e:Part h w H k t i s)(v:srcOf h q H=some (m,new))(hm:new.length=m*h)(n:jS new=true)(f:t+m<=s):
  ∃a H',apP w h bytes k q H=some (a,H')/\Part h w H' a (t+m) (i++new) s/\Stp (Blk k) H H'/\H'.next=H.next/\ ∀B,Blk a B->Blk k B:=by
 rcases e with⟨rfl,rfl,rfl,rfl⟩ | ⟨A,rest,rfl,u,C,hl,hr,J⟩
 .obtain rfl:m=0:=by omega
  have:new=[]:=zR (by simpa using hm);subst this;exact⟨.nS,H,by simp[apP,v,n,app1], .inl ⟨rfl,rfl,rfl,rfl⟩,zOp p,rfl,fun _ x=>x⟩
 .have o:(i++rest).length=s*h:=by rw[zV,hl,hr,<-j8];congr 1;omega
  have y:kP (i++rest) true h 0 1 h=s:=by
   simp only[kP,show((1 % 2).beq 0)=false from rfl,yH,yK,show Nat.beq 0 (1 / 2*h)=true from by simp,qO,zU,kE,o,jC];exact Nat.mul_div_cancel _ j
  have b1:Nat.ble (t+m) s=true:=by rw[qT];exact f
  have F:Nat.blt 0 h=true:=by rw[qD];exact j
  have I:m*h<=rest.length:=by rw[hr];exact yN _ (by omega)
  have z:setAt (i++rest) (0+t*h) new=some (i++new++rest.drop (m*h)):=by
   rw[xH (by rw[o,hm,j7,<-j8];exact yN _ f),j7,hm];congr 1;rw[List.take_append_of_le_length (by omega),zZ (by omega),List.drop_append,<-hl,List.drop_of_length_le (by omega),yA];congr 2;omega
  refine⟨.slice A 0 (t+m) 1,H.put A (.cells (i++new++rest.drop (m*h)) w h true), ?_, .inr ⟨A,rest.drop (m*h),rfl,u,by rw[zOl,if_pos rfl],by rw[zV,hl,hm,j8],by rw[qI,hr,<-Nat.sub_mul];congr 1;omega,f⟩,(zOp p).put u _ (.inr (zOm.2 rfl)),rfl,fun B G=>zOm.2 (zOm.1 G)⟩;simp only[apP,v,n,zU,app1,C,zEl,y,b1,F,z,zBf,wM,kG]
theorem Part.stp (S:Part h w H k t i s)(H':Stp e H v)(n: ∀A,Blk k A-> ¬e A):Part h w v k t i s:=by
 rcases S with S | ⟨A,rest,rfl,f,j,hr⟩
 .exact .inl S
 .exact .inr ⟨A,rest,rfl,qJ f H'.next,by rw[H'.keep A f (n A (zOm.2 rfl))];exact j,hr⟩
theorem zF8 (z:AV): ∀m:Nat,(rep m [z]).length=m
 | 0=>rfl
 | m+1=>by simp[rep,zF8 z m]
theorem zCs (a b c:AV): ∀m:Nat,(rep m [a,b,c]).length=m*3
 | 0=>rfl
 | m+1=>by simp only[rep,zV,zCs a b c m,zY,yO];omega
theorem zJK {k e bytes m:Nat}{z:List AV}(o:H.ok)(a:0<k)(f:(rep m z).length=m*k)(s:0<m)(hm:m<=1000000000)(hb:bytes<=1000):
  apZ e k bytes z .nS (.int .i64 m) H=some (.slice H.next 0 m 1,H.push (.cells (rep m z) e k true))/\
  vD k (.slice H.next 0 m 1) none (some (.int .i64 (0:Nat))) none (H.push (.cells (rep m z) e k true))=some (.slice H.next 0 0 1)/\
  Part k e (H.push (.cells (rep m z) e k true)) (.slice H.next 0 0 1) 0 [] m:=by
 have b1:Nat.ble (m*bytes) 281474976710656=true:=by
  rw[qT];exact qR (Nat.mul_le_mul hm hb) (by decide)
 have b2:Nat.blt m 4611686018427387904=true:=by rw[qD];omega
 have p:Nat.beq m 0=false:=by rw[y7];intro h;have:=Nat.eq_of_beq_eq_true h;omega
 have i:kP (rep m z) true k 0 1 k=m:=by
  simp only[kP,show((1 % 2).beq 0)=false from rfl,yH,yK,show Nat.beq 0 (1 / 2*k)=true from by simp,qO,zU,kE,f,jC];exact Nat.mul_div_cancel _ a
 have j:Nat.blt 0 k=true:=by rw[qD];exact a
 refine⟨?_, ?_, .inr ⟨H.next,rep m z,rfl,Nat.lt_succ_self _,zOh _ _,by simp,by simpa using f,by omega⟩⟩
 .show apZ e k bytes z .nS (.int .i64 (Int.ofNat m)) H=_;simp only[apZ,b1,b2,qO,zU,app1,show m.beq 0=false from p,yH,vO,dT hm hb,cH,yA,cY o,kG]
 .have q:=kO .i64 (z:=((0:Nat):Int)) (by omega);simp only[vD,kU,q,zOh,j,zU];simp[YJ,i,kG,show Nat.ble 0 m=true from by rw[qT];omega,show Nat.ble 0 0=true from rfl,show Nat.beq 1 0=false from rfl]
end Go.Eng
namespace Go.Eng.Sh
open Go.Nd (Ptr sumL cutOk cutA aI)
theorem zIC (D:Dyn)(n m:Nat)(hm:m<=1000000000)(a:H.ok):
  ∃v H',f180 D n [.nS, .int .i64 (m:Nat)] H=some (v,H')/\Prs H H'/\Part 1 9 H' v 0 [] m/\ ∀B,Blk v B->H.next<=B:=by
 have h:zMc X 117 .nS=some (.int .i64 (0:Nat)):=rfl;have i:lnSl .nS=some (.int .i64 (0:Nat)):=rfl;have s:vD 1 .nS none (some (.int .i64 (0:Nat))) none H=some .nS:=rfl;have j: ¬(m:Int)< ((0:Nat):Int):=by omega
 by_cases hp:m=0
 .subst hp;refine⟨.nS,H, ?_,zOp a, .inl ⟨rfl,rfl,rfl,rfl⟩,fun B f=>(zOt.1 f).elim⟩;simp(disch:=omega) only[f180,zGg,zCX,eZ,j,h,i,Int.sub_zero,yS,Int.sub_self]
 .obtain⟨t,u,p⟩:=zJK (k:=1) (e:=9) (bytes:=16) (m:=m) (z:=[.str 0 0]) a (by decide) (by rw[zF8];omega) (by omega) hm (by decide);have o:(m:Int) - (((0:Nat):Int) - ((0:Nat):Int))=(m:Int):=by omega
  have q:((0:Nat):Int)< (m:Int):=by omega
  refine⟨_,_, ?_,(zOp a).push _,p,fun B f=>by rw[zOm.1 f];exact zP _⟩;simp(disch:=omega) only[f180,zGg,zCX,eZ,j,h,i,s,o,q,t,u]
theorem zID (D:Dyn)(n m:Nat)(hm:m<=1000000000)(a:H.ok):
  ∃v H',f214 D n [.nS, .int .i64 (m:Nat)] H=some (v,H')/\Prs H H'/\Part 3 42 H' v 0 [] m/\ ∀B,Blk v B->H.next<=B:=by
 have h:zMc X 50 .nS=some (.int .i64 (0:Nat)):=rfl;have i:lnSl .nS=some (.int .i64 (0:Nat)):=rfl;have u:vD 3 .nS none (some (.int .i64 (0:Nat))) none H=some .nS:=rfl;have j: ¬(m:Int)< ((0:Nat):Int):=by omega
 by_cases hp:m=0
 .subst hp;refine⟨.nS,H, ?_,zOp a, .inl ⟨rfl,rfl,rfl,rfl⟩,fun B f=>(zOt.1 f).elim⟩;simp(disch:=omega) only[f214,zGd,zCW,eZ,j,h,i,Int.sub_zero,yS,Int.sub_self]
 .obtain⟨o,q,p⟩:=zJK (k:=3) (e:=42) (bytes:=24) (m:=m) (z:=[.int .i64 (.ofNat 0), .int .i64 (.ofNat 0), .int .u64 (.ofNat 0)]) a (by decide) (by rw[zCs]) (by omega) hm (by decide);have s:(m:Int) - (((0:Nat):Int) - ((0:Nat):Int))=(m:Int):=by omega
  have t:((0:Nat):Int)< (m:Int):=by omega
  refine⟨_,_, ?_,(zOp a).push _,p,fun B f=>by rw[zOm.1 f];exact zP _⟩;simp only[Int.ofNat_eq_natCast]at o q;simp(disch:=omega) only[f214,zGd,zCW,eZ,j,h,i,u,s,t,o,q]
end Go.Eng.Sh
end



