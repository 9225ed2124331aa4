/- A checked evaluator for the program, and what it tells, part 4: no condition. -/
import Derived.Test.YtjjeplgpgbhngaaGreatO3
import Derived.Test.YtjjeplgpgbhngaaGreatProg
import Derived.KernelRfl
set_option linter.all false
set_option linter.unusedVariables false
set_option linter.unusedSimpArgs false
set_option maxHeartbeats 8000000
set_option maxRecDepth 20000
variable (D:Go.Eng.Dyn)(n:Nat){H:Go.Eng.Dyn}{h l G:Go.Eng.AH}{k p C E:Nat}{i t B:Go.Eng.AV}{A:List Go.Eng.AV}{v:Go.TypeId}{w q:Bool}{e:Nat->Prop}{s:Type}{F:List Go.Eng.AV->Go.Eng.AH->Go.Eng.Rs}
section
noncomputable section
namespace Go.Eng.Sh
open Go.Proofs
set_option maxRecDepth 100000
variable (D:Dyn)(n:Nat)
attribute [local irreducible] bV bR hd cnd jn jb loopK wnt chk newB bA bInt bStr bBool cmpO eqP eqS eqM eqF eqA eqPL ldN ld1 stN cvI cvSS cvBS cvSB slStr slSl slArr ixArr ixSl ixStr ixAg1 ixAgN fd1 fdN fAd lnStr lnSl lnMap apP apZ cpy bldS bldA pk3 s2a bxV bldL mkSl lkM upM dlM mkM clM callV nl outR tld endQ beginK endR endLp jmpK rfC mn2 mx2 aun pExtract pNil undefA isW aveq mt64_0
def h55:Hint:=(.s .o Hr)
@[irreducible] def f55:=(.mk:FY (t0 D n) D n 55 Tryz.f55 h55 []).1
def t1:=ad (t0 D n) 55 (f55 D n)
theorem k1:KO t1:=kk k0 (ms h55) Tryz.func55
def h26:Hint:=(.s .o (.s Hq Hr))
@[irreducible] def f26:=(.mk:FY (t1 D n) D n 26 Tryz.f26 h26 []).1
def t2:=ad (t1 D n) 26 (f26 D n)
theorem k2:KO t2:=kk k1 (ms h26) Tryz.func26
def h44:Hint:=(.s .o (.s Hq (.s Hq Hr)))
@[irreducible] def f44:=(.mk:FY (t2 D n) D n 44 Tryz.f44 h44 []).1
def t3:=ad (t2 D n) 44 (f44 D n)
theorem k3:KO t3:=kk k2 (ms h44) Tryz.func44
def h119:Hint:=(.s .o (.s (.s .o Hq) (.s Hq Hr)))
@[irreducible] def f119:=(.mk:FY (t3 D n) D n 119 Tryz.f119 h119 []).1
def t4:=ad (t3 D n) 119 (f119 D n)
theorem k4:KO t4:=kk k3 (ms h119) Tryz.func119
def s91:Tb:=⟨X,[(119,f119 D n)]⟩
@[irreducible] def f91 (D:Dyn)(n:Nat)(vs:List AV)(H:AH):Option (AV×AH):=
 outR (hd vs fun a vs=>hd vs fun f vs=>nl vs <|
 bA (bxV 144 (.agg (rep 512 [(.int .u8 (.ofNat 0))]))) H fun x4 H=>
 bR (f119 D n [a,f] H) fun h H=>
 bV (bInt .neq h (.int .i64 (.ofNat 0))) fun s=>
 cnd s (bV (bldA 1 (rep 512 [(.int .u8 (.ofNat 0))]) []) fun t=>
 bR (stN 512 x4 t H) fun U H=>
 bV (ldN 512 x4 H) fun o=>bV (some h) fun Q=>some (.ret (.tuple [o,Q]),H))
 (bV (pNil a) fun u=>
 bV (fAd 3 u) fun v=>
 bV (ld1 v H) fun x=>
 bV (lkM [6] (.int .i64 (.ofNat 0)) true x f H) fun i=>
 bV (pExtract i 0) fun y=>
 bV (pExtract i 1) fun z=>
 cnd z (bV (pNil a) fun C=>
 bV (fAd 2 C) fun F=>
 bV (ld1 F H) fun G=>
 bV (ixSl 513 G y) fun I=>
 bV (fAd 1 I) fun J=>
 bV (ldN 512 J H) fun K=>
 bR (stN 512 x4 K H) fun S H=>
 bV (ldN 512 x4 H) fun j=>bV (some (.int .i64 (.ofNat 0))) fun p=>some (.ret (.tuple [j,p]),H))
 (bV (pNil a) fun L=>
 bV (fAd 1 L) fun M=>
 bV (ld1 M H) fun N=>
 bV (lkM [6] (.agg (rep 512 [(.int .u8 (.ofNat 0))])) false N f H) fun O=>
 bR (stN 512 x4 O H) fun T H=>
 bV (ldN 512 x4 H) fun m=>bV (some (.int .i64 (.ofNat 0))) fun q=>some (.ret (.tuple [m,q]),H))))
def h91:Hint:=(.s .o (.s (.s .o Hq) (.s (.s .o Hq) Hr)))
def t5:=ad (t4 D n) 91 (f91 D n)
theorem k5:KO t5:=kk k4 h91 Tryz.func91
def h94:Hint:=(.s .o (.s .o (.s (.s .o (.b [1,3] (.l [0,3,6,7,8] (.s .o (.s (.cr .o .o) (.s (.b0 Hr) .o)))))) Hr)))
@[irreducible] def f94l0:=(.mk:PY (t5 D n) D n 94 Tryz.f94 h94 [] 0).1
@[irreducible] def f94b1:=(.mk:PY (t5 D n) D n 94 Tryz.f94 h94 [f94l0 D n] 1).1
@[irreducible] def f94:=(.mk:FY (t5 D n) D n 94 Tryz.f94 h94 [f94l0 D n,f94b1 D n]).1
def t6:=ad (t5 D n) 94 (f94 D n)
theorem k6:KO t6:=kk k5 (ms h94) Tryz.func94
def h116:Hint:=(.s .o (.b [1] (.l [0,0,1,6,7] (.s .o (.s (.cr .o .o) (.s (.b0 Hr) .o))))))
@[irreducible] def f116l0:=(.mk:PY (t6 D n) D n 116 Tryz.f116 h116 [] 0).1
@[irreducible] def f116b1:=(.mk:PY (t6 D n) D n 116 Tryz.f116 h116 [f116l0 D n] 1).1
@[irreducible] def f116:=(.mk:FY (t6 D n) D n 116 Tryz.f116 h116 [f116l0 D n,f116b1 D n]).1
def t7:=ad (t6 D n) 116 (f116 D n)
theorem k7:KO t7:=kk k6 (ms h116) Tryz.func116
def s109:Tb:=⟨X,[(116,f116 D n)]⟩
@[irreducible] def f109 (D:Dyn)(n:Nat)(vs:List AV)(H:AH):Option (AV×AH):=
 outR (hd vs fun O vs=>hd vs fun f vs=>hd vs fun h vs=>nl vs <|
 bA (bxV 144 (.agg (rep 512 [(.int .u8 (.ofNat 0))]))) H fun x6 H=>
 bV (bInt .lss f (.int .i64 (.ofNat 0))) fun i=>
 jn (wnt i false (bV (bInt .gtr f (.int .i64 (.ofNat 2147483647))) fun t=>
 some (.norm [t],H)) (some (.norm [undefA],H))) fun vs H=>hd vs fun o vs=>
 bV (pk3 (some i) (some (.bool true)) (some o)) fun u=>
 cnd u (bV (bldA 1 (rep 512 [(.int .u8 (.ofNat 0))]) []) fun v=>
 bR (stN 512 x6 v H) fun U H=>
 bV (ldN 512 x6 H) fun p=>bV (some (.int .i64 (.ofNat 1))) fun x7=>some (.ret (.tuple [p,x7]),H))
 (bV (lnStr h) fun x=>
 bV (bInt .gtr x (.int .i64 (.ofNat 500))) fun y=>
 cnd y (bV (bldA 1 (rep 512 [(.int .u8 (.ofNat 0))]) []) fun z=>
 bR (stN 512 x6 z H) fun Q H=>
 bV (ldN 512 x6 H) fun j=>bV (some (.int .i64 (.ofNat 40))) fun q=>some (.ret (.tuple [j,q]),H))
 (bA (bxV 144 (.agg (rep 512 [(.int .u8 (.ofNat 0))]))) H fun a H=>
 bV (slArr 512 1 a none none none) fun C=>
 bR (cpy 1 C (.str 4 2037675114) H) fun V H=>
 bV (ixArr 512 1 a (.int .i64 (.ofNat 4))) fun F=>
 bR (stN 1 F O H) fun S H=>
 bV (slArr 512 1 a (some (.int .i64 (.ofNat 6))) (some (.int .i64 (.ofNat 8))) none) fun G=>
 bV (lnStr h) fun I=>
 bV (cvI .u64 I) fun J=>
 bR (f116 D n [G,J] H) fun W H=>
 bV (slArr 512 1 a (some (.int .i64 (.ofNat 8))) (some (.int .i64 (.ofNat 12))) none) fun K=>
 bV (cvI .u64 f) fun L=>
 bR (f116 D n [K,L] H) fun Y H=>
 bV (slArr 512 1 a (some (.int .i64 (.ofNat 12))) none none) fun M=>
 bR (cpy 1 M h H) fun Z H=>
 bV (ldN 512 a H) fun N=>
 bR (stN 512 x6 N H) fun T H=>
 bV (ldN 512 x6 H) fun m=>bV (some (.int .i64 (.ofNat 0))) fun s=>some (.ret (.tuple [m,s]),H))))
def h109:Hint:=(.s .o (.s Hq (.s Hq (.s .o (.s .o (.s .o (.s .o (.s .o (.s .o Hr)))))))))
def t8:=ad (t7 D n) 109 (f109 D n)
theorem k8:KO t8:=kk k7 h109 Tryz.func109
def s120:Tb:=⟨X,[(94,f94 D n),(109,f109 D n)]⟩
@[irreducible] def f120 (D:Dyn)(n:Nat)(vs:List AV)(H:AH):Option (AV×AH):=
 outR (hd vs fun T vs=>nl vs <|
 bA (bxV 144 T) H fun a H=>
 bV (slArr 512 1 a (some (.int .i64 (.ofNat 6))) (some (.int .i64 (.ofNat 8))) none) fun U=>
 bR (f94 D n [U] H) fun o H=>
 bV (bInt .gtr o (.int .u64 (.ofNat 500))) fun C=>
 cnd C (bV (some (.int .u8 (.ofNat 0))) fun V=>bV (some (.int .i64 (.ofNat 0))) fun W=>bV (some (.str 0 0)) fun x4=>bV (some (.int .i64 (.ofNat 4))) fun Y=>some (.ret (.tuple [V,W,x4,Y]),H))
 (bV (ixArr 512 1 a (.int .i64 (.ofNat 4))) fun F=>
 bV (ld1 F H) fun f=>
 bV (slArr 512 1 a (some (.int .i64 (.ofNat 8))) (some (.int .i64 (.ofNat 12))) none) fun G=>
 bR (f94 D n [G] H) fun I H=>
 bV (cvI .i64 I) fun h=>
 bV (bInt .add (.int .u64 (.ofNat 12)) o) fun J=>
 bV (slArr 512 1 a (some (.int .i64 (.ofNat 12))) (some J) none) fun K=>
 bV (cvBS K H) fun i=>
 bR (f109 D n [f,h,i] H) fun j H=>
 bV (pExtract j 0) fun L=>
 bV (pExtract j 1) fun M=>
 bA (bxV 144 (.agg (rep 512 [(.int .u8 (.ofNat 0))]))) H fun x7 H=>
 bR (stN 512 x7 L H) fun Z H=>
 bV (bInt .neq M (.int .i64 (.ofNat 0))) fun m=>
 jn (wnt m false (bV (ldN 512 x7 H) fun N=>
 bV (ldN 512 a H) fun O=>
 bV (cmpO .neq (eqA (List.replicate 512 7) N O)) fun Q=>
 some (.norm [Q],H)) (some (.norm [undefA],H))) fun vs H=>hd vs fun p vs=>
 bV (pk3 (some m) (some (.bool true)) (some p)) fun S=>
 cnd S (bV (some (.int .u8 (.ofNat 0))) fun q=>bV (some (.int .i64 (.ofNat 0))) fun s=>bV (some (.str 0 0)) fun t=>bV (some (.int .i64 (.ofNat 4))) fun u=>some (.ret (.tuple [q,s,t,u]),H))
 (bV (some f) fun v=>bV (some h) fun x=>bV (some i) fun y=>bV (some (.int .i64 (.ofNat 0))) fun z=>some (.ret (.tuple [v,x,y,z]),H))))
def h120:Hint:=(.s .o (.s .o (.s Hq (.s .o (.s .o (.s .o (.s .o (.s Hq Hr))))))))
def t9:=ad (t8 D n) 120 (f120 D n)
theorem k9:KO t9:=kk k8 h120 Tryz.func120
def h148:Hint:=(.s .o (.s Hq Hr))
@[irreducible] def f148:=(.mk:FY (t9 D n) D n 148 Tryz.f148 h148 []).1
def t10:=ad (t9 D n) 148 (f148 D n)
theorem k10:KO t10:=kk k9 (ms h148) Tryz.func148
def h121:Hint:=(.s .o Hr)
@[irreducible] def f121:=(.mk:FY (t10 D n) D n 121 Tryz.f121 h121 []).1
def t11:=ad (t10 D n) 121 (f121 D n)
theorem k11:KO t11:=kk k10 (ms h121) Tryz.func121
def h160:Hint:=(.s .o (.s Hq (.s (.s .o (.cl (.s .o Hr) .o)) (.s .o (.s .o Hr)))))
@[irreducible] def f160:=(.mk:FY (t11 D n) D n 160 Tryz.f160 h160 []).1
def t12:=ad (t11 D n) 160 (f160 D n)
theorem k12:KO t12:=kk k11 (ms h160) Tryz.func160
def h149:Hint:=(.s .o (.s .o (.s Hq (.s .o (.s .o (.s (.s .o (.b [1,6] (.l [0,6,19,20] (.s .o (.s (.cr .o .o) (.s (.b0 Hr) .o)))))) Hr))))))
@[irreducible] def f149l0:=(.mk:PY (t12 D n) D n 149 Tryz.f149 h149 [] 0).1
@[irreducible] def f149b1:=(.mk:PY (t12 D n) D n 149 Tryz.f149 h149 [f149l0 D n] 1).1
@[irreducible] def f149:=(.mk:FY (t12 D n) D n 149 Tryz.f149 h149 [f149l0 D n,f149b1 D n]).1
def t13:=ad (t12 D n) 149 (f149 D n)
theorem k13:KO t13:=kk k12 (ms h149) Tryz.func149
def h150:Hint:=(.s .o Hr)
@[irreducible] def f150:=(.mk:FY (t13 D n) D n 150 Tryz.f150 h150 []).1
def t14:=ad (t13 D n) 150 (f150 D n)
theorem k14:KO t14:=kk k13 (ms h150) Tryz.func150
def h122:Hint:=(.s .o (.s .o (.s .o (.s Hq Hr))))
@[irreducible] def f122:=(.mk:FY (t14 D n) D n 122 Tryz.f122 h122 []).1
def t15:=ad (t14 D n) 122 (f122 D n)
theorem k15:KO t15:=kk k14 (ms h122) Tryz.func122
def h151:Hint:=(.s .o (.s (.s .o (.b [1,0] (.l [0,0,1,7,8] (.s .o (.s (.cr .o .o) (.s (.b0 Hr) .o)))))) Hr))
@[irreducible] def f151l0:=(.mk:PY (t15 D n) D n 151 Tryz.f151 h151 [] 0).1
@[irreducible] def f151b1:=(.mk:PY (t15 D n) D n 151 Tryz.f151 h151 [f151l0 D n] 1).1
@[irreducible] def f151:=(.mk:FY (t15 D n) D n 151 Tryz.f151 h151 [f151l0 D n,f151b1 D n]).1
def t16:=ad (t15 D n) 151 (f151 D n)
theorem k16:KO t16:=kk k15 (ms h151) Tryz.func151
def h123:Hint:=(.s .o Hr)
@[irreducible] def f123:=(.mk:FY (t16 D n) D n 123 Tryz.f123 h123 []).1
def t17:=ad (t16 D n) 123 (f123 D n)
theorem k17:KO t17:=kk k16 (ms h123) Tryz.func123
def h92:Hint:=(.s .o (.s .o (.s Hq (.s .o (.s (.s (.c [3,7,4,15,7,127] (.l [0,1,2,5,6,3,4,7,8] .o) .o) (.cl Hr .o)) Hr)))))
@[irreducible] def f92:=(.mk:FY (t17 D n) D n 92 Tryz.f92 h92 []).1
def t18:=ad (t17 D n) 92 (f92 D n)
theorem k18:KO t18:=kk k17 (ms h92) Tryz.func92
def h93:Hint:=(.s .o (.s Hq Hr))
@[irreducible] def f93:=(.mk:FY (t18 D n) D n 93 Tryz.f93 h93 []).1
def t19:=ad (t18 D n) 93 (f93 D n)
theorem k19:KO t19:=kk k18 (ms h93) Tryz.func93
def s58:Tb:=⟨X,[(91,f91 D n),(92,f92 D n),(93,f93 D n)]⟩
@[irreducible] def f58j0 (D:Dyn)(n:Nat)(vs:List AV)(H:AH):Rs:=
 hd vs fun f vs=>hd vs fun h vs=>hd vs fun i vs=>hd vs fun a vs=>
 bV (bInt .add a (.int .i64 (.ofNat 1))) fun j=>
 some (.norm [f,h,i,j],H)
@[irreducible] def f58l1 (D:Dyn)(n:Nat)(vs:List AV)(H:AH):Rs:=
 hd vs fun j vs=>hd vs fun a vs=>hd vs fun f vs=>hd vs fun h vs=>
 bV (bInt .lss h (.int .i64 (.ofNat 2))) fun y=>
 cnd y (bR (f91 D n [j,h] H) fun m H=>
 bV (pExtract m 0) fun z=>
 bV (pExtract m 1) fun o=>
 bA (bxV 144 (.agg (rep 512 [(.int .u8 (.ofNat 0))]))) H fun x6 H=>
 bR (stN 512 x6 z H) fun Y H=>
 bV (bInt .neq o (.int .i64 (.ofNat 0))) fun C=>
 cnd C (bV (bldS [(0,1),(1,1)] [(.int .i64 (.ofNat 0)),(.str 0 0)] []) fun F=>
 bR (stN 2 a F H) fun Z H=>
 bV (ldN 2 a H) fun t=>bV (some o) fun x=>some (.ret (.tuple [t,x]),H))
 (bV (ldN 512 x6 H) fun G=>
 bR (f92 D n [G] H) fun p H=>
 bV (pExtract p 0) fun I=>
 bV (pExtract p 1) fun J=>
 bA (bxV 107 (.agg [(.int .i64 (.ofNat 0)),(.str 0 0)])) H fun i H=>
 bR (stN 2 i I H) fun a0 H=>
 bV (bInt .eql J (.int .i64 (.ofNat 0))) fun q=>
 jn (wnt q true (bV (fAd 0 i) fun K=>
 bV (ld1 K H) fun L=>
 bR (f93 D n [L] H) fun M H=>
 bV (bInt .eql M h) fun N=>
 some (.norm [N],H)) (some (.norm [undefA],H))) fun vs H=>hd vs fun u vs=>
 bV (pk3 (some q) (some u) (some (.bool false))) fun s=>
 jn (wnt s true (bV (fAd 0 i) fun O=>
 bV (ld1 O H) fun Q=>
 bV (fAd 0 f) fun S=>
 bV (ld1 S H) fun T=>
 bV (bInt .gtr Q T) fun U=>
 some (.norm [U],H)) (some (.norm [undefA],H))) fun vs H=>hd vs fun v vs=>
 bV (pk3 (some s) (some v) (some (.bool false))) fun V=>
 jn (cnd V (bV (ldN 2 i H) fun W=>
 bR (stN 2 f W H) fun a1 H=>
 some (.norm [j,a,f,h],H))
 (some (.norm [j,a,f,h],H))) (f58j0 D n)))
 (some (.exit 0 [a,f],H))
@[irreducible] def f58b2 (D:Dyn)(n:Nat)(vs:List AV)(H:AH):Rs:=
 hd vs fun a vs=>hd vs fun f vs=>
 bV (fAd 0 f) fun o=>
 bV (ld1 o H) fun p=>
 bV (bInt .eql p (.int .i64 (.ofNat 0))) fun q=>
 cnd q (bV (bldS [(0,1),(1,1)] [(.int .i64 (.ofNat 0)),(.str 0 0)] []) fun s=>
 bR (stN 2 a s H) fun u H=>
 bV (ldN 2 a H) fun h=>bV (some (.int .i64 (.ofNat 5))) fun j=>some (.ret (.tuple [h,j]),H))
 (bV (ldN 2 f H) fun t=>
 bR (stN 2 a t H) fun v H=>
 bV (ldN 2 a H) fun i=>bV (some (.int .i64 (.ofNat 0))) fun m=>some (.ret (.tuple [i,m]),H))
@[irreducible] def f58 (D:Dyn)(n:Nat)(vs:List AV)(H:AH):Option (AV×AH):=
 outR (hd vs fun f vs=>nl vs <|
 bA (bxV 107 (.agg [(.int .i64 (.ofNat 0)),(.str 0 0)])) H fun a H=>
 bV (cmpO .eql (eqP f .nP)) fun i=>
 cnd i (bV (bldS [(0,1),(1,1)] [(.int .i64 (.ofNat 0)),(.str 0 0)] []) fun j=>
 bR (stN 2 a j H) fun o H=>
 bV (ldN 2 a H) fun h=>bV (some (.int .i64 (.ofNat 2))) fun m=>some (.ret (.tuple [h,m]),H))
 (bA (bxV 107 (.agg [(.int .i64 (.ofNat 0)),(.str 0 0)])) H fun x4 H=>
 jb 0 (loopK n (f58l1 D n) [f,a,x4,(.int .i64 (.ofNat 0))] H) (f58b2 D n)))
def h58:Hint:=(.s .o (.s Hq (.s .o (.s (.s .o (.b [2,4] (.l [0,2,4,12] (.s .o (.s (.cr .o .o) (.s (.b0 (.s .o (.s .o (.s Hq (.s .o (.s .o (.c [0,2,4,12] .o .o))))))) .o)))))) (.s Hq Hr)))))
def t20:=ad (t19 D n) 58 (f58 D n)
theorem k20:KO t20:=kk k19 h58 Tryz.func58
def h95:Hint:=(.s .o (.s Hq Hr))
@[irreducible] def f95:=(.mk:FY (t20 D n) D n 95 Tryz.f95 h95 []).1
def t21:=ad (t20 D n) 95 (f95 D n)
theorem k21:KO t21:=kk k20 (ms h95) Tryz.func95
def s59:Tb:=⟨X,[(94,f94 D n),(95,f95 D n)]⟩
@[irreducible] def f59 (D:Dyn)(n:Nat)(vs:List AV)(H:AH):Option (AV×AH):=
 outR (hd vs fun h vs=>nl vs <|
 bA (bxV 38 (.agg [(.int .i64 (.ofNat 0)),(.int .i64 (.ofNat 0)),(.int .u64 (.ofNat 0))])) H fun a H=>
 bV (lnStr h) fun x7=>
 bV (bInt .neq x7 (.int .i64 (.ofNat 16))) fun O=>
 cnd O (bV (bldS [(0,1),(1,1),(2,1)] [(.int .i64 (.ofNat 0)),(.int .i64 (.ofNat 0)),(.int .u64 (.ofNat 0))] []) fun Q=>
 bR (stN 3 a Q H) fun Y H=>
 bV (ldN 3 a H) fun m=>bV (some (.int .i64 (.ofNat 4))) fun S=>some (.ret (.tuple [m,S]),H))
 (bA (cvSB 5 h) H fun q H=>
 bV (s2a 16 q) fun s=>
 bV (ldN 16 s H) fun t=>
 bA (bxV 165 (.agg (rep 16 [(.int .u8 (.ofNat 0))]))) H fun x4 H=>
 bR (stN 16 x4 t H) fun T H=>
 bV (slArr 16 1 x4 none (some (.int .i64 (.ofNat 4))) none) fun u=>
 bV (slArr 16 1 x4 (some (.int .i64 (.ofNat 4))) (some (.int .i64 (.ofNat 8))) none) fun v=>
 bV (slArr 16 1 x4 (some (.int .i64 (.ofNat 8))) none none) fun x=>
 bA (bxV 38 (.agg [(.int .i64 (.ofNat 0)),(.int .i64 (.ofNat 0)),(.int .u64 (.ofNat 0))])) H fun f H=>
 bR (f94 D n [u] H) fun y H=>
 bV (cvI .i64 y) fun z=>
 bR (f94 D n [v] H) fun C H=>
 bV (cvI .i64 C) fun F=>
 bR (f94 D n [x] H) fun G H=>
 bV (bldS [(0,1),(1,1),(2,1)] [(.int .i64 (.ofNat 0)),(.int .i64 (.ofNat 0)),(.int .u64 (.ofNat 0))] [(0,z),(1,F),(2,G)]) fun I=>
 bR (stN 3 f I H) fun U H=>
 bV (ldN 3 f H) fun J=>
 bR (f95 D n [J] H) fun K H=>
 bV (aun .not K) fun L=>
 cnd L (bV (bldS [(0,1),(1,1),(2,1)] [(.int .i64 (.ofNat 0)),(.int .i64 (.ofNat 0)),(.int .u64 (.ofNat 0))] []) fun M=>
 bR (stN 3 a M H) fun V H=>
 bV (ldN 3 a H) fun i=>bV (some (.int .i64 (.ofNat 4))) fun o=>some (.ret (.tuple [i,o]),H))
 (bV (ldN 3 f H) fun N=>
 bR (stN 3 a N H) fun W H=>
 bV (ldN 3 a H) fun j=>bV (some (.int .i64 (.ofNat 0))) fun p=>some (.ret (.tuple [j,p]),H))))
def h59:Hint:=(.s .o (.s Hq (.s .o (.s .o (.s Hq Hr)))))
def t22:=ad (t21 D n) 59 (f59 D n)
theorem k22:KO t22:=kk k21 h59 Tryz.func59
def h41:Hint:=(.s .o (.s Hq Hr))
@[irreducible] def f41:=(.mk:FY (t22 D n) D n 41 Tryz.f41 h41 []).1
def t23:=ad (t22 D n) 41 (f41 D n)
theorem k23:KO t23:=kk k22 (ms h41) Tryz.func41
def h86:Hint:=(.s (.b [15,32767] .o) (.s (.b [10,1023] .o) .o))
@[irreducible] def f86:=(.mk:FY (t23 D n) D n 86 Tryz.f86 h86 []).1
theorem f86_ok (a:DG H)(n:Nat):FI 86 (f86 H n):=fk n (ms h86) a (k23 a n) Tryz.func86
def t24:=ad (t23 D n) 86 (f86 D n)
theorem k24:KO t24:=kc k23 f86_ok
def s61:Tb:=⟨X,[(86,f86 D n)]⟩
@[irreducible] def f61l0 (D:Dyn)(n:Nat)(vs:List AV)(H:AH):Rs:=
 hd vs fun x4 vs=>hd vs fun a vs=>
 bV (bInt .lss a (.int .i64 (.ofNat 2))) fun f=>
 cnd f (bR (f86 D n [x4,a,(.int .u8 (.ofNat 1))] H) fun i H=>
 bV (bInt .add a (.int .i64 (.ofNat 1))) fun h=>
 some (.norm [x4,h],H))
 (some (.exit 0 [x4],H))
@[irreducible] def f61b1 (D:Dyn)(n:Nat)(vs:List AV)(H:AH):Rs:=
 hd vs fun a vs=>
 bV (some a) fun f=>bV (some (.int .i64 (.ofNat 0))) fun h=>some (.ret (.tuple [f,h]),H)
@[irreducible] def f61 (D:Dyn)(n:Nat)(vs:List AV)(H:AH):Option (AV×AH):=
 outR (hd vs fun a vs=>nl vs <|
 bV (bInt .lss a (.int .i64 (.ofNat 64))) fun x7=>
 jn (wnt x7 false (bV (bInt .gtr a (.int .i64 (.ofNat 8192))) fun i=>
 some (.norm [i],H)) (some (.norm [undefA],H))) fun vs H=>hd vs fun h vs=>
 bV (pk3 (some x7) (some (.bool true)) (some h)) fun j=>
 cnd j (bV (some .nP) fun s=>bV (some (.int .i64 (.ofNat 1))) fun t=>some (.ret (.tuple [s,t]),H))
 (bV (bldS [(0,1),(1,1),(2,8192),(8194,4)] ([(.int .i64 (.ofNat 0)),(.int .i64 (.ofNat 0))]++rep 8192 [(.int .u8 (.ofNat 0))]++[(.int .i64 (.ofNat 0)),(.int .i64 (.ofNat 0)),(.int .i64 (.ofNat 0)),(.int .i64 (.ofNat 0))]) [(0,a)]) fun m=>
 bA (bxV 137 m) H fun f H=>
 bV (pNil f) fun o=>
 bV (fAd 8194 o) fun p=>
 bV (ixArr 4 1 p (.int .u8 (.ofNat 0))) fun q=>
 bR (stN 1 q a H) fun u H=>
 jb 0 (loopK n (f61l0 D n) [f,(.int .i64 (.ofNat 0))] H) (f61b1 D n)))
def h61:Hint:=(.s .o (.s Hq (.s .o (.s .o (.s (.s .o (.b [4] (.l [4,20] (.s .o (.s (.cr .o .o) (.s (.b0 Hr) .o)))))) Hr)))))
def t25:=ad (t24 D n) 61 (f61 D n)
theorem k25:KO t25:=kk k24 h61 Tryz.func61
def s88:Tb:=⟨X,[(95,f95 D n),(116,f116 D n)]⟩
@[irreducible] def f88 (D:Dyn)(n:Nat)(vs:List AV)(H:AH):Option (AV×AH):=
 outR (hd vs fun y vs=>nl vs <|
 bA (bxV 38 y) H fun a H=>
 bV (ldN 3 a H) fun z=>
 bR (f95 D n [z] H) fun x6 H=>
 bV (aun .not x6) fun x7=>
 cnd x7 (bV (some (.str 0 0)) fun C=>bV (some (.int .i64 (.ofNat 4))) fun F=>some (.ret (.tuple [C,F]),H))
 (bA (bxV 165 (.agg (rep 16 [(.int .u8 (.ofNat 0))]))) H fun x4 H=>
 bV (slArr 16 1 x4 none (some (.int .i64 (.ofNat 4))) none) fun G=>
 bV (fAd 0 a) fun I=>
 bV (ld1 I H) fun i=>
 bV (cvI .u64 i) fun j=>
 bR (f116 D n [G,j] H) fun J H=>
 bV (slArr 16 1 x4 (some (.int .i64 (.ofNat 4))) (some (.int .i64 (.ofNat 8))) none) fun m=>
 bV (fAd 1 a) fun o=>
 bV (ld1 o H) fun p=>
 bV (cvI .u64 p) fun q=>
 bR (f116 D n [m,q] H) fun K H=>
 bV (slArr 16 1 x4 (some (.int .i64 (.ofNat 8))) none none) fun s=>
 bV (fAd 2 a) fun t=>
 bV (ld1 t H) fun u=>
 bR (f116 D n [s,u] H) fun L H=>
 bV (slArr 16 1 x4 none none none) fun v=>
 bV (cvBS v H) fun x=>
 bV (some x) fun f=>bV (some (.int .i64 (.ofNat 0))) fun h=>some (.ret (.tuple [f,h]),H)))
def h88:Hint:=(.s .o (.s Hq (.s .o (.s .o (.s .o (.s .o Hr))))))
def t26:=ad (t25 D n) 88 (f88 D n)
theorem k26:KO t26:=kk k25 h88 Tryz.func88
def h62:Hint:=(.s .o (.s Hq (.s (.s .o Hq) Hr)))
@[irreducible] def f62:=(.mk:FY (t26 D n) D n 62 Tryz.f62 h62 []).1
def t27:=ad (t26 D n) 62 (f62 D n)
theorem k27:KO t27:=kk k26 (ms h62) Tryz.func62
def h31:Hint:=(.s .o Hr)
@[irreducible] def f31:=(.mk:FY (t27 D n) D n 31 Tryz.f31 h31 []).1
def t28:=ad (t27 D n) 31 (f31 D n)
theorem k28:KO t28:=kk k27 (ms h31) Tryz.func31
def h152:Hint:=(.s .o Hr)
@[irreducible] def f152:=(.mk:FY (t28 D n) D n 152 Tryz.f152 h152 []).1
def t29:=ad (t28 D n) 152 (f152 D n)
theorem k29:KO t29:=kk k28 (ms h152) Tryz.func152
def h127:Hint:=(.s .o (.s (.s (.c [5,31] (.l [0,1,2,3,4,6,7,5,8,9] .o) .o) (.cl Hr .o)) (.s .o (.s Hq (.s Hq Hr)))))
@[irreducible] def f127:=(.mk:FY (t29 D n) D n 127 Tryz.f127 h127 []).1
def t30:=ad (t29 D n) 127 (f127 D n)
theorem k30:KO t30:=kk k29 (ms h127) Tryz.func127
def s98:Tb:=⟨X,[(127,f127 D n),(91,f91 D n)]⟩
@[irreducible] def f98j0 (D:Dyn)(n:Nat)(vs:List AV)(H:AH):Rs:=
 hd vs fun a vs=>hd vs fun f vs=>
 some (.norm [a,f],H)
@[irreducible] def f98j1 (D:Dyn)(n:Nat)(vs:List AV)(H:AH):Rs:=
 hd vs fun i vs=>hd vs fun j vs=>
 bV (some i) fun a=>bV (some j) fun f=>bV (some (.int .i64 (.ofNat 0))) fun h=>some (.ret (.tuple [a,f,h]),H)
@[irreducible] def f98j2 (D:Dyn)(n:Nat)(vs:List AV)(H:AH):Rs:=
 hd vs fun a vs=>hd vs fun f vs=>
 bV (pNil a) fun z=>
 bV (fAd 0 z) fun C=>
 bV (ld1 C H) fun F=>
 bV (fAd 0 f) fun G=>
 bV (ld1 G H) fun I=>
 bA (bxV 144 (.agg (rep 512 [(.int .u8 (.ofNat 0))]))) H fun h H=>
 bR (f91 D n [F,I] H) fun j H=>
 bV (pExtract j 0) fun J=>
 bV (pExtract j 1) fun m=>
 bR (stN 512 h J H) fun a1 H=>
 bV (bInt .neq m (.int .i64 (.ofNat 0))) fun K=>
 cnd K (bV (some (.int .u8 (.ofNat 0))) fun s=>bV (some (.str 0 0)) fun t=>bV (some m) fun u=>some (.ret (.tuple [s,t,u]),H))
 (bV (ldN 3 f H) fun L=>
 bV (ldN 512 h H) fun M=>
 bR (f127 D n [L,M] H) fun i H=>
 bV (pExtract i 0) fun o=>
 bV (pExtract i 1) fun p=>
 bV (pExtract i 2) fun q=>
 bV (bInt .neq q (.int .i64 (.ofNat 0))) fun N=>
 cnd N (bV (some (.int .u8 (.ofNat 0))) fun v=>bV (some (.str 0 0)) fun x=>bV (some q) fun y=>some (.ret (.tuple [v,x,y]),H))
 (bV (pNil a) fun O=>
 bV (fAd 1 O) fun Q=>
 bV (ld1 Q H) fun S=>
 bV (cmpO .neq (eqP S .nP)) fun T=>
 jn (cnd T (bV (pNil a) fun U=>
 bV (fAd 1 U) fun V=>
 bV (ld1 V H) fun W=>
 bV (fAd 0 f) fun Y=>
 bV (ld1 Y H) fun Z=>
 bV (ldN 512 h H) fun a0=>
 bR (D.fn 80 [W,Z,a0] H) fun a2 H=>
 some (.norm [o,p],H))
 (some (.norm [o,p],H))) (f98j1 D n)))
@[irreducible] def f98 (D:Dyn)(n:Nat)(vs:List AV)(H:AH):Option (AV×AH):=
 outR (hd vs fun a vs=>hd vs fun L vs=>nl vs <|
 bA (bxV 38 L) H fun f H=>
 bV (pNil a) fun j=>
 bV (fAd 1 j) fun m=>
 bV (ld1 m H) fun o=>
 bV (cmpO .neq (eqP o .nP)) fun p=>
 jn (cnd p (bV (pNil a) fun q=>
 bV (fAd 1 q) fun s=>
 bV (ld1 s H) fun t=>
 bV (fAd 0 f) fun u=>
 bV (ld1 u H) fun v=>
 bA (bxV 144 (.agg (rep 512 [(.int .u8 (.ofNat 0))]))) H fun x7 H=>
 bR (D.fn 126 [t,v] H) fun i H=>
 bV (pExtract i 0) fun x=>
 bV (pExtract i 1) fun y=>
 bR (stN 512 x7 x H) fun N H=>
 bV (bInt .eql y (.int .i64 (.ofNat 0))) fun z=>
 jn (cnd z (bV (ldN 3 f H) fun C=>
 bV (ldN 512 x7 H) fun F=>
 bR (f127 D n [C,F] H) fun h H=>
 bV (pExtract h 0) fun G=>
 bV (pExtract h 1) fun I=>
 bV (pExtract h 2) fun J=>
 bV (bInt .eql J (.int .i64 (.ofNat 0))) fun K=>
 cnd K (bV (some G) fun x4=>bV (some I) fun M=>bV (some (.int .i64 (.ofNat 0))) fun x6=>some (.ret (.tuple [x4,M,x6]),H))
 (some (.norm [a,f],H)))
 (some (.norm [a,f],H))) (f98j0 D n))
 (some (.norm [a,f],H))) (f98j2 D n))
def h98:Hint:=(.s .o (.s (.s .o (.c [0,3] (.s .o (.s .o (.c [0,3] (.s .o Hq) .o))) .o)) (.s .o (.s Hq (.s .o (.s Hq (.s (.s .o (.c [14,15] .o .o)) Hr)))))))
def t31:=ad (t30 D n) 98 (f98 D n)
theorem k31:KO t31:=kk k30 h98 Tryz.func98
def h128:Hint:=(.s .o (.s (.s .o (.cl (.s .o Hr) .o)) (.s .o (.s .o Hr))))
@[irreducible] def f128:=(.mk:FY (t31 D n) D n 128 Tryz.f128 h128 []).1
theorem f128_ok (a:DG H)(n:Nat):FI 128 (f128 H n):=fk n (ms h128) a (k31 a n) Tryz.func128
def t32:=ad (t31 D n) 128 (f128 D n)
theorem k32:KO t32:=kc k31 f128_ok
def h130:Hint:=(.s .o (.s (.s .o (.cl .o .o)) (.s .o (.s Hq (.b [8,254,12,4095] .o)))))
@[irreducible] def f130:=(.mk:FY (t32 D n) D n 130 Tryz.f130 h130 []).1
theorem f130_ok (a:DG H)(n:Nat):FI 130 (f130 H n):=fk n (ms h130) a (k32 a n) Tryz.func130
def t33:=ad (t32 D n) 130 (f130 D n)
theorem k33:KO t33:=kc k32 f130_ok
def h74:Hint:=(.s .o Hr)
@[irreducible] def f74:=(.mk:FY (t33 D n) D n 74 Tryz.f74 h74 []).1
def t34:=ad (t33 D n) 74 (f74 D n)
theorem k34:KO t34:=kk k33 (ms h74) Tryz.func74
def h73:Hint:=(.s .o (.s (.s .o (.b [5,1] (.l [0,1,10,11,12] (.s .o (.s (.cr .o .o) (.s (.b0 (.s .o Hq)) .o)))))) (.s (.s .o (.cl (.s Hq (.s (.s .o (.b [2] (.l [1,51,52,53] (.s .o (.s (.cr .o .o) (.s (.b0 (.s .o Hq)) .o)))))) Hr)) .o)) (.s Hq (.s (.s .o (.b [4] (.l [3,82,83,84] (.s .o (.s (.cr .o .o) (.s (.b0 (.s .o Hq)) .o)))))) Hr)))))
@[irreducible] def f73l0:=(.mk:PY (t34 D n) D n 73 Tryz.f73 h73 [] 0).1
@[irreducible] def f73l1:=(.mk:PY (t34 D n) D n 73 Tryz.f73 h73 [f73l0 D n] 1).1
@[irreducible] def f73b2:=(.mk:PY (t34 D n) D n 73 Tryz.f73 h73 [f73l0 D n,f73l1 D n] 2).1
@[irreducible] def f73l3:=(.mk:PY (t34 D n) D n 73 Tryz.f73 h73 [f73l0 D n,f73l1 D n,f73b2 D n] 3).1
@[irreducible] def f73b4:=(.mk:PY (t34 D n) D n 73 Tryz.f73 h73 [f73l0 D n,f73l1 D n,f73b2 D n,f73l3 D n] 4).1
@[irreducible] def f73b5:=(.mk:PY (t34 D n) D n 73 Tryz.f73 h73 [f73l0 D n,f73l1 D n,f73b2 D n,f73l3 D n,f73b4 D n] 5).1
@[irreducible] def f73:=(.mk:FY (t34 D n) D n 73 Tryz.f73 h73 [f73l0 D n,f73l1 D n,f73b2 D n,f73l3 D n,f73b4 D n,f73b5 D n]).1
theorem f73_ok (a:DG H)(n:Nat):FI 73 (f73 H n):=fk n (ms h73) a (k34 a n) Tryz.func73
def t35:=ad (t34 D n) 73 (f73 D n)
theorem k35:KO t35:=kc k34 f73_ok
def h100:Hint:=(.s .o (.s .o (.s (.s .o (.b [3,1,3] (.l [0,1,3,14,15,16] (.s .o (.s (.cr .o .o) (.s (.b0 Hr) .o)))))) (.s (.s .o (.b [2,3] (.l [1,3,27,28,29] (.s .o (.s (.cr .o .o) (.s (.b0 Hr) .o)))))) Hr))))
@[irreducible] def f100l0:=(.mk:PY (t35 D n) D n 100 Tryz.f100 h100 [] 0).1
@[irreducible] def f100l1:=(.mk:PY (t35 D n) D n 100 Tryz.f100 h100 [f100l0 D n] 1).1
@[irreducible] def f100b2:=(.mk:PY (t35 D n) D n 100 Tryz.f100 h100 [f100l0 D n,f100l1 D n] 2).1
@[irreducible] def f100b3:=(.mk:PY (t35 D n) D n 100 Tryz.f100 h100 [f100l0 D n,f100l1 D n,f100b2 D n] 3).1
@[irreducible] def f100:=(.mk:FY (t35 D n) D n 100 Tryz.f100 h100 [f100l0 D n,f100l1 D n,f100b2 D n,f100b3 D n]).1
theorem f100_ok (a:DG H)(n:Nat):FI 100 (f100 H n):=fk n (ms h100) a (k35 a n) Tryz.func100
def t36:=ad (t35 D n) 100 (f100 D n)
theorem k36:KO t36:=kc k35 f100_ok
def h132:Hint:=(.s .o Hr)
@[irreducible] def f132:=(.mk:FY (t36 D n) D n 132 Tryz.f132 h132 []).1
theorem f132_ok (a:DG H)(n:Nat):FI 132 (f132 H n):=fk n (ms h132) a (k36 a n) Tryz.func132
def t37:=ad (t36 D n) 132 (f132 D n)
theorem k37:KO t37:=kc k36 f132_ok
def h153:Hint:=(.s .o (.s .o (.s Hq Hr)))
@[irreducible] def f153:=(.mk:FY (t37 D n) D n 153 Tryz.f153 h153 []).1
def t38:=ad (t37 D n) 153 (f153 D n)
theorem k38:KO t38:=kk k37 (ms h153) Tryz.func153
def h129:Hint:=(.b [7,64,9,510,13,8191] .o)
@[irreducible] def f129:=(.mk:FY (t38 D n) D n 129 Tryz.f129 h129 []).1
def t39:=ad (t38 D n) 129 (f129 D n)
theorem k39:KO t39:=kk k38 (ms h129) Tryz.func129
def h131:Hint:=(.b [7,64,9,510,13,8191] .o)
@[irreducible] def f131:=(.mk:FY (t39 D n) D n 131 Tryz.f131 h131 []).1
def t40:=ad (t39 D n) 131 (f131 D n)
theorem k40:KO t40:=kk k39 (ms h131) Tryz.func131
def s99:Tb:=⟨X,[(128,f128 D n),(130,f130 D n),(132,f132 D n)]⟩
def h99:Hint:=(.s .o (.s Hq (.s .o (.s .o (.s Hq (.s .o (.s (.s .o (.c [4,4,6,7,8] .o .o)) (.s (.s (.b [] .o) (.b [3,4,6] (.l [2,4,6,8,47,48] (.s .o (.s (.cr .o .o) (.s (.b0 (.s (.s .o (.b [1,4,6,8,47,48] (.l [0,4,6,8,47,48,50,51,52] (.s .o (.s (.cr .o .o) (.s (.b0 Hr) .o)))))) (.s .o (.cl .o .o)))) .o)))))) (.s Hq Hr)))))))))
@[irreducible] def f99l0:=(.mk:PY (s99 D n) D n 99 Tryz.f99 h99 [] 0).1
@[irreducible] def f99b1:=(.mk:PY (s99 D n) D n 99 Tryz.f99 h99 [f99l0 D n] 1).1
@[irreducible] def f99l2:=(.mk:PY (s99 D n) D n 99 Tryz.f99 h99 [f99l0 D n,f99b1 D n] 2).1
@[irreducible] def f99b3:=(.mk:PY (s99 D n) D n 99 Tryz.f99 h99 [f99l0 D n,f99b1 D n,f99l2 D n] 3).1
@[irreducible] def f99j4:=(.mk:PY (s99 D n) D n 99 Tryz.f99 h99 [f99l0 D n,f99b1 D n,f99l2 D n,f99b3 D n] 4).1
@[irreducible] def f99:=(.mk:FY (s99 D n) D n 99 Tryz.f99 h99 [f99l0 D n,f99b1 D n,f99l2 D n,f99b3 D n,f99j4 D n]).1
theorem f99_ok (a:DG H)(n:Nat):FI 99 (f99 H n):=fk n (ms h99) a (sc (f128_ok a n) (sc (f130_ok a n) (sc (f132_ok a n) sn))) Tryz.func99
def t41:=ad (t40 D n) 99 (f99 D n)
theorem k41:KO t41:=kc k40 f99_ok
def h68:Hint:=(.s .o (.s (.s .o (.cl (.s (.b [11,1535] .o) (.s Hq Hr)) .o)) (.s .o (.s Hq (.s Hq Hr)))))
@[irreducible] def f68:=(.mk:FY (t41 D n) D n 68 Tryz.f68 h68 []).1
theorem f68_ok (a:DG H)(n:Nat):FI 68 (f68 H n):=fk n (ms h68) a (k41 a n) Tryz.func68
def t42:=ad (t41 D n) 68 (f68 D n)
theorem k42:KO t42:=kc k41 f68_ok
def h75:Hint:=(.s .o (.s Hq Hr))
@[irreducible] def f75:=(.mk:FY (t42 D n) D n 75 Tryz.f75 h75 []).1
def t43:=ad (t42 D n) 75 (f75 D n)
theorem k43:KO t43:=kk k42 (ms h75) Tryz.func75
def h78:Hint:=(.s .o (.s Hq Hr))
@[irreducible] def f78:=(.mk:FY (t43 D n) D n 78 Tryz.f78 h78 []).1
def t44:=ad (t43 D n) 78 (f78 D n)
theorem k44:KO t44:=kk k43 (ms h78) Tryz.func78
def h125:Hint:=(.s .o (.s Hq (.s Hq (.s .o (.s Hq (.s (.c [4,12,7,124,10,1020,12,4095] (.l [0,1,2,3,5,6,8,9,4,7,10,11,12,13] .o) .o) .o))))))
@[irreducible] def f125:=(.mk:FY (t44 D n) D n 125 Tryz.f125 h125 []).1
theorem f125_ok (a:DG H)(n:Nat):FI 125 (f125 H n):=fk n (ms h125) a (k44 a n) Tryz.func125
def t45:=ad (t44 D n) 125 (f125 D n)
theorem k45:KO t45:=kc k44 f125_ok
def s124:Tb:=⟨X,[(125,f125 D n)]⟩
def h124:Hint:=(.s .o (.s (.s .o (.cl .o .o)) (.s .o (.s Hq (.s (.s .o (.cl .o .o)) (.s .o (.b [1] (.l [0,2,3,4,30,31,32] (.s .o (.s (.cr .o .o) (.s (.b0 (.s .o (.s (.s .o (.b0 (.rf 0 [4]))) (.s .o (.cl .o .o))))) .o)))))))))))
@[irreducible] def f124l0:=(.mk:PY (s124 D n) D n 124 Tryz.f124 h124 [] 0).1
@[irreducible] def f124b1:=(.mk:PY (s124 D n) D n 124 Tryz.f124 h124 [f124l0 D n] 1).1
@[irreducible] def f124:=(.mk:FY (s124 D n) D n 124 Tryz.f124 h124 [f124l0 D n,f124b1 D n]).1
theorem f124_ok (a:DG H)(n:Nat):FI 124 (f124 H n):=fk n (ms h124) a (sc (f125_ok a n) sn) Tryz.func124
def t46:=ad (t45 D n) 124 (f124 D n)
theorem k46:KO t46:=kc k45 f124_ok
def r124_0a:Hint:= .o
def r124_0b:Hint:=(.b0 (.s .o (.cl .o .o)))
@[irreducible] def r124_0:=(.mk:RY (s124 D n) D n 124 0 [4] [0] r124_0a r124_0b []).1
theorem r124_0_eq (D:Dyn)(n:Nat):r124_0 D n=rndK (s124 D n) D n 124 0 [4] [0] (ms r124_0a) (ms r124_0b):=by kernel_rfl
theorem r124_0_ok (a:DG H)(n:Nat):RS 124 0 (r124_0 H n):=round_ok X_ok a (sc (f125_ok a n) sn) (by kernel_rfl) (r124_0_eq H n)
def h96:Hint:=(.s .o Hr)
@[irreducible] def f96:=(.mk:FY (t46 D n) D n 96 Tryz.f96 h96 []).1
theorem f96_ok (a:DG H)(n:Nat):FI 96 (f96 H n):=fk n (ms h96) a (k46 a n) Tryz.func96
def t47:=ad (t46 D n) 96 (f96 D n)
theorem k47:KO t47:=kc k46 f96_ok
def h85:Hint:=(.s .o (.s Hq (.s Hq Hr)))
@[irreducible] def f85:=(.mk:FY (t47 D n) D n 85 Tryz.f85 h85 []).1
def t48:=ad (t47 D n) 85 (f85 D n)
theorem k48:KO t48:=kk k47 (ms h85) Tryz.func85
def h97:Hint:=(.s .o (.s (.s .o Hq) (.s Hq (.s .o Hr))))
@[irreducible] def f97:=(.mk:FY (t48 D n) D n 97 Tryz.f97 h97 []).1
theorem f97_ok (a:DG H)(n:Nat):FI 97 (f97 H n):=fk n (ms h97) a (k48 a n) Tryz.func97
def t49:=ad (t48 D n) 97 (f97 D n)
theorem k49:KO t49:=kc k48 f97_ok
def s63:Tb:=⟨X,[(96,f96 D n),(97,f97 D n)]⟩
def h63:Hint:=(.s .o (.s .o (.s (.s (.b [8,255] .o) (.b0 (.rf 0 [1,2]))) Hr)))
@[irreducible] def f63:=(.mk:FY (s63 D n) D n 63 Tryz.f63 h63 []).1
theorem f63_ok (a:DG H)(n:Nat):FI 63 (f63 H n):=fk n (ms h63) a (sc (f96_ok a n) (sc (f97_ok a n) sn)) Tryz.func63
def t50:=ad (t49 D n) 63 (f63 D n)
theorem k50:KO t50:=kc k49 f63_ok
def r63_0a:Hint:= .o
def r63_0b:Hint:=(.b0 (.s (.s .o (.s .o (.cl (.s .o .o) .o))) .o))
@[irreducible] def r63_0:=(.mk:RY (s63 D n) D n 63 0 [1,2] [] r63_0a r63_0b []).1
theorem r63_0_eq (D:Dyn)(n:Nat):r63_0 D n=rndK (s63 D n) D n 63 0 [1,2] [] (ms r63_0a) (ms r63_0b):=by kernel_rfl
theorem r63_0_ok (a:DG H)(n:Nat):RS 63 0 (r63_0 H n):=round_ok X_ok a (sc (f96_ok a n) (sc (f97_ok a n) sn)) (by kernel_rfl) (r63_0_eq H n)
def h28:Hint:=(.s .o (.s Hq (.s Hq (.s .o (.s Hq (.s Hq (.s .o (.s Hq (.s (.b [] .o) (.s (.s .o (.c [0,0,8,9] (.s .o Hq) .o)) (.s (.s .o Hq) (.s (.s (.b [7,126,13,7167] .o) Hq) (.s (.s .o Hq) Hr)))))))))))))
@[irreducible] def f28j0:=(.mk:PY (t50 D n) D n 28 Tryz.f28 h28 [] 0).1
@[irreducible] def f28:=(.mk:FY (t50 D n) D n 28 Tryz.f28 h28 [f28j0 D n]).1
def t51:=ad (t50 D n) 28 (f28 D n)
theorem k51:KO t51:=kk k50 (ms h28) Tryz.func28
def h158:Hint:=(.s .o Hr)
@[irreducible] def f158:=(.mk:FY (t51 D n) D n 158 Tryz.f158 h158 []).1
def t52:=ad (t51 D n) 158 (f158 D n)
theorem k52:KO t52:=kk k51 (ms h158) Tryz.func158
def h159:Hint:=(.s .o Hr)
@[irreducible] def f159:=(.mk:FY (t52 D n) D n 159 Tryz.f159 h159 []).1
def t53:=ad (t52 D n) 159 (f159 D n)
theorem k53:KO t53:=kk k52 (ms h159) Tryz.func159
def h147:Hint:=(.s .o (.s .o (.s (.c [] (.l [0,2,1,3,4] .o) .o) Hr)))
@[irreducible] def f147:=(.mk:FY (t53 D n) D n 147 Tryz.f147 h147 []).1
def t54:=ad (t53 D n) 147 (f147 D n)
theorem k54:KO t54:=kk k53 (ms h147) Tryz.func147
def s117:Tb:=⟨X,[(123,f123 D n),(147,f147 D n),(109,f109 D n)]⟩
@[irreducible] def f117 (D:Dyn)(n:Nat)(vs:List AV)(H:AH):Option (AV×AH):=
 outR (hd vs fun V vs=>nl vs <|
 bA (bxV 107 V) H fun a H=>
 bA (bxV 144 (.agg (rep 512 [(.int .u8 (.ofNat 0))]))) H fun f H=>
 bV (fAd 0 a) fun W=>
 bV (ld1 W H) fun x6=>
 bV (bInt .lss x6 (.int .i64 (.ofNat 1))) fun x7=>
 jn (wnt x7 false (bV (fAd 0 a) fun Y=>
 bV (ld1 Y H) fun s=>
 bV (bInt .gtr s (.int .i64 (.ofNat 2147483647))) fun t=>
 some (.norm [t],H)) (some (.norm [undefA],H))) fun vs H=>hd vs fun m vs=>
 bV (pk3 (some x7) (some (.bool true)) (some m)) fun u=>
 cnd u (bV (bldA 1 (rep 512 [(.int .u8 (.ofNat 0))]) []) fun v=>
 bR (stN 512 f v H) fun a2 H=>
 bV (ldN 512 f H) fun o=>bV (some (.int .i64 (.ofNat 1))) fun Z=>some (.ret (.tuple [o,Z]),H))
 (bV (fAd 1 a) fun x=>
 bV (ld1 x H) fun y=>
 bV (lnStr y) fun z=>
 bV (bInt .gtr z (.int .i64 (.ofNat 492))) fun C=>
 cnd C (bV (bldA 1 (rep 512 [(.int .u8 (.ofNat 0))]) []) fun F=>
 bR (stN 512 f F H) fun a0 H=>
 bV (ldN 512 f H) fun i=>bV (some (.int .i64 (.ofNat 40))) fun p=>some (.ret (.tuple [i,p]),H))
 (bV (fAd 1 a) fun G=>
 bV (ld1 G H) fun I=>
 bR (f123 D n [I] H) fun J H=>
 bR (f147 D n [.nS,J] H) fun K H=>
 bV (fAd 0 a) fun L=>
 bV (ld1 L H) fun M=>
 bV (cvBS K H) fun N=>
 bV (fAd 1 a) fun O=>
 bV (ld1 O H) fun Q=>
 bV (bStr .add N Q) fun S=>
 bR (f109 D n [(.int .u8 (.ofNat 3)),M,S] H) fun h H=>
 bV (pExtract h 0) fun T=>
 bV (pExtract h 1) fun U=>
 bR (stN 512 f T H) fun a1 H=>
 bV (ldN 512 f H) fun j=>bV (some U) fun q=>some (.ret (.tuple [j,q]),H))))
def h117:Hint:=(.s .o (.s Hq (.s Hq (.s .o Hr))))
def t55:=ad (t54 D n) 117 (f117 D n)
theorem k55:KO t55:=kk k54 h117 Tryz.func117
def h82:Hint:=Hr
@[irreducible] def f82:=(.mk:FY (t55 D n) D n 82 Tryz.f82 h82 []).1
def t56:=ad (t55 D n) 82 (f82 D n)
theorem k56:KO t56:=kk k55 (ms h82) Tryz.func82
end Go.Eng.Sh
end
end
section
noncomputable section
namespace Go.Eng.Sh
open Go.Proofs
set_option maxRecDepth 100000
variable (D:Dyn)(n:Nat)
attribute [local irreducible] bV bR hd cnd jn jb loopK wnt chk newB bA bInt bStr bBool cmpO eqP eqS eqM eqF eqA eqPL ldN ld1 stN cvI cvSS cvBS cvSB slStr slSl slArr ixArr ixSl ixStr ixAg1 ixAgN fd1 fdN fAd lnStr lnSl lnMap apP apZ cpy bldS bldA pk3 s2a bxV bldL mkSl lkM upM dlM mkM clM callV nl outR tld endQ beginK endR endLp jmpK rfC mn2 mx2 aun pExtract pNil undefA isW aveq mt64_0
def s45:Tb:=⟨X,[(82,f82 D n)]⟩
@[irreducible] def f45j0 (D:Dyn)(n:Nat)(vs:List AV)(H:AH):Rs:=
 hd vs fun h vs=>hd vs fun i vs=>hd vs fun j vs=>hd vs fun a vs=>hd vs fun f vs=>
 bV (bInt .add f (.int .i64 (.ofNat 1))) fun m=>
 some (.norm [h,i,j,a,m],H)
@[irreducible] def f45l1 (D:Dyn)(n:Nat)(vs:List AV)(H:AH):Rs:=
 hd vs fun f vs=>hd vs fun h vs=>hd vs fun j vs=>hd vs fun i vs=>hd vs fun a vs=>
 bV (bInt .lss a i) fun q=>
 cnd q (bV (ixSl 513 j a) fun s=>
 bV (ldN 513 s H) fun t=>
 bA (bxV 150 (.agg ([(.int .i64 (.ofNat 0))]++rep 512 [(.int .u8 (.ofNat 0))]))) H fun m H=>
 bR (stN 513 m t H) fun M H=>
 bV (lnSl h) fun u=>
 bV (bInt .lss a u) fun o=>
 jn (wnt o true (bV (ixSl 1 h a) fun v=>
 bV (ld1 v H) fun x=>
 some (.norm [x],H)) (some (.norm [undefA],H))) fun vs H=>hd vs fun p vs=>
 bV (pk3 (some o) (some p) (some (.bool false))) fun y=>
 jn (cnd y (bV (pNil f) fun z=>
 bV (fAd 1 z) fun C=>
 bV (ld1 C H) fun F=>
 bV (fAd 0 m) fun G=>
 bV (ld1 G H) fun I=>
 bV (fAd 1 m) fun J=>
 bV (ldN 512 J H) fun K=>
 bR (upM [6] F I K H) fun L H=>
 some (.norm [f,h,j,i,a],H))
 (some (.norm [f,h,j,i,a],H))) (f45j0 D n))
 (some (.exit 0 [f],H))
@[irreducible] def f45b2 (D:Dyn)(n:Nat)(vs:List AV)(H:AH):Rs:=
 hd vs fun a vs=>
 bR (f82 D n [a] H) fun t H=>
 bV (pNil a) fun f=>
 bV (fAd 4 f) fun h=>
 bR (stN 1 h (.int .i64 (.ofNat 0)) H) fun p H=>
 bV (pNil a) fun i=>
 bV (fAd 5 i) fun j=>
 bR (stN 1 j .nS H) fun q H=>
 bV (pNil a) fun m=>
 bV (fAd 6 m) fun o=>
 bR (stN 1 o (.bool true) H) fun s H=>
 some (.ret (.tuple []),H)
@[irreducible] def f45 (D:Dyn)(n:Nat)(vs:List AV)(H:AH):Option (AV×AH):=
 outR (hd vs fun a vs=>hd vs fun i vs=>nl vs <|
 bV (pNil a) fun x7=>
 bV (fAd 2 x7) fun j=>
 bV (ld1 j H) fun f=>
 bV (lnSl f) fun h=>
 jb 0 (loopK n (f45l1 D n) [a,i,f,h,(.int .i64 (.ofNat 0))] H) (f45b2 D n))
def h45:Hint:=(.s (.s .o (.b [0] (.l [0,1,9,10,11] (.s .o (.s (.cr .o .o) (.s (.b0 (.s .o (.s .o (.c [0,1,9,10,11] .o .o)))) .o)))))) (.s .o Hr))
def t57:=ad (t56 D n) 45 (f45 D n)
theorem k57:KO t57:=kk k56 h45 Tryz.func45
def h90:Hint:=(.s .o (.s Hq (.s .o (.s Hq (.s .o Hr)))))
@[irreducible] def f90:=(.mk:FY (t57 D n) D n 90 Tryz.f90 h90 []).1
def t58:=ad (t57 D n) 90 (f90 D n)
theorem k58:KO t58:=kk k57 (ms h90) Tryz.func90
def s118:Tb:=⟨X,[(119,f119 D n),(90,f90 D n)]⟩
@[irreducible] def f118 (D:Dyn)(n:Nat)(vs:List AV)(H:AH):Option (AV×AH):=
 outR (hd vs fun a vs=>hd vs fun f vs=>hd vs fun L vs=>nl vs <|
 bA (bxV 144 L) H fun M H=>
 bR (f119 D n [a,f] H) fun h H=>
 bV (bInt .neq h (.int .i64 (.ofNat 0))) fun j=>
 cnd j (bV (some h) fun x6=>some (.ret x6,H))
 (bV (pNil a) fun m=>
 bV (fAd 3 m) fun o=>
 bV (ld1 o H) fun p=>
 bV (pNil a) fun q=>
 bV (fAd 2 q) fun s=>
 bV (ld1 s H) fun t=>
 bV (lnSl t) fun u=>
 bR (upM [6] p f u H) fun O H=>
 bV (pNil a) fun v=>
 bV (fAd 2 v) fun x=>
 bV (ld1 x H) fun y=>
 bV (ldN 512 M H) fun z=>
 bV (bldS [(0,1),(1,512)] ([(.int .i64 (.ofNat 0))]++rep 512 [(.int .u8 (.ofNat 0))]) [(0,f),(1,z)]) fun C=>
 bA (bldL 150 513 1 ([(.int .i64 (.ofNat 0))]++rep 512 [(.int .u8 (.ofNat 0))]) [(0,C)]) H fun F H=>
 bR (apP 150 513 520 y F H) fun G H=>
 bV (pNil a) fun I=>
 bV (fAd 2 I) fun J=>
 bR (stN 1 J G H) fun N H=>
 bR (f90 D n [a] H) fun K H=>
 bV (some K) fun i=>some (.ret i,H)))
def h118:Hint:=(.s .o (.s (.s .o Hq) (.s .o (.s .o Hr))))
def t59:=ad (t58 D n) 118 (f118 D n)
theorem k59:KO t59:=kk k58 h118 Tryz.func118
def s89:Tb:=⟨X,[(117,f117 D n),(93,f93 D n),(118,f118 D n)]⟩
@[irreducible] def f89 (D:Dyn)(n:Nat)(vs:List AV)(H:AH):Option (AV×AH):=
 outR (hd vs fun j vs=>hd vs fun z vs=>nl vs <|
 bA (bxV 107 z) H fun m H=>
 bV (cmpO .eql (eqP j .nP)) fun C=>
 cnd C (bV (some (.int .i64 (.ofNat 2))) fun x4=>some (.ret x4,H))
 (bV (ldN 2 m H) fun q=>
 bR (f117 D n [q] H) fun f H=>
 bV (pExtract f 0) fun s=>
 bV (pExtract f 1) fun h=>
 bA (bxV 144 (.agg (rep 512 [(.int .u8 (.ofNat 0))]))) H fun a H=>
 bR (stN 512 a s H) fun F H=>
 bV (bInt .neq h (.int .i64 (.ofNat 0))) fun t=>
 cnd t (bV (some h) fun o=>some (.ret o,H))
 (bV (fAd 0 m) fun u=>
 bV (ld1 u H) fun v=>
 bV (ldN 512 a H) fun i=>
 bR (f93 D n [v] H) fun x H=>chk (ldN 512 a H) i <|
 bR (f118 D n [j,x,i] H) fun y H=>
 bV (some y) fun p=>some (.ret p,H))))
def h89:Hint:=(.s .o (.s Hq (.s .o (.s Hq Hr))))
def t60:=ad (t59 D n) 89 (f89 D n)
theorem k60:KO t60:=kk k59 h89 Tryz.func89
def h56:Hint:=(.s .o (.s .o (.s Hq Hr)))
@[irreducible] def f56:=(.mk:FY (t60 D n) D n 56 Tryz.f56 h56 []).1
def t61:=ad (t60 D n) 56 (f56 D n)
theorem k61:KO t61:=kk k60 (ms h56) Tryz.func56
def s57:Tb:=⟨X,[(44,f44 D n),(90,f90 D n),(82,f82 D n)]⟩
@[irreducible] def f57l0 (D:Dyn)(n:Nat)(vs:List AV)(H:AH):Rs:=
 hd vs fun a vs=>hd vs fun h vs=>hd vs fun i vs=>hd vs fun f vs=>
 bV (bInt .lss f i) fun j=>
 cnd j (bV (ixSl 513 h f) fun m=>
 bV (ldN 513 m H) fun o=>
 bA (bxV 150 (.agg ([(.int .i64 (.ofNat 0))]++rep 512 [(.int .u8 (.ofNat 0))]))) H fun x6 H=>
 bR (stN 513 x6 o H) fun C H=>
 bV (pNil a) fun p=>
 bV (fAd 1 p) fun q=>
 bV (ld1 q H) fun s=>
 bV (fAd 0 x6) fun t=>
 bV (ld1 t H) fun u=>
 bV (fAd 1 x6) fun v=>
 bV (ldN 512 v H) fun x=>
 bR (upM [6] s u x H) fun z H=>
 bV (bInt .add f (.int .i64 (.ofNat 1))) fun y=>
 some (.norm [a,h,i,y],H))
 (some (.exit 0 [a],H))
@[irreducible] def f57b1 (D:Dyn)(n:Nat)(vs:List AV)(H:AH):Rs:=
 hd vs fun a vs=>
 bR (f82 D n [a] H) fun h H=>
 bV (some (.int .i64 (.ofNat 0))) fun f=>some (.ret f,H)
@[irreducible] def f57 (D:Dyn)(n:Nat)(vs:List AV)(H:AH):Option (AV×AH):=
 outR (hd vs fun a vs=>nl vs <|
 bR (f44 D n [a] H) fun i H=>
 bV (bInt .neq i (.int .i64 (.ofNat 0))) fun m=>
 cnd m (bV (some i) fun t=>some (.ret t,H))
 (bR (f90 D n [a] H) fun f H=>
 bV (bInt .neq f (.int .i64 (.ofNat 0))) fun o=>
 cnd o (bV (some f) fun j=>some (.ret j,H))
 (bV (pNil a) fun p=>
 bV (fAd 2 p) fun q=>
 bV (ld1 q H) fun h=>
 bV (lnSl h) fun s=>
 jb 0 (loopK n (f57l0 D n) [a,h,s,(.int .i64 (.ofNat 0))] H) (f57b1 D n))))
def h57:Hint:=(.s .o (.s (.s .o Hq) (.s (.s .o Hq) (.s (.s .o (.b [0] (.l [0,20,21,22] (.s .o (.s (.cr .o .o) (.s (.b0 Hr) .o)))))) (.s .o Hr)))))
def t62:=ad (t61 D n) 57 (f57 D n)
theorem k62:KO t62:=kk k61 h57 Tryz.func57
def h27:Hint:=(.s .o (.s Hq (.s (.s .o Hq) Hr)))
@[irreducible] def f27:=(.mk:FY (t62 D n) D n 27 Tryz.f27 h27 []).1
def t63:=ad (t62 D n) 27 (f27 D n)
theorem k63:KO t63:=kk k62 (ms h27) Tryz.func27
def h5:Hint:=(.s .o (.s .o (.s Hq Hr)))
@[irreducible] def f5:=(.mk:FY (t63 D n) D n 5 Tryz.f5 h5 []).1
theorem f5_ok (a:DG H)(n:Nat):FI 5 (f5 H n):=fk n (ms h5) a (k63 a n) Tryz.func5
def t64:=ad (t63 D n) 5 (f5 D n)
theorem k64:KO t64:=kc k63 f5_ok
def h6:Hint:=(.s .o (.s .o (.s Hq Hr)))
@[irreducible] def f6:=(.mk:FY (t64 D n) D n 6 Tryz.f6 h6 []).1
theorem f6_ok (a:DG H)(n:Nat):FI 6 (f6 H n):=fk n (ms h6) a (k64 a n) Tryz.func6
def t65:=ad (t64 D n) 6 (f6 D n)
theorem k65:KO t65:=kc k64 f6_ok
def h30:Hint:=(.s .o Hr)
@[irreducible] def f30:=(.mk:FY (t65 D n) D n 30 Tryz.f30 h30 []).1
def t66:=ad (t65 D n) 30 (f30 D n)
theorem k66:KO t66:=kk k65 (ms h30) Tryz.func30
def h12:Hint:=(.s .o (.s Hq Hr))
@[irreducible] def f12:=(.mk:FY (t66 D n) D n 12 Tryz.f12 h12 []).1
theorem f12_ok (a:DG H)(n:Nat):FI 12 (f12 H n):=fk n (ms h12) a (k66 a n) Tryz.func12
def t67:=ad (t66 D n) 12 (f12 D n)
theorem k67:KO t67:=kc k66 f12_ok
def h43:Hint:=(.s .o (.s Hq Hr))
@[irreducible] def f43:=(.mk:FY (t67 D n) D n 43 Tryz.f43 h43 []).1
def t68:=ad (t67 D n) 43 (f43 D n)
theorem k68:KO t68:=kk k67 (ms h43) Tryz.func43
def h13:Hint:=(.s .o (.s Hq Hr))
@[irreducible] def f13:=(.mk:FY (t68 D n) D n 13 Tryz.f13 h13 []).1
theorem f13_ok (a:DG H)(n:Nat):FI 13 (f13 H n):=fk n (ms h13) a (k68 a n) Tryz.func13
def t69:=ad (t68 D n) 13 (f13 D n)
theorem k69:KO t69:=kc k68 f13_ok
def h8:Hint:=(.s .o (.s Hq Hr))
@[irreducible] def f8:=(.mk:FY (t69 D n) D n 8 Tryz.f8 h8 []).1
theorem f8_ok (a:DG H)(n:Nat):FI 8 (f8 H n):=fk n (ms h8) a (k69 a n) Tryz.func8
def t70:=ad (t69 D n) 8 (f8 D n)
theorem k70:KO t70:=kc k69 f8_ok
def h65:Hint:=(.s .o (.s .o (.s (.b [9,511] .o) Hr)))
@[irreducible] def f65:=(.mk:FY (t70 D n) D n 65 Tryz.f65 h65 []).1
theorem f65_ok (a:DG H)(n:Nat):FI 65 (f65 H n):=fk n (ms h65) a (k70 a n) Tryz.func65
def t71:=ad (t70 D n) 65 (f65 D n)
theorem k71:KO t71:=kc k70 f65_ok
def h64:Hint:=(.s .o (.s .o (.s (.s .o (.b [2,0,3,4] (.l [1,0,3,4,16,17,18] (.s .o (.s (.cr .o .o) (.s (.b0 (.s .o (.s .o (.c [0,0,3,4,16,17,18] (.b [6,63] .o) (.b [7,126,10,1023] .o))))) .o)))))) (.s (.t [0,3,4] mt64_0) Hr))))
@[irreducible] def f64j0:=(.mk:PY ⟨X,[]⟩ D n 64 Tryz.f64 h64 [] 0).1
@[irreducible] def f64l1:=(.mk:PY ⟨X,[]⟩ D n 64 Tryz.f64 h64 [f64j0 D n] 1).1
@[irreducible] def f64b2:=(.mk:PY ⟨X,[]⟩ D n 64 Tryz.f64 h64 [f64j0 D n,f64l1 D n] 2).1
@[irreducible] def f64:=(.mk:FY ⟨X,[]⟩ D n 64 Tryz.f64 h64 [f64j0 D n,f64l1 D n,f64b2 D n]).1
theorem f64_eq (D:Dyn)(n:Nat):f64 D n=funK ⟨X,[]⟩ D n 64 Tryz.f64 (ms h64):=by kernel_rfl
theorem f64_tolds:toldsF Tryz.f64 (ms h64)=[(q64_0.code,[0,3,4],mt64_0)]:=by kernel_rfl
theorem f64_told: ∀x∈toldsF Tryz.f64 (ms h64),ToldOk PP Tryz.f64.ntmps 64 x.1 x.2.1 x.2.2:=by
 rw[f64_tolds];intro x a;simp only[zM,List.not_mem_nil,or_false]at a;subst a;exact told64_0
theorem f64_ok (a:DG H)(n:Nat):FI 64 (f64 H n):=fun_okT X_ok a sn Tryz.func64 (sitesT_ok (by kernel_rfl) f64_told) (f64_eq H n)
def t72:=ad (t71 D n) 64 (f64 D n)
theorem k72:KO t72:=kc k71 f64_ok
def h154:Hint:=(.s .o (.s .o (.s .o (.s .o (.s (.s .o (.c [3,1,3,4,5] Hr .o)) (.s (.s .o (.b [2,4] (.l [1,1,3,4,5,20,21] (.s .o (.s (.cr .o .o) (.s (.b0 (.s .o (.s .o (.s (.s .o (.c [0,1,3,4,5,6,20,21] .o .o)) Hq)))) .o)))))) Hr))))))
@[irreducible] def f154j0:=(.mk:PY (t72 D n) D n 154 Tryz.f154 h154 [] 0).1
@[irreducible] def f154l1:=(.mk:PY (t72 D n) D n 154 Tryz.f154 h154 [f154j0 D n] 1).1
@[irreducible] def f154b2:=(.mk:PY (t72 D n) D n 154 Tryz.f154 h154 [f154j0 D n,f154l1 D n] 2).1
@[irreducible] def f154j3:=(.mk:PY (t72 D n) D n 154 Tryz.f154 h154 [f154j0 D n,f154l1 D n,f154b2 D n] 3).1
@[irreducible] def f154:=(.mk:FY (t72 D n) D n 154 Tryz.f154 h154 [f154j0 D n,f154l1 D n,f154b2 D n,f154j3 D n]).1
def t73:=ad (t72 D n) 154 (f154 D n)
theorem k73:KO t73:=kk k72 (ms h154) Tryz.func154
def h134:Hint:=(.s .o (.s Hq (.s .o (.s (.b [5,19,7,127] .o) (.s .o (.s (.s .o (.c [0,1,2,4,6] (.s .o (.c [5,31,10,1023,12,4095,14,16383] (.l [0,1,2,3,4,6,7,8,9,5,11,10,12,13,14] .o) .o)) (.s .o (.c [7,127,13,8191,15,32767,17,131071] (.l [0,1,2,3,4,5,6,8,9,10,11,12,7,14,13,15,16,17] .o) .o)))) (.s (.b [7,1,9,511] .o) .o)))))))
@[irreducible] def f134j0:=(.mk:PY (t73 D n) D n 134 Tryz.f134 h134 [] 0).1
@[irreducible] def f134:=(.mk:FY (t73 D n) D n 134 Tryz.f134 h134 [f134j0 D n]).1
def t74:=ad (t73 D n) 134 (f134 D n)
theorem k74:KO t74:=kk k73 (ms h134) Tryz.func134
def h102:Hint:=(.s .o (.s .o (.s .o (.s (.b [1,1,5,6] (.l [0,1,5,6] (.s (.s .o (.cr .o .o)) (.b0 (.s .o (.s Hq (.s .o Hr))))))) Hr))))
@[irreducible] def f102l0:=(.mk:PY (t74 D n) D n 102 Tryz.f102 h102 [] 0).1
@[irreducible] def f102b1:=(.mk:PY (t74 D n) D n 102 Tryz.f102 h102 [f102l0 D n] 1).1
@[irreducible] def f102:=(.mk:FY (t74 D n) D n 102 Tryz.f102 h102 [f102l0 D n,f102b1 D n]).1
def t75:=ad (t74 D n) 102 (f102 D n)
theorem k75:KO t75:=kk k74 (ms h102) Tryz.func102
def h104:Hint:=(.s .o (.s .o (.s (.s .o (.b [1,5] (.l [0,0,5,8,9,10] (.s .o (.s (.cr .o .o) (.s (.b0 Hr) .o)))))) Hr)))
@[irreducible] def f104l0:=(.mk:PY (t75 D n) D n 104 Tryz.f104 h104 [] 0).1
@[irreducible] def f104b1:=(.mk:PY (t75 D n) D n 104 Tryz.f104 h104 [f104l0 D n] 1).1
@[irreducible] def f104:=(.mk:FY (t75 D n) D n 104 Tryz.f104 h104 [f104l0 D n,f104b1 D n]).1
def t76:=ad (t75 D n) 104 (f104 D n)
theorem k76:KO t76:=kk k75 (ms h104) Tryz.func104
def h72:Hint:=(.s .o (.s (.s .o (.cl (.s (.s .o (.c [0] .o .o)) Hr) .o)) (.s .o (.s Hq (.s .o (.s (.s .o (.c [1] .o .o)) Hr))))))
@[irreducible] def f72j0:=(.mk:PY (t76 D n) D n 72 Tryz.f72 h72 [] 0).1
@[irreducible] def f72j1:=(.mk:PY (t76 D n) D n 72 Tryz.f72 h72 [f72j0 D n] 1).1
@[irreducible] def f72:=(.mk:FY (t76 D n) D n 72 Tryz.f72 h72 [f72j0 D n,f72j1 D n]).1
theorem f72_ok (a:DG H)(n:Nat):FI 72 (f72 H n):=fk n (ms h72) a (k76 a n) Tryz.func72
def t77:=ad (t76 D n) 72 (f72 D n)
theorem k77:KO t77:=kc k76 f72_ok
def h67:Hint:=(.s .o Hr)
@[irreducible] def f67:=(.mk:FY (t77 D n) D n 67 Tryz.f67 h67 []).1
theorem f67_ok (a:DG H)(n:Nat):FI 67 (f67 H n):=fk n (ms h67) a (k77 a n) Tryz.func67
def t78:=ad (t77 D n) 67 (f67 D n)
theorem k78:KO t78:=kc k77 f67_ok
def h69:Hint:=(.s .o (.s .o (.s (.s .o (.b [2,5] (.l [1,1,2,5,9,10,11] (.s .o (.s (.cr .o .o) (.s (.b0 (.s .o (.s .o (.c [0,1,2,5,9,10,11] .o .o)))) .o)))))) Hr)))
@[irreducible] def f69j0:=(.mk:PY (t78 D n) D n 69 Tryz.f69 h69 [] 0).1
@[irreducible] def f69l1:=(.mk:PY (t78 D n) D n 69 Tryz.f69 h69 [f69j0 D n] 1).1
@[irreducible] def f69b2:=(.mk:PY (t78 D n) D n 69 Tryz.f69 h69 [f69j0 D n,f69l1 D n] 2).1
@[irreducible] def f69:=(.mk:FY (t78 D n) D n 69 Tryz.f69 h69 [f69j0 D n,f69l1 D n,f69b2 D n]).1
theorem f69_ok (a:DG H)(n:Nat):FI 69 (f69 H n):=fk n (ms h69) a (k78 a n) Tryz.func69
def t79:=ad (t78 D n) 69 (f69 D n)
theorem k79:KO t79:=kc k78 f69_ok
def h71:Hint:=(.s .o (.b [7,126,10,1023] .o))
@[irreducible] def f71:=(.mk:FY (t79 D n) D n 71 Tryz.f71 h71 []).1
theorem f71_ok (a:DG H)(n:Nat):FI 71 (f71 H n):=fk n (ms h71) a (k79 a n) Tryz.func71
def t80:=ad (t79 D n) 71 (f71 D n)
theorem k80:KO t80:=kc k79 f71_ok
def h133:Hint:=(.s .o (.s Hq (.s (.s .o Hq) (.s Hq Hr))))
@[irreducible] def f133:=(.mk:FY (t80 D n) D n 133 Tryz.f133 h133 []).1
def t81:=ad (t80 D n) 133 (f133 D n)
theorem k81:KO t81:=kk k80 (ms h133) Tryz.func133
def h114:Hint:=(.s .o (.s (.s .o (.c [1,0,1] .o .o)) (.s (.s .o (.s .o (.c [0,0] .o .o))) Hr)))
@[irreducible] def f114j0:=(.mk:PY (t81 D n) D n 114 Tryz.f114 h114 [] 0).1
@[irreducible] def f114j1:=(.mk:PY (t81 D n) D n 114 Tryz.f114 h114 [f114j0 D n] 1).1
@[irreducible] def f114:=(.mk:FY (t81 D n) D n 114 Tryz.f114 h114 [f114j0 D n,f114j1 D n]).1
def t82:=ad (t81 D n) 114 (f114 D n)
theorem k82:KO t82:=kk k81 (ms h114) Tryz.func114
def h84:Hint:=(.s .o (.s .o (.s (.s .o (.b [4,0,3] (.l [1,0,3,9,10,11] (.s .o (.s (.cr .o .o) (.s (.b0 (.s .o (.s .o (.s .o (.c [0,0,3,9,10,11] .o .o))))) .o)))))) (.s .o (.s (.s .o (.b [3,6] (.l [2,6,25,26,27] (.s .o (.s (.cr .o .o) (.s (.b0 Hr) .o)))))) Hr)))))
@[irreducible] def f84j0:=(.mk:PY (t82 D n) D n 84 Tryz.f84 h84 [] 0).1
@[irreducible] def f84l1:=(.mk:PY (t82 D n) D n 84 Tryz.f84 h84 [f84j0 D n] 1).1
@[irreducible] def f84l2:=(.mk:PY (t82 D n) D n 84 Tryz.f84 h84 [f84j0 D n,f84l1 D n] 2).1
@[irreducible] def f84b3:=(.mk:PY (t82 D n) D n 84 Tryz.f84 h84 [f84j0 D n,f84l1 D n,f84l2 D n] 3).1
@[irreducible] def f84b4:=(.mk:PY (t82 D n) D n 84 Tryz.f84 h84 [f84j0 D n,f84l1 D n,f84l2 D n,f84b3 D n] 4).1
@[irreducible] def f84:=(.mk:FY (t82 D n) D n 84 Tryz.f84 h84 [f84j0 D n,f84l1 D n,f84l2 D n,f84b3 D n,f84b4 D n]).1
def t83:=ad (t82 D n) 84 (f84 D n)
theorem k83:KO t83:=kk k82 (ms h84) Tryz.func84
def h135:Hint:=(.s .o (.s (.s .o (.c [1,0,1] .o .o)) (.s (.s .o (.s .o (.c [0,0] .o .o))) Hr)))
@[irreducible] def f135j0:=(.mk:PY (t83 D n) D n 135 Tryz.f135 h135 [] 0).1
@[irreducible] def f135j1:=(.mk:PY (t83 D n) D n 135 Tryz.f135 h135 [f135j0 D n] 1).1
@[irreducible] def f135:=(.mk:FY (t83 D n) D n 135 Tryz.f135 h135 [f135j0 D n,f135j1 D n]).1
def t84:=ad (t83 D n) 135 (f135 D n)
theorem k84:KO t84:=kk k83 (ms h135) Tryz.func135
def h103:Hint:=(.s .o (.s .o (.s (.s .o (.b [4,0,3] (.l [1,0,3,9,10,11] (.s .o (.s (.cr .o .o) (.s (.b0 (.s .o (.s .o (.s .o (.c [0,0,3,9,10,11] .o .o))))) .o)))))) (.s .o (.s (.s .o (.b [3,6] (.l [2,6,25,26,27] (.s .o (.s (.cr .o .o) (.s (.b0 Hr) .o)))))) Hr)))))
@[irreducible] def f103j0:=(.mk:PY (t84 D n) D n 103 Tryz.f103 h103 [] 0).1
@[irreducible] def f103l1:=(.mk:PY (t84 D n) D n 103 Tryz.f103 h103 [f103j0 D n] 1).1
@[irreducible] def f103l2:=(.mk:PY (t84 D n) D n 103 Tryz.f103 h103 [f103j0 D n,f103l1 D n] 2).1
@[irreducible] def f103b3:=(.mk:PY (t84 D n) D n 103 Tryz.f103 h103 [f103j0 D n,f103l1 D n,f103l2 D n] 3).1
@[irreducible] def f103b4:=(.mk:PY (t84 D n) D n 103 Tryz.f103 h103 [f103j0 D n,f103l1 D n,f103l2 D n,f103b3 D n] 4).1
@[irreducible] def f103:=(.mk:FY (t84 D n) D n 103 Tryz.f103 h103 [f103j0 D n,f103l1 D n,f103l2 D n,f103b3 D n,f103b4 D n]).1
def t85:=ad (t84 D n) 103 (f103 D n)
theorem k85:KO t85:=kk k84 (ms h103) Tryz.func103
def h101:Hint:=(.s .o (.s Hq (.s (.s .o (.cl (.s (.c [5,31,11,2047,13,8191] (.l [0,1,2,3,4,6,7,8,9,10,5,11,12,13,14] .o) .o) .o) .o)) (.s (.c [7,127,13,8191,15,32767] (.l [0,1,2,3,4,5,6,8,9,10,11,12,7,13,14,15,16] .o) .o) .o))))
@[irreducible] def f101:=(.mk:FY (t85 D n) D n 101 Tryz.f101 h101 []).1
def t86:=ad (t85 D n) 101 (f101 D n)
theorem k86:KO t86:=kk k85 (ms h101) Tryz.func101
def h70:Hint:=(.s .o (.s .o (.s (.s .o (.c [2,0,5,7,8,10,11] (.s .o (.s (.s .o (.c [1,0,2,5,7,8,12] .o .o)) (.s (.c [9,511,14,12287] (.l [0,1,2,3,4,5,6,7,8,13,9,10,11,12,14,15] .o) .o) (.s Hq (.s .o (.s .o (.s (.s .o (.c [0,0,5,7,8,10,11,14] (.b [7,127,11,1023] .o) (.b [7,127,11,1023] .o))) Hq))))))) .o)) (.s .o (.s Hq (.s (.c [12,4095,20,794623,26,67108863,28,268435455] (.l [0,1,2,3,4,5,6,7,8,9,10,11,13,14,15,16,17,18,19,21,22,23,24,12,20,25,26,27,28,29] .o) .o) .o))))))
@[irreducible] def f70j0:=(.mk:PY (t86 D n) D n 70 Tryz.f70 h70 [] 0).1
@[irreducible] def f70j1:=(.mk:PY (t86 D n) D n 70 Tryz.f70 h70 [f70j0 D n] 1).1
@[irreducible] def f70j2:=(.mk:PY (t86 D n) D n 70 Tryz.f70 h70 [f70j0 D n,f70j1 D n] 2).1
@[irreducible] def f70:=(.mk:FY (t86 D n) D n 70 Tryz.f70 h70 [f70j0 D n,f70j1 D n,f70j2 D n]).1
theorem f70_ok (a:DG H)(n:Nat):FI 70 (f70 H n):=fk n (ms h70) a (k86 a n) Tryz.func70
def t87:=ad (t86 D n) 70 (f70 D n)
theorem k87:KO t87:=kc k86 f70_ok
def s66:Tb:=⟨X,[(67,f67 D n),(68,f68 D n),(69,f69 D n),(70,f70 D n),(71,f71 D n)]⟩
def h66:Hint:=(.s .o (.s (.s .o (.s (.b [2,2] .o) (.cl Hr .o))) (.s .o (.s Hq (.s (.s .o (.c [1,6,7,8,10,11] .o (.s .o (.s .o (.s (.b [6,63,10,511] .o) (.s .o (.c [0,6,7,8,10,11] .o .o))))))) (.s Hq (.s .o Hr)))))))
@[irreducible] def f66j0:=(.mk:PY (s66 D n) D n 66 Tryz.f66 h66 [] 0).1
@[irreducible] def f66j1:=(.mk:PY (s66 D n) D n 66 Tryz.f66 h66 [f66j0 D n] 1).1
@[irreducible] def f66:=(.mk:FY (s66 D n) D n 66 Tryz.f66 h66 [f66j0 D n,f66j1 D n]).1
theorem f66_ok (a:DG H)(n:Nat):FI 66 (f66 H n):=fk n (ms h66) a (sc (f67_ok a n) (sc (f68_ok a n) (sc (f69_ok a n) (sc (f70_ok a n) (sc (f71_ok a n) sn))))) Tryz.func66
def t88:=ad (t87 D n) 66 (f66 D n)
theorem k88:KO t88:=kc k87 f66_ok
def s32:Tb:=⟨X,[(65,f65 D n),(64,f64 D n),(72,f72 D n)]⟩
def h32:Hint:=(.s .o (.s (.b [9,511] .o) (.s (.s .o (.cl (.s .o (.s Hq (.s (.b [3,6,4,15] .o) Hr))) .o)) (.s .o (.s .o (.s .o (.s (.c [5,31,10,767] (.l [0,1,2,3,4,9,5,6,7,8,10,11] .o) .o) (.s Hq Hr))))))))
@[irreducible] def f32:=(.mk:FY (s32 D n) D n 32 Tryz.f32 h32 []).1
theorem f32_ok (a:DG H)(n:Nat):FI 32 (f32 H n):=fk n (ms h32) a (sc (f65_ok a n) (sc (f64_ok a n) (sc (f72_ok a n) sn))) Tryz.func32
def t89:=ad (t88 D n) 32 (f32 D n)
theorem k89:KO t89:=kc k88 f32_ok
def h76:Hint:=(.s .o (.s .o (.s .o (.s Hq (.s .o (.s Hq (.s (.s .o (.cl (.s .o (.s .o (.s (.b [8,255] .o) Hr))) .o)) (.s .o (.s (.s .o (.cl (.s (.b [8,255] .o) (.s .o Hr)) .o)) (.s .o (.s .o Hr)))))))))))
@[irreducible] def f76:=(.mk:FY (t89 D n) D n 76 Tryz.f76 h76 []).1
theorem f76_ok (a:DG H)(n:Nat):FI 76 (f76 H n):=fk n (ms h76) a (k89 a n) Tryz.func76
def t90:=ad (t89 D n) 76 (f76 D n)
theorem k90:KO t90:=kc k89 f76_ok
def m76 (D:Dyn)(n:Nat)(vs:List AV)(H:AH):Option (AV×AH):=insK (f76 D n) vs H
theorem m76_ok (a:DG H)(n:Nat):FI 76 (m76 H n):=insK_ok (by kernel_rfl) (f76_ok a n)
def t91:=ad (t90 D n) 76 (m76 D n)
theorem k91:KO t91:=kc k90 m76_ok
attribute [local irreducible] m76
def h34:Hint:=(.s .o (.s Hq (.s (.c [2,3,5,31,8,255] (.l [0,1,3,4,7,2,5,6,8] .o) .o) (.s .o (.s (.s .o (.cl (.s .o Hr) .o)) (.s .o (.s .o Hr)))))))
@[irreducible] def f34:=(.mk:FY (t91 D n) D n 34 Tryz.f34 h34 []).1
def t92:=ad (t91 D n) 34 (f34 D n)
theorem k92:KO t92:=kk k91 (ms h34) Tryz.func34
def h33:Hint:=(.s .o Hr)
@[irreducible] def f33:=(.mk:FY (t92 D n) D n 33 Tryz.f33 h33 []).1
def t93:=ad (t92 D n) 33 (f33 D n)
theorem k93:KO t93:=kk k92 (ms h33) Tryz.func33
def h9:Hint:=(.s .o (.s Hq (.s Hq Hr)))
@[irreducible] def f9:=(.mk:FY (t93 D n) D n 9 Tryz.f9 h9 []).1
theorem f9_ok (a:DG H)(n:Nat):FI 9 (f9 H n):=fk n (ms h9) a (k93 a n) Tryz.func9
def t94:=ad (t93 D n) 9 (f9 D n)
theorem k94:KO t94:=kc k93 f9_ok
def h77:Hint:=(.s .o (.s Hq Hr))
@[irreducible] def f77:=(.mk:FY (t94 D n) D n 77 Tryz.f77 h77 []).1
theorem f77_ok (a:DG H)(n:Nat):FI 77 (f77 H n):=fk n (ms h77) a (k94 a n) Tryz.func77
def t95:=ad (t94 D n) 77 (f77 D n)
theorem k95:KO t95:=kc k94 f77_ok
def m77 (D:Dyn)(n:Nat)(vs:List AV)(H:AH):Option (AV×AH):=clnK (f77 D n) vs H
theorem m77_ok (a:DG H)(n:Nat):FI 77 (m77 H n):=clnK_ok ⟨_,Tryz.func77,rfl⟩ (AnyW.maps_Clone Tryz.clone77) (f77_ok a n)
def t96:=ad (t95 D n) 77 (m77 D n)
theorem k96:KO t96:=kc k95 m77_ok
attribute [local irreducible] m77
def h35:Hint:=(.s .o (.s Hq (.s .o (.s .o (.s .o Hr)))))
@[irreducible] def f35:=(.mk:FY (t96 D n) D n 35 Tryz.f35 h35 []).1
def t97:=ad (t96 D n) 35 (f35 D n)
theorem k97:KO t97:=kk k96 (ms h35) Tryz.func35
@[irreducible] def f36 (D:Dyn)(n:Nat)(vs:List AV)(H:AH):Option (AV×AH):=
 outR (hd vs fun a vs=>nl vs <|
 bV (cmpO .eql (eqP a .nP)) fun i=>
 cnd i (bV (some .nP) fun j=>some (.ret j,H))
 (bV (pNil a) fun x7=>
 bV (ldN 8198 x7 H) fun m=>
 bA (bxV 137 (.agg ([(.int .i64 (.ofNat 0)),(.int .i64 (.ofNat 0))]++rep 8192 [(.int .u8 (.ofNat 0))]++[(.int .i64 (.ofNat 0)),(.int .i64 (.ofNat 0)),(.int .i64 (.ofNat 0)),(.int .i64 (.ofNat 0))]))) H fun f H=>
 bR (stN 8198 f m H) fun o H=>
 bV (some f) fun h=>some (.ret h,H)))
def h36:Hint:=(.s .o (.s Hq (.s .o Hr)))
def t98:=ad (t97 D n) 36 (f36 D n)
theorem k98:KO t98:=kk k97 h36 Tryz.func36
def h137:Hint:=Hr
@[irreducible] def f137:=(.mk:FY (t98 D n) D n 137 Tryz.f137 h137 []).1
def t99:=ad (t98 D n) 137 (f137 D n)
theorem k99:KO t99:=kk k98 (ms h137) Tryz.func137
def h138:Hint:=(.s .o (.s .o (.s (.s .o (.c [0,2,4] .o .o)) .o)))
@[irreducible] def f138j0:=(.mk:PY (t99 D n) D n 138 Tryz.f138 h138 [] 0).1
@[irreducible] def f138:=(.mk:FY (t99 D n) D n 138 Tryz.f138 h138 [f138j0 D n]).1
def t100:=ad (t99 D n) 138 (f138 D n)
theorem k100:KO t100:=kk k99 (ms h138) Tryz.func138
def s108:Tb:=⟨X,[(73,f73 D n),(100,f100 D n)]⟩
def h108:Hint:=(.s .o (.s Hq (.s Hq (.s .o (.s .o (.s .o (.s .o (.s (.s .o (.c [3,1,4,5,6,7] .o .o)) (.s (.s .o (.b [2,4,5] (.l [1,1,4,5,6,7,38,39,40] (.s .o (.s (.cr .o .o) (.s (.b0 (.s .o (.s .o (.s .o (.c [0,1,4,5,6,7,38,39,40] .o .o))))) .o)))))) (.s (.s .o (.cl (.s (.b [] .o) .o) .o)) Hr))))))))))
@[irreducible] def f108j0:=(.mk:PY (s108 D n) D n 108 Tryz.f108 h108 [] 0).1
@[irreducible] def f108l1:=(.mk:PY (s108 D n) D n 108 Tryz.f108 h108 [f108j0 D n] 1).1
@[irreducible] def f108b2:=(.mk:PY (s108 D n) D n 108 Tryz.f108 h108 [f108j0 D n,f108l1 D n] 2).1
@[irreducible] def f108j3:=(.mk:PY (s108 D n) D n 108 Tryz.f108 h108 [f108j0 D n,f108l1 D n,f108b2 D n] 3).1
@[irreducible] def f108:=(.mk:FY (s108 D n) D n 108 Tryz.f108 h108 [f108j0 D n,f108l1 D n,f108b2 D n,f108j3 D n]).1
theorem f108_ok (a:DG H)(n:Nat):FI 108 (f108 H n):=fk n (ms h108) a (sc (f73_ok a n) (sc (f100_ok a n) sn)) Tryz.func108
def t101:=ad (t100 D n) 108 (f108 D n)
theorem k101:KO t101:=kc k100 f108_ok
def h146:Hint:=(.s (.s (.b [] .o) (.cl .o .o)) (.s .o (.b [1] (.l [0,0,1,2,5] (.s (.s .o (.cr .o .o)) (.s (.b0 (.s (.b [11,2047] .o) (.cl .o .o))) .o))))))
@[irreducible] def f146l0:=(.mk:PY ⟨X,[]⟩ D n 146 Tryz.f146 h146 [] 0).1
@[irreducible] def f146b1:=(.mk:PY ⟨X,[]⟩ D n 146 Tryz.f146 h146 [f146l0 D n] 1).1
@[irreducible] def f146:=(.mk:FY ⟨X,[]⟩ D n 146 Tryz.f146 h146 [f146l0 D n,f146b1 D n]).1
theorem f146_ok (a:DG H)(n:Nat):FI 146 (f146 H n):=fk n (ms h146) a sn Tryz.func146
def t102:=ad (t101 D n) 146 (f146 D n)
theorem k102:KO t102:=kc k101 f146_ok
def h113:Hint:=(.s .o Hr)
@[irreducible] def f113:=(.mk:FY (t102 D n) D n 113 Tryz.f113 h113 []).1
theorem f113_ok (a:DG H)(n:Nat):FI 113 (f113 H n):=fk n (ms h113) a (k102 a n) Tryz.func113
def t103:=ad (t102 D n) 113 (f113 D n)
theorem k103:KO t103:=kc k102 f113_ok
def s139:Tb:=⟨X,[(113,f113 D n),(86,f86 D n)]⟩
def h139:Hint:=(.s .o (.s Hq (.s (.s .o (.b [1,2,3] (.l [0,1,2,3,13,14] (.s .o (.s (.cr .o .o) (.s (.b0 (.s .o (.s .o (.b0 (.rf 0 [1,2,3]))))) .o)))))) Hr)))
@[irreducible] def f139l0:=(.mk:PY (s139 D n) D n 139 Tryz.f139 h139 [] 0).1
@[irreducible] def f139b1:=(.mk:PY (s139 D n) D n 139 Tryz.f139 h139 [f139l0 D n] 1).1
@[irreducible] def f139:=(.mk:FY (s139 D n) D n 139 Tryz.f139 h139 [f139l0 D n,f139b1 D n]).1
theorem f139_ok (a:DG H)(n:Nat):FI 139 (f139 H n):=fk n (ms h139) a (sc (f113_ok a n) (sc (f86_ok a n) sn)) Tryz.func139
def t104:=ad (t103 D n) 139 (f139 D n)
theorem k104:KO t104:=kc k103 f139_ok
def r139_0a:Hint:= .o
def r139_0b:Hint:=(.b0 (.s .o (.s .o (.s .o .o))))
@[irreducible] def r139_0:=(.mk:RY (s139 D n) D n 139 0 [1,2,3] [0] r139_0a r139_0b []).1
theorem r139_0_eq (D:Dyn)(n:Nat):r139_0 D n=rndK (s139 D n) D n 139 0 [1,2,3] [0] (ms r139_0a) (ms r139_0b):=by kernel_rfl
theorem r139_0_ok (a:DG H)(n:Nat):RS 139 0 (r139_0 H n):=round_ok X_ok a (sc (f113_ok a n) (sc (f86_ok a n) sn)) (by kernel_rfl) (r139_0_eq H n)
def h140:Hint:=(.s .o (.s .o (.s Hq (.s Hq Hr))))
@[irreducible] def f140:=(.mk:FY (t104 D n) D n 140 Tryz.f140 h140 []).1
def t105:=ad (t104 D n) 140 (f140 D n)
theorem k105:KO t105:=kk k104 (ms h140) Tryz.func140
def s110:Tb:=⟨X,[(139,f139 D n),(118,f118 D n),(140,f140 D n)]⟩
@[irreducible] def f110 (D:Dyn)(n:Nat)(vs:List AV)(H:AH):Option (AV×AH):=
 outR (hd vs fun a vs=>hd vs fun x1 vs=>nl vs <|
 bA (bxV 144 x1) H fun h H=>
 bA (bxV 38 (.agg [(.int .i64 (.ofNat 0)),(.int .i64 (.ofNat 0)),(.int .u64 (.ofNat 0))])) H fun x4 H=>
 bV (pNil a) fun v=>
 bV (fAd 1 v) fun x=>
 bV (ld1 x H) fun y=>
 bR (f139 D n [y] H) fun i H=>
 bV (pExtract i 0) fun f=>
 bV (pExtract i 1) fun j=>
 bV (bInt .neq j (.int .i64 (.ofNat 0))) fun z=>
 cnd z (bV (bldS [(0,1),(1,1),(2,1)] [(.int .i64 (.ofNat 0)),(.int .i64 (.ofNat 0)),(.int .u64 (.ofNat 0))] []) fun C=>
 bR (stN 3 x4 C H) fun b5 H=>
 bV (ldN 3 x4 H) fun s=>bV (some j) fun x5=>some (.ret (.tuple [s,x5]),H))
 (bV (pNil a) fun F=>
 bV (fAd 4 F) fun G=>
 bV (ld1 G H) fun I=>
 bA (bldL 3 1 1 [(.int .i64 (.ofNat 0))] [(0,f)]) H fun J H=>
 bR (apP 3 1 8 I J H) fun K H=>
 bV (pNil a) fun L=>
 bV (fAd 4 L) fun M=>
 bR (stN 1 M K H) fun b1 H=>
 bV (pNil a) fun N=>
 bV (fAd 0 N) fun O=>
 bV (ld1 O H) fun Q=>
 bV (pNil Q) fun S=>
 bV (fAd 0 S) fun T=>
 bV (ld1 T H) fun U=>
 bV (ldN 512 h H) fun V=>
 bR (f118 D n [U,f,V] H) fun m H=>
 bV (bInt .neq m (.int .i64 (.ofNat 0))) fun W=>
 cnd W (bV (bldS [(0,1),(1,1),(2,1)] [(.int .i64 (.ofNat 0)),(.int .i64 (.ofNat 0)),(.int .u64 (.ofNat 0))] []) fun Y=>
 bR (stN 3 x4 Y H) fun b2 H=>
 bV (ldN 3 x4 H) fun p=>bV (some m) fun t=>some (.ret (.tuple [p,t]),H))
 (bV (pNil a) fun Z=>
 bV (fAd 5 Z) fun a0=>
 bV (ld1 a0 H) fun a1=>
 bV (ldN 512 h H) fun a2=>
 bV (bldS [(0,1),(1,512)] ([(.int .i64 (.ofNat 0))]++rep 512 [(.int .u8 (.ofNat 0))]) [(0,f),(1,a2)]) fun a3=>
 bA (bldL 146 513 1 ([(.int .i64 (.ofNat 0))]++rep 512 [(.int .u8 (.ofNat 0))]) [(0,a3)]) H fun a4 H=>
 bR (apP 146 513 520 a1 a4 H) fun a5 H=>
 bV (pNil a) fun a6=>
 bV (fAd 5 a6) fun a7=>
 bR (stN 1 a7 a5 H) fun b3 H=>
 bV (ldN 512 h H) fun a8=>
 bR (f140 D n [f,a8] H) fun o H=>
 bV (pExtract o 0) fun a9=>
 bV (pExtract o 1) fun b0=>
 bR (stN 3 x4 a9 H) fun b4 H=>
 bV (ldN 3 x4 H) fun q=>bV (some b0) fun u=>some (.ret (.tuple [q,u]),H))))
def h110:Hint:=(.s .o (.s .o (.s Hq (.s .o (.s (.s .o Hq) (.s .o Hr))))))
def t106:=ad (t105 D n) 110 (f110 D n)
theorem k106:KO t106:=kk k105 h110 Tryz.func110
def s79:Tb:=⟨X,[(68,f68 D n),(108,f108 D n),(109,f109 D n),(110,f110 D n)]⟩
@[irreducible] def f79l0 (D:Dyn)(n:Nat)(vs:List AV)(H:AH):Rs:=
 hd vs fun h vs=>hd vs fun a vs=>hd vs fun o vs=>hd vs fun i vs=>hd vs fun j vs=>hd vs fun m vs=>hd vs fun f vs=>
 bV (bInt .lss f m) fun v=>
 cnd v (bV (ixSl 3 j f) fun x=>
 bV (ldN 3 x H) fun y=>
 bA (bxV 38 (.agg [(.int .i64 (.ofNat 0)),(.int .i64 (.ofNat 0)),(.int .u64 (.ofNat 0))])) H fun p H=>
 bR (stN 3 p y H) fun K H=>
 bV (ldN 3 p H) fun z=>
 bR (D.fn 79 [h,z] H) fun q H=>
 bV (pExtract q 0) fun C=>
 bV (pExtract q 1) fun s=>
 bV (ixSl 3 i f) fun F=>
 bR (stN 3 F C H) fun L H=>
 bV (bInt .neq s (.int .i64 (.ofNat 0))) fun G=>
 cnd G (bV (bldS [(0,1),(1,1),(2,1)] [(.int .i64 (.ofNat 0)),(.int .i64 (.ofNat 0)),(.int .u64 (.ofNat 0))] []) fun I=>
 bR (stN 3 a I H) fun M H=>
 bV (ldN 3 a H) fun t=>bV (some s) fun u=>some (.ret (.tuple [t,u]),H))
 (bV (bInt .add f (.int .i64 (.ofNat 1))) fun J=>
 some (.norm [h,a,o,i,j,m,J],H)))
 (some (.exit 0 [h,a,o,i],H))
@[irreducible] def f79j1 (D:Dyn)(n:Nat)(vs:List AV)(H:AH):Rs:=
 hd vs fun f vs=>hd vs fun a vs=>hd vs fun u vs=>hd vs fun F vs=>
 bV (ldN 4 u H) fun G=>
 bR (f108 D n [G] H) fun h H=>
 bV (pExtract h 0) fun I=>
 bV (pExtract h 1) fun i=>
 bV (bInt .neq i (.int .i64 (.ofNat 0))) fun J=>
 cnd J (bV (bldS [(0,1),(1,1),(2,1)] [(.int .i64 (.ofNat 0)),(.int .i64 (.ofNat 0)),(.int .u64 (.ofNat 0))] []) fun K=>
 bR (stN 3 a K H) fun U H=>
 bV (ldN 3 a H) fun q=>bV (some i) fun v=>some (.ret (.tuple [q,v]),H))
 (bV (pNil f) fun L=>
 bV (fAd 2 L) fun M=>
 bV (ld1 M H) fun N=>
 bR (f109 D n [F,N,I] H) fun j H=>
 bV (pExtract j 0) fun O=>
 bV (pExtract j 1) fun m=>
 bA (bxV 144 (.agg (rep 512 [(.int .u8 (.ofNat 0))]))) H fun o H=>
 bR (stN 512 o O H) fun V H=>
 bV (bInt .neq m (.int .i64 (.ofNat 0))) fun Q=>
 cnd Q (bV (bldS [(0,1),(1,1),(2,1)] [(.int .i64 (.ofNat 0)),(.int .i64 (.ofNat 0)),(.int .u64 (.ofNat 0))] []) fun S=>
 bR (stN 3 a S H) fun W H=>
 bV (ldN 3 a H) fun s=>bV (some m) fun x=>some (.ret (.tuple [s,x]),H))
 (bV (ldN 512 o H) fun T=>
 bR (f110 D n [f,T] H) fun p H=>
 bV (pExtract p 0) fun y=>
 bV (pExtract p 1) fun z=>
 bR (stN 3 a y H) fun Y H=>
 bV (ldN 3 a H) fun t=>bV (some z) fun C=>some (.ret (.tuple [t,C]),H)))
@[irreducible] def f79b2 (D:Dyn)(n:Nat)(vs:List AV)(H:AH):Rs:=
 hd vs fun f vs=>hd vs fun h vs=>hd vs fun a vs=>hd vs fun i vs=>
 bV (fAd 3 a) fun j=>
 bR (stN 1 j i H) fun p H=>
 bV (fAd 0 a) fun m=>
 bV (ld1 m H) fun o=>
 jn (cnd o (some (.norm [f,h,a,(.int .u8 (.ofNat 1))],H))
 (some (.norm [f,h,a,(.int .u8 (.ofNat 2))],H))) (f79j1 D n)
@[irreducible] def f79 (D:Dyn)(n:Nat)(vs:List AV)(H:AH):Option (AV×AH):=
 outR (hd vs fun a vs=>hd vs fun x1 vs=>nl vs <|
 bA (bxV 38 x1) H fun f H=>
 bA (bxV 38 (.agg [(.int .i64 (.ofNat 0)),(.int .i64 (.ofNat 0)),(.int .u64 (.ofNat 0))])) H fun x4 H=>
 bV (fAd 0 f) fun u=>
 bV (ld1 u H) fun v=>
 bV (bInt .neq v (.int .i64 (.ofNat 1))) fun x=>
 cnd x (bV (ldN 3 f H) fun y=>
 bR (stN 3 x4 y H) fun a8 H=>
 bV (ldN 3 x4 H) fun q=>bV (some (.int .i64 (.ofNat 0))) fun x5=>some (.ret (.tuple [q,x5]),H))
 (bV (pNil a) fun z=>
 bV (fAd 3 z) fun C=>
 bV (ld1 C H) fun F=>
 bV (bInt .sub F (.int .i64 (.ofNat 1))) fun G=>
 bV (pNil a) fun I=>
 bV (fAd 3 I) fun J=>
 bR (stN 1 J G H) fun a4 H=>
 bV (pNil a) fun K=>
 bV (fAd 3 K) fun L=>
 bV (ld1 L H) fun M=>
 bV (bInt .lss M (.int .i64 (.ofNat 0))) fun N=>
 cnd N (bV (bldS [(0,1),(1,1),(2,1)] [(.int .i64 (.ofNat 0)),(.int .i64 (.ofNat 0)),(.int .u64 (.ofNat 0))] []) fun O=>
 bR (stN 3 x4 O H) fun a5 H=>
 bV (ldN 3 x4 H) fun o=>bV (some (.int .i64 (.ofNat 4))) fun s=>some (.ret (.tuple [o,s]),H))
 (bV (pNil a) fun Q=>
 bV (fAd 0 Q) fun S=>
 bV (ld1 S H) fun T=>
 bV (ldN 3 f H) fun U=>
 bA (bxV 72 (.agg [(.bool false), .nS, .nS, .nS])) H fun x6 H=>
 bR (f68 D n [T,U] H) fun h H=>
 bV (pExtract h 0) fun V=>
 bV (pExtract h 1) fun i=>
 bR (stN 4 x6 V H) fun a6 H=>
 bV (bInt .neq i (.int .i64 (.ofNat 0))) fun W=>
 cnd W (bV (bldS [(0,1),(1,1),(2,1)] [(.int .i64 (.ofNat 0)),(.int .i64 (.ofNat 0)),(.int .u64 (.ofNat 0))] []) fun Y=>
 bR (stN 3 x4 Y H) fun a7 H=>
 bV (ldN 3 x4 H) fun p=>bV (some i) fun t=>some (.ret (.tuple [p,t]),H))
 (bV (fAd 3 x6) fun Z=>
 bV (ld1 Z H) fun a0=>
 bV (lnSl a0) fun j=>
 bA (mkSl 38 3 24 [(.int .i64 (.ofNat 0)),(.int .i64 (.ofNat 0)),(.int .u64 (.ofNat 0))] j j) H fun a1 H=>
 bV (fAd 3 x6) fun a2=>
 bV (ld1 a2 H) fun m=>
 bV (lnSl m) fun a3=>
 jb 0 (loopK n (f79l0 D n) [a,x4,x6,a1,m,a3,(.int .i64 (.ofNat 0))] H) (f79b2 D n)))))
def h79:Hint:=(.s .o (.s Hq (.s (.s .o Hq) (.s .o (.s Hq (.s .o (.s (.s .o (.b [0,4,6,8] (.l [0,4,6,8,49,50,51] (.s .o (.s (.cr .o .o) (.s (.b0 (.s .o (.s .o Hq))) .o)))))) (.s .o (.s .o (.s (.s .o (.c [0,4,6,11] .o .o)) (.s .o (.s Hq (.s .o (.s Hq Hr))))))))))))))
def t107:=ad (t106 D n) 79 (f79 D n)
theorem k107:KO t107:=kk k106 h79 Tryz.func79
end Go.Eng.Sh
end
end
section
noncomputable section
namespace Go.Eng.Sh
open Go.Proofs
set_option maxRecDepth 100000
variable (D:Dyn)(n:Nat)
attribute [local irreducible] bV bR hd cnd jn jb loopK wnt chk newB bA bInt bStr bBool cmpO eqP eqS eqM eqF eqA eqPL ldN ld1 stN cvI cvSS cvBS cvSB slStr slSl slArr ixArr ixSl ixStr ixAg1 ixAgN fd1 fdN fAd lnStr lnSl lnMap apP apZ cpy bldS bldA pk3 s2a bxV bldL mkSl lkM upM dlM mkM clM callV nl outR tld endQ beginK endR endLp jmpK rfC mn2 mx2 aun pExtract pNil undefA isW aveq mt64_0 m76 m77
def s37:Tb:=⟨X,[(31,f31 D n),(43,f43 D n),(79,f79 D n)]⟩
@[irreducible] def f37l0 (D:Dyn)(n:Nat)(vs:List AV)(H:AH):Rs:=
 hd vs fun i vs=>hd vs fun j vs=>hd vs fun m vs=>hd vs fun f vs=>hd vs fun h vs=>hd vs fun a vs=>
 bV (bInt .lss a h) fun o=>
 cnd o (bV (ixSl 1 f a) fun p=>
 bV (ld1 p H) fun q=>
 bR (D.fn 52 [i,q] H) fun t H=>
 bV (bInt .add a (.int .i64 (.ofNat 1))) fun s=>
 some (.norm [i,j,m,f,h,s],H))
 (some (.exit 0 [j,m],H))
@[irreducible] def f37b1 (D:Dyn)(n:Nat)(vs:List AV)(H:AH):Rs:=
 hd vs fun a vs=>hd vs fun h vs=>
 bV (bldS [(0,1),(1,1),(2,1)] [(.int .i64 (.ofNat 0)),(.int .i64 (.ofNat 0)),(.int .u64 (.ofNat 0))] []) fun m=>
 bR (stN 3 a m H) fun o H=>
 bV (ldN 3 a H) fun f=>bV (some .nS) fun i=>bV (some h) fun j=>some (.ret (.tuple [f,i,j]),H)
@[irreducible] def f37l2 (D:Dyn)(n:Nat)(vs:List AV)(H:AH):Rs:=
 hd vs fun a vs=>hd vs fun o vs=>hd vs fun i vs=>hd vs fun j vs=>hd vs fun m vs=>hd vs fun f vs=>
 bV (bInt .lss f m) fun p=>
 cnd p (bV (ixSl 513 j f) fun q=>
 bV (ldN 513 q H) fun s=>
 bA (bxV 146 (.agg ([(.int .i64 (.ofNat 0))]++rep 512 [(.int .u8 (.ofNat 0))]))) H fun h H=>
 bR (stN 513 h s H) fun G H=>
 bV (pNil a) fun t=>
 bV (fAd 1 t) fun u=>
 bV (ld1 u H) fun v=>
 bV (fAd 0 h) fun x=>
 bV (ld1 x H) fun y=>
 bV (fAd 1 h) fun z=>
 bV (ldN 512 z H) fun C=>
 bR (D.fn 80 [v,y,C] H) fun I H=>
 bV (bInt .add f (.int .i64 (.ofNat 1))) fun F=>
 some (.norm [a,o,i,j,m,F],H))
 (some (.exit 2 [a,o,i],H))
@[irreducible] def f37b3 (D:Dyn)(n:Nat)(vs:List AV)(H:AH):Rs:=
 hd vs fun f vs=>hd vs fun h vs=>hd vs fun a vs=>
 some (.norm [f,h,a],H)
@[irreducible] def f37j4 (D:Dyn)(n:Nat)(vs:List AV)(H:AH):Rs:=
 hd vs fun a vs=>hd vs fun h vs=>hd vs fun f vs=>
 bV (pNil a) fun j=>
 bV (fAd 7 j) fun m=>
 bV (ld1 m H) fun o=>
 bV (ldN 3 f H) fun p=>
 bV (pNil a) fun q=>
 bV (fAd 2 q) fun s=>
 bR (stN 3 s p H) fun I H=>
 bV (pNil a) fun t=>
 bV (fAd 7 t) fun u=>
 bR (stN 1 u .nS H) fun J H=>
 bA (mkM [10]) H fun v H=>
 bV (pNil a) fun x=>
 bV (fAd 5 x) fun y=>
 bR (stN 1 y v H) fun K H=>
 bV (ldN 3 f H) fun z=>
 bR (stN 3 h z H) fun G H=>
 bV (ldN 3 h H) fun i=>bV (some o) fun C=>bV (some (.int .i64 (.ofNat 0))) fun F=>some (.ret (.tuple [i,C,F]),H)
@[irreducible] def f37 (D:Dyn)(n:Nat)(vs:List AV)(H:AH):Option (AV×AH):=
 outR (hd vs fun a vs=>hd vs fun f vs=>hd vs fun j vs=>nl vs <|
 bA (bxV 38 (.agg [(.int .i64 (.ofNat 0)),(.int .i64 (.ofNat 0)),(.int .u64 (.ofNat 0))])) H fun x6 H=>
 bR (f31 D n [a] H) fun m H=>
 jn (wnt m false (bV (cmpO .eql (eqP f .nP)) fun L=>
 some (.norm [L],H)) (some (.norm [undefA],H))) fun vs H=>hd vs fun z vs=>
 bV (pk3 (some m) (some (.bool true)) (some z)) fun M=>
 cnd M (bV (bldS [(0,1),(1,1),(2,1)] [(.int .i64 (.ofNat 0)),(.int .i64 (.ofNat 0)),(.int .u64 (.ofNat 0))] []) fun N=>
 bR (stN 3 x6 N H) fun c2 H=>
 bV (ldN 3 x6 H) fun C=>bV (some .nS) fun x7=>bV (some (.int .i64 (.ofNat 2))) fun x8=>some (.ret (.tuple [C,x7,x8]),H))
 (bV (bInt .lss j (.int .i64 (.ofNat 1))) fun o=>
 jn (wnt o false (bV (bInt .gtr j (.int .i64 (.ofNat 2147483647))) fun O=>
 some (.norm [O],H)) (some (.norm [undefA],H))) fun vs H=>hd vs fun F vs=>
 bV (pk3 (some o) (some (.bool true)) (some F)) fun Q=>
 cnd Q (bV (bldS [(0,1),(1,1),(2,1)] [(.int .i64 (.ofNat 0)),(.int .i64 (.ofNat 0)),(.int .u64 (.ofNat 0))] []) fun S=>
 bR (stN 3 x6 S H) fun b9 H=>
 bV (ldN 3 x6 H) fun x=>bV (some .nS) fun G=>bV (some (.int .i64 (.ofNat 1))) fun I=>some (.ret (.tuple [x,G,I]),H))
 (bV (pNil a) fun T=>
 bV (fAd 5 T) fun p=>
 bV (ld1 p H) fun q=>
 bR (f43 D n [f] H) fun U H=>chk (ld1 p H) q <|
 bV (lnMap q H) fun V=>
 bV (bInt .lss U V) fun W=>
 cnd W (bV (bldS [(0,1),(1,1),(2,1)] [(.int .i64 (.ofNat 0)),(.int .i64 (.ofNat 0)),(.int .u64 (.ofNat 0))] []) fun Y=>
 bR (stN 3 x6 Y H) fun c0 H=>
 bV (ldN 3 x6 H) fun y=>bV (some .nS) fun J=>bV (some (.int .i64 (.ofNat 3))) fun K=>some (.ret (.tuple [y,J,K]),H))
 (bV (pNil a) fun Z=>
 bV (fAd 5 Z) fun a0=>
 bV (ld1 a0 H) fun a1=>
 bV (lnMap a1 H) fun a2=>
 bV (bldS [(0,1),(1,1),(2,1),(3,1),(4,1),(5,1)] [.nP, .nP,(.int .i64 (.ofNat 0)),(.int .i64 (.ofNat 0)), .nS, .nS] [(0,a),(1,f),(2,j),(3,a2)]) fun a3=>
 bA (bxV 141 a3) H fun h H=>
 bV (pNil a) fun a4=>
 bV (fAd 2 a4) fun a5=>
 bV (ldN 3 a5 H) fun a6=>
 bR (f79 D n [h,a6] H) fun s H=>
 bV (pExtract s 0) fun a7=>
 bV (pExtract s 1) fun t=>
 bA (bxV 38 (.agg [(.int .i64 (.ofNat 0)),(.int .i64 (.ofNat 0)),(.int .u64 (.ofNat 0))])) H fun i H=>
 bR (stN 3 i a7 H) fun c1 H=>
 bV (bInt .neq t (.int .i64 (.ofNat 0))) fun a8=>
 cnd a8 (bV (pNil h) fun a9=>
 bV (fAd 4 a9) fun b0=>
 bV (ld1 b0 H) fun u=>
 bV (lnSl u) fun b1=>
 jb 0 (loopK n (f37l0 D n) [f,x6,t,u,b1,(.int .i64 (.ofNat 0))] H) (f37b1 D n))
 (bV (pNil a) fun b2=>
 bV (fAd 1 b2) fun b3=>
 bV (ld1 b3 H) fun b4=>
 bV (cmpO .neq (eqP b4 .nP)) fun b5=>
 jn (cnd b5 (bV (pNil h) fun b6=>
 bV (fAd 5 b6) fun b7=>
 bV (ld1 b7 H) fun v=>
 bV (lnSl v) fun b8=>
 jb 2 (loopK n (f37l2 D n) [a,x6,i,v,b8,(.int .i64 (.ofNat 0))] H) (f37b3 D n))
 (some (.norm [a,x6,i],H))) (f37j4 D n))))))
def h37:Hint:=(.s .o (.s Hq (.s Hq (.s Hq (.s .o (.s .o (.s (.s .o (.cl (.s (.s .o (.b [6,11] (.l [1,6,11,64,65,66] (.s .o (.s (.cr .o .o) (.s (.b0 Hr) .o)))))) Hr) .o)) (.s (.s .o (.c [0,6,10] (.s .o (.b [0,6,10] (.l [0,6,10,84,85,86] (.s .o (.s (.cr .o .o) (.s (.b0 Hr) .o)))))) .o)) (.s .o (.s .o (.s .o Hr)))))))))))
def t108:=ad (t107 D n) 37 (f37 D n)
theorem k108:KO t108:=kk k107 h37 Tryz.func37
def h38:Hint:=(.s .o (.s (.s .o Hq) (.s (.s (.b [14,16383] .o) Hq) Hr)))
@[irreducible] def f38:=(.mk:FY (t108 D n) D n 38 Tryz.f38 h38 []).1
def t109:=ad (t108 D n) 38 (f38 D n)
theorem k109:KO t109:=kk k108 (ms h38) Tryz.func38
def s81:Tb:=⟨X,[(113,f113 D n),(86,f86 D n)]⟩
def h81:Hint:=(.s .o (.s .o (.b0 (.rf 0 [3,5]))))
@[irreducible] def f81:=(.mk:FY (s81 D n) D n 81 Tryz.f81 h81 []).1
theorem f81_ok (a:DG H)(n:Nat):FI 81 (f81 H n):=fk n (ms h81) a (sc (f113_ok a n) (sc (f86_ok a n) sn)) Tryz.func81
def t110:=ad (t109 D n) 81 (f81 D n)
theorem k110:KO t110:=kc k109 f81_ok
def r81_0a:Hint:= .o
def r81_0b:Hint:=(.b0 .o)
@[irreducible] def r81_0:=(.mk:RY (s81 D n) D n 81 0 [3,5] [] r81_0a r81_0b []).1
theorem r81_0_eq (D:Dyn)(n:Nat):r81_0 D n=rndK (s81 D n) D n 81 0 [3,5] [] (ms r81_0a) (ms r81_0b):=by kernel_rfl
theorem r81_0_ok (a:DG H)(n:Nat):RS 81 0 (r81_0 H n):=round_ok X_ok a (sc (f113_ok a n) (sc (f86_ok a n) sn)) (by kernel_rfl) (r81_0_eq H n)
def h40:Hint:=(.s .o (.c [0] Hr .o))
@[irreducible] def f40j0:=(.mk:PY (t110 D n) D n 40 Tryz.f40 h40 [] 0).1
@[irreducible] def f40:=(.mk:FY (t110 D n) D n 40 Tryz.f40 h40 [f40j0 D n]).1
def t111:=ad (t110 D n) 40 (f40 D n)
theorem k111:KO t111:=kk k110 (ms h40) Tryz.func40
def h42:Hint:=(.s .o Hr)
@[irreducible] def f42:=(.mk:FY (t111 D n) D n 42 Tryz.f42 h42 []).1
def t112:=ad (t111 D n) 42 (f42 D n)
theorem k112:KO t112:=kk k111 (ms h42) Tryz.func42
def h10:Hint:=(.s .o (.s Hq (.s Hq (.s (.c [4,15,9,511] (.l [0,1,2,3,5,6,7,8,4,9,10,11] .o) .o) (.s (.c [13,8191,19,327679] (.l [0,1,2,3,4,5,6,7,8,9,10,11,12,18,13,14,15,16,17,19,20,21] .o) .o) (.s Hq (.s (.s .o (.s .o (.cl (.s (.b [8,255] .o) (.s .o Hr)) .o))) (.s .o (.s (.s .o (.b [4,0,6,7] (.l [1,0,5,6,7,78,79] (.s .o (.s (.cr .o .o) (.s (.b0 (.s .o (.s .o (.c [0,0,5,6,7,78,79] .o .o)))) .o)))))) (.s (.s .o (.b [3,0,6,7] (.l [2,0,6,7,101,102,103] (.s .o (.s (.cr .o .o) (.s (.b0 (.s .o (.b [6,63] .o))) .o)))))) (.s .o (.s .o Hr))))))))))))
@[irreducible] def f10j0:=(.mk:PY (t112 D n) D n 10 Tryz.f10 h10 [] 0).1
@[irreducible] def f10l1:=(.mk:PY (t112 D n) D n 10 Tryz.f10 h10 [f10j0 D n] 1).1
@[irreducible] def f10l2:=(.mk:PY (t112 D n) D n 10 Tryz.f10 h10 [f10j0 D n,f10l1 D n] 2).1
@[irreducible] def f10b3:=(.mk:PY (t112 D n) D n 10 Tryz.f10 h10 [f10j0 D n,f10l1 D n,f10l2 D n] 3).1
@[irreducible] def f10b4:=(.mk:PY (t112 D n) D n 10 Tryz.f10 h10 [f10j0 D n,f10l1 D n,f10l2 D n,f10b3 D n] 4).1
@[irreducible] def f10:=(.mk:FY (t112 D n) D n 10 Tryz.f10 h10 [f10j0 D n,f10l1 D n,f10l2 D n,f10b3 D n,f10b4 D n]).1
theorem f10_ok (a:DG H)(n:Nat):FI 10 (f10 H n):=fk n (ms h10) a (k112 a n) Tryz.func10
def t113:=ad (t112 D n) 10 (f10 D n)
theorem k113:KO t113:=kc k112 f10_ok
def h15:Hint:=(.s .o (.s (.s .o Hq) (.s .o Hr)))
@[irreducible] def f15:=(.mk:FY (t113 D n) D n 15 Tryz.f15 h15 []).1
theorem f15_ok (a:DG H)(n:Nat):FI 15 (f15 H n):=fk n (ms h15) a (k113 a n) Tryz.func15
def t114:=ad (t113 D n) 15 (f15 D n)
theorem k114:KO t114:=kc k113 f15_ok
def h83:Hint:=(.s .o (.s Hq Hr))
@[irreducible] def f83:=(.mk:FY (t114 D n) D n 83 Tryz.f83 h83 []).1
theorem f83_ok (a:DG H)(n:Nat):FI 83 (f83 H n):=fk n (ms h83) a (k114 a n) Tryz.func83
def t115:=ad (t114 D n) 83 (f83 D n)
theorem k115:KO t115:=kc k114 f83_ok
def m83 (D:Dyn)(n:Nat)(vs:List AV)(H:AH):Option (AV×AH):=clnK (f83 D n) vs H
theorem m83_ok (a:DG H)(n:Nat):FI 83 (m83 H n):=clnK_ok ⟨_,Tryz.func83,rfl⟩ (AnyW.maps_Clone Tryz.clone83) (f83_ok a n)
def t116:=ad (t115 D n) 83 (m83 D n)
theorem k116:KO t116:=kc k115 m83_ok
attribute [local irreducible] m83
def h46:Hint:=(.s .o (.s Hq (.s Hq (.s (.b [8,240,9,511] .o) .o))))
@[irreducible] def f46:=(.mk:FY (t116 D n) D n 46 Tryz.f46 h46 []).1
def t117:=ad (t116 D n) 46 (f46 D n)
theorem k117:KO t117:=kk k116 (ms h46) Tryz.func46
def h16:Hint:=(.s .o (.s .o (.s Hq Hr)))
@[irreducible] def f16:=(.mk:FY (t117 D n) D n 16 Tryz.f16 h16 []).1
theorem f16_ok (a:DG H)(n:Nat):FI 16 (f16 H n):=fk n (ms h16) a (k117 a n) Tryz.func16
def t118:=ad (t117 D n) 16 (f16 D n)
theorem k118:KO t118:=kc k117 f16_ok
def h7:Hint:=(.s .o (.s .o (.s .o (.s .o (.s .o (.s Hq (.s .o (.s Hq (.s .o (.s Hq (.s .o Hr)))))))))))
@[irreducible] def f7:=(.mk:FY (t118 D n) D n 7 Tryz.f7 h7 []).1
theorem f7_ok (a:DG H)(n:Nat):FI 7 (f7 H n):=fk n (ms h7) a (k118 a n) Tryz.func7
def t119:=ad (t118 D n) 7 (f7 D n)
theorem k119:KO t119:=kc k118 f7_ok
def h11:Hint:=(.s .o (.s Hq Hr))
@[irreducible] def f11:=(.mk:FY (t119 D n) D n 11 Tryz.f11 h11 []).1
theorem f11_ok (a:DG H)(n:Nat):FI 11 (f11 H n):=fk n (ms h11) a (k119 a n) Tryz.func11
def t120:=ad (t119 D n) 11 (f11 D n)
theorem k120:KO t120:=kc k119 f11_ok
def h14:Hint:=(.s .o (.s Hq Hr))
@[irreducible] def f14:=(.mk:FY (t120 D n) D n 14 Tryz.f14 h14 []).1
theorem f14_ok (a:DG H)(n:Nat):FI 14 (f14 H n):=fk n (ms h14) a (k120 a n) Tryz.func14
def t121:=ad (t120 D n) 14 (f14 D n)
theorem k121:KO t121:=kc k120 f14_ok
def h3:Hint:=(.s .o (.s .o (.s .o (.s Hq (.s (.s .o (.b [3,1,5,6] (.l [0,0,1,5,6,7] (.s (.s .o (.cr .o .o)) (.s (.b0 (.s Hq (.c [1,1,6,63] (.l [0,2,3,4,5,1,6] .o) .o))) .o))))) (.s .o (.s Hq (.s (.s .o (.b [2,5,6] (.l [1,1,5,6,10] (.s (.s .o (.cr .o .o)) (.s (.b0 (.s .o (.s .o (.s .o (.s .o (.s (.c [9,511,15,32767,22,4194303,28,268435455,29,536870911] (.l [0,1,2,3,4,5,6,7,8,10,9,11,12,13,14,16,17,15,18,19,20,21,23,22,24,25,26,27,28,29,30,31] .o) .o) (.cl Hr .o))))))) .o))))) (.s Hq (.s .o Hr))))))))))
@[irreducible] def f3l0:=(.mk:PY (t121 D n) D n 3 Tryz.f3 h3 [] 0).1
@[irreducible] def f3l1:=(.mk:PY (t121 D n) D n 3 Tryz.f3 h3 [f3l0 D n] 1).1
@[irreducible] def f3b2:=(.mk:PY (t121 D n) D n 3 Tryz.f3 h3 [f3l0 D n,f3l1 D n] 2).1
@[irreducible] def f3b3:=(.mk:PY (t121 D n) D n 3 Tryz.f3 h3 [f3l0 D n,f3l1 D n,f3b2 D n] 3).1
@[irreducible] def f3:=(.mk:FY (t121 D n) D n 3 Tryz.f3 h3 [f3l0 D n,f3l1 D n,f3b2 D n,f3b3 D n]).1
def t122:=ad (t121 D n) 3 (f3 D n)
theorem k122:KO t122:=kk k121 (ms h3) Tryz.func3
end Go.Eng.Sh
end
end
section
noncomputable section
namespace Go.Eng.Sh
open Go.Proofs
set_option maxRecDepth 100000
def tab (D:Dyn)(n:Nat):=(t122 D n).S
def tabR (D:Dyn)(n:Nat):List ((Nat×Nat)×(Nat->ALoop->List AV->AH->Option (AV×AH))):=[((63,0),r63_0 D n),((81,0),r81_0 D n),((124,0),r124_0 D n),((139,0),r139_0 D n)]
theorem tab_ok(a:DG D):SOk (tab D n):=k122 a n
theorem tabR_ok(a:DG D):ROk (tabR D n):=ROk.cons (r63_0_ok a n) (ROk.cons (r81_0_ok a n) (ROk.cons (r124_0_ok a n) (ROk.cons (r139_0_ok a n) (ROk.nil))))
def dy (n:Nat):Dyn:=dyOf tab tabR n
theorem dy_ok (n:Nat):DG (dy n):=dyOf_ok tab_ok tabR_ok n
end Go.Eng.Sh
end
end
section
noncomputable section
namespace Go.Eng.Sh
open Go.Proofs
set_option maxRecDepth 1000000
theorem c7_r:saysT (f7 (dy 100000) 100000 [] ⟨.leaf,0⟩)=true:=by kernel_rfl
theorem c7 (w:World):Calls PP 7 #[] w fun e a=>e= .returned (.bool true)/\RowKit.Below w.heap.size w a:=calls_of (f7_ok (dy_ok 100000) 100000) c7_r w
end Go.Eng.Sh
end
end
section
noncomputable section
namespace Go.Eng.Sh
open Go.Proofs
set_option maxRecDepth 1000000
def z7 (D:Dyn)(n:Nat)(vs:List AV)(H:AH):Option (AV×AH):=cloK (f7 D n) vs H
theorem z7_ok (a:DG H)(n:Nat):FI 7 (z7 H n):=cloI_ok ⟨_,Tryz.func7,rfl⟩ c7 (f7_ok a n)
variable (D:Dyn)(n:Nat)
attribute [local irreducible] bV bR hd cnd jn jb loopK wnt chk newB bA bInt bStr bBool cmpO eqP eqS eqM eqF eqA eqPL ldN ld1 stN cvI cvSS cvBS cvSB slStr slSl slArr ixArr ixSl ixStr ixAg1 ixAgN fd1 fdN fAd lnStr lnSl lnMap apP apZ cpy bldS bldA pk3 s2a bxV bldL mkSl lkM upM dlM mkM clM callV nl outR tld endQ beginK endR endLp jmpK rfC mn2 mx2 aun pExtract pNil undefA isW aveq mt64_0 m76 m77 m83 z7
def s3z:Tb:=⟨X,[(5,f5 D n),(6,f6 D n),(7,z7 D n),(8,f8 D n),(9,f9 D n),(10,f10 D n),(11,f11 D n),(12,f12 D n),(13,f13 D n),(14,f14 D n),(15,f15 D n),(16,f16 D n)]⟩
def h3z:Hint:=(.s .o (.s .o (.s .o (.s Hq (.s (.s .o (.b [3,1,5,6] (.l [0,0,1,5,6,7] (.s (.s .o (.cr .o .o)) (.s (.b0 (.s Hq (.c [1,1,6,63] (.l [0,2,3,4,5,1,6] .o) .o))) .o))))) (.s .o (.s Hq (.s (.s .o (.b [2,5,6] (.l [1,1,5,6,10] (.s (.s .o (.cr .o .o)) (.s (.b0 (.s .o (.s .o (.s .o (.s .o (.s (.c [9,511,15,32767,22,4194303,28,268435455,29,536870911] (.l [0,1,2,3,4,5,6,7,8,10,9,11,12,13,14,16,17,15,18,19,20,21,23,22,24,25,26,27,28,29,30,31] .o) .o) (.cl Hr .o))))))) .o))))) (.s Hq (.s .o Hr))))))))))
@[irreducible] def f3zl0:=(.mk:PY (s3z D n) D n 3 Tryz.f3 h3z [] 0).1
@[irreducible] def f3zl1:=(.mk:PY (s3z D n) D n 3 Tryz.f3 h3z [f3zl0 D n] 1).1
@[irreducible] def f3zb2:=(.mk:PY (s3z D n) D n 3 Tryz.f3 h3z [f3zl0 D n,f3zl1 D n] 2).1
@[irreducible] def f3zb3:=(.mk:PY (s3z D n) D n 3 Tryz.f3 h3z [f3zl0 D n,f3zl1 D n,f3zb2 D n] 3).1
@[irreducible] def f3z:=(.mk:FY (s3z D n) D n 3 Tryz.f3 h3z [f3zl0 D n,f3zl1 D n,f3zb2 D n,f3zb3 D n]).1
theorem f3z_ok (a:DG H)(n:Nat):FI 3 (f3z H n):=fk n (ms h3z) a (sc (f5_ok a n) (sc (f6_ok a n) (sc (z7_ok a n) (sc (f8_ok a n) (sc (f9_ok a n) (sc (f10_ok a n) (sc (f11_ok a n) (sc (f12_ok a n) (sc (f13_ok a n) (sc (f14_ok a n) (sc (f15_ok a n) (sc (f16_ok a n) sn)))))))))))) Tryz.func3
end Go.Eng.Sh
end
end
section
namespace Go.Nd
abbrev Str:=List UInt8
structure Ptr where
 at_:Int
 birth:Int
 sum:Int
 deriving DecidableEq
structure Node where
 leaf:Bool
 keys:List Str
 vals:List Str
 kids:List Ptr
 deriving DecidableEq
def be:Nat->Nat->Str
 | 0,_=>[]
 | k+1,n=>be k (n / 256)++[UInt8.ofNat n]
def bee (l:Str):Nat:=l.foldl (fun n c=>n*256+c.toNat) 0
theorem be_length: ∀k n,(be k n).length=k
 | 0,_=>rfl
 | k+1,n=>by simp[be,be_length k]
theorem bee_snoc (l:Str)(c:UInt8):bee (l++[c])=bee l*256+c.toNat:=by simp[bee]
theorem bee_be: ∀k n,bee (be k n)=n % 256 ^ k
 | 0,n=>by simp[be,bee,Nat.mod_one]
 | k+1,n=>by
  rw[be,bee_snoc,bee_be k,Nat.pow_succ,Nat.mul_comm (256 ^ k) 256,Nat.mod_mul];simp[UInt8.toNat_ofNat'];omega
theorem be_bee (l:Str):be l.length (bee l)=l:=by
 suffices h: ∀(m:Nat) (l:Str),l.length=m->be m (bee l)=l from h _ l rfl
 intro m
 induction m with
 | zero=>intro l h;rw[zR h];rfl
 | succ m ih=>
  intro l h;obtain⟨l',c,rfl⟩: ∃l' c,l=l'++[c]:=⟨l.dropLast,l.getLast (by intro e;simp[e]at h),(List.dropLast_concat_getLast _).symm⟩;simp only[zT,j9,Nat.add_right_cancel_iff]at h;have a:c.toNat<256:=c.toNat_lt;rw[bee_snoc,be,show(bee l'*256+c.toNat) / 256=bee l' from by omega,ih l' h];congr 2;apply UInt8.toNat_inj.1;rw[UInt8.toNat_ofNat'];omega
theorem bee_lt (l:Str):bee l<256 ^ l.length:=by
 have:=bee_be l.length (bee l);rw[be_bee]at this;rw[this];exact Nat.mod_lt _ (Nat.pow_pos (by omega))
def mayP (p:Ptr):Bool:=if p.at_=0 then decide (p.birth=0)&&decide (p.sum=0)else decide (0<p.at_)&&decide (p.at_<8192)&&decide (0<=p.birth)&&decide (p.birth<=2147483647)
def encP (p:Ptr):Str:=be 4 p.at_.toNat++(be 4 p.birth.toNat++be 8 p.sum.toNat)
def ptrOf (s:Str):Ptr:=⟨(bee (s.take 4):Nat),(bee ((s.drop 4).take 4):Nat),(bee (s.drop 8):Nat)⟩
def decP (s:Str):Option Ptr:=if mayP (ptrOf s)then some (ptrOf s)else none
theorem encP_length (p:Ptr):(encP p).length=16:=by simp[encP,be_length]
def sumOk (p:Ptr):Prop:=0<=p.sum/\p.sum<18446744073709551616
theorem ptrOf_encP {p:Ptr}(h:mayP p=true)(f:sumOk p):ptrOf (encP p)=p:=by
 obtain⟨a,b,s⟩:=p;have i:(encP ⟨a,b,s⟩).take 4=be 4 a.toNat:=by simp[encP,be_length]
 have j:((encP ⟨a,b,s⟩).drop 4).take 4=be 4 b.toNat:=by
  rw[encP,yO (by simp[be_length]),yX (by simp[be_length])]
 have m:(encP ⟨a,b,s⟩).drop 8=be 8 s.toNat:=by
  rw[encP,<-qC,yO (by simp[be_length])]
 simp only[ptrOf,i,j,m,bee_be];simp only[sumOk]at f;simp only[mayP]at h;split at h
 .simp only[zE,zU]at h;simp_all
 .simp only[zE,zU]at h;congr 1<;>omega
theorem encP_ptrOf {s:Str}(h:s.length=16):encP (ptrOf s)=s:=by
 have a:=be_bee (s.take 4);have f:=be_bee ((s.drop 4).take 4);have h3:=be_bee (s.drop 8);rw[show(s.take 4).length=4 from by simp;omega]at a;rw[show((s.drop 4).take 4).length=4 from by simp;omega]at f;rw[show(s.drop 8).length=8 from by simp;omega]at h3;simp only[encP,ptrOf,qU,a,f,h3];rw[show s.drop 8=(s.drop 4).drop 4 from by rw[List.drop_drop],qR,qR]
theorem ptrOf_sum {s:Str}(h:s.length=16):sumOk (ptrOf s):=by
 have:=bee_lt (s.drop 8);rw[show(s.drop 8).length=8 from by simp;omega]at this;simp only[sumOk,ptrOf];omega
def encT (s:Str):Str:=UInt8.ofNat s.length::s
def mayK (k:Str):Bool:=decide (1<=k.length)&&decide (k.length<=40)
def rising (lt:Str->Str->Bool):List Str->Bool
 | []=>true
 | [_]=>true
 | a::b::l=>lt a b&&rising lt (b::l)
def kidOk (p:Ptr):Bool:=decide (1<=p.at_)&&decide (p.at_<8192)&&decide (0<=p.birth)&&decide (p.birth<=2147483647)
theorem kidOk_may {p:Ptr}(h:kidOk p=true):mayP p=true:=by
 simp only[kidOk,zE,zU]at h;simp only[mayP];rw[if_neg (by omega)];simp only[zE,zU];omega
def shaped (lt:Str->Str->Bool)(n:Node):Bool:=
 n.keys.all mayK&&rising lt n.keys&&
 (if n.leaf then decide (n.vals.length=n.keys.length)&&decide (n.kids=[])&&n.vals.all (fun v=>decide (v.length<=200))
  else decide (n.keys≠[])&&decide (n.vals=[])&&decide (n.kids.length=n.keys.length+1)&&n.kids.all kidOk)
def sumL (l:List Str):Nat:=l.foldl (fun n s=>n+(1+s.length)) 0
theorem sumL_from (l:List Str)(a:Nat):l.foldl (fun n s=>n+(1+s.length)) a=a+sumL l:=by
 induction l generalizing a with
 | nil=>simp[sumL]
 | cons s l ih=>simp only[List.foldl_cons,sumL];rw[ih,ih];omega
theorem sumL_cons (s:Str)(l:List Str):sumL (s::l)=1+s.length+sumL l:=by
 simp only[sumL,List.foldl_cons];rw[sumL_from,sumL_from];simp[sumL]
theorem sumL_append (l m:List Str):sumL (l++m)=sumL l+sumL m:=by
 induction l with
 | nil=>simp[sumL]
 | cons s l ih=>rw[qB,sumL_cons,sumL_cons,ih];omega
def size (n:Node):Nat:=2+16*n.kids.length+sumL n.keys+sumL n.vals
def may (lt:Str->Str->Bool)(n:Node):Bool:=shaped lt n&&decide (size n<=500)
def encL:List Str->List Str->Str
 | k::ks,v::vs=>encT k++(encT v++encL ks vs)
 | _,_=>[]
def encI:List Str->List Ptr->Str
 | k::ks,p::ps=>encT k++(encP p++encI ks ps)
 | _,_=>[]
def encB (n:Node):Str:=if n.leaf then encL n.keys n.vals else match n.kids with
 | p::ps=>encP p++encI n.keys ps
 | []=>[]
def encN (n:Node):Str:=be 2 n.keys.length++encB n
def takeT:Str->Option (Str×Str)
 | []=>none
 | c::r=>if c.toNat<=r.length then some (r.take c.toNat,r.drop c.toNat)else none
def takeP (s:Str):Option (Ptr×Str):=if 16<=s.length then match decP (s.take 16)with | some p=>some (p,s.drop 16) | none=>none else none
def decL:Nat->Str->Option (List Str×List Str×Str)
 | 0,s=>some ([],[],s)
 | k+1,s=>match takeT s with
  | some (a,s)=>match takeT s with
   | some (b,s)=>match decL k s with
    | some (ks,vs,s)=>some (a::ks,b::vs,s)
    | none=>none
   | none=>none
  | none=>none
def decI:Nat->Str->Option (List Str×List Ptr×Str)
 | 0,s=>some ([],[],s)
 | k+1,s=>match takeT s with
  | some (a,s)=>match takeP s with
   | some (b,s)=>match decI k s with
    | some (ks,vs,s)=>some (a::ks,b::vs,s)
    | none=>none
   | none=>none
  | none=>none
theorem decL_snoc: ∀(k:Nat) (s:Str),decL (k+1) s=(decL k s).bind fun x=>(takeT x.2.2).bind fun a=>(takeT a.2).bind fun b=>some (x.1++[a.1],x.2.1++[b.1],b.2)
 | 0,s=>by
  simp only[decL,yD]
  cases takeT s with
  | none=>rfl
  | some a=>obtain⟨a,f⟩:=a;simp only[yD];cases takeT f with
   | none=>rfl
   | some b=>rfl
 | k+1,s=>by
  rw[decL]
  conv=>rhs;rw[decL]
  cases takeT s with
  | none=>rfl
  | some a=>
   obtain⟨a,f⟩:=a;simp only
   cases takeT f with
   | none=>rfl
   | some b=>
    obtain⟨b,h⟩:=b;simp only;rw[decL_snoc k h]
    cases decL k h with
    | none=>rfl
    | some x=>
     obtain⟨ks,vs,r⟩:=x;simp only[yD]
     cases takeT r with
     | none=>rfl
     | some c=>obtain⟨c,i⟩:=c;simp only[yD];cases takeT i with
      | none=>rfl
      | some d=>rfl
theorem decI_snoc: ∀(k:Nat) (s:Str),decI (k+1) s=(decI k s).bind fun x=>(takeT x.2.2).bind fun a=>(takeP a.2).bind fun b=>some (x.1++[a.1],x.2.1++[b.1],b.2)
 | 0,s=>by
  simp only[decI,yD]
  cases takeT s with
  | none=>rfl
  | some a=>obtain⟨a,f⟩:=a;simp only[yD];cases takeP f with
   | none=>rfl
   | some b=>rfl
 | k+1,s=>by
  rw[decI]
  conv=>rhs;rw[decI]
  cases takeT s with
  | none=>rfl
  | some a=>
   obtain⟨a,f⟩:=a;simp only
   cases takeP f with
   | none=>rfl
   | some b=>
    obtain⟨b,h⟩:=b;simp only;rw[decI_snoc k h]
    cases decI k h with
    | none=>rfl
    | some x=>
     obtain⟨ks,vs,r⟩:=x;simp only[yD]
     cases takeT r with
     | none=>rfl
     | some c=>obtain⟨c,i⟩:=c;simp only[yD];cases takeP i with
      | none=>rfl
      | some d=>rfl
theorem decL_all (s:Str)(k:Nat):(List.range k).all (fun i=>(decL (i+1) s).isSome)=(decL k s).isSome:=by
 induction k with
 | zero=>simp[decL]
 | succ k ih=>
  rw[List.range_succ,List.all_append,ih];simp only[List.all_cons,List.all_nil,Bool.and_true];rw[decL_snoc]
  cases decL k s<;>simp
theorem decI_all (s:Str)(k:Nat):(List.range k).all (fun i=>(decI (i+1) s).isSome)=(decI k s).isSome:=by
 induction k with
 | zero=>simp[decI]
 | succ k ih=>
  rw[List.range_succ,List.all_append,ih];simp only[List.all_cons,List.all_nil,Bool.and_true];rw[decI_snoc]
  cases decI k s<;>simp
def decB (leaf:Bool)(k:Nat)(s:Str):Option (Node×Str):=
 if leaf then match decL k s with
  | some (ks,vs,s)=>some (⟨true,ks,vs,[]⟩,s)
  | none=>none
 else match takeP s with
  | some (p,s)=>match decI k s with
   | some (ks,ps,s)=>some (⟨false,ks,[],p::ps⟩,s)
   | none=>none
  | none=>none
def decN (lt:Str->Str->Bool)(leaf:Bool)(s:Str):Option Node:=
 if s.length<=500/\2<=s.length then match decB leaf (bee (s.take 2)) (s.drop 2)with
  | some (n,r)=>if r=[]/\may lt n=true then some n else none
  | none=>none
 else none
theorem takeT_enc (s r:Str)(h:s.length<256):takeT (encT s++r)=some (s,r):=by
 have e:(UInt8.ofNat s.length).toNat=s.length:=by rw[UInt8.toNat_ofNat'];omega
 simp only[encT,qB,takeT,e];rw[if_pos (by simp)];simp
theorem takeT_eq {s a r:Str}(h:takeT s=some (a,r)):s=encT a++r/\a.length<256:=by
 cases s with
 | nil=>simp[takeT]at h
 | cons c s=>
  simp only[takeT]at h;split at h
  .simp only[zB,zQ]at h;obtain⟨rfl,rfl⟩:=h;have f:c.toNat<256:=c.toNat_lt;have hl:(s.take c.toNat).length=c.toNat:=by simp;omega
   refine⟨?_,by omega⟩;simp only[encT,hl,qB,qR];congr 1;apply UInt8.toNat_inj.1;rw[UInt8.toNat_ofNat'];omega
  .simp at h
theorem takeP_enc {p:Ptr}(r:Str)(h:mayP p=true)(a:sumOk p):takeP (encP p++r)=some (p,r):=by
 have hl:=encP_length p;have f:(encP p++r).take 16=encP p:=yX hl;have i:(encP p++r).drop 16=r:=yO hl;simp only[takeP,f,i];rw[if_pos (by simp[hl])];simp only[decP,ptrOf_encP h a,h,if_true]
theorem takeP_eq {s r:Str}{p:Ptr}(h:takeP s=some (p,r)):s=encP p++r/\mayP p=true/\sumOk p:=by
 simp only[takeP]at h;split at h
 .rename_i hl;split at h
  .rename_i q a;simp only[zB,zQ]at h;obtain⟨rfl,rfl⟩:=h;have f:(s.take 16).length=16:=by simp;omega
   simp only[decP]at a;split at a
   .rename_i hm;simp only[zB]at a;subst a;exact⟨by rw[encP_ptrOf f,qR],hm,ptrOf_sum f⟩
   .simp at a
  .simp at h
 .simp at h
theorem encL_snoc: ∀(ks vs:List Str) (k v:Str),ks.length=vs.length->encL (ks++[k]) (vs++[v])=encL ks vs++(encT k++encT v)
 | [],[],k,v,_=>by simp[encL]
 | [],_::_,_,_,h=>by simp at h
 | _::_,[],_,_,h=>by simp at h
 | a::ks,b::vs,k,v,h=>by simp[encL,encL_snoc ks vs k v (by simpa using h)]
theorem encI_snoc: ∀(ks:List Str) (vs:List Ptr) (k:Str) (v:Ptr),ks.length=vs.length->encI (ks++[k]) (vs++[v])=encI ks vs++(encT k++encP v)
 | [],[],k,v,_=>by simp[encI]
 | [],_::_,_,_,h=>by simp at h
 | _::_,[],_,_,h=>by simp at h
 | a::ks,b::vs,k,v,h=>by simp[encI,encI_snoc ks vs k v (by simpa using h)]
theorem decL_enc: ∀(ks vs:List Str),ks.length=vs.length->(∀k∈ks,k.length<256)->(∀v∈vs,v.length<256)->decL ks.length (encL ks vs)=some (ks,vs,[])
 | [],[],_,_,_=>rfl
 | [],_::_,h,_,_=>by simp at h
 | _::_,[],h,_,_=>by simp at h
 | k::ks,v::vs,h,hk,hv=>by
  have f:=decL_enc ks vs (by simpa using h) (fun x a=>hk x (zC _ a)) (fun x a=>hv x (zC _ a));simp only[zV,decL,encL,takeT_enc k _ (hk k (zH ..)),takeT_enc v _ (hv v (zH ..)),f]
theorem decI_enc: ∀(ks:List Str) (a:List Ptr),ks.length=a.length->(∀k∈ks,k.length<256)->(∀p∈a,mayP p=true/\sumOk p)->decI ks.length (encI ks a)=some (ks,a,[])
 | [],[],_,_,_=>rfl
 | [],_::_,h,_,_=>by simp at h
 | _::_,[],h,_,_=>by simp at h
 | k::ks,v::vs,h,hk,hv=>by
  have j:=decI_enc ks vs (by simpa using h) (fun x f=>hk x (zC _ f)) (fun x f=>hv x (zC _ f));have i:=hv v (zH ..);simp only[zV,decI,encI,takeT_enc k _ (hk k (zH ..)),takeP_enc _ i.1 i.2,j]
theorem decL_eq: ∀ {k:Nat} {s:Str} {ks vs:List Str} {r:Str},decL k s=some (ks,vs,r)->s=encL ks vs++r/\ks.length=k/\vs.length=k
 | 0,s,ks,vs,r,h=>by
  simp only[decL,zB,zQ]at h;obtain⟨rfl,rfl,rfl⟩:=h;simp[encL]
 | k+1,s,ks,vs,r,h=>by
  simp only[decL]at h;split at h
  .rename_i a p f;split at h
   .rename_i b q i;split at h
    .rename_i o vs' t h3;simp only[zB,zQ]at h;obtain⟨rfl,rfl,rfl⟩:=h;obtain⟨rfl,_⟩:=takeT_eq f;obtain⟨rfl,_⟩:=takeT_eq i;obtain⟨rfl,j,m⟩:=decL_eq h3;exact⟨by simp[encL],by simp[j],by simp[m]⟩
    .simp at h
   .simp at h
  .simp at h
theorem decI_eq: ∀ {k:Nat} {s:Str} {ks:List Str} {vs:List Ptr} {r:Str},decI k s=some (ks,vs,r)->s=encI ks vs++r/\ks.length=k/\vs.length=k/\ ∀p∈vs,sumOk p
 | 0,s,ks,vs,r,h=>by
  simp only[decI,zB,zQ]at h;obtain⟨rfl,rfl,rfl⟩:=h;simp[encI]
 | k+1,s,ks,vs,r,h=>by
  simp only[decI]at h;split at h
  .rename_i a u f;split at h
   .rename_i b v i;split at h
    .rename_i t vs' x h3;simp only[zB,zQ]at h;obtain⟨rfl,rfl,rfl⟩:=h;obtain⟨rfl,_⟩:=takeT_eq f;obtain⟨rfl,_,j⟩:=takeP_eq i;obtain⟨rfl,m,o,q⟩:=decI_eq h3;exact⟨by simp[encI],by simp[m],by simp[o],by simpa using⟨j,q⟩⟩
    .simp at h
   .simp at h
  .simp at h
theorem encL_length: ∀(ks vs:List Str),ks.length=vs.length->(encL ks vs).length=sumL ks+sumL vs
 | [],[],_=>rfl
 | [],_::_,h=>by simp at h
 | _::_,[],h=>by simp at h
 | k::ks,v::vs,h=>by
  simp only[encL,zT,encT,zV,encL_length ks vs (by simpa using h),sumL_cons];omega
theorem encI_length: ∀(ks:List Str) (vs:List Ptr),ks.length=vs.length->(encI ks vs).length=sumL ks+16*vs.length
 | [],[],_=>rfl
 | [],_::_,h=>by simp at h
 | _::_,[],h=>by simp at h
 | k::ks,v::vs,h=>by
  simp only[encI,zT,encT,zV,encP_length,encI_length ks vs (by simpa using h),sumL_cons];omega
theorem encN_length {lt:Str->Str->Bool}{n:Node}(h:shaped lt n=true):(encN n).length=size n:=by
 obtain⟨leaf,ks,vs,a⟩:=n;simp only[shaped,zE]at h;obtain⟨_,h⟩:=h
 cases leaf with
 | true=>
  simp only[if_true,zE,zU]at h;simp only[encN,encB,if_true,zT,be_length,encL_length _ _ h.1.1.symm,size,h.1.2,yI];omega
 | false=>
  simp only[zL,qD,zE,zU]at h
  cases a with
  | nil=>simp at h
  | cons p a=>
   have e:ks.length=a.length:=by have:=h.1.2;simp at this;omega
   simp only[encN,encB,zL,qD,zT,be_length,encP_length,encI_length _ _ e,size,zV,h.1.1.2];simp[sumL];omega
theorem keys_small {lt:Str->Str->Bool}{n:Node}(h:shaped lt n=true): ∀k∈n.keys,k.length<256:=by
 intro k a;simp only[shaped,zE,qY]at h;have:=h.1.1 k a;simp only[mayK,zE,zU]at this;omega
theorem sumL_ge (l:List Str):l.length<=sumL l:=by
 induction l with
 | nil=>simp
 | cons s l ih=>rw[sumL_cons,zV];omega
theorem decN_encN {lt:Str->Str->Bool}{n:Node}(h:may lt n=true)(i: ∀p∈n.kids,sumOk p):decN lt n.leaf (encN n)=some n:=by
 have hm:=h;simp only[may,zE,zU]at h;obtain⟨a,s⟩:=h;have o:=encN_length a;have j:=keys_small a;have z:n.keys.length<=500:=by have:=sumL_ge n.keys;simp only[size]at s;omega
 have t:(encN n).take 2=be 2 n.keys.length:=by simp[encN,be_length]
 have u:(encN n).drop 2=encB n:=by rw[encN,yO (be_length 2 _)]
 have x:bee (be 2 n.keys.length)=n.keys.length:=by rw[bee_be];omega
 simp only[decN];rw[if_pos ⟨by omega,by rw[o,size];omega⟩,t,u,x];have key:decB n.leaf n.keys.length (encB n)=some (n,[]):=by
  obtain⟨leaf,ks,vs,f⟩:=n;simp only[shaped,zE]at a;obtain⟨_,a⟩:=a
  cases leaf with
  | true=>
   simp only[if_true,zE,zU,qY]at a;simp only[decB,encB,if_true];rw[decL_enc ks vs a.1.1.symm j (fun v y=>by have:=a.2 v y;omega)];simp[a.1.2]
  | false=>
   simp only[zL,qD,zE,zU,qY]at a
   cases f with
   | nil=>simp at a
   | cons p f=>
    have e:ks.length=f.length:=by have:=a.1.2;simp at this;omega
    simp only[decB,encB,zL,qD];rw[takeP_enc _ (kidOk_may (a.2 p (zH ..))) (i p (zH ..))];simp only;rw[decI_enc ks f e j (fun q m=>⟨kidOk_may (a.2 q (zC _ m)),i q (zC _ m)⟩)];simp[a.1.1.2]
 rw[key];simp[hm]
theorem encN_decN {lt:Str->Str->Bool}{s:Str}{n:Node}(h:decN lt w s=some n):may lt n=true/\encN n=s/\n.leaf=w/\ ∀p∈n.kids,sumOk p:=by
 simp only[decN]at h;split at h
 .rename_i hl;split at h
  .rename_i m r hm;split at h
   .rename_i o;simp only[zB]at h;subst h;obtain⟨rfl,j⟩:=o;have q:(s.take 2).length=2:=by simp;omega
    have hb:=be_bee (s.take 2);rw[q]at hb;have key:encB m=s.drop 2/\m.keys.length=bee (s.take 2)/\m.leaf=w/\ ∀p∈m.kids,sumOk p:=by
     simp only[decB]at hm;split at hm
     .rename_i f;split at hm
      .rename_i ks vs r hd;simp only[zB,zQ]at hm;obtain⟨rfl,rfl⟩:=hm;obtain⟨a,i,t⟩:=decL_eq hd;simp only[qG]at a;exact⟨by simp[encB,a],i,by simp[f],by simp⟩
      .simp at hm
     .rename_i f;split at hm
      .rename_i p y hp;split at hm
       .rename_i ks z r hd;simp only[zB,zQ]at hm;obtain⟨rfl,rfl⟩:=hm;obtain⟨u,_,v⟩:=takeP_eq hp;obtain⟨a,i,t,x⟩:=decI_eq hd;simp only[qG]at a;exact⟨by simp[encB,u,a],i,by simpa using f,by simpa using⟨v,x⟩⟩
       .simp at hm
      .simp at hm
    refine⟨j, ?_,key.2.2.1,key.2.2.2⟩;rw[encN,key.1,key.2.1,hb,qR]
   .simp at h
  .simp at h
 .simp at h
end Go.Nd
end
section
namespace Go.Eng
theorem loop_for {b:List AV->AH->Rs}{H:AH}{r:Rs}(st:Nat->List AV)(N:Nat)(step: ∀i,i<N->b (st i) H=some (.norm (st (i+1)),H))(last: ∀n,loopK (n+1) b (st N) H=r): ∀n,N<n->loopK n b (st 0) H=r:=by
 suffices h: ∀(m i n:Nat),i+m=N->m<n->loopK n b (st i) H=r from fun n a=>h N 0 n (by omega) a
 intro m
 induction m with
 | zero=>
  intro i n hi a;obtain⟨n,rfl⟩: ∃k,n=k+1:=⟨n - 1,by omega⟩;rw[show i=N by omega];exact last n
 | succ m ih=>
  intro i n hi a;obtain⟨n,rfl⟩: ∃k,n=k+1:=⟨n - 1,by omega⟩;rw[loop_next (step i (by omega))];exact ih (i+1) n (by omega) (by omega)
theorem sum_take_succ (l:List s)(i:Nat)(h:i<l.length):l.take (i+1)=l.take i++[l[i]]:=by
 rw[qH h]
theorem ld1_push (H:AH)(l:List AV)(e sz o:Nat)(g:Bool):ld1 (.ptr H.next o) (H.push (.cells l e sz g))=l[o]? :=by simp only[ld1,jK,nth_eq]
theorem ldN_push (H:AH)(l:List AV)(e sz o n:Nat)(g:Bool):ldN n (.ptr H.next o) (H.push (.cells l e sz g))=(subN l o n).map .agg:=by
 simp only[ldN,jK];cases subN l o n<;>rfl
theorem ld1_old (o:Nat)(x:AObj)(H:k<h.next):ld1 (.ptr k o) (h.push x)=ld1 (.ptr k o) h:=by simp only[ld1,AH.push_get_ne _ _ H]
theorem ldN_old (o n:Nat)(x:AObj)(H:k<h.next):ldN n (.ptr k o) (h.push x)=ldN n (.ptr k o) h:=by simp only[ldN,AH.push_get_ne _ _ H]
theorem loop_inv {b:List AV->AH->Rs}(N:Nat)(I:Nat->List AV->AH->Prop)(step: ∀i vs H,i<N->I i vs H-> ∃vs' H',b vs H=some (.norm vs',H')/\I (i+1) vs' H'):
  ∀(n:Nat) (vs:List AV) (H:AH),I 0 vs H->N<n-> ∃m vs' H',loopK n b vs H=loopK (m+1) b vs' H'/\I N vs' H':=by
 suffices h: ∀(m i n:Nat) (vs:List AV) (H:AH),i+m=N->m<n->I i vs H-> ∃m vs' H',loopK n b vs H=loopK (m+1) b vs' H'/\I N vs' H' from fun n vs H j a=>h N 0 n vs H (by omega) a j
 intro m
 induction m with
 | zero=>
  intro i n vs H hi a f;obtain⟨n,rfl⟩: ∃k,n=k+1:=⟨n - 1,by omega⟩;exact⟨n,vs,H,rfl,by rw[show N=i by omega];exact f⟩
 | succ m ih=>
  intro i n vs H hi a f;obtain⟨n,rfl⟩: ∃k,n=k+1:=⟨n - 1,by omega⟩;obtain⟨vs',H',o,p⟩:=step i vs H (by omega) f;rw[loop_next o];exact ih (i+1) n vs' H' (by omega) (by omega) p
def notN:Ex->Bool
 | .norm _=>false
 | _=>true
theorem jn_notN {e:Ex}(H:notN e=true):jn (some (e,h)) F=some (e,h):=by cases e<;>first | rfl | (simp[notN]at H)
theorem loop_all {b:List AV->AH->Rs}(N:Nat)(a:Nat->Bool)(I:Nat->List AV->AH->Prop)(Good t:Ex->AH->Prop)
  (step: ∀i vs H,i<N->I i vs H->a i=true-> ∃vs' H',b vs H=some (.norm vs',H')/\I (i+1) vs' H')
  (x: ∀i vs H,i<N->I i vs H->a i=false-> ∃e H',b vs H=some (e,H')/\notN e=true/\t e H')
  (last: ∀vs H,I N vs H-> ∃e H',b vs H=some (e,H')/\notN e=true/\Good e H'):
  ∀(n:Nat) (vs:List AV) (H:AH),I 0 vs H->N<n-> ∃e H',loopK n b vs H=some (e,H')/\if(List.range N).all a then Good e H' else t e H':=by
 suffices h: ∀(m i n:Nat) (vs:List AV) (H:AH),i+m=N->m<n->I i vs H->(∀j,j<i->a j=true)-> ∃e H',loopK n b vs H=some (e,H')/\if(List.range N).all a then Good e H' else t e H' from
  fun n vs H y u=>h N 0 n vs H (by omega) u y (fun j v=>by omega)
 intro m
 induction m with
 | zero=>
  intro i n vs H hi u f s;obtain⟨n,rfl⟩: ∃k,n=k+1:=⟨n - 1,by omega⟩;rw[show i=N by omega]at f s;obtain⟨e,H',o,p,h3⟩:=last vs H f;refine⟨e,H', ?_, ?_⟩
  .show jn (b vs H) _=_;rw[o,jn_notN p]
  .rw[if_pos (by simpa[qY]using s)];exact h3
 | succ m ih=>
  intro i n vs H hi u f s;obtain⟨n,rfl⟩: ∃k,n=k+1:=⟨n - 1,by omega⟩
  cases q:a i with
  | true=>
   obtain⟨vs',H',o,p⟩:=step i vs H (by omega) f q;rw[loop_next o];exact ih (i+1) n vs' H' (by omega) (by omega) p (fun j v=>by
    rcases Nat.lt_succ_iff_lt_or_eq.1 v with h | rfl
    .exact s j h
    .exact q)
  | false=>
   obtain⟨e,H',o,p,h3⟩:=x i vs H (by omega) f q;refine⟨e,H', ?_, ?_⟩
   .show jn (b vs H) _=_;rw[o,jn_notN p]
   .rw[if_neg (by
     simp only[qY,List.mem_range];intro h;have:=h i (by omega);rw[q]at this;cases this)];exact h3
theorem wnt_undef (a:Bool)(x y:Rs):wnt undefA a x y=y:=by cases a<;>rfl
theorem bInt_shr (k k':IntKind){a:Int}{s:Nat}(h:0<=a)(f:s<=k.bits):bInt .shr (.int k a) (.int k' (s:Int))=some (.int k (a / 2 ^ s)):=by
 show fI (a.fdiv ((2 ^ (Nat.min s k.bits):Nat):Int)) (fun r=>some (AV.int k r))=_;rw[fI_eq,show Nat.min s k.bits=s from Nat.min_eq_left f,Int.fdiv_eq_ediv_of_nonneg _ (Int.natCast_nonneg _)];simp
theorem bInt_shl (k k':IntKind)(a:Int){s:Nat}(f:s<=k.bits):bInt .shl (.int k a) (.int k' (s:Int))=some (.int k (k.wrap (a*2 ^ s))):=by
 show mkI k (a*(2 ^ (Nat.min s k.bits):Nat))=_;rw[mkI_eq,show Nat.min s k.bits=s from Nat.min_eq_left f];simp
theorem cellsA_cell (h:isCell i=true):cellsA i=[i]:=by cases i<;>first | rfl | (simp[isCell]at h)
theorem Rw.isCell {k n:Nat}{H:AH}{v:AV}{l:List AV}(h:Rw k H v n l):Eng.isCell v=true:=by
 obtain⟨_,⟨rfl,_⟩ | ⟨rfl,_⟩ | ⟨A,off,cc,c,e,sz,g,rfl,_⟩⟩:=h<;>rfl
theorem cellEq_int (k:IntKind)(a b:Int):cellEq (icode k) (.int k a) (.int k b)=some (decide (a=b)):=by
 have:keq k k=true:=by rw[keq_eq];simp
 simp only[cellEq,yC,this,qJ,zP,ieq_eq];congr 1
theorem aveq_row (n:Rw k h i p A):aveq i i=true:=by
 obtain⟨_,⟨rfl,_⟩ | ⟨rfl,_⟩ | ⟨H,off,cc,c,e,sz,g,rfl,_⟩⟩:=n
 .rfl
 .rfl
 .simp[aveq]
theorem chk_ok {x:Option AV}{K:Rs}(h:x=some i)(a:aveq i i=true):chk x i K=K:=by subst h;simp[chk,a]
theorem ld1_get (H:h.h.get k=some (.cells A v p w))(o:Nat):ld1 (.ptr k o) h=A[o]? :=by simp only[ld1,H,nth_eq]
theorem ldN_get (H:h.h.get k=some (.cells A v p w))(o n:Nat):ldN n (.ptr k o) h=(subN A o n).map .agg:=by simp only[ldN,H];cases subN A o n<;>rfl
theorem jn_orf (b c:Bool)(H:AH)(K:AV->AH->Rs):
  jn (if b=false then some (.norm [.bool c],H)else some (.norm [undefA],H)) (fun vs H=>hd vs fun y _=>bV (if b=true then some (.bool true)else some y) fun x=>K x H)=K (.bool (b||c)) H:=by
 cases b<;>simp[jn,hd,bV]
theorem jn_orn (p:Prop)[Decidable p](b:Bool)(H:AH)(K:AV->AH->Rs):
  jn (if ¬p then some (.norm [.bool b],H)else some (.norm [undefA],H)) (fun vs H=>hd vs fun y _=>bV (if p then some (.bool true)else some y) fun x=>K x H)=K (.bool (decide p||b)) H:=by
 by_cases h:p<;>simp[h,jn,hd,bV]
theorem lg:(∀(p:Prop) [Decidable p] (b:Bool) (H:AH) (K:AV->AH->Rs),jn (if ¬p then some (.norm [.bool b],H)else some (.norm [undefA],H)) (fun vs H=>hd vs fun y _=>bV (if p then some (.bool true)else some y) fun x=>K x H)=K (.bool (decide p||b)) H)/\
  (∀(p:Prop) [Decidable p] (b:Bool) (H:AH) (K:AV->AH->Rs),jn (if p then some (.norm [.bool b],H)else some (.norm [undefA],H)) (fun vs H=>hd vs fun y _=>bV (if p then some y else some (.bool false)) fun x=>K x H)=K (.bool (decide p&&b)) H)/\
  (∀(p:Prop) [Decidable p] (b:Bool) (H:AH) (K:AV->AH->Rs),jn (if p then some (.norm [undefA],H)else some (.norm [.bool b],H)) (fun vs H=>hd vs fun y _=>bV (if p then some (.bool true)else some y) fun x=>K x H)=K (.bool (decide p||b)) H)/\
  (∀(b c:Bool) (H:AH) (K:AV->AH->Rs),jn (if b=false then some (.norm [.bool c],H)else some (.norm [undefA],H)) (fun vs H=>hd vs fun y _=>bV (if b=true then some (.bool true)else some y) fun x=>K x H)=K (.bool (b||c)) H)/\
  (∀(p:Prop) [Decidable p],(decide p=true)=p)/\(∀(p:Prop) [Decidable p],(decide p=false)= ¬p)/\(∀(b:Bool),decide (b=true)=b):=
 ⟨fun p _ b H K=>jn_orn p b H K,fun p _ b H K=>jn_and p b H K,fun p _ b H K=>jn_or p b H K,jn_orf,fun p _=>zU,fun p _=>by simp,fun b=>by simp⟩
theorem ev:(∀(v:AV) (vs:List AV) (K:AV->List AV->Rs),hd (v::vs) K=K v vs)/\
 (∀(K:Rs),nl [] K=K)/\
 (∀(v:AV) (K:AV->Rs),bV (some v) K=K v)/\
 (∀(v:AV) (H:AH) (K:AV->AH->Rs),bR (some (v,H)) K=K v H)/\
 (∀(vs:List AV) (H:AH) (K:List AV->AH->Rs),jn (some (.norm vs,H)) K=K vs H)/\
 (∀(v:AV) (H:AH) (K:List AV->AH->Rs),jn (some (.ret v,H)) K=some (.ret v,H))/\
 (∀(i:Nat) (vs:List AV) (H:AH) (K:List AV->AH->Rs),jn (some (.exit i vs,H)) K=some (.exit i vs,H))/\
 (∀(id:Nat) (vs:List AV) (H:AH) (K:List AV->AH->Rs),jb id (some (.norm vs,H)) K=K vs H)/\
 (∀(id:Nat) (v:AV) (H:AH) (K:List AV->AH->Rs),jb id (some (.ret v,H)) K=some (.ret v,H))/\
 (∀(id:Nat) (vs:List AV) (H:AH) (K:List AV->AH->Rs),jb id (some (.exit id vs,H)) K=K vs H)/\
 (∀(v:AV) (H:AH),outR (some (.ret v,H))=some (v,H))/\
 (∀(b:Bool) (x y:Rs),cnd (.bool b) x y=if b then x else y)/\
 (∀(b h:Bool) (x y:Rs),wnt (.bool b) h x y=if b=h then x else y)/\
 (∀(b:Bool) (x y:Option AV),pk3 (some (.bool b)) x y=if b then x else y)/\
 (∀(k:IntKind) (a b:Int),bInt .add (.int k a) (.int k b)=some (.int k (k.wrap (a+b))))/\
 (∀(k:IntKind) (a b:Int),bInt .sub (.int k a) (.int k b)=some (.int k (k.wrap (a - b))))/\
 (∀(k:IntKind) (a b:Int),bInt .mul (.int k a) (.int k b)=some (.int k (k.wrap (a*b))))/\
 (∀(k:IntKind) (a b:Int),bInt .eql (.int k a) (.int k b)=some (.bool (decide (a=b))))/\
 (∀(k:IntKind) (a b:Int),bInt .neq (.int k a) (.int k b)=some (.bool (decide (a≠b))))/\
 (∀(k:IntKind) (a b:Int),bInt .lss (.int k a) (.int k b)=some (.bool (decide (a<b))))/\
 (∀(k:IntKind) (a b:Int),bInt .leq (.int k a) (.int k b)=some (.bool (decide (a<=b))))/\
 (∀(k:IntKind) (a b:Int),bInt .gtr (.int k a) (.int k b)=some (.bool (decide (b<a))))/\
 (∀(k:IntKind) (a b:Int),bInt .geq (.int k a) (.int k b)=some (.bool (decide (b<=a))))/\
 (∀(k k':IntKind) (z:Int),cvI k (.int k' z)=some (.int k (k.wrap z)))/\
 (∀(a b:Bool),bBool .eql (.bool a) (.bool b)=some (.bool (a==b)))/\
 (∀(a b:Bool),bBool .neq (.bool a) (.bool b)=some (.bool (!(a==b))))/\
 (∀(b:Bool),aun .not (.bool b)=some (.bool !b))/\
 (∀(l:Str),lnStr (S l)=some (.int .i64 (l.length:Nat)))/\
 (∀(l m:Str),bStr .eql (S l) (S m)=some (.bool (decide (l=m))))/\
 (∀(l m:Str),bStr .neq (S l) (S m)=some (.bool (decide (l≠m))))/\
 (∀(l m:Str),bStr .lss (S l) (S m)=some (.bool (ltS l m)))/\
 (∀(l m:Str),bStr .geq (S l) (S m)=some (.bool (!ltS l m)))/\
 (∀(A o:Nat),pNil (.ptr A o)=some (.ptr A o))/\
 (∀(f A o:Nat),fAd f (.ptr A o)=some (.ptr A (o+f)))/\
 (∀(e:TypeId) (x:AV),bxV e x=some (.cells (cellsA x) e 1 false,fun A=> .ptr A 0))/\
 (∀(l:List AV),cellsA (.agg l)=l)/\
 (∀(H:AH) (l:List AV) (e sz o:Nat) (g:Bool),ld1 (.ptr H.next o) (H.push (.cells l e sz g))=l[o]?)/\
 (∀(H:AH) (l:List AV) (e sz o n:Nat) (g:Bool),ldN n (.ptr H.next o) (H.push (.cells l e sz g))=(subN l o n).map .agg)/\
 (∀(a:AV) (l:List AV),(a::l)[0]? =some a)/\
 (∀(a:AV) (l:List AV) (i:Nat),(a::l)[i+1]? =l[i]?)/\
 (∀(n:Nat),0+n=n)/\
 (∀(n:Nat),Int.ofNat n=(n:Int))/\
 (∀(z:Int), -9223372036854775808<=z->z<=9223372036854775807->IntKind.wrap .i64 z=z):=
 ⟨hd_cons,nl_nil,bVs,bRs,jn_norm,jn_ret,jn_exit,jb_norm,jb_ret,jb_exit,outR_ret,cnd_b,wnt_b,pk3_b,bInt_add,bInt_sub,bInt_mul,bInt_eql,bInt_neq,bInt_lss,bInt_leq,bInt_gtr,bInt_geq,cvI_int,bBool_eql,bBool_neq,aun_not,lnStr_S,bStr_eql,bStr_neq,bStr_lss,bStr_geq,pNil_ptr,fAd_ptr,fun _ _=>rfl,fun _=>rfl,ld1_push,ldN_push,fun _ _=>List.getElem?_cons_zero,fun _ _ _=>yY,yU,fun _=>rfl,fun _ j p=>wrap_i64 j p⟩
def eZ:=And.intro wnt_undef (And.intro ev (And.intro lg ew))
def Grow (k e:Nat)(H:AH)(v:AV)(n:Nat)(l:List AV):Prop:=
 Own k e H v n l\/(l.length=n*k/\ ∃A a g,v= .slice A 0 n (2*n)/\A<H.next/\H.h.get A=some (.cells l a k g)/\n=0)
theorem Grow.len (e:Grow k p h i C A):A.length=C*k:=by
 rcases e with e | e
 .exact e.1
 .exact e.1
theorem Grow.row {k e n:Nat}{H:AH}{v:AV}{l:List AV}(h:Grow k e H v n l):Rw k H v n l:=by
 rcases h with h | ⟨a,A,f,g,rfl,i,j,m⟩
 .exact h.row
 .exact⟨a, .inr (.inr ⟨A,0,2*n,l,f,k,g,rfl,j,i,by omega,by rw[yE,zW (by omega)]⟩)⟩
theorem Grow.mono {k e n:Nat}{S:Nat->Prop}{H H':AH}{v:AV}{l:List AV}(h:Grow k e H v n l)(s:Stp S H H')(a: ∀A,Blk v A-> ¬S A):Grow k e H' v n l:=by
 rcases h with h | ⟨j,A,m,g,rfl,f,o,i⟩
 .exact .inl (h.mono s a)
 .exact .inr ⟨j,A,m,g,rfl,qF f s.next,by rw[s.keep A f (a A (jS.2 rfl))];exact o,i⟩
theorem Grow.lt {H:AH}(h:Grow k p H i C A)(a:Blk i E):E<H.next:=by
 rcases h with⟨_,⟨rfl,_⟩ | ⟨n,rfl,f,_⟩⟩ | ⟨_,n,e,g,rfl,f,_⟩
 .exact(jZ.1 a).elim
 .rw[jS.1 a];exact f
 .rw[jS.1 a];exact f
theorem Grow.app1 {k e bytes n m:Nat}{H:AH}{v:AV}{l new:List AV}(i:H.ok)(o:0<k)(h:Grow k e H v n l)(hm:new.length=m*k)(y:n+m<=1000000000)(hb:bytes<=1000):
  ∃p H',Eng.app1 e k bytes m new v H=some (p,H')/\Grow k e H' p (n+m) (l++new)/\Stp (Blk v) H H'/\(∀B,Blk p B->Blk v B\/H.next<=B):=by
 by_cases q:m=0
 .subst q;have:new=[]:=zR (by simpa using hm);subst this;rcases h with h | ⟨q,A,j,g,rfl,s,t,F⟩
  .obtain⟨H',f,u,h3,I⟩:=app1_none (bytes:=bytes) i o h;exact⟨v,H',f, .inl (by simpa using u),h3.mono (fun _ _ x=>x.elim),fun B a=> .inl a⟩
  .have z:roomOf l g k 0 (2*n) k=n:=by
    simp only[roomOf,show((2*n) % 2).beq 0=true by rw[j6];rfl,zP,yL n (show 0<2 by omega)]
   have J:Nat.blt 0 k=true:=by rw[q9];exact o
   have C:setAt l (0+n*k) []=some l:=by rw[setAt_some (by simp;omega)];simp
   have G:(H.put A (.cells l j k g)).h.get A=some (.cells l j k g):=by rw[jO,if_pos rfl]
   refine⟨.slice A 0 n (2*n),H.put A (.cells l j k g), ?_, .inr ⟨by simpa using q,A,j,g,rfl,s,by simpa using G,by omega⟩,(jV i).put s _ (.inr (jS.2 rfl)),fun B a=> .inl a⟩;simp only[Eng.app1,t,app2,z,Nat.add_zero,Nat.ble_eq_true_of_le (zK n),zP,J,C,appIn,putA_ok,fN_eq]
 .rcases h with h | ⟨hl,A,j,g,rfl,s,t,F⟩
  .obtain⟨H',f,u,h3,I⟩:=app1_own (bytes:=bytes) i o h hm (by omega) y hb;exact⟨_,H',f, .inl u,h3,fun B a=> .inr (by rw[jS.1 a];exact zK _)⟩
  .have f:=app1_full (k:=k) (e:=e) (bytes:=bytes) (n:=n) (m:=m) (off:=0) (new:=new) i t (by omega) (by omega) y hb;rw[yE,zW (by omega)]at f;refine⟨_,_,f, .inl ⟨by simp[hl,hm,yZ], .inr ⟨H.next,rfl,Nat.lt_succ_self _,jK _ _⟩⟩,(jV i).push _,fun B a=> .inr (by rw[jS.1 a];exact zK _)⟩
theorem Grow.app {bytes m:Nat}{new:List AV}(H:h.ok)(f:0<k)(n:Grow k p h i C A)(j:srcOf k t h=some (m,new))(hm:new.length=m*k)(o:allCells new=true)(e:C+m<=1000000000)(hb:bytes<=1000):
  ∃a H',apP p k bytes i t h=some (a,H')/\Grow k p H' a (C+m) (A++new)/\Stp (Blk i) h H'/\(∀B,Blk a B->Blk i B\/h.next<=B):=by
 obtain⟨a,H',q,v⟩:=n.app1 (bytes:=bytes) (e:=p) H f hm e hb;exact⟨a,H',by simp only[apP,j,o,zP,q],v⟩
theorem Grow.isCell {k e n:Nat}{H:AH}{v:AV}{l:List AV}(h:Grow k e H v n l):isCell v=true:=h.row.isCell
def Box (H:AH)(A:Nat)(v:AV):Prop:= ∃e,H.h.get A=some (.cells [v] e 1 false)
theorem Box.ld (H:Box h k i):ld1 (.ptr k 0) h=some i:=by
 obtain⟨e,H⟩:=H;rw[ld1_get H];rfl
theorem Box.st {x:AV}(H:Box h k i)(a:h.ok)(f:Eng.isCell x=true): ∃H',stN 1 (.ptr k 0) x h=some (undefA,H')/\Box H' k x/\Stp (fun B=>B=k) h H':=by
 obtain⟨e,H⟩:=H;exact⟨_,st1_ok H (by decide) f (by simp),⟨e,by rw[jO,if_pos rfl];rfl⟩,(jV a).put (a.lt H) _ (.inr rfl)⟩
theorem Box.mono (H:Box h k i)(a:h.ok)(s:Stp e h l)(f: ¬e k):Box l k i:=by
 obtain⟨S,H⟩:=H;exact⟨S,by rw[s.keep k (a.lt H) f];exact H⟩
theorem Box.lt {H:AH}{A:Nat}{v:AV}(h:Box H A v)(a:H.ok):A<H.next:=by obtain⟨e,h⟩:=h;exact a.lt h
theorem srcOf_new {k:Nat}(H:AH)(c:List AV)(e:TypeId)(sz:Nat)(g:Bool)(m cc:Nat)(a:c.length=m*k):srcOf k (.slice H.next 0 m cc) (H.push (.cells c e sz g))=some (m,c):=by
 simp only[srcOf,jK];rw[subN_some _ _ _ (.inr (by omega)),yE,zW (by omega)]
end Go.Eng
end
section
namespace Go.Nd
theorem rising_ix (lt:Str->Str->Bool): ∀l:List Str,rising lt l=true↔ ∀i (h:i+1<l.length),lt l[i] l[i+1]=true
 | []=>by simp[rising]
 | [a]=>by simp[rising]
 | a::b::l=>by
  have f:=rising_ix lt (b::l);simp only[rising,zE,f];constructor
  .rintro⟨h1,h2⟩ i h
   cases i with
   | zero=>exact h1
   | succ i=>exact h2 i (by simpa using h)
  .intro h;exact⟨h 0 (by simp),fun i hi=>h (i+1) (by simpa using hi)⟩
theorem rising_take {lt:Str->Str->Bool}{l:List Str}(h:rising lt l=true)(k:Nat):rising lt (l.take k)=true:=by
 rw[rising_ix]at h⊢;intro i hi;simp only[qA]at hi;simp only[List.getElem_take];exact h i (by omega)
theorem rising_drop {lt:Str->Str->Bool}{l:List Str}(h:rising lt l=true)(k:Nat):rising lt (l.drop k)=true:=by
 rw[rising_ix]at h⊢;intro i hi;simp only[qK]at hi;simp only[List.getElem_drop];exact h (k+i) (by omega)
theorem all_take {f:s->Bool}{l:List s}(h:l.all f=true)(k:Nat):(l.take k).all f=true:=by
 simp only[qY]at h⊢;exact fun x a=>h x (List.mem_of_mem_take a)
theorem all_drop {f:s->Bool}{l:List s}(h:l.all f=true)(k:Nat):(l.drop k).all f=true:=by
 simp only[qY]at h⊢;exact fun x a=>h x (List.mem_of_mem_drop a)
def cutA (n:Node)(k:Nat):Node:=if n.leaf then⟨true,n.keys.take k,n.vals.take k,[]⟩else⟨false,n.keys.take k,[],n.kids.take (k+1)⟩
def cutB (n:Node)(k:Nat):Node:=if n.leaf then⟨true,n.keys.drop k,n.vals.drop k,[]⟩else⟨false,n.keys.drop (k+1),[],n.kids.drop (k+1)⟩
def joinN (a:Node)(sep:Str)(b:Node):Node:=if a.leaf then⟨true,a.keys++b.keys,a.vals++b.vals,[]⟩else⟨false,a.keys++([sep]++b.keys),[],a.kids++b.kids⟩
def cutOk (n:Node)(k:Nat):Prop:=1<=k/\k+(if n.leaf then 1 else 2)<=n.keys.length
theorem cut_shaped {lt:Str->Str->Bool}{n:Node}(h:shaped lt n=true)(i:cutOk n k):shaped lt (cutA n k)=true/\shaped lt (cutB n k)=true:=by
 obtain⟨leaf,keys,m,kids⟩:=n;obtain⟨k1,k2⟩:=i
 cases leaf with
 | true=>
  simp only[shaped,if_true,zE,zU]at h k2;obtain⟨⟨a,f⟩,⟨h3,j⟩,h5⟩:=h;simp only[shaped,cutA,cutB,if_true,zE,zU];exact⟨⟨⟨all_take a k,rising_take f k⟩,⟨by simp[h3],trivial⟩,all_take h5 k⟩,⟨all_drop a k,rising_drop f k⟩,⟨by simp[h3],trivial⟩,all_drop h5 k⟩
 | false=>
  simp only[shaped,zL,qD,zE,zU]at h k2;obtain⟨⟨a,f⟩,⟨⟨h3,j⟩,h5⟩,h6⟩:=h;simp only[shaped,cutA,cutB,zL,qD,zE,zU];refine⟨⟨⟨all_take a k,rising_take f k⟩,⟨⟨?_,trivial⟩, ?_⟩,all_take h6 _⟩,⟨all_drop a _,rising_drop f _⟩,⟨⟨?_,trivial⟩, ?_⟩,all_drop h6 _⟩
  .intro e;have:=congrArg List.length e;rw[qA]at this;simp only[yI]at this;omega
  .rw[qA,qA];omega
  .intro e;have:=congrArg List.length e;rw[qK]at this;simp only[yI]at this;omega
  .rw[qK,qK];omega
theorem sumL_drop_le (l:List Str)(k:Nat):sumL (l.drop k)<=sumL l:=by
 have:sumL l=sumL (l.take k)+sumL (l.drop k):=by rw[<-sumL_append,qR]
 omega
theorem sumL_take_le (l:List Str)(k:Nat):sumL (l.take k)<=sumL l:=by
 have:sumL l=sumL (l.take k)+sumL (l.drop k):=by rw[<-sumL_append,qR]
 omega
theorem sumL_parts (l:List Str)(k:Nat):sumL l=sumL (l.take k)+sumL (l.drop k):=by rw[<-sumL_append,qR]
theorem cut_size {lt:Str->Str->Bool}{n:Node}(h:shaped lt n=true)(f:cutOk n k):size (cutA n k)<size n/\size (cutB n k)<size n:=by
 obtain⟨leaf,keys,a,kids⟩:=n;obtain⟨k1,k2⟩:=f;have o:=sumL_parts keys k;have i:=sumL_ge (keys.take k);have j:=sumL_ge (keys.drop k);simp only[qA,qK]at i j
 cases leaf with
 | true=>
  simp only[if_true]at k2;simp only[shaped,if_true,zE,zU]at h;have p:=sumL_parts a k;simp only[cutA,cutB,if_true,size,yI,h.2.1.2];omega
 | false=>
  simp only[zL,qD]at k2;simp only[shaped,zL,qD,zE,zU]at h;have h5:=h.2.1.2;have q:=sumL_parts keys (k+1);have m:=sumL_ge (keys.take (k+1));simp only[qA]at m;simp only[cutA,cutB,zL,qD,size,h.2.1.1.2,qA,qK];have:sumL []=0:=rfl;omega
end Go.Nd
end
section
namespace Go.Eng.Sh
open Go.Nd (Ptr sumL)
theorem mayKey_ok(s:Str)(H:AH):f74 D n [S s] H=some (.bool (Nd.mayK s),H):=by
 simp only[f74,hd_cons,nl_nil,lnStr_S,bVs,bInt_geq,bInt_leq,wnt_b,jn_ite,jn_norm,pk3_b,outR_ite,outR_ret];have a:(Int.ofNat 1<=(s.length:Int))=(1<=s.length):=by simp;omega
 have f:((s.length:Int)<=Int.ofNat 40)=(s.length<=40):=by simp;omega
 simp only[a,f,Nd.mayK];by_cases h:1<=s.length<;>simp[h,bVs,outR]
theorem sumL_nil:sumL []=0:=rfl
theorem sumL_at (l:List Str)(i:Nat)(hi:i<l.length):sumL (l.take (i+1))=sumL (l.take i)+(1+l[i].length)/\sumL (l.take i)+(1+l[i].length)<=sumL l:=by
 have a:sumL l=sumL (l.take i)+(1+l[i].length+sumL (l.drop (i+1))):=by
  rw[<-Nd.sumL_cons,<-qL hi,<-Nd.sumL_append,qR]
 refine⟨?_,by omega⟩;rw[sum_take_succ l i hi,Nd.sumL_append,Nd.sumL_cons];simp[sumL]
theorem size0 (D:Dyn)(f:Nat){l:List Str}(H:Strs h i l)(x:AV)(a:Int)(n:Nat)(t:0<=a)(m:l.length<n)(hb:a+sumL l<=1000000000000):
  loopK n (f100l0 D f) [x, .int .i64 a,i, .int .i64 (l.length:Nat), .int .i64 (0:Nat)] h=some (.exit 0 [x, .int .i64 (a+sumL l)],h):=by
 have key:=loop_for (b:=f100l0 D f) (H:=h) (r:=some (.exit 0 [x, .int .i64 (a+sumL l)],h)) (fun ks=>[x, .int .i64 (a+sumL (l.take ks)),i, .int .i64 (l.length:Nat), .int .i64 (ks:Nat)]) l.length (fun ks hi=>by
  obtain⟨p,o,q⟩:=H.at hi;obtain⟨j,u⟩:=sumL_at l ks hi;have s:=Nd.sumL_ge l;simp(disch:=omega) [f100l0,hd_cons,bVs,bInt_lss,cnd_b,hi,o,q,lnStr_S,bInt_add,wrap_i64,j,Int.add_assoc]) (fun n=>loop_exit (by
  simp[f100l0,hd_cons,bVs,bInt_lss,cnd_b])) n m
 simpa[sumL_nil]using key
theorem size1 (D:Dyn)(f:Nat){l:List Str}(H:Strs h i l)(a:Int)(n:Nat)(t:0<=a)(m:l.length<n)(hb:a+sumL l<=1000000000000):
  loopK n (f100l1 D f) [.int .i64 a,i, .int .i64 (l.length:Nat), .int .i64 (0:Nat)] h=some (.exit 2 [.int .i64 (a+sumL l)],h):=by
 have key:=loop_for (b:=f100l1 D f) (H:=h) (r:=some (.exit 2 [.int .i64 (a+sumL l)],h)) (fun ks=>[.int .i64 (a+sumL (l.take ks)),i, .int .i64 (l.length:Nat), .int .i64 (ks:Nat)]) l.length (fun ks hi=>by
  obtain⟨p,o,q⟩:=H.at hi;obtain⟨j,u⟩:=sumL_at l ks hi;have s:=Nd.sumL_ge l;simp(disch:=omega) [f100l1,hd_cons,bVs,bInt_lss,cnd_b,hi,o,q,lnStr_S,bInt_add,wrap_i64,j,Int.add_assoc]) (fun n=>loop_exit (by
  simp[f100l1,hd_cons,bVs,bInt_lss,cnd_b])) n m
 simpa[sumL_nil]using key
def ptrV (p:Ptr):List AV:=[.int .i64 p.at_, .int .i64 p.birth, .int .u64 p.sum]
def Ptrs (H:AH)(v:AV)(l:List Ptr):Prop:=Rw 3 H v l.length (l.flatMap ptrV)
def NodeV (H:AH)(v:AV)(n:Nd.Node):Prop:= ∃ks vs a,v= .agg [.bool n.leaf,ks,vs,a]/\Strs H ks n.keys/\Strs H vs n.vals/\Ptrs H a n.kids
theorem Ptrs.lnSl {H:AH}{v:AV}{l:List Ptr}(h:Ptrs H v l):Eng.lnSl v=some (.int .i64 (l.length:Int)):=Rw.lnSl h
theorem Ptrs.prs {H H':AH}{v:AV}{l:List Ptr}(h:Ptrs H v l)(s:Prs H H'):Ptrs H' v l:=Rw.prs h s
theorem flat3: ∀(l:List Ptr) (i:Nat) (hi:i<l.length),((l.flatMap ptrV).drop (i*3)).take 3=ptrV l[i]
 | [],i,hi=>by simp at hi
 | p::l,0,_=>rfl
 | p::l,i+1,hi=>by
  have:=flat3 l i (by simpa using hi);rw[show(i+1)*3=i*3+3 from by omega];exact this
theorem Ptrs.at {H:AH}{v:AV}{l:List Ptr}(h:Ptrs H v l){i:Nat}(hi:i<l.length): ∃p,(∀κ (z:Int),z=(i:Int)->ixSl 3 v (.int κ z)=some p)/\Eng.ldN 3 p H=some (.agg (ptrV l[i])):=by
 obtain⟨p,f,a⟩:=Rw.ldN h hi;rw[flat3 l i hi]at a;exact⟨p,f,a⟩
theorem NodeV.prs {H H':AH}{v:AV}{n:Nd.Node}(h:NodeV H v n)(s:Prs H H'):NodeV H' v n:=by
 obtain⟨ks,vs,a,rfl,f,i,h3⟩:=h;exact⟨ks,vs,a,rfl,f.prs s,i.prs s,h3.prs s⟩
def small (n:Nd.Node):Prop:=n.kids.length<=100000/\sumL n.keys<=100000000/\sumL n.vals<=100000000
theorem size_ok(v:h.ok){a:Nd.Node}(H:NodeV h i a)(o:small a)(t:200000000<=n):
  Ret (f100 D n [i] h) fun r H'=>r= .int .i64 (Nd.size a:Nat)/\Prs h H':=by
 obtain⟨ks,vs,p,rfl,j,m,h3⟩:=H;obtain⟨u,x,y⟩:=o;have f:Prs h (h.push (.cells [.bool a.leaf,ks,vs,p] 72 1 false)):=(jV v).push _;have q:=Nd.sumL_ge a.keys;have s:=Nd.sumL_ge a.vals;simp(disch:=omega) only[f100,ev,bA_ok v,j.lnSl,m.lnSl,h3.lnSl,size0 D n (j.prs f),f100b3,size1 D n (m.prs f),f100b2];apply Ret.pure;refine⟨?_,f⟩;simp only[Nd.size,AV.int.injEq,true_and];omega
open Go.Nd (be mayP encP)
theorem be_cons: ∀(i n:Nat),be (i+1) n=UInt8.ofNat (n / 256 ^ i)::be i n
 | 0,n=>by simp[be]
 | i+1,n=>by
  rw[be,be_cons i (n / 256),Nat.div_div_eq_div_mul,Nat.mul_comm 256,<-Nat.pow_succ];rfl
theorem set_seg {m:List AV}(h:k<A.length):(A.take (k+1)++m).set k i=A.take k++(i::m):=by
 have hl:(A.take k).length=k:=by simp;omega
 rw[sum_take_succ A k h,qC,List.set_append_right _ _ (by omega),hl];simp
theorem put_ok(q:h.ok){off k cc:Nat}(z:Nat)(t:h.h.get p=some (.cells A v 1 w))(L:off+k<=A.length)(J:k<=8)(M:100<=n):
  ∃H',f116 D n [.slice p off k cc, .int .u64 (z:Nat)] h=some (.tuple [],H')/\H'.h.get p=some (.cells (A.take off++(bytesV (be k z)++A.drop (off+k))) v 1 w)/\Stp (fun B=>B=p) h H'/\H'.next=h.next:=by
 have K:=q.lt t;have key:=loop_inv (b:=f116l0 D n) k (fun i vs H'=>vs=[.slice p off k cc, .int .u64 (z:Nat), .int .i64 (k:Nat), .int .i64 (i:Nat)]/\i<=k/\H'.h.get p=some (.cells (A.take (off+(k - i))++(bytesV (be i z)++A.drop (off+k))) v 1 w)/\Stp (fun B=>B=p) h H'/\H'.next=h.next)
  (fun i vs H' hi ⟨c,hik,hg,hst,hnx⟩=>by
   subst c;have hb:Nat.blt (k - 1 - i) k=true:=by rw[q9];omega
   have I:((k:Int) - 1 - (i:Int))=((k - 1 - i:Nat):Int):=by omega
   have y:ixSl 1 (.slice p off k cc) (.int .i64 (k - 1 - i:Nat))=some (.ptr p (off+(k - 1 - i))):=by
    simp only[ixSl,natOf_int _ (show(0:Int)<=((k - 1 - i:Nat):Int)by omega),qU,hb,zP,fN_eq,Nat.mul_one]
   have j:=st1_ok (x:= .int .u8 ((((z / 256 ^ i % 256:Nat):Nat)):Int)) (o:=off+(k - 1 - i)) hg (by decide) rfl (by simp[bytesV,Nd.be_length];omega);have u:(A.take (off+(k - i))++(bytesV (be i z)++A.drop (off+k))).set (off+(k - 1 - i)) (.int .u8 (((z / 256 ^ i % 256:Nat)):Int))=A.take (off+(k - (i+1)))++(bytesV (be (i+1) z)++A.drop (off+k)):=by
    rw[show off+(k - i)=off+(k - 1 - i)+1 by omega,set_seg (by omega),be_cons,show k - (i+1)=k - 1 - i by omega];simp[bytesV]
   have C:(z:Int) / 2 ^ (8*i)=((z / 256 ^ i:Nat):Int):=by
    rw[<-pow256];simp
   refine⟨_,H'.put p (.cells (A.take (off+(k - (i+1)))++(bytesV (be (i+1) z)++A.drop (off+k))) v 1 w), ?_,rfl,by omega,by rw[jO,if_pos rfl], ?_,hnx⟩
   .rw[u]at j;have H:=bInt_shr .u64 .i64 (a:=(z:Nat)) (s:=8*i) (by omega) (by simp[IntKind.bits];omega);rw[C]at H;have h8:(((8:Nat):Int)*(i:Int))=((8*i:Nat):Int):=by omega
    have F:IntKind.wrap .u8 ((z / 256 ^ i:Nat):Int)=((z / 256 ^ i % 256:Nat):Int):=by rw[wrap_u8];omega
    have f:(k:Int) - ((1:Nat):Int) - (i:Int)=((k - 1 - i:Nat):Int):=by omega
    simp(disch:=omega) only[f116l0,ev,lnSl,f,y,h8,H,F,j];simp[hi]
   .exact hst.put (by omega) _ (.inr rfl)) n _ h ⟨rfl,Nat.zero_le _,by simpa[be,bytesV]using t,jV q,rfl⟩ (by omega)
 obtain⟨m,vs',H',f,rfl,_,h3,G,h5⟩:=key;refine⟨H', ?_,by simpa using h3,G,h5⟩;have hl:loopK (m+1) (f116l0 D n) [.slice p off k cc, .int .u64 (z:Nat), .int .i64 (k:Nat), .int .i64 (k:Nat)] H'=some (.exit 0 [],H'):=loop_exit (by simp[f116l0,ev]);rw[hl]at f;simp only[f116,ev,lnSl,f,f116b1]
theorem eqA_ptr (p q:Ptr):eqA [6,6,10] (.agg (ptrV p)) (.agg (ptrV q))=some (decide (p=q)):=by
 obtain⟨a,b,c⟩:=p;obtain⟨i,j,c'⟩:=q;have f:=fun x y=>cellEq_int .i64 x y
 have h:=fun x y=>cellEq_int .u64 x y
 simp only[icode]at f h;simp only[eqA,ptrV,lenL,Nat.succ_eq_add_one,yC,zV,yI,qJ,zP,cellsEq,f,h];by_cases m:a=i<;>by_cases o:b=j<;>by_cases s:c=c'<;>simp[m,o,s]
theorem cmpO_eql (b:Bool):cmpO .eql (some b)=some (.bool b):=by simp only[cmpO,mkB_eq]
theorem may_ok(f:h.ok)(p:Ptr): ∃H',f95 D n [.agg (ptrV p)] h=some (.bool (mayP p),H')/\Prs h H':=by
 refine⟨h.push (.cells (ptrV p) 38 1 false), ?_,(jV f).push _⟩;have H:eqA [6,6,10] (.agg (ptrV p)) (.agg (ptrV ⟨0,0,0⟩))=_:=eqA_ptr p ⟨0,0,0⟩;obtain⟨a,b,c⟩:=p;simp only[ptrV]at H;simp only[f95,ev,bA_ok f,ptrV,subN,takeN,zY,lg,bldS,fillA];by_cases i:a=0
 .subst i;simp only[show((0:Nat):Int)=0 from rfl,if_true,H,cmpO_eql,ev,mayP];simp
 .simp only[show((0:Nat):Int)=0 from rfl,if_neg i,ev,mayP];rfl
def Z (n:Nat):List AV:=List.replicate n (.int .u8 (0:Nat))
theorem rep16:rep 16 [.int .u8 (0:Nat)]=Z 16:=rfl
theorem put_seg(m:h.ok){off k cc:Nat}{f a:List AV}(z:Nat)(o:h.h.get p=some (.cells (A++(f++a)) v 1 w))(hp:A.length=off)(s:f.length=k)(j:k<=8)(H:100<=n):
  ∃H',f116 D n [.slice p off k cc, .int .u64 (z:Nat)] h=some (.tuple [],H')/\H'.h.get p=some (.cells (A++(bytesV (be k z)++a)) v 1 w)/\Stp (fun B=>B=p) h H'/\H'.next=h.next:=by
 obtain⟨H',q,i,h3⟩:=put_ok D n m (cc:=cc) (k:=k) (off:=off) z o (by simp;omega) j H;refine⟨H',q, ?_,h3⟩;have hd:(A++(f++a)).drop (off+k)=a:=by rw[<-qC,yO (by rw[zT];omega)]
 rw[yX hp,hd]at i;exact i
theorem slA (A lo hi:Nat)(f:lo<=hi)(i:hi<=16)(h3:lo<16):slArr 16 1 (.ptr A 0) (some (.int .i64 (lo:Nat))) (some (.int .i64 (hi:Nat))) none=some (.slice A lo (hi - lo) (2*(16 - lo))):=by
 have j:Nat.ble hi 16=true:=by rw[qO];exact i
 have m:Nat.ble lo hi=true:=by rw[qO];exact f
 have a:Nat.beq 16 lo=false:=by rw[qX];intro h;have:=Nat.eq_of_beq_eq_true h;omega
 simp[slArr,natOpt,natOf_int,acut,j,m,a,fN_eq,show((32 % 2).beq 0)=true from rfl,show(32 / 2).beq lo=false from a,show Nat.blt 0 1=true from rfl]
theorem slA_hi (A:Nat):slArr 16 1 (.ptr A 0) none (some (.int .i64 (4:Nat))) none=some (.slice A 0 4 32):=rfl
theorem slA_lo (A:Nat):slArr 16 1 (.ptr A 0) (some (.int .i64 (8:Nat))) none none=some (.slice A 8 8 16):=rfl
theorem slA_no (A:Nat):slArr 16 1 (.ptr A 0) none none none=some (.slice A 0 16 32):=rfl
theorem encPtr_ok(F:h.ok){p:Ptr}(hp:mayP p=true)(U:Nd.sumOk p)(o:100<=n): ∃H',f88 D n [.agg (ptrV p)] h=some (.tuple [S (encP p), .int .i64 (0:Nat)],H')/\Prs h H':=by
 have q:Prs h (h.push (.cells (ptrV p) 38 1 false)):=(jV F).push _;obtain⟨f,V,i⟩:=may_ok D n q.ok p;have L:subN (ptrV p) 0 3=some (ptrV p):=rfl;have W: ∃a b s:Nat,p=⟨a,b,s⟩/\a<4294967296/\b<4294967296/\s<18446744073709551616:=by
  obtain⟨a,b,s⟩:=p;simp only[Nd.sumOk]at U;have h1:0<=a/\a<8192/\0<=b/\b<=2147483647:=by
   simp only[mayP]at hp;split at hp
   .simp only[zE,zU]at hp;omega
   .simp only[zE,zU]at hp;omega
  exact⟨a.toNat,b.toNat,s.toNat,by congr 1<;>omega,by omega,by omega,by omega⟩
 obtain⟨a,b,s,rfl,ha,hb,a1⟩:=W;have t: ∀x:Nat,x<18446744073709551616->IntKind.wrap .u64 (x:Int)=(x:Int):=fun x hx=>by rw[wrap_u64];omega
 have j:Prs f (f.push (.cells (Z 16) 165 1 false)):=(jV i.ok).push _;have G:(f.push (.cells (Z 16) 165 1 false)).h.get f.next=some (.cells ([]++(Z 4++Z 12)) 165 1 false):=jK _ _
 have M:(f.push (.cells (Z 16) 165 1 false)).next=f.next+1:=rfl
 generalize N:f.push (.cells (Z 16) 165 1 false)=H3 at j G M;obtain⟨Y,e4,I,st4,n4⟩:=put_seg D n j.ok (cc:=32) (k:=4) (off:=0) a G rfl (by simp[Z]) (by omega) o;rw[show[]++(bytesV (be 4 a)++Z 12)=bytesV (be 4 a)++(Z 4++Z 8)from rfl]at I;obtain⟨H5,e5,J,m,n5⟩:=put_seg D n st4.ok (cc:=24) (k:=4) (off:=4) b I (by simp[bytesV,Nd.be_length]) (by simp[Z]) (by omega) o;rw[<-qC,show Z 8=Z 8++[]from rfl]at J;obtain⟨u,e6,v,y,n6⟩:=put_seg D n m.ok (cc:=16) (k:=8) (off:=8) s J (by simp[bytesV,Nd.be_length]) (by simp[Z]) (by omega) o;have z:H3.h.get h.next=some (.cells (ptrV ⟨a,b,s⟩) 38 1 false):=j.get i.ok (i.get q.ok (jK _ _))
 have a0:h.next<f.next:=by have:=i.next;rw[jL]at this;omega
 have C:Y.h.get h.next=some (.cells (ptrV ⟨a,b,s⟩) 38 1 false):=by rw[st4.keep _ (by have:=j.next;omega) (by omega)];exact z
 have O:H5.h.get h.next=some (.cells (ptrV ⟨a,b,s⟩) 38 1 false):=by rw[m.keep _ (by have:=j.next;omega) (by omega)];exact C
 have K:bytesV (be 4 a)++bytesV (be 4 b)++(bytesV (be 8 s)++[])=bytesV (encP ⟨a,b,s⟩):=by simp[encP,bytesV]
 rw[K]at v;have Q:cvBS (.slice f.next 0 16 32) u=some (S (encP ⟨a,b,s⟩)):=cvBS_row ⟨by simp[bytesV,Nd.encP_length], .inr (.inr ⟨_,_,_,_,_,_,_,rfl,v,by have:=(y.ok).lt v;exact this,by simp[bytesV,Nd.encP_length],by simp[zW,bytesV,Nd.encP_length]⟩)⟩ (by simp)
 refine⟨u, ?_, ?_⟩
 .simp only[f88,ev,bA_ok F,L,zY,V,hp];simp only[ev,bA_ok i.ok,Bool.not_true,zL,qD,rep16,N,slA_hi,slA_lo,slA_no,slA _ 4 8 (by omega) (by omega) (by omega),ld1_get z,ld1_get C,ld1_get O,ptrV,t a (by omega),t b (by omega),t s (by omega),e4,e5,e6,Q]
 .have T:Stp (fun B=>B=f.next) H3 u:=(st4.trans m).trans y
  exact(q.trans i).trans (j.fresh T (fun A hA=>by omega))
theorem rising_iff (lt:Str->Str->Bool): ∀l:List Str,Nd.rising lt l=true↔ ∀i (h:i+1<l.length),lt l[i] l[i+1]=true
 | []=>by simp[Nd.rising]
 | [a]=>by simp[Nd.rising]
 | a::b::l=>by
  have f:=rising_iff lt (b::l);simp only[Nd.rising,zE,f];constructor
  .rintro⟨h1,h2⟩ i h
   cases i with
   | zero=>exact h1
   | succ i=>exact h2 i (by simpa using h)
  .intro h;exact⟨h 0 (by simp),fun i hi=>h (i+1) (by simpa using hi)⟩
def goodK (l:List Str)(i:Nat):Bool:=Nd.mayK (l.getD i [])&&(decide (i=0)||ltS (l.getD (i - 1) []) (l.getD i []))
theorem goodK_all (l:List Str):(List.range l.length).all (goodK l)=(l.all Nd.mayK&&Nd.rising ltS l):=by
 rw[yG,zE,rising_iff];simp only[qY,List.mem_range,goodK,zE,yW,zU];constructor
 .intro h;refine⟨fun x a=> ?_,fun i hi=> ?_⟩
  .obtain⟨i,hi,rfl⟩:=List.mem_iff_getElem.1 a;have:=(h i hi).1;rwa[qE,zO hi]at this
  .have:=(h (i+1) hi).2;simp only[Nat.add_eq_zero_iff,Nat.one_ne_zero,and_false,false_or,Nat.add_sub_cancel]at this;rwa[qE,zO (by omega),qE,zO hi]at this
 .rintro⟨h1,h2⟩ i hi
  refine⟨?_, ?_⟩
  .rw[qE,zO hi];exact h1 _ (yH hi)
  .by_cases f:i=0
   .exact .inl f
   .right;have:=h2 (i - 1) (by omega);rw[qE,zO (show i - 1<l.length by omega),qE,zO hi];simpa[show i - 1+1=i by omega]using this
theorem all_range (l:List s)(d:s)(f:s->Bool):(List.range l.length).all (fun i=>f (l.getD i d))=l.all f:=by
 rw[yG];simp only[qY,List.mem_range];constructor
 .intro h x a;obtain⟨i,hi,rfl⟩:=List.mem_iff_getElem.1 a;have:=h i hi;rwa[qE,zO hi]at this
 .intro h i hi;rw[qE,zO hi];exact h _ (yH hi)
theorem getD_lt {l:List s}{d:s}(h:k<l.length):l.getD k d=l[k]:=by rw[qE,zO h];rfl
theorem shaped0{l:List Str}(H:Strs h i l)(x:h.h.get k=some (.cells A p 1 false))(y:A[1]? =some i)(hl:l.length<=1000000000)(v:Nat)(C:l.length<v):
  ∃p H',loopK v (f73l0 D n) [.ptr k 0,i, .int .i64 (l.length:Nat), .int .i64 (0:Nat)] h=some (p,H')/\if(List.range l.length).all (goodK l)then(p= .exit 0 [.ptr k 0]/\H'=h)else(p= .ret (.bool false)/\H'=h):=by
 refine loop_all l.length (goodK l) (fun ks vs H'=>H'=h/\vs=[.ptr k 0,i, .int .i64 (l.length:Nat), .int .i64 (ks:Nat)]) (fun p H'=>p= .exit 0 [.ptr k 0]/\H'=h) (fun p H'=>p= .ret (.bool false)/\H'=h) ?_ ?_ ?_ v _ h ⟨rfl,rfl⟩ C
 .rintro ks vs H' hi ⟨rfl,rfl⟩ a
  obtain⟨e,o,s⟩:=H.at hi;simp only[goodK,getD_lt hi,zE,yW,zU]at a;refine⟨_,H', ?_,rfl,rfl⟩;have f:((ks:Nat):Int)< (l.length:Int):=by omega
  by_cases z:ks=0
  .subst z;simp(disch:=omega) only[f73l0,eZ,f,o,s,mayKey_ok,a.1,yA,show((0:Nat):Int)+((1:Nat):Int)=((0+1:Nat):Int)from rfl]
  .have j:ks - 1<l.length:=by omega
   obtain⟨q,q1,q2⟩:=H.at j;have m:=a.2.resolve_left z;rw[getD_lt j]at m;have t:((ks:Nat):Int) - ((1:Nat):Int)=((ks - 1:Nat):Int):=by omega
   have u:((0:Nat):Int)< (ks:Int):=by omega
   simp(disch:=omega) only[f73l0,eZ,f,u,o,s,mayKey_ok,a.1,ld1_get x,y,t,q1,q2,m,y7]
 .rintro ks vs H' hi ⟨rfl,rfl⟩ a
  obtain⟨e,o,s⟩:=H.at hi;have f:((ks:Nat):Int)< (l.length:Int):=by omega
  refine⟨.ret (.bool false),H', ?_,rfl,rfl,rfl⟩;simp only[goodK,getD_lt hi]at a
  cases hm:Nd.mayK l[ks]with
  | false=>simp(disch:=omega) only[f73l0,eZ,f,o,s,mayKey_ok,hm]
  | true=>
   simp only[hm,Bool.true_and,Bool.or_eq_false_iff,yK]at a;have j:ks - 1<l.length:=by omega
   obtain⟨q,q1,q2⟩:=H.at j;have m:=a.2;rw[getD_lt j]at m;have t:((ks:Nat):Int) - ((1:Nat):Int)=((ks - 1:Nat):Int):=by omega
   have u:((0:Nat):Int)< (ks:Int):=by omega
   simp(disch:=omega) only[f73l0,eZ,f,u,o,s,mayKey_ok,hm,ld1_get x,y,t,q1,q2,m]
 .rintro vs H' ⟨rfl,rfl⟩
  refine⟨.exit 0 [.ptr k 0],H', ?_,rfl,rfl,rfl⟩;simp only[f73l0,eZ,yA]
theorem shaped1{l:List Str}(H:Strs h i l)(hl:l.length<=1000000000)(m:Nat)(t:l.length<m):
  ∃e H',loopK m (f73l1 D n) [i, .int .i64 (l.length:Nat), .int .i64 (0:Nat)] h=some (e,H')/\if(List.range l.length).all (fun vs=>decide ((l.getD vs []).length<=200))then(e= .exit 2 []/\H'=h)else(e= .ret (.bool false)/\H'=h):=by
 refine loop_all l.length _ (fun vs a H'=>H'=h/\a=[i, .int .i64 (l.length:Nat), .int .i64 (vs:Nat)]) (fun e H'=>e= .exit 2 []/\H'=h) (fun e H'=>e= .ret (.bool false)/\H'=h) ?_ ?_ ?_ m _ h ⟨rfl,rfl⟩ t
 .rintro vs a H' hi ⟨rfl,rfl⟩ o
  obtain⟨p,q,s⟩:=H.at hi;simp only[getD_lt hi,zU]at o;refine⟨_,H', ?_,rfl,rfl⟩;have f:((vs:Nat):Int)< (l.length:Int):=by omega
  have j: ¬((200:Nat):Int)< ((l[vs].length:Nat):Int):=by omega
  simp(disch:=omega) only[f73l1,eZ,f,q,s,j,y7]
 .rintro vs a H' hi ⟨rfl,rfl⟩ o
  obtain⟨p,q,s⟩:=H.at hi;simp only[getD_lt hi,yK]at o;refine⟨.ret (.bool false),H', ?_,rfl,rfl,rfl⟩;have f:((vs:Nat):Int)< (l.length:Int):=by omega
  have j:((200:Nat):Int)< ((l[vs].length:Nat):Int):=by omega
  simp(disch:=omega) only[f73l1,eZ,f,q,s,j,y7]
 .rintro a H' ⟨rfl,rfl⟩
  refine⟨.exit 2 [],H', ?_,rfl,rfl,rfl⟩;simp only[f73l1,eZ,yA]
def pz:Ptr:=⟨0,0,0⟩
theorem kid_b (x:Ptr):(((decide (x.at_< ((1:Nat):Int))||decide (((8192:Nat):Int)<=x.at_))||decide (x.birth< ((0:Nat):Int)))||decide (((2147483647:Nat):Int)<x.birth))= !(Nd.kidOk x):=by
 rw[yG];simp only[Nd.kidOk,yW,zU,yS,Bool.and_eq_false_iff,yK];omega
theorem box_ptr (f:h.ok)(x:Ptr): ∃a,stN 3 (.ptr h.next 0) (.agg (ptrV x)) (h.push (.cells [.int .i64 (0:Nat), .int .i64 (0:Nat), .int .u64 (0:Nat)] 38 1 false))=some (undefA,a)/\Prs h a/\a.next=h.next+1/\a.h.get h.next=some (.cells (ptrV x) 38 1 false):=by
 refine⟨_,stN_ok (jK _ _) (by decide) rfl rfl (by decide), ?_,rfl,by rw[jO,if_pos rfl];rfl⟩;exact((jV f).push _).fresh ((jV (f.push _)).put (by rw[jL];omega) _ (.inr rfl)) (fun A i=>by omega)
theorem shaped3(z:h.ok){l:List Ptr}(H:Ptrs h i l)(hl:l.length<=1000000000)(u:Nat)(C:l.length<u):
  ∃e H',loopK u (f73l3 D n) [i, .int .i64 (l.length:Nat), .int .i64 (0:Nat)] h=some (e,H')/\if(List.range l.length).all (fun vs=>Nd.kidOk (l.getD vs pz))then(e= .exit 4 []/\Prs h H')else(e= .ret (.bool false)/\Prs h H'):=by
 refine loop_all l.length _ (fun vs q H'=>Prs h H'/\q=[i, .int .i64 (l.length:Nat), .int .i64 (vs:Nat)]) (fun e H'=>e= .exit 4 []/\Prs h H') (fun e H'=>e= .ret (.bool false)/\Prs h H') ?_ ?_ ?_ u _ h ⟨jV z,rfl⟩ C
 .rintro vs q H' hi ⟨a,rfl⟩ f
  obtain⟨p,v,j⟩:=(H.prs a).at hi;simp only[getD_lt hi]at f;generalize l[vs]=x at f j;obtain⟨y,m,s,F,o⟩:=box_ptr a.ok x;have t:((vs:Nat):Int)< (l.length:Int):=by omega
  have hb:=kid_b x;rw[f]at hb;simp only[ptrV]at o m j;refine⟨_,y, ?_,a.trans s,rfl⟩;simp(disch:=omega) only[f73l3,eZ,t,v,j,bA_ok a.ok,m,ld1_get o,hb,y7]
 .rintro vs q H' hi ⟨a,rfl⟩ f
  obtain⟨p,v,j⟩:=(H.prs a).at hi;simp only[getD_lt hi]at f;generalize l[vs]=x at f j;obtain⟨y,m,s,F,o⟩:=box_ptr a.ok x;have t:((vs:Nat):Int)< (l.length:Int):=by omega
  have hb:=kid_b x;rw[f]at hb;simp only[ptrV]at o m j;refine⟨.ret (.bool false),y, ?_,rfl,rfl,a.trans s⟩;simp(disch:=omega) only[f73l3,eZ,t,v,j,bA_ok a.ok,m,ld1_get o,hb]
 .rintro q H' ⟨a,rfl⟩
  refine⟨.exit 4 [],H', ?_,rfl,rfl,a⟩;simp only[f73l3,eZ,yA]
theorem shaped_ok(O:h.ok){f:Nd.Node}(H:NodeV h i f)(Y:small f)(hn:200000000<=n):
  ∃H',f73 D n [i] h=some (.bool (Nd.shaped ltS f),H')/\Prs h H':=by
 obtain⟨ks,vs,s,rfl,j,p,h3⟩:=H;obtain⟨Z,s2,s3⟩:=Y;have v:Prs h (h.push (.cells [.bool f.leaf,ks,vs,s] 72 1 false)):=(jV O).push _;have m:(h.push (.cells [.bool f.leaf,ks,vs,s] 72 1 false)).h.get h.next=some (.cells [.bool f.leaf,ks,vs,s] 72 1 false):=jK _ _
 have T:=Nd.sumL_ge f.keys;have U:=Nd.sumL_ge f.vals;have hf:f73 D n [.agg [.bool f.leaf,ks,vs,s]] h=outR (jb 0 (loopK n (f73l0 D n) [.ptr h.next 0,ks, .int .i64 (f.keys.length:Nat), .int .i64 (0:Nat)] (h.push (.cells [.bool f.leaf,ks,vs,s] 72 1 false))) (f73b5 D n)):=by
  simp only[f73,eZ,bA_ok O,j.lnSl]
 rw[hf];generalize h.push (.cells [.bool f.leaf,ks,vs,s] 72 1 false)=H1 at v m;obtain⟨e0,L,e1,C⟩:=shaped0 D n (j.prs v) m (by rfl) (by omega) n (by omega);rw[e1];rw[goodK_all]at C;split at C
 .rename_i M;obtain⟨rfl,rfl⟩:=C;simp only[Nd.shaped,M,Bool.true_and];obtain⟨leaf,keys,a,kids⟩:=f;simp only at j p h3 m T U Z s2 s3 M⊢
  cases leaf with
  | true=>
   by_cases u:a.length=keys.length/\kids.length=0
   .obtain⟨G,I⟩:=u;obtain⟨e3,x,y,o⟩:=shaped1 D n (p.prs v) (by omega) n (by omega);have z: ¬((a.length:Int)≠(keys.length:Int)):=by omega
    have t: ¬((kids.length:Int)≠((0:Nat):Int)):=by omega
    have J:kids=[]:=zR I;rw[all_range a ([]:Str) (fun i=>decide (i.length<=200))]at o;split at o
    .rename_i q;obtain⟨rfl,rfl⟩:=o;refine⟨x, ?_,v⟩;have hr:(decide (a.length=keys.length)&&decide (kids=[])&&a.all fun i=>decide (i.length<=200))=true:=by simp only[G,J,q,decide_true,qJ]
     simp only[f73b5,eZ,ld1_get m,j.lnSl,p.lnSl,h3.lnSl,z,t,y,f73b2,hr]
    .rename_i q;obtain⟨rfl,rfl⟩:=o;refine⟨x, ?_,v⟩;have hr:(decide (a.length=keys.length)&&decide (kids=[])&&a.all fun i=>decide (i.length<=200))=false:=by simp only[qX.2 q,Bool.and_false]
     simp only[f73b5,eZ,ld1_get m,j.lnSl,p.lnSl,h3.lnSl,z,t,y,f73b2,hr]
   .refine⟨L, ?_,v⟩;have hr:(decide (a.length=keys.length)&&decide (kids=[]))=false:=by
     rw[Bool.and_eq_false_iff,yK,yK];by_cases Q:a.length=keys.length
     .right;intro hb;exact u ⟨Q,by rw[hb];rfl⟩
     .exact .inl Q
    simp only[f73b5,eZ,ld1_get m,j.lnSl,p.lnSl,h3.lnSl,hr];rw[if_pos (by simp only[yW,zU];omega)];simp only[eZ]
  | false=>
   by_cases u:keys.length≠0/\a.length=0/\kids.length=keys.length+1
   .obtain⟨G,I,V⟩:=u;obtain⟨e3,x,y,o⟩:=shaped3 D n v.ok (h3.prs v) (by omega) n (by omega);have z: ¬((keys.length:Int)=((0:Nat):Int)):=by omega
    have t: ¬((a.length:Int)≠((0:Nat):Int)):=by omega
    have N: ¬((kids.length:Int)≠(keys.length:Int)+((1:Nat):Int)):=by omega
    have W:a=[]:=zR I;have J:keys≠[]:=fun e=>G (by rw[e];rfl)
    rw[all_range kids pz Nd.kidOk]at o;split at o
    .rename_i q;obtain⟨rfl,K⟩:=o;refine⟨x, ?_,v.trans K⟩;have hr:(decide (keys≠[])&&decide (a=[])&&decide (kids.length=keys.length+1)&&kids.all Nd.kidOk)=true:=by simp only[V,W,q,decide_eq_true J,decide_true,qJ]
     simp(disch:=omega) only[f73b5,eZ,ld1_get m,j.lnSl,p.lnSl,h3.lnSl,z,t,N,y,f73b4,hr]
    .rename_i q;obtain⟨rfl,K⟩:=o;refine⟨x, ?_,v.trans K⟩;have hr:(decide (keys≠[])&&decide (a=[])&&decide (kids.length=keys.length+1)&&kids.all Nd.kidOk)=false:=by simp only[qX.2 q,Bool.and_false]
     simp(disch:=omega) only[f73b5,eZ,ld1_get m,j.lnSl,p.lnSl,h3.lnSl,z,t,N,y,f73b4,hr]
   .refine⟨L, ?_,v⟩;have hr:(decide (keys≠[])&&decide (a=[])&&decide (kids.length=keys.length+1))=false:=by
     rw[qX];intro F;simp only[zE,zU]at F;exact u ⟨fun e=>F.1.1 (zR e),by rw[F.1.2];rfl,F.2⟩
    simp(disch:=omega) only[f73b5,eZ,ld1_get m,j.lnSl,p.lnSl,h3.lnSl,hr];rw[if_pos (by simp only[yW,zU];omega)];simp only[eZ]
 .rename_i S;obtain⟨rfl,rfl⟩:=C;refine⟨L, ?_,v⟩;simp only[Nd.shaped,qX.2 S,eZ]
theorem nodeV_sub (a:Nd.Node)(ks vs f:AV):subN [.bool a.leaf,ks,vs,f] 0 4=some [.bool a.leaf,ks,vs,f]:=rfl
theorem mayN_ok(j:h.ok){a:Nd.Node}(H:NodeV h i a)(p:small a)(q:200000000<=n):
  ∃H',f132 D n [i] h=some (.bool (Nd.may ltS a),H')/\Prs h H':=by
 have s:=H;obtain⟨ks,vs,m,rfl,I,J,h3⟩:=H;have f:Prs h (h.push (.cells [.bool a.leaf,ks,vs,m] 72 1 false)):=(jV j).push _;have y:(h.push (.cells [.bool a.leaf,ks,vs,m] 72 1 false)).h.get h.next=some (.cells [.bool a.leaf,ks,vs,m] 72 1 false):=jK _ _
 obtain⟨C,t,v⟩:=shaped_ok D n f.ok (s.prs f) p q;obtain⟨z,F,G,rfl,u⟩:=size_ok D n v.ok (s.prs (f.trans v)) p q
 cases o:Nd.shaped ltS a with
 | true=>
  refine⟨F, ?_,(f.trans v).trans u⟩;have x:(((Nd.size a:Nat):Int)<=((500:Nat):Int))=(Nd.size a<=500):=by rw[eq_iff_iff];omega
  simp only[f132,eZ,bA_ok j,nodeV_sub,zY,t,o,ldN_get (v.get f.ok y),G,x,Nd.may]
 | false=>
  refine⟨C, ?_,f.trans v⟩;simp only[f132,eZ,bA_ok j,nodeV_sub,zY,t,o,Nd.may]
end Go.Eng.Sh
end
section
namespace Go.Eng
def GrowF (k e:Nat)(H:AH)(v:AV)(n:Nat)(l:List AV):Prop:=
 Own k e H v n l\/(l.length=n*k/\ ∃A a g,v= .slice A 0 n (2*n)/\A<H.next/\H.h.get A=some (.cells l a k g))
theorem GrowF.len (e:GrowF k p h i C A):A.length=C*k:=by
 rcases e with e | e
 .exact e.1
 .exact e.1
theorem GrowF.row {k e n:Nat}{H:AH}{v:AV}{l:List AV}(h:GrowF k e H v n l):Rw k H v n l:=by
 rcases h with h | ⟨a,A,f,g,rfl,i,j⟩
 .exact h.row
 .exact⟨a, .inr (.inr ⟨A,0,2*n,l,f,k,g,rfl,j,i,by omega,by rw[yE,zW (by omega)]⟩)⟩
theorem GrowF.mono {k e n:Nat}{S:Nat->Prop}{H H':AH}{v:AV}{l:List AV}(h:GrowF k e H v n l)(s:Stp S H H')(a: ∀A,Blk v A-> ¬S A):GrowF k e H' v n l:=by
 rcases h with h | ⟨i,A,j,g,rfl,f,m⟩
 .exact .inl (h.mono s a)
 .exact .inr ⟨i,A,j,g,rfl,qF f s.next,by rw[s.keep A f (a A (jS.2 rfl))];exact m⟩
theorem GrowF.lt {H:AH}(h:GrowF k p H i C A)(a:Blk i E):E<H.next:=by
 rcases h with⟨_,⟨rfl,_⟩ | ⟨n,rfl,f,_⟩⟩ | ⟨_,n,e,g,rfl,f,_⟩
 .exact(jZ.1 a).elim
 .rw[jS.1 a];exact f
 .rw[jS.1 a];exact f
theorem GrowF.app1 {k e bytes n m:Nat}{H:AH}{v:AV}{l new:List AV}(i:H.ok)(o:0<k)(h:GrowF k e H v n l)(hm:new.length=m*k)(y:n+m<=1000000000)(hb:bytes<=1000):
  ∃p H',Eng.app1 e k bytes m new v H=some (p,H')/\GrowF k e H' p (n+m) (l++new)/\Stp (Blk v) H H'/\(∀B,Blk p B->Blk v B\/H.next<=B):=by
 by_cases q:m=0
 .subst q;have:new=[]:=zR (by simpa using hm);subst this;rcases h with h | ⟨q,A,j,g,rfl,s,t⟩
  .obtain⟨H',f,u,h3,G⟩:=app1_none (bytes:=bytes) i o h;exact⟨v,H',f, .inl (by simpa using u),h3.mono (fun _ _ x=>x.elim),fun B a=> .inl a⟩
  .have z:roomOf l g k 0 (2*n) k=n:=by
    simp only[roomOf,show((2*n) % 2).beq 0=true by rw[j6];rfl,zP,yL n (show 0<2 by omega)]
   have I:Nat.blt 0 k=true:=by rw[q9];exact o
   have C:setAt l (0+n*k) []=some l:=by rw[setAt_some (by simp;omega)];simp
   have F:(H.put A (.cells l j k g)).h.get A=some (.cells l j k g):=by rw[jO,if_pos rfl]
   refine⟨.slice A 0 n (2*n),H.put A (.cells l j k g), ?_, .inr ⟨by simpa using q,A,j,g,rfl,s,by simpa using F⟩,(jV i).put s _ (.inr (jS.2 rfl)),fun B a=> .inl a⟩;simp only[Eng.app1,t,app2,z,Nat.add_zero,Nat.ble_eq_true_of_le (zK n),zP,I,C,appIn,putA_ok,fN_eq]
 .rcases h with h | ⟨hl,A,j,g,rfl,s,t⟩
  .obtain⟨H',f,u,h3,G⟩:=app1_own (bytes:=bytes) i o h hm (by omega) y hb;exact⟨_,H',f, .inl u,h3,fun B a=> .inr (by rw[jS.1 a];exact zK _)⟩
  .have f:=app1_full (k:=k) (e:=e) (bytes:=bytes) (n:=n) (m:=m) (off:=0) (new:=new) i t (by omega) (by omega) y hb;rw[yE,zW (by omega)]at f;refine⟨_,_,f, .inl ⟨by simp[hl,hm,yZ], .inr ⟨H.next,rfl,Nat.lt_succ_self _,jK _ _⟩⟩,(jV i).push _,fun B a=> .inr (by rw[jS.1 a];exact zK _)⟩
theorem GrowF.app {bytes m:Nat}{new:List AV}(H:h.ok)(f:0<k)(n:GrowF k p h i C A)(j:srcOf k t h=some (m,new))(hm:new.length=m*k)(o:allCells new=true)(e:C+m<=1000000000)(hb:bytes<=1000):
  ∃a H',apP p k bytes i t h=some (a,H')/\GrowF k p H' a (C+m) (A++new)/\Stp (Blk i) h H'/\(∀B,Blk a B->Blk i B\/h.next<=B):=by
 obtain⟨a,H',q,v⟩:=n.app1 (bytes:=bytes) (e:=p) H f hm e hb;exact⟨a,H',by simp only[apP,j,o,zP,q],v⟩
theorem GrowF.isCell {k e n:Nat}{H:AH}{v:AV}{l:List AV}(h:GrowF k e H v n l):isCell v=true:=h.row.isCell
end Go.Eng
namespace Go.Eng.Sh
open Go.Nd (Ptr sumL encT encP)
def OutB (P:Nat->Prop)(H:AH)(A:Nat)(l:Str):Prop:= ∃v,Box H A v/\GrowF 1 5 H v l.length (bytesV l)/\(∀B,Blk v B-> ¬P B/\B≠A)/\ ¬P A
theorem bldL1 (e sz:Nat)(z x:AV)(h:isCell x=true):bldL e 1 1 [z] [(0,x)]=some (.cells [x] e 1 false,fun A=> .slice A 0 1 2):=by
 simp only[bldL,fillA,cellsA_cell h,lenL,yC,zP,rep];rfl
theorem OutB.app {P:Nat->Prop}{H:AH}{A:Nat}{l m:Str}(h:OutB P H A l)(o:H.ok)(F: ∀B,P B->B<H.next){s:AV}(G:srcOf 1 s H=some (m.length,bytesV m))(I:l.length+m.length<=1000000000):
  ∃v f H' i,ld1 (.ptr A 0) H=some v/\apP 5 1 1 v s H=some (f,H')/\stN 1 (.ptr A 0) f H'=some (undefA,i)/\OutB P i A (l++m)/\Stp (fun B=> ¬P B) H i:=by
 obtain⟨v,hb,J,j,t⟩:=h;obtain⟨f,H',K,u,p,y⟩:=J.app (bytes:=1) o (by decide) G (by simp[bytesV]) (bytesV_cells m) I (by decide);have C:Box H' A v:=hb.mono o p (fun x=>(j A x).2 rfl);obtain⟨i,L,b2,z⟩:=C.st p.ok u.isCell;have M:=hb.lt o;have q: ∀B,Blk f B->B≠A:=fun B a e=>by
  rcases y B a with h | h
  .exact(j B h).2 e
  .omega
 refine⟨v,f,H',i,hb.ld,K,L,⟨f,b2, ?_,fun B a=>⟨fun hp=> ?_,q B a⟩,t⟩, ?_⟩
 .have:=u.mono z (fun B a=>q B a);simpa[bytesV]using this
 .rcases y B a with h | h
  .exact(j B h).1 hp
  .have:=F B hp;omega
 .exact(p.mono (fun B _ a=>(j B a).1)).trans (z.mono (fun B _ a=>by rw[a];exact t))
theorem text_ok{l s:Str}(P:OutB e h k l)(f:h.ok)(j: ∀B,e B->B<h.next)(T:l.length+s.length+1<=1000000000):
  ∃H',f137 D n [S s, .ptr k 0] h=some (.tuple [],H')/\OutB e H' k (l++encT s)/\Stp (fun B=> ¬e B) h H':=by
 have q:IntKind.wrap .u8 (s.length:Int)=(((UInt8.ofNat s.length).toNat:Nat):Int):=by rw[wrap_u8,UInt8.toNat_ofNat'];omega
 have a:Prs h (h.push (.cells [.int .u8 ((UInt8.ofNat s.length).toNat:Nat)] 5 1 false)):=(jV f).push _;have t:OutB e (h.push (.cells [.int .u8 ((UInt8.ofNat s.length).toNat:Nat)] 5 1 false)) k l:=by
  obtain⟨v,hb,y,z,C⟩:=P;exact⟨v,hb.mono f a (fun x=>x),y.mono a (fun _ _ x=>x),z,C⟩
 have o:=srcOf_new (k:=1) h (bytesV [UInt8.ofNat s.length]) 5 1 false 1 2 rfl;obtain⟨v,U,V,F,G,I,J,K,st2⟩:=t.app a.ok (fun B i=>Nat.lt_succ_of_lt (j B i)) (m:=[UInt8.ofNat s.length]) o (by simp;omega);obtain⟨u,W,Y,L,M,N,O,Q,st4⟩:=K.app st2.ok (fun B i=>qF (j B i) (qP a.next st2.next)) (m:=s) (srcOf_S s F) (by simp;omega)
 have p:ld1 (.ptr k 0) h=some v:=by
  have:=G;rw[ld1_old _ _ (by obtain⟨v,hb,_⟩:=P;exact hb.lt f)]at this;exact this
 refine⟨L, ?_, ?_,(a.stp.trans st2).trans st4⟩
 .simp only[f137,eZ,p,q];rw[bldL1 5 1 _ _ rfl];simp only[eZ,bA_ok f,I,J,M,N,O]
 .simpa[encT]using Q
theorem kid_ok{E:Nat}{l:Str}{p:Ptr}(P:OutB e h k l)(f:h.ok)(q: ∀B,e B->B<h.next)(hp:Nd.mayP p=true)(s:Nd.sumOk p)(N:l.length+16<=1000000000)(j:100<=n):
  ∃H',f138 D n [.agg (ptrV p), .ptr E 0, .ptr k 0] h=some (.tuple [],H')/\OutB e H' k (l++encP p)/\Stp (fun B=> ¬e B) h H':=by
 have i:Prs h (h.push (.cells (ptrV p) 38 1 false)):=(jV f).push _;obtain⟨t,u,o⟩:=encPtr_ok D n i.ok hp s j;have a:=i.trans o;have y:OutB e t k l:=by
  obtain⟨v,hb,z,C,F⟩:=P;exact⟨v,hb.mono f a (fun x=>x),z.mono a (fun _ _ x=>x),C,F⟩
 obtain⟨v,O,Q,G,I,J,K,L,st4⟩:=y.app a.ok (fun B M=>qF (q B M) a.next) (m:=encP p) (srcOf_S _ _) (by rw[Nd.encP_length];omega)
 refine⟨G, ?_,L,(Prs.stp a).trans st4⟩;simp only[f138,eZ,bA_ok f,show subN (ptrV p) 0 3=some (ptrV p)from rfl,zY,u,pExtract,nth,ne_eq,not_true_eq_false,f138j0,I,J,K]
theorem callT (m n:Nat)(x a:AV)(H:AH):callV [(73,f73 (dy (m+1)) n),(100,f100 (dy (m+1)) n)] (dy (m+1)) (.func 137 [] [a]) [x] H=f137 (dy m) m [x,a] H:=rfl
theorem callKd (m n:Nat)(x e a:AV)(H:AH):callV [(73,f73 (dy (m+1)) n),(100,f100 (dy (m+1)) n)] (dy (m+1)) (.func 138 [] [e,a]) [x] H=f138 (dy m) m [x,e,a] H:=rfl
structure EncI (N E:Nat)(A:Nat)(H0 H:AH)(l:Str):Prop where
 prs:Prs H0 H
 n:H0.next=N
 out:OutB (fun B=>B<N\/B=E) H A l
 err:Box H E (.int .i64 (0:Nat))
theorem EncI.step {N E A:Nat}{H0 H H':AH}{l l':Str}(h:EncI N E A H0 H l)(f:OutB (fun B=>B<N\/B=E) H' A l')(a:Stp (fun B=> ¬(B<N\/B=E)) H H'):EncI N E A H0 H' l':=
 ⟨h.prs.fresh a (fun B j=>by rw[h.n];omega),h.n,f,h.err.mono h.prs.ok a (fun i=>i (.inr rfl))⟩
theorem EncI.lt {N E A:Nat}{H0 H:AH}{l:Str}(h:EncI N E A H0 H l): ∀B,(B<N\/B=E)->B<H.next:=by
 rintro B (a | rfl)
 .have:=h.prs.next;rw[h.n]at this;omega
 .exact h.err.lt h.prs.ok
theorem encLoopL (m n:Nat){keys a:List Str}(hX:h.h.get E=some (.cells [.bool true,i,t,B] 72 1 false))(x:h.ok)(I:Strs h i keys)(J:Strs h t a)(hl:a.length=keys.length)
  (hb:sumL keys+sumL a<=10000000) (hd:Str) (V:hd.length<=1000) (H0:EncI k p C h l hd) (ks:Nat) (y:keys.length<ks):
  ∃H',loopK ks (f108l1 (dy (m+1)) n) [.ptr E 0, .ptr C 0, .ptr p 0, .func 137 [] [.ptr C 0], .func 138 [] [.ptr p 0, .ptr C 0],i, .int .i64 (keys.length:Nat), .int .i64 (0:Nat)] l=some (.exit 0 [.ptr C 0, .ptr p 0],H')/\EncI k p C h H' (hd++Nd.encL keys a):=by
 have W:=Nd.sumL_ge keys;have key:=loop_inv (b:=f108l1 (dy (m+1)) n) keys.length (fun H u H'=>u=[.ptr E 0, .ptr C 0, .ptr p 0, .func 137 [] [.ptr C 0], .func 138 [] [.ptr p 0, .ptr C 0],i, .int .i64 (keys.length:Nat), .int .i64 (H:Nat)]/\EncI k p C h H' (hd++Nd.encL (keys.take H) (a.take H)))
  (fun H u H1 hi ⟨z,f⟩=>by
   subst z;have o:H<a.length:=by omega
   obtain⟨A,K,L⟩:=(I.prs f.prs).at hi;obtain⟨_,Y⟩:=sumL_at keys H hi;obtain⟨_,Z⟩:=sumL_at a H o;have v:(Nd.encL (keys.take H) (a.take H)).length=sumL (keys.take H)+sumL (a.take H):=Nd.encL_length _ _ (by simp[hl]);obtain⟨H2,M,O,st2⟩:=text_ok (dy m) m (s:=keys[H]) f.out f.prs.ok f.lt (by simp only[zT,v];omega);have j:=f.step O st2;obtain⟨q,q1,q2⟩:=(J.prs j.prs).at o;obtain⟨Q,S,T,st3⟩:=text_ok (dy m) m (s:=a[H]) j.out j.prs.ok j.lt (by simp only[zT,v,Nd.encT,zV];omega);have X:=j.step T st3;have F:((H:Nat):Int)< (keys.length:Int):=by omega
   refine⟨_,Q, ?_,rfl, ?_⟩
   .simp(disch:=omega) only[f108l1,eZ,F,K,L,callT,M,ld1_get (j.prs.get x hX),q1,q2,S,f108j0,y7]
   .rw[sum_take_succ keys H hi,sum_take_succ a H o,Nd.encL_snoc _ _ _ _ (by simp[hl])];simpa using X) ks _ l ⟨rfl,by simpa[Nd.encL]using H0⟩ y
 obtain⟨N,u,H',U,rfl,f⟩:=key;refine⟨H', ?_,by rw[zW (zK _),zW (by omega)]at f;exact f⟩;rw[U];exact loop_exit (by simp only[f108l1,eZ,yA])
theorem encLoopI (m n:Nat)(hm:100<=m){E X:Nat}{keys:List Str}{k0:Ptr}{kids:List Ptr}(hX:h.h.get X=some (.cells [.bool false,i,t,B] 72 1 false))(z:h.ok)(L:Strs h i keys)(M:Ptrs h B (k0::kids))(hl:kids.length=keys.length)
  (y: ∀p∈kids,Nd.mayP p=true/\Nd.sumOk p) (hb:sumL keys+16*kids.length<=10000000) (hd:Str) (Z:hd.length<=1000) (H0:EncI k E C h l hd) (o:Nat) (A:keys.length<o):
  ∃H',loopK o (f108l1 (dy (m+1)) n) [.ptr X 0, .ptr C 0, .ptr E 0, .func 137 [] [.ptr C 0], .func 138 [] [.ptr E 0, .ptr C 0],i, .int .i64 (keys.length:Nat), .int .i64 (0:Nat)] l=some (.exit 0 [.ptr C 0, .ptr E 0],H')/\EncI k E C h H' (hd++Nd.encI keys kids):=by
 have a0:=Nd.sumL_ge keys;have key:=loop_inv (b:=f108l1 (dy (m+1)) n) keys.length (fun H ks H'=>ks=[.ptr X 0, .ptr C 0, .ptr E 0, .func 137 [] [.ptr C 0], .func 138 [] [.ptr E 0, .ptr C 0],i, .int .i64 (keys.length:Nat), .int .i64 (H:Nat)]/\EncI k E C h H' (hd++Nd.encI (keys.take H) (kids.take H)))
  (fun H ks H1 hi ⟨F,a⟩=>by
   subst F;have j:H<kids.length:=by omega
   obtain⟨p,O,Q⟩:=(L.prs a.prs).at hi;obtain⟨_,a1⟩:=sumL_at keys H hi;have u:(Nd.encI (keys.take H) (kids.take H)).length=sumL (keys.take H)+16*(kids.take H).length:=Nd.encI_length _ _ (by simp[hl]);have v:(kids.take H).length=H:=by simp;omega
   obtain⟨H2,S,T,st2⟩:=text_ok (dy m) m (s:=keys[H]) a.out a.prs.ok a.lt (by simp only[zT,u,v];omega);have f:=a.step T st2;obtain⟨q,q1,q2⟩:=Ptrs.at (M.prs f.prs) (i:=H+1) (by simpa using j);obtain⟨G,I⟩:=y _ (yH j);obtain⟨U,V,W,st3⟩:=kid_ok (dy m) m (E:=E) (p:=kids[H]) f.out f.prs.ok f.lt G I (by simp only[zT,u,v,Nd.encT,zV];omega) hm;have J:=f.step W st3;have K:((H:Nat):Int)< (keys.length:Int):=by omega
   simp only[List.getElem_cons_succ]at q2;refine⟨_,U, ?_,rfl, ?_⟩
   .simp(disch:=omega) only[f108l1,eZ,K,O,Q,callT,S,ld1_get (f.prs.get z hX),q1,q2,callKd,V,f108j0,y7]
   .rw[sum_take_succ keys H hi,sum_take_succ kids H j,Nd.encI_snoc _ _ _ _ (by simp[hl])];simpa using J) o _ l ⟨rfl,by simpa[Nd.encI]using H0⟩ A
 obtain⟨N,ks,H',Y,rfl,a⟩:=key;refine⟨H', ?_,by rw[zW (zK _),zW (by omega)]at a;exact a⟩;rw[Y];exact loop_exit (by simp only[f108l1,eZ,yA])
theorem Box.new (H:AH)(v:AV)(e:TypeId):Box (H.push (.cells [v] e 1 false)) H.next v:=⟨e,jK _ _⟩
theorem encHead (J:h.ok)(k:Nat): ∃a i,stN 1 (.ptr (h.next+1) 0) (.slice h.next 0 2 4) ((h.push (.cells [.int .u8 (((UInt8.ofNat (k / 256)).toNat:Nat):Int), .int .u8 ((UInt8.ofNat k).toNat:Nat)] 5 1 false)).push (.cells [.nS] 166 1 false))=some (undefA,a)/\a.ok/\a.next=h.next+2/\
  stN 1 (.ptr (h.next+2) 0) (.int .i64 (0:Nat)) (a.push (.cells [.int .i64 (0:Nat)] 28 1 false))=some (undefA,i)/\EncI h.next (h.next+2) (h.next+1) h i (Nd.be 2 k):=by
 have j:Prs h (h.push (.cells [.int .u8 (((UInt8.ofNat (k / 256)).toNat:Nat):Int), .int .u8 ((UInt8.ofNat k).toNat:Nat)] 5 1 false)):=(jV J).push _;have v:(h.push (.cells [.int .u8 (((UInt8.ofNat (k / 256)).toNat:Nat):Int), .int .u8 ((UInt8.ofNat k).toNat:Nat)] 5 1 false)).h.get h.next=some (.cells (bytesV (Nd.be 2 k)) 5 1 false):=jK _ _
 have y:(h.push (.cells [.int .u8 (((UInt8.ofNat (k / 256)).toNat:Nat):Int), .int .u8 ((UInt8.ofNat k).toNat:Nat)] 5 1 false)).next=h.next+1:=rfl
 generalize h.push (.cells [.int .u8 (((UInt8.ofNat (k / 256)).toNat:Nat):Int), .int .u8 ((UInt8.ofNat k).toNat:Nat)] 5 1 false)=H4 at j v y;have m:=Box.new H4 .nS 166;have h5:Prs H4 (H4.push (.cells [.nS] 166 1 false)):=(jV j.ok).push _;have z:(H4.push (.cells [.nS] 166 1 false)).next=H4.next+1:=rfl
 have C:=h5.get j.ok v;generalize H4.push (.cells [.nS] 166 1 false)=H5 at h5 m z C;rw[y]at m z;obtain⟨a,p,K,f⟩:=m.st h5.ok (x:= .slice h.next 0 2 4) rfl
 have T:=f.next
 have L:a.h.get h.next=some (.cells (bytesV (Nd.be 2 k)) 5 1 false):=by rw[f.keep _ (by omega) (by omega)];exact C
 have t:a.next=h.next+2:=by
  have:a.next=H5.next:=by
   obtain⟨e,hb⟩:=m;have:=st1_ok (x:= .slice h.next 0 2 4) (o:=0) hb (by decide) rfl (by simp)
   rw[this]at p;simp only[zB,zQ,true_and]at p;rw[<-p];rfl
  omega
 have M:Prs h a:=(j.trans h5).fresh f (fun A N=>by omega);have s:=Box.new a (.int .i64 (0:Nat)) 28;have h7:Prs a (a.push (.cells [.int .i64 (0:Nat)] 28 1 false)):=(jV f.ok).push _;have F:(a.push (.cells [.int .i64 (0:Nat)] 28 1 false)).next=a.next+1:=rfl
 have G:=h7.get f.ok L;have u:=K.mono f.ok h7 (fun x=>x);generalize I:a.push (.cells [.int .i64 (0:Nat)] 28 1 false)=H7 at h7 s F G u;rw[t]at s F;obtain⟨i,O,Q,q⟩:=s.st h7.ok (x:= .int .i64 (0:Nat)) rfl;have U:=q.next
 refine⟨a,i,p,f.ok,t,by rw[I];exact O,⟨(M.trans h7).fresh q (fun A N=>by omega),rfl,⟨_,u.mono h7.ok q (by omega), .inr ⟨rfl,h.next,5,false,rfl,by omega,by rw[q.keep _ (by omega) (by omega)];exact G⟩, ?_,by omega⟩,Q⟩⟩
 intro B S;rw[jS]at S;omega
theorem sub4 (a b c d:AV):subN [a,b,c,d] 0 4=some [a,b,c,d]:=rfl
def encR (a:Nd.Node):Str×Nat:=if Nd.shaped ltS a then if Nd.size a<=500 then(Nd.encN a,0)else([],40)else([],4)
theorem encode_ok (m n:Nat)(hm:100<=m)(hn:200000000<=n)(M:h.ok){J:Nd.Node}(H:NodeV h i J)(hs:small J)(Z: ∀p∈J.kids,Nd.sumOk p):
  ∃H',f108 (dy (m+1)) n [i] h=some (.tuple [S (encR J).1, .int .i64 ((encR J).2:Nat)],H')/\Prs h H':=by
 obtain⟨leaf,keys,Q,kids⟩:=J;have h0:=H;obtain⟨ks,vs,ps,rfl,N,h2,h3⟩:=H;simp only at h0 N h2 h3 Z⊢;have O:Prs h (h.push (.cells [.bool leaf,ks,vs,ps] 72 1 false)):=(jV M).push _;have W:(h.push (.cells [.bool leaf,ks,vs,ps] 72 1 false)).h.get h.next=some (.cells [.bool leaf,ks,vs,ps] 72 1 false):=jK _ _
 obtain⟨H2,Y,K⟩:=shaped_ok (dy (m+1)) n O.ok (h0.prs O) hs hn;have a4:(AV.str 0 0)=S []:=rfl
 cases G:Nd.shaped ltS ⟨leaf,keys,Q,kids⟩with
 | false=>
  refine⟨H2, ?_,O.trans K⟩;simp only[f108,eZ,bA_ok M,sub4,zY,Y,G,encR,a4]
 | true=>
  have U:=K.get O.ok W;have a0:Prs h H2:=O.trans K;obtain⟨z,o,e3,rfl,f⟩:=size_ok (dy (m+1)) n K.ok (h0.prs a0) hs hn;have I:=f.get K.ok U;have t:Prs h o:=a0.trans f;by_cases V:Nd.size ⟨leaf,keys,Q,kids⟩<=500
  .have T: ¬((500:Nat):Int)< ((Nd.size ⟨leaf,keys,Q,kids⟩:Nat):Int):=by omega
   obtain⟨H6,H8,e6,a5,n6,e8,j⟩:=encHead f.ok keys.length;have b4:=Nd.be_length 2 keys.length;have w1:IntKind.wrap .u8 ((keys.length:Int) / 2 ^ 8)=(((UInt8.ofNat (keys.length / 256)).toNat:Nat):Int):=by rw[wrap_u8,UInt8.toNat_ofNat'];omega
   have w2:IntKind.wrap .u8 (keys.length:Int)=(((UInt8.ofNat keys.length).toNat:Nat):Int):=by rw[wrap_u8,UInt8.toNat_ofNat'];omega
   have a6: ∀x y:Int,bldL 5 1 2 [.int .u8 (0:Nat)] [(0, .int .u8 x),(1, .int .u8 y)]=some (.cells [.int .u8 x, .int .u8 y] 5 1 false,fun A=> .slice A 0 2 4):=fun x y=>rfl
   have C:=G;simp only[Nd.shaped,zE]at C;have b5:=Nd.sumL_ge keys;have a1:=V;simp only[Nd.size]at a1;have a7:=bInt_shr .i64 .u64 (a:=(keys.length:Int)) (s:=8) (by omega) (by decide);have a8:cellsA AV.nS=[AV.nS]:=rfl;have a9: ∀z:Int,cellsA (AV.int .i64 z)=[AV.int .i64 z]:=fun _=>rfl
   have a2: ∀(F:AH) (l:Str),EncI o.next (o.next+2) (o.next+1) o F l-> ∃i,ld1 (.ptr (o.next+2) 0) F=some (.int .i64 (0:Nat))/\ld1 (.ptr (o.next+1) 0) F=some i/\cvBS i F=some (S l):=by
    intro F l j;obtain⟨i,hb,W,_⟩:=j.out;refine⟨i,j.err.ld,hb.ld,cvBS_row W.row ?_⟩;rcases W with⟨_,⟨rfl,_⟩ | ⟨A,rfl,_⟩⟩ | ⟨_,A,e',g,rfl,_⟩<;>simp
   cases leaf with
   | true=>
    simp only[if_true,zE,zU]at C;obtain⟨F,e9,L⟩:=encLoopL m n I f.ok (N.prs t) (h2.prs t) C.2.1.1 (by omega) _ (by omega) j n (by omega);obtain⟨u,u1,u2,u3⟩:=a2 _ _ L;refine⟨F, ?_,t.trans L.prs⟩;simp(disch:=omega) only[f108,eZ,bA_ok M,sub4,zY,Y,G,ldN_get U,e3,T,ld1_get I,N.lnSl,a7,w1,w2,a6,bA_ok f.ok,bA_ok (f.ok.push _),jL,a8,e6,bA_ok a5,n6,a9,e8,f108j3,ld1_get (j.prs.get f.ok I),e9,f108b2,u1,u2,u3,ne_eq,not_true_eq_false];simp only[encR,G,if_true,if_pos V,Nd.encN,Nd.encB]
   | false=>
    simp only[zL,qD,zE,zU,qY]at C
    cases kids with
    | nil=>simp at C
    | cons k0 kids=>
     simp only[zV]at a1 C;have b0:=C.2.2 k0 (zH ..);obtain⟨p,p1,p2⟩:=Ptrs.at (h3.prs (t.trans j.prs)) (i:=0) (by simp);simp only[List.getElem_cons_zero]at p2;obtain⟨F,e9,o9,b1⟩:=kid_ok (dy m) m (E:=o.next+2) (p:=k0) j.out j.prs.ok j.lt (Nd.kidOk_may b0) (Z k0 (zH ..)) (by omega) hm
     have L:=j.step o9 b1;obtain⟨b2,b3,a3⟩:=encLoopI m n hm I f.ok (N.prs t) (h3.prs t) (by omega) (fun q hq=>⟨Nd.kidOk_may (C.2.2 q (zC _ hq)),Z q (zC _ hq)⟩) (by omega) _ (by rw[zT,Nd.encP_length];omega) L n (by omega);obtain⟨u,u1,u2,u3⟩:=a2 _ _ a3;refine⟨b2, ?_,t.trans a3.prs⟩;simp(disch:=omega) only[f108,eZ,bA_ok M,sub4,zY,Y,G,ldN_get U,e3,T,ld1_get I,N.lnSl,a7,w1,w2,a6,bA_ok f.ok,bA_ok (f.ok.push _),jL,a8,e6,bA_ok a5,n6,a9,e8,ld1_get (j.prs.get f.ok I),p1,p2,callKd,e9,f108j3,ld1_get (L.prs.get f.ok I),b3,f108b2,u1,u2,u3,ne_eq,not_true_eq_false];simp only[encR,G,if_true,if_pos V,Nd.encN,Nd.encB,zL,qD,qC]
  .have T:((500:Nat):Int)< ((Nd.size ⟨leaf,keys,Q,kids⟩:Nat):Int):=by omega
   refine⟨o, ?_,t⟩;simp only[f108,eZ,bA_ok M,sub4,zY,Y,G,ldN_get U,e3,T,encR,V,a4]
open Go.Nd (bee mayP ptrOf)
theorem bInt_or_u64 {a b:Nat}(p:a<18446744073709551616)(hb:b<256):bInt .or (.int .u64 (a*256:Nat)) (.int .u64 (b:Int))=some (.int .u64 ((a*256+b):Nat))\/18446744073709551616<=a*256:=by
 by_cases h:a*256<18446744073709551616
 .left;have f:Nat.blt (a*256) (kmod .u64)=true:=by rw[q9];exact h
  have j:Nat.blt b (kmod .u64)=true:=by rw[q9];exact Nat.lt_trans hb (by decide)
  have h3:Nat.lor (a*256) b=a*256+b:=by
   have:=Nat.two_pow_add_eq_or_of_lt (b:=b) (i:=8) (by omega) a;rw[Nat.mul_comm a 256];exact this.symm
  have m:keq .u64 .u64=true:=rfl;have h5:IntKind.wrap .u64 ((a*256+b:Nat):Int)=((a*256+b:Nat):Int):=by rw[wrap_u64];omega
  have o:abits .or .u64 (.ofNat (a*256)) (.ofNat b)=some (.int .u64 (a*256+b:Nat)):=by
   simp only[abits,IntKind.signed,Bool.not_false,f,j,qJ,zP,h3,mkI_eq,Int.ofNat_eq_natCast,h5]
  have h6:bInt .or (.int .u64 (.ofNat (a*256))) (.int .u64 (.ofNat b))=abits .or .u64 (.ofNat (a*256)) (.ofNat b):=by simp only[bInt,abinI,m,zP]
  exact h6.trans o
 .right;omega
theorem bytesV_get (l:Str)(i:Nat)(h:i<l.length):(bytesV l)[i]? =some (.int .u8 (l[i].toNat:Nat)):=by simp[bytesV,h]
theorem bee_take (l:Str)(i:Nat)(h:i<l.length):bee (l.take (i+1))=bee (l.take i)*256+l[i].toNat:=by rw[sum_take_succ l i h,Nd.bee_snoc]
theorem get_ok{l:Str}(H:Rw 1 h i l.length (bytesV l))(hl:l.length<=8)(I:100<=n):f94 D n [i] h=some (.int .u64 (bee l:Nat),h):=by
 have key:=loop_for (b:=f94l0 D n) (H:=h) (r:=some (.exit 0 [.int .u64 (bee l:Nat)],h)) (fun v=>[.int .u64 (bee (l.take v):Nat),i, .int .i64 (l.length:Nat), .int .i64 (v:Nat)]) l.length (fun v hi=>by
  obtain⟨p,x,u,y,f⟩:=H.ld1 hi;rw[bytesV_get l v hi]at f;simp only[zB]at f;subst f;have o:=Nd.bee_lt (l.take v);have m:(l.take v).length=v:=by simp;omega
  have hp:256 ^ v<=256 ^ 7:=Nat.pow_le_pow_right (by omega) (by omega);rw[m]at o;have hb:bee (l.take v)<72057594037927936:=by
   have:(256:Nat) ^ 7=72057594037927936:=by decide
   omega
  have z:l[v].toNat<256:=l[v].toNat_lt;have q:((v:Nat):Int)< (l.length:Int):=by omega
  have C:IntKind.wrap .u64 (((bee (l.take v):Nat):Int)*2 ^ 8)=((bee (l.take v)*256:Nat):Int):=by rw[wrap_u64];omega
  have F:IntKind.wrap .u64 ((l[v].toNat:Nat):Int)=((l[v].toNat:Nat):Int):=by rw[wrap_u64];omega
  have t:=(bInt_or_u64 (a:=bee (l.take v)) (b:=l[v].toNat) (by omega) z).resolve_right (by omega);have j:=bInt_shl .u64 .u64 ((bee (l.take v):Nat):Int) (s:=8) (by decide);rw[C]at j;simp(disch:=omega) only[f94l0,eZ,q,u,y,j,F,t,bee_take l v hi];simp only[y7]) (fun n=>loop_exit (by
  simp only[f94l0,eZ,yA,zW (zK _)])) n (by omega)
 have G:f94 D n [i] h=outR (jb 0 (loopK n (f94l0 D n) [.int .u64 (bee (l.take 0):Nat),i, .int .i64 (l.length:Nat), .int .i64 (0:Nat)] h) (f94b1 D n)):=by
  simp only[f94,eZ,H.lnSl];rfl
 rw[G,key];simp only[eZ,f94b1]
theorem cvSB_S (s:Str)(h:s.length<4611686018427387904):cvSB 5 (S s)=some (.cells (bytesV s) 5 1 true,fun A=> .slice A 0 s.length 1):=by
 have:Nat.blt s.length 4611686018427387904=true:=by rw[q9];exact h
 simp only[cvSB,S,this,zP,bytesOf_S]
theorem st_all (a:h.ok){l':List AV}(H:h.h.get k=some (.cells A v 1 false))(hl:l'.length=A.length)(f:allCells l'=true):
  ∃H',stN A.length (.ptr k 0) (.agg l') h=some (undefA,H')/\H'.h.get k=some (.cells l' v 1 false)/\Stp (fun B=>B=k) h H'/\H'.next=h.next:=by
 refine⟨_,stN_ok H (by decide) hl f (by omega), ?_,(jV a).put (a.lt H) _ (.inr rfl),rfl⟩;rw[jO,if_pos rfl];simp[cellsA]
theorem decPtr_ok(x:h.ok){s:Str}(a:s.length=16)(y:100<=n):
  ∃H',f59 D n [S s] h=some (.tuple [.agg (ptrV (if mayP (ptrOf s)then ptrOf s else pz)), .int .i64 (if mayP (ptrOf s)then 0 else 4:Nat)],H')/\Prs h H':=by
 have h16: ¬((s.length:Int)≠((16:Nat):Int)):=by omega
 have i:Prs h (h.push (.cells (ptrV pz) 38 1 false)):=(jV x).push _;have g1:(h.push (.cells (ptrV pz) 38 1 false)).h.get h.next=some (.cells (ptrV pz) 38 1 false):=jK _ _
 have n1:(h.push (.cells (ptrV pz) 38 1 false)).next=h.next+1:=rfl
 generalize T:h.push (.cells (ptrV pz) 38 1 false)=H1 at i g1 n1;have j:Prs H1 (H1.push (.cells (bytesV s) 5 1 true)):=(jV i.ok).push _;have g2:(H1.push (.cells (bytesV s) 5 1 true)).h.get H1.next=some (.cells (bytesV s) 5 1 true):=jK _ _
 have n2:(H1.push (.cells (bytesV s) 5 1 true)).next=H1.next+1:=rfl
 generalize U:H1.push (.cells (bytesV s) 5 1 true)=H2 at j g2 n2;have M:ldN 16 (.ptr H1.next 0) H2=some (.agg (bytesV s)):=by
  rw[ldN_get g2,subN_some _ _ _ (.inr (by simp[bytesV,a])),yE,zW (by simp[bytesV,a])];rfl
 have z:Prs H2 (H2.push (.cells (Z 16) 165 1 false)):=(jV j.ok).push _;have g3:(H2.push (.cells (Z 16) 165 1 false)).h.get H2.next=some (.cells (Z 16) 165 1 false):=jK _ _
 have n3:(H2.push (.cells (Z 16) 165 1 false)).next=H2.next+1:=rfl
 generalize V:H2.push (.cells (Z 16) 165 1 false)=H3 at z g3 n3;obtain⟨f,e4,g4,m,n4⟩:=st_all z.ok g3 (l':=bytesV s) (by simp[bytesV,Z,a]) (bytesV_cells s);have W:stN 16 (.ptr H2.next 0) (.agg (bytesV s)) H3=some (undefA,f):=e4
 have t:Prs f (f.push (.cells (ptrV pz) 38 1 false)):=(jV m.ok).push _;have g5:(f.push (.cells (ptrV pz) 38 1 false)).h.get f.next=some (.cells (ptrV pz) 38 1 false):=jK _ _
 have n5:(f.push (.cells (ptrV pz) 38 1 false)).next=f.next+1:=rfl
 have p:=t.get m.ok g4;generalize Y:f.push (.cells (ptrV pz) 38 1 false)=H5 at t g5 n5 p;have a5:Rw 1 H5 (.slice H2.next 0 4 32) (s.take 4).length (bytesV (s.take 4)):=by
  refine⟨by simp[bytesV], .inr (.inr ⟨H2.next,0,32,_,_,_,_, ?_,p,by omega,by simp[bytesV];omega, ?_⟩)⟩
  .simp[a]
  .simp[bytesV,a]
 have a6:Rw 1 H5 (.slice H2.next 4 4 24) ((s.drop 4).take 4).length (bytesV ((s.drop 4).take 4)):=by
  refine⟨by simp[bytesV], .inr (.inr ⟨H2.next,4,24,_,_,_,_, ?_,p,by omega,by simp[bytesV];omega, ?_⟩)⟩
  .simp[a]
  .simp[bytesV,a]
 have a7:Rw 1 H5 (.slice H2.next 8 8 16) (s.drop 8).length (bytesV (s.drop 8)):=by
  refine⟨by simp[bytesV], .inr (.inr ⟨H2.next,8,16,_,_,_,_, ?_,p,by omega,by simp[bytesV];omega, ?_⟩)⟩
  .simp[a]
  .rw[zW (by simp[bytesV,a])];simp[bytesV]
 have q1:=get_ok D n a5 (by simp;omega) y;have q2:=get_ok D n a6 (by simp;omega) y;have q3:=get_ok D n a7 (by simp;omega) y;have b1:=Nd.bee_lt (s.take 4);have b2:=Nd.bee_lt ((s.drop 4).take 4);rw[show(s.take 4).length=4 by simp;omega]at b1;rw[show((s.drop 4).take 4).length=4 by simp;omega]at b2;have w1:IntKind.wrap .i64 ((bee (s.take 4):Nat):Int)=((bee (s.take 4):Nat):Int):=wrap_i64 (by omega) (by omega);have w2:IntKind.wrap .i64 ((bee ((s.drop 4).take 4):Nat):Int)=((bee ((s.drop 4).take 4):Nat):Int):=wrap_i64 (by omega) (by omega);obtain⟨H6,e6,C,u,n6⟩:=st_all t.ok g5 (l':=ptrV (ptrOf s)) rfl rfl;have a0:stN 3 (.ptr f.next 0) (.agg (ptrV (ptrOf s))) H5=some (undefA,H6):=e6
 obtain⟨F,e7,G⟩:=may_ok D n u.ok (ptrOf s);have g7:=G.get u.ok C;have N:Prs H1 H6:=((((j.trans z).fresh m (fun B I=>by omega)).trans t).fresh u (fun B I=>by omega));have a1:=G.get u.ok (N.get i.ok g1);have q:Prs h F:=(i.trans N).trans G;have O:subN (ptrV (ptrOf s)) 0 3=some (ptrV (ptrOf s)):=rfl;have a9:(AV.agg [.int .i64 (0:Nat), .int .i64 (0:Nat), .int .u64 (0:Nat)])= .agg (ptrV pz):=rfl;have Q:([.int .i64 (0:Nat), .int .i64 (0:Nat), .int .u64 (0:Nat)]:List AV)=ptrV pz:=rfl;have a8:bldS [(0,1),(1,1),(2,1)] (ptrV pz) []=some (.agg (ptrV pz)):=rfl;have a2:bldS [(0,1),(1,1),(2,1)] (ptrV pz) [(0, .int .i64 (bee (s.take 4):Nat)),(1, .int .i64 ((bee ((s.drop 4).take 4):Nat):Int)),(2, .int .u64 (bee (s.drop 8):Nat))]=some (.agg (ptrV (ptrOf s))):=rfl;have a3: ∀A:Nat,s2a 16 (.slice A 0 16 1)=some (.ptr A 0):=fun _=>rfl
 have a4:subN (ptrV pz) 0 3=some (ptrV pz):=rfl
 cases hm:mayP (ptrOf s)with
 | false=>
  obtain⟨o,J,K,L,n8⟩:=st_all q.ok a1 (l':=ptrV pz) rfl rfl;have v:stN 3 (.ptr h.next 0) (.agg (ptrV pz)) F=some (undefA,o):=J
  refine⟨o, ?_,q.fresh L (fun B I=>by omega)⟩;simp(disch:=omega) only[f59,eZ,Q,bA_ok x,T,h16,cvSB_S s (by omega),a,bA_ok i.ok,U,a3,M,bA_ok j.ok,rep16,V,W,slA_hi,slA_lo,slA _ 4 8 (by omega) (by omega) (by omega),bA_ok m.ok,Y,q1,w1,q2,w2,q3,a2,a0,ldN_get C,O,zY,e7,hm,a8,v,ldN_get K,a4];rfl
 | true=>
  obtain⟨o,J,K,L,n8⟩:=st_all q.ok a1 (l':=ptrV (ptrOf s)) rfl rfl;have v:stN 3 (.ptr h.next 0) (.agg (ptrV (ptrOf s))) F=some (undefA,o):=J
  refine⟨o, ?_,q.fresh L (fun B I=>by omega)⟩;simp(disch:=omega) only[f59,eZ,Q,bA_ok x,T,h16,cvSB_S s (by omega),a,bA_ok i.ok,U,a3,M,bA_ok j.ok,rep16,V,W,slA_hi,slA_lo,slA _ 4 8 (by omega) (by omega) (by omega),bA_ok m.ok,Y,q1,w1,q2,w2,q3,a2,a0,ldN_get C,O,zY,e7,hm,ldN_get g7,v,ldN_get K];rfl
open Go.Nd (takeT takeP)
theorem Stp.via {T:Nat->Prop}(S:Stp e h l)(k:Stp T l G)(f: ∀A,T A->h.next<=A\/e A):Stp e h G:=
 ⟨k.ok,qP S.next k.next,fun A i j=>by
  rw[k.keep A (qF i S.next) (fun x=>by rcases f A x with y | y;omega;exact j y),S.keep A i j]⟩
structure RdI (R:Nat)(H0 H:AH)(rest:Str)(bad leaf:Bool)(kv vv pv:AV)(ks vs:List Str)(ps:List Ptr):Prop where
 prs:Stp (fun B=>B=R) H0 H
 get: ∃e,H.h.get R=some (.cells [S rest, .bool bad, .bool leaf,kv,vv,pv] e 1 false)
 k:Own 1 9 H kv ks.length (ks.map S)
 v:Own 1 9 H vv vs.length (vs.map S)
 p:Own 3 38 H pv ps.length (ps.flatMap ptrV)
 kb: ∀B,Blk kv B->H0.next<=B/\B≠R/\ ¬Blk vv B/\ ¬Blk pv B
 vb: ∀B,Blk vv B->H0.next<=B/\B≠R/\ ¬Blk pv B
 pb: ∀B,Blk pv B->H0.next<=B/\B≠R
 small:rest.length<=10000/\ks.length<=1000000/\vs.length<=1000000/\ps.length<=1000000
theorem RdI.put {R:Nat}{H0 H:AH}{rest:Str}{m leaf:Bool}{kv a f:AV}{ks vs:List Str}{q:List Ptr}(h:RdI R H0 H rest m leaf kv a f ks vs q){o:Nat}{x:AV}(u:isCell x=true)(y:o<6){rest':Str}{bad':Bool}(hr:rest'.length<=10000)
  (hl:[S rest, .bool m, .bool leaf,kv,a,f].set o x=[S rest', .bool bad', .bool leaf,kv,a,f]): ∃H',stN 1 (.ptr R o) x H=some (undefA,H')/\RdI R H0 H' rest' bad' leaf kv a f ks vs q:=by
 obtain⟨e,s⟩:=h.get;have t:=h.prs.ok.lt s;have j:Stp (fun B=>B=R) H (H.put R (.cells ([S rest, .bool m, .bool leaf,kv,a,f].set o x) e 1 false)):=(jV h.prs.ok).put t _ (.inr rfl);refine⟨_,st1_ok s (by decide) u y,⟨h.prs.trans j,⟨e,by rw[jO,if_pos rfl,hl]⟩,h.k.mono j (fun B i=>(h.kb B i).2.1),h.v.mono j (fun B i=>(h.vb B i).2.1),h.p.mono j (fun B i=>(h.pb B i).2),h.kb,h.vb,h.pb,hr,h.small.2⟩⟩
def takeM (rest:Str)(a:Bool)(k:Nat):Str×Str×Bool:=if a then([],rest,true)else if rest.length<k then([],rest,true)else(rest.take k,rest.drop k,false)
theorem S_nil:S []= .str 0 0:=rfl
theorem take_ok{rest:Str}{ks vs:List Str}{a:List Ptr}(H0:RdI k h l rest w q i t B ks vs a)(R:Nat):
  ∃H',f128 D n [.ptr k 0, .int .i64 (R:Nat)] l=some (S (takeM rest w R).1,H')/\RdI k h H' (takeM rest w R).2.1 (takeM rest w R).2.2 q i t B ks vs a:=by
 obtain⟨e,p⟩:=H0.get
 cases w with
 | true=>
  obtain⟨f,H,j⟩:=H0.put (o:=1) (x:= .bool true) rfl (by decide) (rest':=rest) (bad':=true) H0.small.1 rfl;refine⟨f, ?_,j⟩;simp only[f128,eZ,ld1_get p,H,takeM,S_nil]
 | false=>
  by_cases u:rest.length<R
  .obtain⟨f,H,j⟩:=H0.put (o:=1) (x:= .bool true) rfl (by decide) (rest':=rest) (bad':=true) H0.small.1 rfl;have m:(rest.length:Int)< (R:Int):=by omega
   simp only[takeM,u,if_true,zL,qD];refine⟨f, ?_,j⟩;simp only[f128,eZ,ld1_get p,H,m,S_nil]
  .obtain⟨f,H,j⟩:=H0.put (o:=0) (x:=S (rest.drop R)) rfl (by decide) (rest':=rest.drop R) (bad':=false) (by have:=H0.small.1;simp;omega) rfl;have m: ¬(rest.length:Int)< (R:Int):=by omega
   have v:=slStr_hi rest .i64 (z:=(R:Int)) (by omega) (by omega);have h3:=slStr_lo rest .i64 (z:=(R:Int)) (by omega) (by omega);simp only[qU]at v h3;simp only[takeM,u,zL,qD];refine⟨f, ?_,j⟩;simp only[f128,eZ,ld1_get p,H,m,v,h3]
def textM (rest:Str)(a:Bool):Str×Str×Bool:=if(takeM rest a 1).2.2 then([],(takeM rest a 1).2)else takeM (takeM rest a 1).2.1 false ((takeM rest a 1).1.getD 0 0).toNat
theorem textM_bad (rest:Str):(textM rest true).2.2=true:=by simp[textM,takeM]
theorem textM_some {rest a r:Str}(h:takeT rest=some (a,r)):textM rest false=(a,r,false):=by
 cases rest with
 | nil=>simp[takeT]at h
 | cons c s=>
  simp only[takeT]at h;split at h
  .rename_i f;simp only[zB,zQ]at h;obtain⟨rfl,rfl⟩:=h;simp[textM,takeM];omega
  .simp at h
theorem textM_none {rest:Str}(h:takeT rest=none):(textM rest false).2.2=true:=by
 cases rest with
 | nil=>simp[textM,takeM]
 | cons c s=>
  simp only[takeT]at h;split at h
  .simp at h
  .rename_i f;have i: ¬(c::s).length<1:=by simp
   have a:s.length<c.toNat:=by omega
   simp[textM,takeM,a]
theorem txt_ok{rest:Str}{ks vs:List Str}{s:List Ptr}(R:RdI k h l rest w q i t B ks vs s):
  ∃H',f153 D n [.ptr k 0] l=some (S (textM rest w).1,H')/\RdI k h H' (textM rest w).2.1 (textM rest w).2.2 q i t B ks vs s:=by
 obtain⟨x,H,f⟩:=take_ok D n R 1;obtain⟨e,H0⟩:=f.get;by_cases hb:(takeM rest w 1).2.2=true
 .rw[hb]at f H0;refine⟨x, ?_,by simp only[textM,hb,if_true];exact f⟩;simp only[f153,eZ,H,ld1_get H0,textM,hb,S_nil]
 .have j:(takeM rest w 1).2.2=false:=by simpa using hb
  have m:(takeM rest w 1).1.length=1:=by
   revert j;unfold takeM;split
   .intro R;simp at R
   .split
    .intro R;simp at R
    .intro _;simp;omega
  rw[j]at f H0;obtain⟨y,C,F⟩:=take_ok D n f ((takeM rest w 1).1.getD 0 0).toNat;have o:=ixStr_S (takeM rest w 1).1 .i64 (z:=((0:Nat):Int)) (by omega) (by simp[m]);have u:(takeM rest w 1).1[(((0:Nat):Int)).toNat]'(by simp[m])=(takeM rest w 1).1.getD 0 0:=by
   rw[qE,zO (by omega)];rfl
  rw[u]at o;have G:IntKind.wrap .i64 ((((takeM rest w 1).1.getD 0 0).toNat:Nat):Int)=((((takeM rest w 1).1.getD 0 0).toNat:Nat):Int):=wrap_i64 (by omega) (by have:=((takeM rest w 1).1.getD 0 0).toNat_lt;omega);have v:textM rest w=takeM (takeM rest w 1).2.1 false ((takeM rest w 1).1.getD 0 0).toNat:=by simp only[textM,j,zL,qD]
  rw[v];refine⟨y, ?_,F⟩;simp only[f153,eZ,H,ld1_get H0,o,G,C]
theorem bldL9 (x:AV)(h:isCell x=true):bldL 9 1 1 [.str 0 0] [(0,x)]=some (.cells [x] 9 1 false,fun A=> .slice A 0 1 2):=bldL1 9 1 _ x h
theorem aveq_own (e:Own k p h i C A):aveq i i=true:=aveq_row e.row
theorem RdI.prsH {rest:Str}{ks vs:List Str}{j:List Ptr}(R:RdI k h l rest w q i t B ks vs j)(s:Prs l G):RdI k h G rest w q i t B ks vs j:=by
 obtain⟨e,m⟩:=R.get;exact⟨R.prs.trans (Prs.stp s),⟨e,s.get R.prs.ok m⟩,R.k.mono s (fun _ _ x=>x),R.v.mono s (fun _ _ x=>x),R.p.mono s (fun _ _ x=>x),R.kb,R.vb,R.pb,R.small⟩
theorem RdI.lt {R:Nat}{H0 H:AH}{rest:Str}{a leaf:Bool}{kv f i:AV}{ks vs:List Str}{j:List Ptr}(h:RdI R H0 H rest a leaf kv f i ks vs j):R<H.next:=by
 obtain⟨e,m⟩:=h.get;exact h.prs.ok.lt m
theorem Own.lt {k e n:Nat}{H:AH}{v:AV}{l:List AV}(h:Own k e H v n l){B:Nat}(a:Blk v B):B<H.next:=(Grow.lt (.inl h) a)
theorem rowNew (H:AH)(x:AV)(e:Nat):Prs H (H.push (.cells [x] e 1 false))->srcOf 1 (.slice H.next 0 1 2) (H.push (.cells [x] e 1 false))=some (1,[x]):=fun _=>srcOf_new H [x] e 1 false 1 2 rfl
theorem key_ok{rest:Str}{ks vs:List Str}{M:List Ptr}(R:RdI k h l rest w q i t B ks vs M)(hs:ks.length<1000000):
  ∃H' m,f129 D n [.ptr k 0] l=some (.tuple [],H')/\RdI k h H' (textM rest w).2.1 (textM rest w).2.2 q m t B (ks++[(textM rest w).1]) vs M:=by
 obtain⟨j,N,H⟩:=txt_ok D n R;generalize textM rest w=s at N H⊢;obtain⟨e,Z⟩:=R.get;obtain⟨e',g1⟩:=H.get;have G:Prs j (j.push (.cells [S s.1] 9 1 false)):=(jV H.prs.ok).push _;have f:=H.prsH G;obtain⟨I,O,J,H0,n3⟩:=apP_own (bytes:=16) G.ok (by decide) f.k (rowNew j (S s.1) 9 G) rfl rfl (zK 1) (by omega) (by decide);generalize W:AV.slice (j.push (.cells [S s.1] 9 1 false)).next 0 (ks.length+1) 1=m at O J
 have L: ∀leaf,Blk m leaf->leaf=j.next+1:=fun leaf a=>by rw[<-W,jS]at a;exact a
 have a0:=H.lt;have n2:(j.push (.cells [S s.1] 9 1 false)).next=j.next+1:=rfl
 have a1:=H.prs.next
 obtain⟨F,g2⟩:=f.get;have Q:I.h.get k=some (.cells [S s.2.1, .bool s.2.2, .bool q,i,t,B] F 1 false):=by rw[H0.keep _ (by omega) (fun z=>(f.kb _ z).2.1 rfl)];exact g2
 have T:=H0.ok.lt Q;have C:Stp (fun leaf=>leaf=k) I (I.put k (.cells ([S s.2.1, .bool s.2.2, .bool q,i,t,B].set 3 m) F 1 false)):=(jV H0.ok).put T _ (.inr rfl);have U:=st1_ok (o:=3) (x:=m) Q (by decide) J.row.isCell (by simp);have Y: ∀leaf,Blk t leaf-> ¬Blk i leaf:=fun leaf a K=>(f.kb leaf K).2.2.1 a
 have V: ∀leaf,Blk B leaf-> ¬Blk i leaf:=fun leaf a K=>(f.kb leaf K).2.2.2 a
 refine⟨_,m, ?_,⟨(Stp.via f.prs H0 (fun leaf a=> .inl (f.kb leaf a).1)).trans C,⟨F,by rw[jO,if_pos rfl];rfl⟩, ?_,(f.v.mono H0 Y).mono C (fun leaf a=>(f.vb leaf a).2.1),(f.p.mono H0 V).mono C (fun leaf a=>(f.pb leaf a).2), ?_,f.vb,f.pb,⟨H.small.1,by simp;omega,R.small.2.2⟩⟩⟩
 .simp only[f129,eZ,ld1_get Z,N];rw[chk_ok (by rw[ld1_get g1];rfl) (aveq_own R.k),bldL9 _ rfl];simp only[eZ,bA_ok H.prs.ok,O];rw[U];simp only[eZ]
 .have:=J.mono C (fun leaf a=>by have:=L leaf a;omega);simpa using this
 .intro leaf a;have:=L leaf a;refine⟨by omega,by omega,fun z=> ?_,fun z=> ?_⟩
  .have:=Own.lt H.v z;omega
  .have:=Own.lt H.p z;omega
theorem value_ok{rest:Str}{ks vs:List Str}{M:List Ptr}(R:RdI k h l rest w q i t B ks vs M)(hs:vs.length<1000000):
  ∃H' H0,f131 D n [.ptr k 0] l=some (.tuple [],H')/\RdI k h H' (textM rest w).2.1 (textM rest w).2.2 q i H0 B ks (vs++[(textM rest w).1]) M:=by
 obtain⟨j,N,H⟩:=txt_ok D n R;generalize textM rest w=u at N H⊢;obtain⟨e,Z⟩:=R.get;obtain⟨e',g1⟩:=H.get;have J:Prs j (j.push (.cells [S u.1] 9 1 false)):=(jV H.prs.ok).push _;have f:=H.prsH J;obtain⟨K,O,L,s,n3⟩:=apP_own (bytes:=16) J.ok (by decide) f.v (rowNew j (S u.1) 9 J) rfl rfl (zK 1) (by omega) (by decide);generalize W:AV.slice (j.push (.cells [S u.1] 9 1 false)).next 0 (vs.length+1) 1=H0 at O L
 have G: ∀leaf,Blk H0 leaf->leaf=j.next+1:=fun leaf a=>by rw[<-W,jS]at a;exact a
 have a0:=H.lt;have n2:(j.push (.cells [S u.1] 9 1 false)).next=j.next+1:=rfl
 have a1:=H.prs.next
 obtain⟨I,g2⟩:=f.get;have Q:K.h.get k=some (.cells [S u.2.1, .bool u.2.2, .bool q,i,t,B] I 1 false):=by rw[s.keep _ (by omega) (fun C=>(f.vb _ C).2.1 rfl)];exact g2
 have T:=s.ok.lt Q;have F:Stp (fun leaf=>leaf=k) K (K.put k (.cells ([S u.2.1, .bool u.2.2, .bool q,i,t,B].set 4 H0) I 1 false)):=(jV s.ok).put T _ (.inr rfl);have U:=st1_ok (o:=4) (x:=H0) Q (by decide) L.row.isCell (by simp);have Y: ∀leaf,Blk i leaf-> ¬Blk t leaf:=fun leaf a m=>(f.kb leaf a).2.2.1 m
 have V: ∀leaf,Blk B leaf-> ¬Blk t leaf:=fun leaf a m=>(f.vb leaf m).2.2 a
 refine⟨_,H0, ?_,⟨(Stp.via f.prs s (fun leaf a=> .inl (f.vb leaf a).1)).trans F,⟨I,by rw[jO,if_pos rfl];rfl⟩,(f.k.mono s Y).mono F (fun leaf a=>(f.kb leaf a).2.1), ?_,(f.p.mono s V).mono F (fun leaf a=>(f.pb leaf a).2), ?_, ?_,f.pb,⟨H.small.1,R.small.2.1,by simp;omega,R.small.2.2.2⟩⟩⟩
 .simp only[f131,eZ,ld1_get Z,N];rw[chk_ok (by rw[ld1_get g1];rfl) (aveq_own R.v),bldL9 _ rfl];simp only[eZ,bA_ok H.prs.ok,O];rw[U];simp only[eZ]
 .have:=L.mono F (fun leaf a=>by have:=G leaf a;omega);simpa using this
 .intro leaf a;have m:=f.kb leaf a;refine⟨m.1,m.2.1,fun C=> ?_,m.2.2.2⟩;have:=G leaf C;have:=Own.lt H.k a;omega
 .intro leaf a;have:=G leaf a;refine⟨by omega,by omega,fun C=> ?_⟩;have:=Own.lt H.p C;omega
def kidM (rest:Str)(a:Bool)(f:List Ptr):Str×Bool×List Ptr:=if(takeM rest a 16).2.2 then((takeM rest a 16).2.1,true,f)else if mayP (ptrOf (takeM rest a 16).1)then((takeM rest a 16).2.1,false,f++[ptrOf (takeM rest a 16).1])else((takeM rest a 16).2.1,true,f)
theorem kidM_bad (rest:Str)(a:List Ptr):(kidM rest true a).2.1=true:=by simp[kidM,takeM]
theorem kidM_some {rest r:Str}{p:Ptr}(f:List Ptr)(h:takeP rest=some (p,r)):kidM rest false f=(r,false,f++[p]):=by
 simp only[takeP,Nd.decP]at h;split at h
 .rename_i hl;split at h
  .rename_i q a;simp only[zB,zQ]at h;obtain⟨rfl,rfl⟩:=h;split at a
   .rename_i hm;simp only[zB]at a;subst a;have: ¬rest.length<16:=by omega
    simp[kidM,takeM,this,hm]
   .simp at a
  .simp at h
 .simp at h
theorem kidM_none {rest:Str}(f:List Ptr)(h:takeP rest=none):(kidM rest false f).2.1=true:=by
 simp only[takeP,Nd.decP]at h;split at h
 .rename_i hl;split at h
  .simp at h
  .rename_i a;split at a
   .simp at a
   .rename_i hm;have: ¬rest.length<16:=by omega
    simp[kidM,takeM,this,hm]
 .rename_i hl;have:rest.length<16:=by omega
  simp[kidM,takeM,this]
theorem kidR_ok(hn:100<=n){rest:Str}{ks vs:List Str}{z:List Ptr}(R:RdI k h l rest w q i t B ks vs z)(hs:z.length<1000000):
  ∃H' y,f130 D n [.ptr k 0] l=some (.tuple [],H')/\RdI k h H' (kidM rest w z).1 (kidM rest w z).2.1 q i t y ks vs (kidM rest w z).2.2:=by
 obtain⟨H1,I,m⟩:=take_ok D n R 16;obtain⟨e,J⟩:=m.get;have Q:(takeM rest w 16).2.2=false->(takeM rest w 16).1.length=16:=by
  unfold takeM;split
  .intro R;simp at R
  .split
   .intro R;simp at R
   .intro _;simp;omega
 simp only[kidM];generalize takeM rest w 16=H at I m J Q⊢;obtain⟨s,r,b⟩:=H;simp only at I m J Q⊢
 cases b with
 | true=>
  refine⟨H1,B, ?_,by simpa using m⟩;simp only[f130,eZ,I,ld1_get J]
 | false=>
  obtain⟨K,C,p2⟩:=decPtr_ok D n m.prs.ok (Q rfl) hn;have L:=m.prsH p2;have Z: ∀x:Ptr,∃f,stN 3 (.ptr K.next 0) (.agg (ptrV x)) (K.push (.cells [.int .i64 (0:Nat), .int .i64 (0:Nat), .int .u64 (0:Nat)] 38 1 false))=some (undefA,f)/\Prs K f/\f.next=K.next+1/\f.h.get K.next=some (.cells (ptrV x) 38 1 false):=box_ptr L.prs.ok
  cases hm:mayP (ptrOf s)with
  | false=>
   obtain⟨f,U,V,n3,g3⟩:=Z pz;have h3:=L.prsH V;obtain⟨H4,e4,H0⟩:=h3.put (o:=1) (x:= .bool true) rfl (by decide) (rest':=r) (bad':=true) m.small.1 rfl;refine⟨H4,B, ?_,by simpa using H0⟩;rw[hm]at C;simp only[qD,zL]at C;have h40:(((4:Nat):Int)≠((0:Nat):Int)):=by omega
   simp only[f130,eZ,I,ld1_get J,C,pExtract,nth,bA_ok L.prs.ok,U,h40,e4,ne_eq,jA]
  | true=>
   obtain⟨f,U,V,n3,g3⟩:=Z (ptrOf s);have h3:=L.prsH V;rw[hm]at C;simp only[if_true]at C;have p4:Prs f (f.push (.cells (ptrV (ptrOf s)) 38 3 false)):=(jV h3.prs.ok).push _;have H0:=h3.prsH p4;have n4:(f.push (.cells (ptrV (ptrOf s)) 38 3 false)).next=f.next+1:=rfl
   have a0:srcOf 3 (.slice f.next 0 1 2) (f.push (.cells (ptrV (ptrOf s)) 38 3 false))=some (1,ptrV (ptrOf s)):=srcOf_new f _ 38 3 false 1 2 rfl
   obtain⟨W,e5,Y,F,n5⟩:=apP_own (bytes:=24) p4.ok (by decide) H0.p a0 rfl rfl (zK 1) (by omega) (by decide);generalize a4:AV.slice (f.push (.cells (ptrV (ptrOf s)) 38 3 false)).next 0 (z.length+1) 1=y at e5 Y
   have N: ∀leaf,Blk y leaf->leaf=f.next+1:=fun leaf a=>by rw[<-a4,jS]at a;exact a
   have b0:=h3.lt;have b1:=h3.prs.next
   obtain⟨b2,a5⟩:=h3.get;obtain⟨T,g4⟩:=H0.get;have g5:W.h.get k=some (.cells [S r, .bool false, .bool q,i,t,B] T 1 false):=by rw[F.keep _ (by omega) (fun M=>(H0.pb _ M).2 rfl)];exact g4
   have a1:=F.ok.lt g5;have O:Stp (fun leaf=>leaf=k) W (W.put k (.cells ([S r, .bool false, .bool q,i,t,B].set 5 y) T 1 false)):=(jV F.ok).put a1 _ (.inr rfl);have a2:=st1_ok (o:=5) (x:=y) g5 (by decide) Y.row.isCell (by simp);have a6: ∀leaf,Blk i leaf-> ¬Blk B leaf:=fun leaf a j=>(H0.kb leaf a).2.2.2 j
   have a3: ∀leaf,Blk t leaf-> ¬Blk B leaf:=fun leaf a j=>(H0.vb leaf a).2.2 j
   have a7:bldL 38 3 1 [.int .i64 (0:Nat), .int .i64 (0:Nat), .int .u64 (0:Nat)] [(0, .agg (ptrV (ptrOf s)))]=some (.cells (ptrV (ptrOf s)) 38 3 false,fun A=> .slice A 0 1 2):=rfl;have a8: ¬(((0:Nat):Int)≠((0:Nat):Int)):=by omega
   refine⟨_,y, ?_,⟨(Stp.via H0.prs F (fun leaf a=> .inl (H0.pb leaf a).1)).trans O,⟨T,by rw[jO,if_pos rfl];rfl⟩,(H0.k.mono F a6).mono O (fun leaf a=>(H0.kb leaf a).2.1),(H0.v.mono F a3).mono O (fun leaf a=>(H0.vb leaf a).2.1), ?_, ?_, ?_, ?_,⟨m.small.1,R.small.2.1,R.small.2.2.1,by simp;omega⟩⟩⟩
   .have a9:subN (ptrV (ptrOf s)) 0 3=some (ptrV (ptrOf s)):=rfl;simp only[f130,eZ,I,ld1_get J,C,pExtract,nth,bA_ok L.prs.ok,U,a8,ld1_get a5,ldN_get g3,a9,zY,a7,bA_ok h3.prs.ok,e5];rw[a2];simp only[eZ]
   .have:=Y.mono O (fun leaf a=>by have:=N leaf a;omega);simpa using this
   .intro leaf a;have j:=H0.kb leaf a;refine⟨j.1,j.2.1,j.2.2.1,fun M=> ?_⟩;have:=N leaf M;have:=Own.lt h3.k a;omega
   .intro leaf a;have j:=H0.vb leaf a;refine⟨j.1,j.2.1,fun M=> ?_⟩;have:=N leaf M;have:=Own.lt h3.v a;omega
   .intro leaf a;have:=N leaf a;exact⟨by omega,by omega⟩
open Go.Nd (decL decI)
theorem callKey (m n R:Nat)(H:AH):callV [(128,f128 (dy (m+1)) n),(130,f130 (dy (m+1)) n),(132,f132 (dy (m+1)) n)] (dy (m+1)) (.func 129 [.ptr R 0] []) [] H=f129 (dy m) m [.ptr R 0] H:=rfl
theorem callVal (m n R:Nat)(H:AH):callV [(128,f128 (dy (m+1)) n),(130,f130 (dy (m+1)) n),(132,f132 (dy (m+1)) n)] (dy (m+1)) (.func 131 [.ptr R 0] []) [] H=f131 (dy m) m [.ptr R 0] H:=rfl
theorem callKid (m n R:Nat)(H:AH):callV [(128,f128 (dy (m+1)) n),(130,f130 (dy (m+1)) n),(132,f132 (dy (m+1)) n)] (dy (m+1)) (.func 130 [.ptr R 0] []) [] H=f130 (dy (m+1)) n [.ptr R 0] H:=rfl
theorem ix2 (a:Nat)(i:Nat)(h:i<2):ixSl 1 (.slice a 0 2 4) (.int .i64 i)=some (.ptr a i):=by
 have hb:Nat.blt i 2=true:=by rw[q9];exact h
 simp only[ixSl,natOf_int _ (show(0:Int)<=(i:Int)by omega),qU,hb,zP,fN_eq,yU,Nat.mul_one]
theorem inner (m n:Nat){R:Nat}{a k i:AV}(y:h.h.get p=some (.cells [t,B] v 1 false))(u:l.h.get p=some (.cells [t,B] v 1 false))
  (z:callV [(128,f128 (dy (m+1)) n),(130,f130 (dy (m+1)) n),(132,f132 (dy (m+1)) n)] (dy (m+1)) t [] h=some (.tuple [],l)) (C:callV [(128,f128 (dy (m+1)) n),(130,f130 (dy (m+1)) n),(132,f132 (dy (m+1)) n)] (dy (m+1)) B [] l=some (.tuple [],G)) (o:Nat) (K:3<=o):
  loopK o (f99l0 (dy (m+1)) n) [a, .ptr R 0, .slice p 0 2 4,k,i, .slice p 0 2 4, .int .i64 (2:Nat), .int .i64 (0:Nat)] h=some (.exit 2 [a, .ptr R 0, .slice p 0 2 4,k,i],G):=by
 obtain⟨o,rfl⟩: ∃j,o=j+3:=⟨o - 3,by omega⟩;have q:((0:Nat):Int)< ((2:Nat):Int):=by omega
 have h12:((1:Nat):Int)< ((2:Nat):Int):=by omega
 have x: ¬((2:Nat):Int)< ((2:Nat):Int):=by omega
 have F:((0:Nat):Int)+((1:Nat):Int)=((1:Nat):Int):=rfl;have f:((1:Nat):Int)+((1:Nat):Int)=((2:Nat):Int):=rfl;have I:=ix2 p 0 (by omega);have J:=ix2 p 1 (by omega);rw[loop_next (vs':=[a, .ptr R 0, .slice p 0 2 4,k,i, .slice p 0 2 4, .int .i64 (2:Nat), .int .i64 (1:Nat)]) (H':=l) (by
  simp(disch:=omega) only[f99l0,eZ,q,I,ld1_get y,z,F])]
 rw[loop_next (vs':=[a, .ptr R 0, .slice p 0 2 4,k,i, .slice p 0 2 4, .int .i64 (2:Nat), .int .i64 (2:Nat)]) (H':=G) (by
  simp(disch:=omega) only[f99l0,eZ,h12,J,ld1_get u,C,f])]
 exact loop_exit (by simp only[f99l0,eZ,x])
theorem loopDL (m n:Nat)(V:3<=n){R A4:Nat}(t:h.h.get p=some (.cells [.func 129 [.ptr R 0] [], .func 131 [.ptr R 0] []] v 1 false))(G:h.ok)(hR:p≠R)
  {C:Str} (K:Nat) (hK:K<1000000) (h0:RdI R h h C false true .nS .nS .nS [] [] []) (N:Nat) (Y:K<N):
  ∃H',loopK N (f99l2 (dy (m+1)) n) [.ptr A4 0, .ptr R 0, .slice p 0 2 4, .int .i64 (K:Nat), .int .i64 (0:Nat)] h=some (.exit 0 [.ptr A4 0, .ptr R 0],H')/\
   ∃kv f ks vs rest,(match decL K C with | some (a,b,r)=>ks=a/\vs=b/\rest=r/\RdI R h H' rest false true kv f .nS ks vs [] | none=>RdI R h H' rest true true kv f .nS ks vs []):=by
 have key:=loop_all (b:=f99l2 (dy (m+1)) n) K (fun i=>(decL (i+1) C).isSome)
  (fun i I H=>I=[.ptr A4 0, .ptr R 0, .slice p 0 2 4, .int .i64 (K:Nat), .int .i64 (i:Nat)]/\ ∃kv f ks vs rest,decL i C=some (ks,vs,rest)/\RdI R h H rest false true kv f .nS ks vs [])
  (fun x H'=>x= .exit 0 [.ptr A4 0, .ptr R 0]/\ ∃kv f ks vs rest,decL K C=some (ks,vs,rest)/\RdI R h H' rest false true kv f .nS ks vs [])
  (fun x H'=>x= .exit 0 [.ptr A4 0, .ptr R 0]/\ ∃kv f ks vs rest,RdI R h H' rest true true kv f .nS ks vs []) ?_ ?_ ?_ N _ h ⟨rfl,_,_,_,_,_,rfl,h0⟩ Y
 .obtain⟨x,H',k1,k2⟩:=key;rw[Nd.decL_all]at k2
  cases hd:decL K C with
  | none=>
   rw[hd]at k2;simp only[Option.isSome_none,zL,qD]at k2;obtain⟨rfl,kv,f,ks,vs,rest,o⟩:=k2;exact⟨H',k1,kv,f,ks,vs,rest,o⟩
  | some y=>
   rw[hd]at k2;simp only[jJ,if_true]at k2;obtain⟨rfl,kv,f,ks,vs,rest,q,o⟩:=k2;simp only[zB]at q;subst q;exact⟨H',k1,kv,f,ks,vs,rest,rfl,rfl,rfl,o⟩
 .rintro i I H hi ⟨rfl,kv,f,ks,vs,rest,hd,e⟩ j
  obtain⟨_,Z,a0⟩:=Nd.decL_eq hd;obtain⟨F,a1,O,q⟩:=key_ok (dy m) m e (by omega);obtain⟨Q,a2,S,s⟩:=value_ok (dy m) m q (by omega);have hp:H.h.get p=_:=(e.prs.keep p (G.lt t) hR).trans t;have J:F.h.get p=_:=(q.prs.keep p (G.lt t) hR).trans t;have L:=inner m n (R:=R) (a:= .ptr A4 0) (k:= .int .i64 (K:Nat)) (i:= .int .i64 (i:Nat)) hp J ((callKey m n R H).trans O) ((callVal m n R F).trans S) n V;rw[Nd.decL_snoc,hd]at j;simp only[yD]at j;have M:((i:Nat):Int)< (K:Int):=by omega
  cases u:takeT rest with
  | none=>rw[u]at j;simp at j
  | some a=>
   obtain⟨a,T⟩:=a;rw[u]at j;simp only[yD]at j;rw[textM_some u]at q s;simp only at q s
   cases z:takeT T with
   | none=>rw[z]at j;simp at j
   | some b=>
    obtain⟨b,r2⟩:=b;rw[textM_some z]at s;simp only at s;obtain⟨ee,U⟩:=s.get;refine⟨_,Q, ?_,rfl,_,_,_,_,_, ?_,s⟩
    .simp(disch:=omega) only[f99l2,eZ,M,lnSl,L,f99b1,ld1_get U,y7]
    .rw[Nd.decL_snoc,hd];simp only[yD,u,z]
 .rintro i I H hi ⟨rfl,kv,f,ks,vs,rest,hd,e⟩ j
  obtain⟨_,Z,a0⟩:=Nd.decL_eq hd;obtain⟨F,a1,O,q⟩:=key_ok (dy m) m e (by omega);obtain⟨Q,a2,S,s⟩:=value_ok (dy m) m q (by omega);have hp:H.h.get p=_:=(e.prs.keep p (G.lt t) hR).trans t;have J:F.h.get p=_:=(q.prs.keep p (G.lt t) hR).trans t;have L:=inner m n (R:=R) (a:= .ptr A4 0) (k:= .int .i64 (K:Nat)) (i:= .int .i64 (i:Nat)) hp J ((callKey m n R H).trans O) ((callVal m n R F).trans S) n V;rw[Nd.decL_snoc,hd]at j;simp only[yD]at j;have M:((i:Nat):Int)< (K:Int):=by omega
  have W:(textM (textM rest false).2.1 (textM rest false).2.2).2.2=true:=by
   cases u:takeT rest with
   | none=>rw[textM_none u];exact textM_bad _
   | some a=>
    obtain⟨a,T⟩:=a;rw[u]at j;simp only[yD]at j;rw[textM_some u]
    cases z:takeT T with
    | none=>exact textM_none z
    | some b=>rw[z]at j;simp at j
  rw[W]at s;obtain⟨ee,U⟩:=s.get;refine⟨.exit 0 [.ptr A4 0, .ptr R 0],Q, ?_,rfl,rfl,_,_,_,_,_,s⟩;simp(disch:=omega) only[f99l2,eZ,M,lnSl,L,f99b1,ld1_get U]
 .rintro I H ⟨rfl,kv,f,ks,vs,rest,hd,e⟩
  refine⟨.exit 0 [.ptr A4 0, .ptr R 0],H, ?_,rfl,rfl,_,_,_,_,_,hd,e⟩;simp only[f99l2,eZ,yA]
theorem loopDI (m n:Nat)(Z:100<=n){R A4:Nat}(e:h.h.get p=some (.cells [.func 129 [.ptr R 0] [], .func 130 [.ptr R 0] []] v 1 false))(J:h.ok)(hR:p≠R)
  {F:Str}  {G:Ptr} (K:Nat) (hK:K<1000000) (h0:RdI R h l F false false .nS .nS t [] [] [G]) (S:Nat) (a2:K<S):
  ∃H',loopK S (f99l2 (dy (m+1)) n) [.ptr A4 0, .ptr R 0, .slice p 0 2 4, .int .i64 (K:Nat), .int .i64 (0:Nat)] l=some (.exit 0 [.ptr A4 0, .ptr R 0],H')/\
   ∃kv j ks f rest,(match decI K F with | some (a,b,r)=>ks=a/\f=G::b/\rest=r/\RdI R h H' rest false false kv .nS j ks [] f | none=>RdI R h H' rest true false kv .nS j ks [] f):=by
 have key:=loop_all (b:=f99l2 (dy (m+1)) n) K (fun i=>(decI (i+1) F).isSome)
  (fun i L H=>L=[.ptr A4 0, .ptr R 0, .slice p 0 2 4, .int .i64 (K:Nat), .int .i64 (i:Nat)]/\ ∃kv j ks f rest,decI i F=some (ks,f,rest)/\RdI R h H rest false false kv .nS j ks [] (G::f))
  (fun x H'=>x= .exit 0 [.ptr A4 0, .ptr R 0]/\ ∃kv j ks f rest,decI K F=some (ks,f,rest)/\RdI R h H' rest false false kv .nS j ks [] (G::f))
  (fun x H'=>x= .exit 0 [.ptr A4 0, .ptr R 0]/\ ∃kv j ks f rest,RdI R h H' rest true false kv .nS j ks [] f) ?_ ?_ ?_ S _ l ⟨rfl,_,_,_,_,_,rfl,h0⟩ a2
 .obtain⟨x,H',k1,k2⟩:=key;rw[Nd.decI_all]at k2
  cases hd:decI K F with
  | none=>
   rw[hd]at k2;simp only[Option.isSome_none,zL,qD]at k2;obtain⟨rfl,kv,j,ks,f,rest,u⟩:=k2;exact⟨H',k1,kv,j,ks,f,rest,u⟩
  | some y=>
   rw[hd]at k2;simp only[jJ,if_true]at k2;obtain⟨rfl,kv,j,ks,f,rest,q,u⟩:=k2;simp only[zB]at q;subst q;exact⟨H',k1,kv,j,ks,G::f,rest,rfl,rfl,rfl,u⟩
 .rintro i L H hi ⟨rfl,kv,j,ks,f,rest,hd,z⟩ o
  obtain⟨_,a3,a4,_⟩:=Nd.decI_eq hd;obtain⟨I,a5,T,q⟩:=key_ok (dy m) m z (by omega);obtain⟨U,a6,V,s⟩:=kidR_ok (dy (m+1)) n Z q (by simp;omega);have hp:H.h.get p=_:=(z.prs.keep p (J.lt e) hR).trans e;have M:I.h.get p=_:=(q.prs.keep p (J.lt e) hR).trans e;have N:=inner m n (R:=R) (a:= .ptr A4 0) (k:= .int .i64 (K:Nat)) (i:= .int .i64 (i:Nat)) hp M ((callKey m n R H).trans T) ((callKid m n R I).trans V) n (by omega);rw[Nd.decI_snoc,hd]at o;simp only[yD]at o;have O:((i:Nat):Int)< (K:Int):=by omega
  cases Q:takeT rest with
  | none=>rw[Q]at o;simp at o
  | some a=>
   obtain⟨a,W⟩:=a;rw[Q]at o;simp only[yD]at o;rw[textM_some Q]at q s;simp only at q s
   cases C:takeP W with
   | none=>rw[C]at o;simp at o
   | some b=>
    obtain⟨b,r2⟩:=b;rw[kidM_some _ C]at s;simp only at s;obtain⟨ee,Y⟩:=s.get;refine⟨_,U, ?_,rfl,_,_,_,_,_, ?_,s⟩
    .simp(disch:=omega) only[f99l2,eZ,O,lnSl,N,f99b1,ld1_get Y,y7]
    .rw[Nd.decI_snoc,hd];simp only[yD,Q,C];rfl
 .rintro i L H hi ⟨rfl,kv,j,ks,f,rest,hd,z⟩ o
  obtain⟨_,a3,a4,_⟩:=Nd.decI_eq hd;obtain⟨I,a5,T,q⟩:=key_ok (dy m) m z (by omega);obtain⟨U,a6,V,s⟩:=kidR_ok (dy (m+1)) n Z q (by simp;omega);have hp:H.h.get p=_:=(z.prs.keep p (J.lt e) hR).trans e;have M:I.h.get p=_:=(q.prs.keep p (J.lt e) hR).trans e;have N:=inner m n (R:=R) (a:= .ptr A4 0) (k:= .int .i64 (K:Nat)) (i:= .int .i64 (i:Nat)) hp M ((callKey m n R H).trans T) ((callKid m n R I).trans V) n (by omega);rw[Nd.decI_snoc,hd]at o;simp only[yD]at o;have O:((i:Nat):Int)< (K:Int):=by omega
  have a0:(kidM (textM rest false).2.1 (textM rest false).2.2 (G::f)).2.1=true:=by
   cases Q:takeT rest with
   | none=>rw[textM_none Q];exact kidM_bad _ _
   | some a=>
    obtain⟨a,W⟩:=a;rw[Q]at o;simp only[yD]at o;rw[textM_some Q]
    cases C:takeP W with
    | none=>exact kidM_none _ C
    | some b=>rw[C]at o;simp at o
  rw[a0]at s;obtain⟨ee,Y⟩:=s.get;refine⟨.exit 0 [.ptr A4 0, .ptr R 0],U, ?_,rfl,rfl,_,_,_,_,_,s⟩;simp(disch:=omega) only[f99l2,eZ,O,lnSl,N,f99b1,ld1_get Y]
 .rintro L H ⟨rfl,kv,j,ks,f,rest,hd,z⟩
  refine⟨.exit 0 [.ptr A4 0, .ptr R 0],H, ?_,rfl,rfl,_,_,_,_,_,hd,z⟩;simp only[f99l2,eZ,yA]
def NodeO (H0 H:AH)(v:AV)(a:Nd.Node):Prop:= ∃ks vs f,v= .agg [.bool a.leaf,ks,vs,f]/\Own 1 9 H ks a.keys.length (a.keys.map S)/\Own 1 9 H vs a.vals.length (a.vals.map S)/\Own 3 38 H f a.kids.length (a.kids.flatMap ptrV)/\(∀B,Blk ks B\/Blk vs B\/Blk f B->H0.next<=B)/\(∀B,Blk ks B-> ¬Blk vs B/\ ¬Blk f B)/\ ∀B,Blk vs B-> ¬Blk f B
theorem NodeO.node {a:Nd.Node}(H0:NodeO h l i a):NodeV l i a:=by
 obtain⟨ks,vs,f,e,H,j,h3,_⟩:=H0;exact⟨ks,vs,f,e,H.row,j.row,h3.row⟩
theorem bInt_or_i64 {b:Nat}(o:k<256)(hb:b<256):bInt .or (.int .i64 (k*256:Nat)) (.int .i64 (b:Int))=some (.int .i64 ((k*256+b):Nat)):=by
 have h3:k*256||| b=k*256+b:=by
  have:=Nat.two_pow_add_eq_or_of_lt (b:=b) (i:=8) (by omega) k;rw[Nat.mul_comm k 256];exact this.symm
 have f:keq .i64 .i64=true:=rfl;have h:BitVec.ofInt 64 ((k*256:Nat):Int)=BitVec.ofNat 64 (k*256):=BitVec.ofInt_natCast _ _;have j:BitVec.ofInt 64 (b:Int)=BitVec.ofNat 64 b:=BitVec.ofInt_natCast _ _;have m:(BitVec.ofNat 64 (k*256)||| BitVec.ofNat 64 b).toNat=k*256+b:=by
  rw[BitVec.toNat_or,BitVec.toNat_ofNat,BitVec.toNat_ofNat,Nat.mod_eq_of_lt (by omega),Nat.mod_eq_of_lt (by omega),h3]
 have h6:bInt .or (.int .i64 (.ofNat (k*256))) (.int .i64 (.ofNat b))=abits.slow .or .i64 (.ofNat (k*256)) (.ofNat b):=by
  simp only[bInt,abinI,f,zP,abits,IntKind.signed,Bool.not_true,Bool.false_and,y9]
 have h7:abits.slow .or .i64 (.ofNat (k*256)) (.ofNat b)=some (.int .i64 (k*256+b:Nat)):=by
  have h8:abits.slow .or .i64 (.ofNat (k*256)) (.ofNat b)=fI (IntKind.wrap .i64 ((BitVec.ofInt 64 ((k*256:Nat):Int)||| BitVec.ofInt 64 (b:Int)).toNat:Nat)) (fun n=>some (.int .i64 n)):=rfl;rw[h8,fI_eq,h,j,m,wrap_i64 (by omega) (by omega)]
 exact h6.trans h7
theorem head2 {s:Str}(h:2<=s.length): ∃a b,s.take 2=[a,b]/\bee (s.take 2)=a.toNat*256+b.toNat:=by
 match s,h with
 | a::b::l,_=>exact⟨a,b,rfl,by simp[bee]⟩
theorem RdI.base {rest:Str}(R:RdI k h l rest w q .nS .nS .nS [] [] [])(s:Prs l G):RdI k G G rest w q .nS .nS .nS [] [] []:=by
 obtain⟨e,i⟩:=R.get;exact⟨jV s.ok,⟨e,s.get R.prs.ok i⟩,kB _ _ _,kB _ _ _,kB _ _ _,fun B a=>(jZ.1 a).elim,fun B a=>(jZ.1 a).elim,fun B a=>(jZ.1 a).elim,R.small⟩
theorem decEnd(hn:200000000<=n){A4:Nat}{rest:Str}{ks vs:List Str}{s:List Ptr}(a:RdI k l G rest w q i t B ks vs s)(hA: ∃c e,c.length=4/\l.h.get A4=some (.cells c e 1 false))(a2:A4≠k)
  (W:l.ok) (h0:Prs h l) (hR:h.next<=k) (Y:h.next<=A4) (O:w=true\/small ⟨q,ks,vs,s⟩):
  ∃v H',outR (f99b3 D n [.ptr A4 0, .ptr k 0] G)=some (.tuple [v, .int .i64 (if w=false/\rest=[]/\Nd.may ltS ⟨q,ks,vs,s⟩=true then 0 else 4:Nat)],H')/\Prs h H'/\((w=false/\rest=[]/\Nd.may ltS ⟨q,ks,vs,s⟩=true)->NodeO h H' v ⟨q,ks,vs,s⟩)/\ ∃H0,v= .agg H0/\H0.length=4/\allCells H0=true:=by
 obtain⟨e,leaf⟩:=a.get;obtain⟨c,ec,K,Q⟩:=hA;have T:bldS [(0,1),(1,1),(2,1),(3,1)] [.bool false, .nS, .nS, .nS] []=some (.agg [.bool false, .nS, .nS, .nS]):=rfl;have Z:G.h.get A4=some (.cells c ec 1 false):=(a.prs.keep A4 (W.lt Q) a2).trans Q;have hP:Prs h G:=h0.fresh a.prs (fun kv f=>by rw[f];exact hR);have N: ∀C,Prs G C-> ∃z,stN 4 (.ptr A4 0) (.agg [.bool false, .nS, .nS, .nS]) C=some (undefA,z)/\ldN 4 (.ptr A4 0) z=some (.agg [.bool false, .nS, .nS, .nS])/\Prs h z:=by
  intro C j;obtain⟨z,H,U,y,n3⟩:=st_all j.ok (j.get a.prs.ok Z) (l':=[.bool false, .nS, .nS, .nS]) (by simp[K]) rfl;rw[K]at H;refine⟨z,H,by rw[ldN_get U];rfl,(hP.trans j).fresh y (fun kv f=>by rw[f];exact Y)⟩
 cases w with
 | true=>
  obtain⟨z,H,F,u⟩:=N G (jV a.prs.ok);refine⟨.agg [.bool false, .nS, .nS, .nS],z, ?_,u,fun R=>by simp at R,_,rfl,rfl,rfl⟩;simp only[f99b3,eZ,ld1_get leaf,T,H,F,false_and,Bool.true_eq_false]
 | false=>
  have O:=O.resolve_left (by simp);by_cases hr:rest=[]
  .subst hr;have a1:NodeV G (.agg [.bool q,i,t,B]) ⟨q,ks,vs,s⟩:=⟨i,t,B,rfl,a.k.row,a.v.row,a.p.row⟩;obtain⟨C,L,j⟩:=mayN_ok D n a.prs.ok a1 O hn;have I: ¬(([]:Str)≠[]):=by simp
   have J:(AV.str 0 0)=S []:=rfl;have V:subN [S [], .bool false, .bool q,i,t,B] 2 4=some [.bool q,i,t,B]:=rfl
   cases hm:Nd.may ltS ⟨q,ks,vs,s⟩with
   | false=>
    obtain⟨z,H,F,u⟩:=N C j;rw[hm]at L;refine⟨.agg [.bool false, .nS, .nS, .nS],z, ?_,u,fun R=>by simp at R,_,rfl,rfl,rfl⟩;simp only[f99b3,eZ,ld1_get leaf,ldN_get leaf,V,zY,J,I,L,T,H,F,and_false]
   | true=>
    rw[hm]at L;have a0:allCells [.bool q,i,t,B]=true:=by
     rw[allCells_mem];intro x hx;simp only[zM,List.not_mem_nil,or_false]at hx;rcases hx with rfl | rfl | rfl | rfl
     .rfl
     .exact a.k.row.isCell
     .exact a.v.row.isCell
     .exact a.p.row.isCell
    obtain⟨z,H,U,y,n3⟩:=st_all j.ok (j.get a.prs.ok Z) (l':=[.bool q,i,t,B]) (by simp[K]) a0;rw[K]at H;have a3:ldN 4 (.ptr A4 0) z=some (.agg [.bool q,i,t,B]):=by rw[ldN_get U];rfl
    have a4:A4<l.next:=W.lt Q
    have M: ∀kv,Blk i kv\/Blk t kv\/Blk B kv->l.next<=kv:=by
     rintro kv (R | R | R)
     .exact(a.kb kv R).1
     .exact(a.vb kv R).1
     .exact(a.pb kv R).1
    refine⟨.agg [.bool q,i,t,B],z, ?_,(hP.trans j).fresh y (fun kv f=>by rw[f];exact Y),fun _=>⟨i,t,B,rfl,(a.k.mono j (fun _ _ x=>x)).mono y (fun kv f=>by have:=M kv (.inl f);omega),(a.v.mono j (fun _ _ x=>x)).mono y (fun kv f=>by have:=M kv (.inr (.inl f));omega),(a.p.mono j (fun _ _ x=>x)).mono y (fun kv f=>by have:=M kv (.inr (.inr f));omega),fun kv f=>by have:=M kv f;have:=h0.next;omega,fun kv f=>(a.kb kv f).2.2,fun kv f=>(a.vb kv f).2.2⟩,_,rfl,rfl,a0⟩
    simp only[f99b3,eZ,ld1_get leaf,ldN_get leaf,ldN_get (j.get a.prs.ok leaf),V,zY,J,I,L,H,a3,and_self]
  .obtain⟨z,H,F,u⟩:=N G (jV a.prs.ok);have I:rest≠[]:=hr;have J:(AV.str 0 0)=S []:=rfl;refine⟨.agg [.bool false, .nS, .nS, .nS],z, ?_,u,fun R=>absurd R.2.1 hr,_,rfl,rfl,rfl⟩;simp only[f99b3,eZ,ld1_get leaf,J,I,T,H,F,false_and,and_false,ne_eq,jA,hr]
theorem loopBad (m n:Nat)(O:100<=n){R A4:Nat}(s:h.h.get p=some (.cells [.func 129 [.ptr R 0] [], .func 130 [.ptr R 0] []] v 1 false))(z:h.ok)(hR:p≠R)
  {u:Str}  {f:List Ptr} (W:f.length<1000) (K:Nat) (x:RdI R h l u true false .nS .nS t [] [] f) (q:Nat) (Y:K<q):
  ∃H',loopK q (f99l2 (dy (m+1)) n) [.ptr A4 0, .ptr R 0, .slice p 0 2 4, .int .i64 (K:Nat), .int .i64 (0:Nat)] l=some (.exit 0 [.ptr A4 0, .ptr R 0],H')/\ ∃kv t ks f rest,RdI R h H' rest true false kv .nS t ks [] f:=by
 obtain⟨q,rfl⟩: ∃j,q=j+1:=⟨q - 1,by omega⟩;by_cases Q:K=0
 .subst Q;refine⟨l,loop_exit ?_,_,_,_,_,_,x⟩;simp only[f99l2,eZ,yA]
 .obtain⟨C,Z,S,F⟩:=key_ok (dy m) m x (by simp);have I:=textM_bad u;obtain⟨T,a0,U,y⟩:=kidR_ok (dy (m+1)) n O F (by omega);have J:l.h.get p=_:=(x.prs.keep p (z.lt s) hR).trans s;have L:C.h.get p=_:=(F.prs.keep p (z.lt s) hR).trans s;have M:=inner m n (R:=R) (a:= .ptr A4 0) (k:= .int .i64 (K:Nat)) (i:= .int .i64 (0:Nat)) J L ((callKey m n R l).trans S) ((callKid m n R C).trans U) n (by omega);have G:(kidM (textM u true).2.1 (textM u true).2.2 f).2.1=true:=by rw[I];exact kidM_bad _ _
  rw[G]at y;obtain⟨ee,V⟩:=y.get;have N:((0:Nat):Int)< (K:Int):=by omega
  refine⟨T,loop_exit ?_,_,_,_,_,_,y⟩;simp(disch:=omega) only[f99l2,eZ,N,lnSl,M,f99b1,ld1_get V]
theorem RdI.cap {rest:Str}{ks vs:List Str}{j:List Ptr}(R:RdI k h l rest w q i t B ks vs j):rest.length<=10000:=R.small.1
theorem decode_ok (m n:Nat)(hn:200000000<=n)(Q:h.ok)(leaf:Bool)(s:Str):
  ∃v H',f99 (dy (m+1)) n [.bool leaf,S s] h=some (.tuple [v, .int .i64 (if(Nd.decN ltS leaf s).isSome then 0 else 4:Nat)],H')/\Prs h H'/\(∀I,Nd.decN ltS leaf s=some I->NodeO h H' v I)/\ ∃l,v= .agg l/\l.length=4/\allCells l=true:=by
 have b6:bldS [(0,1),(1,1),(2,1),(3,1)] [.bool false, .nS, .nS, .nS] []=some (.agg [.bool false, .nS, .nS, .nS]):=rfl;have t:Prs h (h.push (.cells [.bool false, .nS, .nS, .nS] 72 1 false)):=(jV Q).push _;have g1:(h.push (.cells [.bool false, .nS, .nS, .nS] 72 1 false)).h.get h.next=some (.cells [.bool false, .nS, .nS, .nS] 72 1 false):=jK _ _
 have n1:(h.push (.cells [.bool false, .nS, .nS, .nS] 72 1 false)).next=h.next+1:=rfl
 generalize W:h.push (.cells [.bool false, .nS, .nS, .nS] 72 1 false)=H1 at t g1 n1;have b2: ∀T,Prs H1 T-> ∃i,stN 4 (.ptr h.next 0) (.agg [.bool false, .nS, .nS, .nS]) T=some (undefA,i)/\ldN 4 (.ptr h.next 0) i=some (.agg [.bool false, .nS, .nS, .nS])/\Prs h i:=by
  intro T J;obtain⟨i,q,C,s3,n3⟩:=st_all J.ok (J.get t.ok g1) (l':=[.bool false, .nS, .nS, .nS]) rfl rfl;exact⟨i,q,by rw[ldN_get C];rfl,(t.trans J).fresh s3 (fun B L=>by omega)⟩
 by_cases b3:s.length<=500
 .have N: ¬((500:Nat):Int)< (s.length:Int):=by omega
  have a2:bldS [(0,1),(1,1),(2,1),(3,1)] [.bool false, .nS, .nS, .nS] [(0, .bool leaf)]=some (.agg [.bool leaf, .nS, .nS, .nS]):=rfl;have a3:bldS [(0,1),(1,1),(2,4)] [.str 0 0, .bool false, .bool false, .nS, .nS, .nS] [(0,S s),(2, .agg [.bool leaf, .nS, .nS, .nS])]=some (.agg [S s, .bool false, .bool leaf, .nS, .nS, .nS]):=rfl;have J:Prs H1 (H1.push (.cells [S s, .bool false, .bool leaf, .nS, .nS, .nS] 217 1 false)):=(jV t.ok).push _;have g2:(H1.push (.cells [S s, .bool false, .bool leaf, .nS, .nS, .nS] 217 1 false)).h.get H1.next=some (.cells [S s, .bool false, .bool leaf, .nS, .nS, .nS] 217 1 false):=jK _ _
  have n2:(H1.push (.cells [S s, .bool false, .bool leaf, .nS, .nS, .nS] 217 1 false)).next=H1.next+1:=rfl
  generalize a4:H1.push (.cells [S s, .bool false, .bool leaf, .nS, .nS, .nS] 217 1 false)=T at J g2 n2;have b8:RdI H1.next T T s false leaf .nS .nS .nS [] [] []:=⟨jV J.ok,⟨_,g2⟩,kB _ _ _,kB _ _ _,kB _ _ _,fun B L=>(jZ.1 L).elim,fun B L=>(jZ.1 L).elim,fun B L=>(jZ.1 L).elim,by omega,by simp,by simp,by simp⟩
  obtain⟨i,q,o⟩:=take_ok (dy (m+1)) n b8 2;obtain⟨c9,C⟩:=o.get;have a8:Prs H1 i:=J.fresh o.prs (fun B L=>by omega);by_cases h2:s.length<2
  .have F:takeM s false 2=([],s,true):=by simp[takeM,h2]
   rw[F]at q o C;simp only at q o C;obtain⟨u,e4,l4,x⟩:=b2 i a8;have hd:Nd.decN ltS leaf s=none:=by simp only[Nd.decN];rw[if_neg (by omega)]
   refine⟨.agg [.bool false, .nS, .nS, .nS],u, ?_,x,(fun I H=>by rw[hd]at H;cases H),_,rfl,rfl,rfl⟩;rw[hd];simp only[f99,eZ,bA_ok Q,W,N,a2,a3,bA_ok t.ok,a4,q,ld1_get C,b6,e4,l4,Option.isSome_none]
  .have F:takeM s false 2=(s.take 2,s.drop 2,false):=by simp[takeM,h2]
   rw[F]at q o C;simp only at q o C;obtain⟨a,b,a9,hK⟩:=head2 (s:=s) (by omega);have ha:a.toNat<256:=a.toNat_lt;have hb:b.toNat<256:=b.toNat_lt;have U:=ixStr_S (s.take 2) .i64 (z:=((0:Nat):Int)) (by omega) (by simp;omega);have V:=ixStr_S (s.take 2) .i64 (z:=((1:Nat):Int)) (by omega) (by simp;omega);simp only[a9]at U V
   replace U:ixStr (S (s.take 2)) (.int .i64 (0:Nat))=some (.int .u8 a.toNat):=by rw[a9];exact U
   replace V:ixStr (S (s.take 2)) (.int .i64 (1:Nat))=some (.int .u8 b.toNat):=by rw[a9];exact V
   have wa:IntKind.wrap .i64 (a.toNat:Int)=(a.toNat:Int):=wrap_i64 (by omega) (by omega);have wb:IntKind.wrap .i64 (b.toNat:Int)=(b.toNat:Int):=wrap_i64 (by omega) (by omega);have a5:=bInt_shl .i64 .u64 (a.toNat:Int) (s:=8) (by decide);rw[show IntKind.wrap .i64 ((a.toNat:Int)*2 ^ 8)=((a.toNat*256:Nat):Int)from by rw[wrap_i64 (by omega) (by omega)];omega]at a5;have Y:=bInt_or_i64 ha hb;rw[<-hK]at Y;have b9:bee (s.take 2)<65536:=by omega
   generalize Z:bee (s.take 2)=K at Y b9 hK;have b0: ∀(f g:FuncId) (xs ys:List AV),bldL 1 1 2 [.nilFunc] [(0, .func f xs []),(1, .func g ys [])]=some (.cells [.func f xs [], .func g ys []] 1 1 false,fun A=> .slice A 0 2 4):=fun _ _ _ _=>rfl
   have x:Prs i (i.push (.cells [.func 129 [.ptr H1.next 0] [], .func 130 [.ptr H1.next 0] []] 1 1 false)):=(jV o.prs.ok).push _
   have g4:(i.push (.cells [.func 129 [.ptr H1.next 0] [], .func 130 [.ptr H1.next 0] []] 1 1 false)).h.get i.next=some (.cells [.func 129 [.ptr H1.next 0] [], .func 130 [.ptr H1.next 0] []] 1 1 false):=jK _ _
   have n4:(i.push (.cells [.func 129 [.ptr H1.next 0] [], .func 130 [.ptr H1.next 0] []] 1 1 false)).next=i.next+1:=rfl
   generalize b1:i.push (.cells [.func 129 [.ptr H1.next 0] [], .func 130 [.ptr H1.next 0] []] 1 1 false)=u at x g4 n4
   have n3:=o.prs.next
   have c8:(s.drop 2).length=s.length - 2:=by simp
   have a0: ∀(Hp j:AH) (rest:Str) (a6:Bool) (kv vv pv:AV) (ks vs:List Str) (M:List Ptr),RdI H1.next Hp j rest a6 leaf kv vv pv ks vs M->Prs H1 Hp->(a6=true\/small ⟨leaf,ks,vs,M⟩)->
     (Nd.decN ltS leaf s=if a6=false/\rest=[]/\Nd.may ltS ⟨leaf,ks,vs,M⟩=true then some ⟨leaf,ks,vs,M⟩else none)->
     f99 (dy (m+1)) n [.bool leaf,S s] h=outR (f99b3 (dy (m+1)) n [.ptr h.next 0, .ptr H1.next 0] j)->
     ∃v H',f99 (dy (m+1)) n [.bool leaf,S s] h=some (.tuple [v, .int .i64 (if(Nd.decN ltS leaf s).isSome then 0 else 4:Nat)],H')/\Prs h H'/\(∀I,Nd.decN ltS leaf s=some I->NodeO h H' v I)/\ ∃l,v= .agg l/\l.length=4/\allCells l=true:=by
    intro Hp j rest a6 kv vv pv ks vs M hI hp c0 b4 G;obtain⟨v,H',e,p,c1,l⟩:=decEnd (dy (m+1)) n hn (A4:=h.next) hI ⟨_,_,rfl,hp.get t.ok g1⟩ (by omega) hp.ok (t.trans hp) (by omega) (zK _) c0
    refine⟨v,H', ?_,p, ?_,l⟩
    .rw[G,e,b4];split<;>rfl
    .intro I a1;rw[b4]at a1;split at a1
     .rename_i hc;simp only[zB]at a1;subst a1;exact c1 hc
     .cases a1
   cases leaf with
   | true=>
    have p5:Prs u (u.push (.cells [.func 129 [.ptr H1.next 0] [], .func 131 [.ptr H1.next 0] []] 1 1 false)):=(jV x.ok).push _
    have g5:(u.push (.cells [.func 129 [.ptr H1.next 0] [], .func 131 [.ptr H1.next 0] []] 1 1 false)).h.get u.next=some (.cells [.func 129 [.ptr H1.next 0] [], .func 131 [.ptr H1.next 0] []] 1 1 false):=jK _ _
    generalize c2:u.push (.cells [.func 129 [.ptr H1.next 0] [], .func 131 [.ptr H1.next 0] []] 1 1 false)=H5 at p5 g5
    have O:=o.base (x.trans p5);obtain⟨j,e9,kv,vv,ks,vs,rest,h9⟩:=loopDL m n (by omega) (A4:=h.next) g5 p5.ok (by omega) K (by omega) O n (by omega)
    have G:f99 (dy (m+1)) n [.bool true,S s] h=outR (f99b3 (dy (m+1)) n [.ptr h.next 0, .ptr H1.next 0] j):=by
     simp(disch:=omega) only[f99,eZ,bA_ok Q,W,N,a2,a3,bA_ok t.ok,a4,q,ld1_get C,b0,bA_ok o.prs.ok,b1,bA_ok x.ok,c2,f99j4,U,V,wa,wb,a5,Y,e9]
    have b5:Prs H1 H5:=(a8.trans x).trans p5
    cases hd:decL K (s.drop 2)with
    | none=>
     rw[hd]at h9;exact a0 H5 j _ _ _ _ _ _ _ _ h9 b5 (.inl rfl) (by simp only[Nd.decN,Nd.decB,Z,hd];simp) G
    | some y=>
     obtain⟨y1,y2,y3⟩:=y;rw[hd]at h9;obtain⟨rfl,rfl,rfl,h9⟩:=h9;obtain⟨q1,q2,q3⟩:=Nd.decL_eq hd;have hq:=congrArg List.length q1;rw[zT,Nd.encL_length _ _ (by omega)]at hq;exact a0 H5 j _ _ _ _ _ _ _ _ h9 b5 (.inr ⟨by simp,by simp;omega,by simp;omega⟩) (by simp only[Nd.decN,Nd.decB,Z,hd];rw[if_pos ⟨b3,by omega⟩];simp) G
   | false=>
    have c3:=o.base x;obtain⟨H5,pv,e5,O⟩:=kidR_ok (dy (m+1)) n (by omega) c3 (by simp);have a7:Prs H1 u:=a8.trans x
    cases F:takeP (s.drop 2)with
    | none=>
     have c4:=kidM_none [] F;rw[c4]at O;have c5:(kidM (s.drop 2) false []).2.2.length<1000:=by
      simp only[kidM];split
      .simp
      .split<;>simp
     obtain⟨j,e9,kv,c6,ks,M,rest,h9⟩:=loopBad m n (by omega) (A4:=h.next) g4 x.ok (by omega) c5 K O n (by omega)
     have G:f99 (dy (m+1)) n [.bool false,S s] h=outR (f99b3 (dy (m+1)) n [.ptr h.next 0, .ptr H1.next 0] j):=by
      simp(disch:=omega) only[f99,eZ,bA_ok Q,W,N,a2,a3,bA_ok t.ok,a4,q,ld1_get C,b0,bA_ok o.prs.ok,b1,e5,f99j4,U,V,wa,wb,a5,Y,e9]
     exact a0 u j _ _ _ _ _ _ _ _ h9 a7 (.inl rfl) (by simp only[Nd.decN,Nd.decB,Z,F];simp) G
    | some y=>
     obtain⟨p0,r0⟩:=y;rw[kidM_some [] F]at O;obtain⟨c7,_,_⟩:=Nd.takeP_eq F;have b7:=congrArg List.length c7;rw[zT,Nd.encP_length]at b7;obtain⟨j,e9,kv,c6,ks,M,rest,h9⟩:=loopDI m n (by omega) (A4:=h.next) g4 x.ok (by omega) K (by omega) O n (by omega)
     have G:f99 (dy (m+1)) n [.bool false,S s] h=outR (f99b3 (dy (m+1)) n [.ptr h.next 0, .ptr H1.next 0] j):=by
      simp(disch:=omega) only[f99,eZ,bA_ok Q,W,N,a2,a3,bA_ok t.ok,a4,q,ld1_get C,b0,bA_ok o.prs.ok,b1,e5,f99j4,U,V,wa,wb,a5,Y,e9]
     cases hd:decI K r0 with
     | none=>
      rw[hd]at h9;exact a0 u j _ _ _ _ _ _ _ _ h9 a7 (.inl rfl) (by simp only[Nd.decN,Nd.decB,Z,F,hd];simp) G
     | some y=>
      obtain⟨y1,y2,y3⟩:=y;rw[hd]at h9;obtain⟨rfl,rfl,rfl,h9⟩:=h9;obtain⟨q1,q2,q3,_⟩:=Nd.decI_eq hd;have hq:=congrArg List.length q1;rw[zT,Nd.encI_length _ _ (by omega)]at hq;exact a0 u j _ _ _ _ _ _ _ _ h9 a7 (.inr ⟨by simp;omega,by simp;omega,by simp[Nd.sumL]⟩) (by simp only[Nd.decN,Nd.decB,Z,F,hd];rw[if_pos ⟨b3,by omega⟩];simp) G
 .have N:((500:Nat):Int)< (s.length:Int):=by omega
  obtain⟨i,q,l3,p3⟩:=b2 H1 (jV t.ok);have hd:Nd.decN ltS leaf s=none:=by simp only[Nd.decN];rw[if_neg (by omega)]
  refine⟨.agg [.bool false, .nS, .nS, .nS],i, ?_,p3,(fun I H=>by rw[hd]at H;cases H),_,rfl,rfl,rfl⟩;rw[hd];simp only[f99,eZ,bA_ok Q,W,N,b6,q,l3,Option.isSome_none]
theorem allCells4 (x:Bool)(a b c:AV)(f:isCell a=true)(hb:isCell b=true)(h:isCell c=true):allCells [.bool x,a,b,c]=true:=by
 simp only[allCells,f,hb,h];rfl
theorem Grow.zero (k e:Nat){H:AH}{A:Nat}{a:TypeId}{g:Bool}(h:H.h.get A=some (.cells [] a k g))(f:H.ok):Grow k e H (.slice A 0 0 0) 0 []:= .inr ⟨by simp,A,a,g,rfl,f.lt h,h,rfl⟩
theorem aveq_bool (b:Bool):aveq (.bool b) (.bool b)=true:=by cases b<;>rfl
theorem map_cells (l:List Str):allCells (l.map S)=true:=by
 rw[allCells_mem];intro x a;obtain⟨s,_,rfl⟩:=qM.1 a;rfl
theorem flat_cells (l:List Ptr):allCells (l.flatMap ptrV)=true:=by
 rw[allCells_mem];intro x a;obtain⟨p,_,hp⟩:=List.mem_flatMap.1 a;simp only[ptrV,zM,List.not_mem_nil,or_false]at hp;rcases hp with rfl | rfl | rfl<;>rfl
theorem Rw.blk {k n:Nat}{H:AH}{v:AV}{l:List AV}(h:Rw k H v n l){B:Nat}(a:Blk v B):B<H.next:=by
 obtain⟨_,⟨rfl,_⟩ | ⟨rfl,_⟩ | ⟨A,off,cc,c,e,sz,g,rfl,_,f,_⟩⟩:=h
 .exact(jZ.1 a).elim
 .obtain⟨_,_,_,h⟩:=a;cases h
 .rw[jS.1 a];exact f
def kD:=@Rw.blk
def NodeG (H:AH)(v:AV)(a:Nd.Node):Prop:= ∃ks vs f,v= .agg [.bool a.leaf,ks,vs,f]/\Grow 1 9 H ks a.keys.length (a.keys.map S)/\Grow 1 9 H vs a.vals.length (a.vals.map S)/\Grow 3 38 H f a.kids.length (a.kids.flatMap ptrV)
theorem NodeG.node {a:Nd.Node}(H:NodeG h i a):NodeV h i a:=by
 obtain⟨ks,vs,f,e,v,j,h3⟩:=H;exact⟨ks,vs,f,e,v.row,j.row,h3.row⟩
theorem NodeG.prs {a:Nd.Node}(H:NodeG h i a)(s:Prs h l):NodeG l i a:=by
 obtain⟨ks,vs,f,e,H',j,h3⟩:=H;exact⟨ks,vs,f,e,H'.mono s (fun _ _ x=>x),j.mono s (fun _ _ x=>x),h3.mono s (fun _ _ x=>x)⟩
theorem Own.st (n:Own k p h i C A)(m:h.ok)(j:0<k)(hi:E<C){x:AV}(a:(cellsA x).length=k)(o:allCells (cellsA x)=true):
  ∃e H' l',(∀κ (z:Int),z=(E:Int)->ixSl k i (.int κ z)=some e)/\stN k e x h=some (undefA,H')/\Own k p H' i C l'/\Stp (Blk i) h H':=by
 obtain⟨u,⟨_,rfl⟩ | ⟨H,rfl,f,q⟩⟩:=n
 .omega
 .have t:E*k+k<=C*k:=by rw[<-jI];exact yP _ hi
  have hb:Nat.blt E C=true:=by rw[q9];exact hi
  refine⟨.ptr H (0+E*k),_,_,fun κ z s=> ?_,stN_ok q j a o (by omega),⟨?_, .inr ⟨H,rfl,f,by rw[jO,if_pos rfl]⟩⟩,(jV m).put f _ (.inr (jS.2 rfl))⟩
  .subst s;simp only[ixSl,natOf_int κ (show(0:Int)<=(E:Int)by omega),qU,hb,zP,fN_eq]
  .simp only[zT,qA,qK,a];omega
end Go.Eng.Sh
end



