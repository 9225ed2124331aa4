/- WalkDiffs: for every input the law returns true. No condition. -/
import Derived.Test.YtaaflpnhdkoaeaaGreatO7
import Derived.Test.YtaaflpnhdkoaeaaGreatRows
import Derived.ProofKit
import Derived.OpenShut
import Derived.Carry
set_option linter.all false
set_option maxHeartbeats 8000000
set_option maxRecDepth 20000
open Go.Nd (Kvs Ptr Srt Str leafOf sumL)
variable (D:Go.Eng.Dyn)(n:Nat){h I c:Nat->Prop}{A:Go.Eng.AH}{v t e M g:Nat}{w R:Go.Nd.Kvs}{l:Nat->Nat}{p:List (Go.Nd.Ptr×Go.Nd.Node)}{q:Go.Bk.Ws}{B f:Go.Eng.AV}{C:Go.Nd.Ptr}{J:List Go.Nd.Ptr}{N:List Go.Eng.AV}{P:Go.Eng.Sh.Ev}{U:Go.Eng.AH->(Nat->Prop)->Prop}{Y:Go.Eng.Sh.PN}{a:Go.Nd.Ptr->Option Go.Nd.Node}{j:List (Go.Eng.AV×Go.Eng.AV)}{m:Go.World}{r:Go.Nd.Ptr×Go.Nd.Node}{u:Type}{z:Bool}
namespace Go.Eng.Sh
open Go.Bt
def GX (G:AH->(Nat->Prop)->Prop)(P:AH->Prop)(a:Nat->Prop)(H:AH)(W:Nat->Prop):Prop:=G H (fun _=>False)/\P H/\ ∀B,W B↔a B
def rdr_x {At N0 N1 k:Nat}{root:Ptr}{Q:Ptr->Option Nd.Node}{G:AH->(Nat->Prop)->Prop}(r:Rdr At N0 k root Q G)(y:N0<=N1)(C: ∀ {H W},G H W-> ∀B,¬W B){P:AH->Prop}{q:Nat->Prop}(t: ∀ {H},H.ok->P H-> ∀B,q B->B<H.next)(u: ∀ {H H' S},H.ok->P H->Stp S H H'->(∀B,S B->N1<=B)->P H'):Rdr At N1 k root Q (GX G P q) where
 ok:=fun h=>r.ok h.1
 lt:=fun⟨j,h2,h3⟩ B o=>t (r.ok j) h2 B ((h3 B).1 o)
 frame:=fun⟨j,h2,h3⟩ s hS=>⟨r.frame j s fun B o=>⟨qN y (hS B o).1,fun x=>x⟩,u (r.ok j) h2 s fun B o=>(hS B o).1,h3⟩
 root:=fun D n ⟨j,_⟩=>r.root D n j
 dirty:=fun D n ⟨j,_⟩=>r.dirty D n j
 load:=fun {H W p nd} m n hm J ⟨j,h2,h3⟩ hq hz=>by
  obtain⟨v,H',K,e,g,a,N,f⟩:=r.load m n hm J j hq hz;have z:K=fun _=>False:=by funext B;exact eq_false (C g B)
  subst z;exact⟨v,H',W,e,⟨g,u (r.ok j) h2 a.1 fun B x=>x.elim,h3⟩,⟨a.1.mono fun B _ x=>x.elim,fun B o=> .inl o⟩,N,fun B o=>⟨(f B o).1,fun O=>by have:=t (r.ok j) h2 B ((h3 B).1 O);have:=(f B o).1;omega⟩⟩
def FB (N1:Nat)(H:AH)(M:Nat)(L:List (Ptr×Nd.Node)):Prop:=M<N1/\ ∃es,H.h.get M=some (.map (1::[6,6,10]) es)/\ ∀p,(∀nd,fZ p L=some nd-> ∃v,wB (kP p) es=some v/\jZ H v nd/\ ∀B,xS v B->B<N1)/\(fZ p L=none->wB (kP p) es=none)
theorem FM.b (h:FM A v p)(m:A.ok)(a:A.next<=t):FB t A v p:=by
 obtain⟨es,g,f⟩:=h;exact⟨qG (m.lt g) a,es,g,fun N1=>⟨fun nd o=>by
  obtain⟨H,q,j⟩:=(f N1).1 nd o;exact⟨H,q,j,fun B M=>qG (j.lt M) a⟩,(f N1).2⟩⟩
theorem FB.stp {H H':AH}{M N1:Nat}{L:List (Ptr×Nd.Node)}{S:Nat->Prop}(h:FB N1 H M L)(m:H.ok)(s:Stp S H H')(a: ∀B,S B->N1<=B):FB N1 H' M L:=by
 obtain⟨o,es,g,f⟩:=h;refine⟨o,es,by rw[s.keep _ (m.lt g) (fun x=>by have:=a _ x;omega)];exact g,fun p=>⟨fun nd q=> ?_,(f p).2⟩⟩;obtain⟨v,t,u,j⟩:=(f p).1 nd q;exact⟨v,t,u.stp s fun B y z=>by have:=a _ z;have:=j B y;omega,j⟩
theorem FB.map {H H':AH}{M a N1:Nat}{L:List (Ptr×Nd.Node)}{ks:List Nat}{es:List (AV×AV)}(h:FB N1 H M L)(o:H.ok)(s:Stp (fun B=>B=a) H H')(q:H.h.get a=some (.map ks es))(j:a≠M):FB N1 H' M L:=by
 obtain⟨j,es',g,f⟩:=h;have t:NR H a:=fun _ _ _ _ x=>by rw[q]at x;cases x
 refine⟨j,es',by rw[s.keep _ (o.lt g) (fun x=> ‹a≠M› x.symm)];exact g,fun p=>⟨fun nd u=> ?_,(f p).2⟩⟩;obtain⟨v,y,m,z⟩:=(f p).1 nd u;exact⟨v,y,m.stp s fun B C J=>t.node m (J▸C),z⟩
structure PD (N1 X6 X10 M6 M10:Nat)(L:List (Ptr×Nd.Node))(F:List Ptr)(H:AH):Prop where
 x6:X6<N1
 x10:X10<N1
 m10:M10<N1
 ne:M10≠M6
 b6:Box H X6 (.map M6)
 b10:Box H X10 (.map M10)
 f:FB N1 H M6 L
 b:BM H M10 F
section
variable {N1 X6 X10 M6 M10:Nat}{L:List (Ptr×Nd.Node)}{F:List Ptr}
theorem PD.stp {H H':AH}{S:Nat->Prop}(a:H.ok)(h:PD N1 X6 X10 M6 M10 L F H)(s:Stp S H H')(j: ∀B,S B->N1<=B):PD N1 X6 X10 M6 M10 L F H':=
 have n: ∀ {B:Nat},B<N1-> ¬S B:=fun o m=>by have:=j _ m;omega
 ⟨h.x6,h.x10,h.m10,h.ne,h.b6.mono a s (n h.x6),h.b10.mono a s (n h.x10),h.f.stp a s j,h.b.stp a s (n h.m10)⟩
def PD.prs {H':AH}(a:A.ok)(h:PD N1 X6 X10 M6 M10 L F A)(s:Prs A H'):PD N1 X6 X10 M6 M10 L F H':=h.stp a s fun _ x=>x.elim
theorem PD.up {H:AH}(a:H.ok)(h:PD N1 X6 X10 M6 M10 L F H)(p:Ptr): ∃H',upM (1::[6,6,10]) (.map M10) (kP p) (.agg []) H=some (jQ,H')/\PD N1 X6 X10 M6 M10 L (F++[p]) H'/\Stp (fun B=>B=M10) H H'/\H'.next=H.next:=by
 obtain⟨H',e,b,s,n⟩:=h.b.up a p;obtain⟨es,g,_⟩:=h.b;have nb: ∀ {A:Nat} {x:AV},Box H A x->A≠M10:=fun⟨_,gA⟩ e=>by rw[e,g]at gA;cases gA
 exact⟨H',e,⟨h.x6,h.x10,h.m10,h.ne,h.b6.mono a s (nb h.b6),h.b10.mono a s (nb h.b10),h.f.map a s g h.ne,b⟩,s,n⟩
theorem PD.lt {H:AH}(a:H.ok)(h:PD N1 X6 X10 M6 M10 L F H):M10<H.next:=by
 obtain⟨es,g,_⟩:=h.b;exact a.lt g
def pbA (L:List (Ptr×Nd.Node))(s:List Ptr)(p:Ptr):Bool×List Ptr:=bif (fZ p L).isSome&&decide (p.at_≠1)then(true,s++[p])else(false,s)
def pbB (F:List Ptr)(s:Unit)(p:Ptr):Bool×Unit:=(decide (p∈F),())
theorem zLi(Y:A.ok)(h:PD N1 X6 X10 M6 M10 L F A)(p:Ptr):
  ∃H',f113 D n [.agg (jS p), .ptr X6 0, .ptr X10 0] A=some (.bool (pbA L F p).1,H')/\PD N1 X6 X10 M6 M10 L (pbA L F p).2 H'/\Stp (fun B=>B=M10) A H':=by
 obtain⟨H1,O,b1,a,u,m1,n1⟩:=box Y (.cells (jS p) 42 1 false);have J:bxV 42 (.agg (jS p))=some (.cells (jS p) 42 1 false,fun H=> .ptr H 0):=rfl;have o:=h.prs Y a;obtain⟨H2,A5,b2,S,g2,m2,n2⟩:=box a.ok (.cells [.bool false, .nS, .nS, .nS] 119 1 false);have C:bxV 119 (.agg [.bool false, .nS, .nS, .nS])=some (.cells [.bool false, .nS, .nS, .nS] 119 1 false,fun H=> .ptr H 0):=rfl;have a0:=a.next;have N2:=S.next
 have x: ∀ {A:AH},A.h.get O=some (.cells (jS p) 42 1 false)->ldN 3 (.ptr O 0) A=some (kP p):=fun g=>by rw[jR g];rfl
 obtain⟨hM,es,gM,f⟩:=o.f;have j:=zHZ gM (.agg [.bool false, .nS, .nS, .nS]) p;obtain⟨v,hv,hz⟩: ∃l,(wB (kP p) es).getD (.agg [.bool false, .nS, .nS, .nS])= .agg l/\l.length=4/\jP l=true/\(wB (kP p) es).isSome=(fZ p L).isSome:=by
  cases hl:fZ p L with
  | none=>exact⟨_,by rw[(f p).2 hl];rfl,rfl,rfl,by rw[(f p).2 hl];rfl⟩
  | some nd=>
   obtain⟨v,Z,⟨ks,vs,ps,rfl,w1,w2,w3⟩,_⟩:=(f p).1 nd hl;exact⟨_,by rw[Z];rfl,rfl,by simp[jP,w1.isCell,w2.isCell,w3.isCell];rfl,by rw[Z];rfl⟩
 obtain⟨z1,z2,z3⟩:=hz;rw[hv,z3]at j;obtain⟨q,e3,g3,s3,n3⟩:=jV S.ok g2 (l':=v) z1 z2;have K:stN 4 (.ptr A5 0) (.agg v) H2=some (jQ,q):=e3;have m:Prs H1 q:=S.fresh s3 fun B hB=>by omega
 have y:=o.prs a.ok m;have T:=zRt m a.ok u;have l3:Eng.ld1 (.ptr O 0) q=some (.int .i64 p.at_):=by rw[jM T];rfl
 have hb:vJ [] [] []=some (.agg []):=rfl
 cases t:(fZ p L).isSome with
 | false=>
  have hp:pbA L F p=(false,F):=by simp only[pbA,t,Bool.false_and,qH]
  rw[hp];rw[t]at j;refine⟨q, ?_,y,zRv (a.trans m)⟩;simp(maxSteps:=999999)(disch:=omega) only[f113,zEW,eZ,J,b1,o.b6.ld,x u,j,jN,nth,C,b2,K,zL]
 | true=>
  rw[t]at j;by_cases z:p.at_=1
  .have hp:pbA L F p=(false,F):=by simp only[pbA,t,z,Bool.true_and,ne_eq,not_true_eq_false,decide_false,qH]
   have N: ¬(p.at_≠((1:Nat):Int)):=by simp[z]
   rw[hp];refine⟨q, ?_,y,zRv (a.trans m)⟩;simp(maxSteps:=999999)(disch:=omega) only[f113,zEW,eZ,J,b1,o.b6.ld,x u,j,jN,nth,C,b2,K,l3,N,decide_false]
  .have hp:pbA L F p=(true,F++[p]):=by simp only[pbA,t,z,Bool.true_and,ne_eq,yD,decide_true,zP]
   have N:p.at_≠((1:Nat):Int):=by simpa using z
   rw[hp];obtain⟨H4,e4,h4,s4,n4⟩:=y.up m.ok p;refine⟨H4, ?_,h4,(zRv (a.trans m)).trans s4⟩;simp(maxSteps:=999999)(disch:=omega) only[f113,zEW,eZ,J,b1,o.b6.ld,x u,j,jN,nth,C,b2,K,l3,N,ne_eq,yD,decide_true,y.b10.ld,x T,hb,e4]
theorem zLh(t:A.ok)(h:PD N1 X6 X10 M6 M10 L F A)(p:Ptr):
  ∃H',f114 D n [.agg (jS p), .ptr X10 0] A=some (.bool (decide (p∈F)),H')/\PD N1 X6 X10 M6 M10 L F H'/\Prs A H':=by
 obtain⟨u,K,b1,a,N,m1,n1⟩:=box t (.cells (jS p) 42 1 false);have C:bxV 42 (.agg (jS p))=some (.cells (jS p) 42 1 false,fun H=> .ptr H 0):=rfl;have j:=h.prs t a;obtain⟨O,S,b2,m,T,m2,n2⟩:=box a.ok (.cells [] 227 1 false);have z:bxV 227 (.agg [])=some (.cells [] 227 1 false,fun H=> .ptr H 0):=rfl;have a0:=a.next;have N2:=m.next
 have Y:ldN 3 (.ptr K 0) u=some (kP p):=by rw[jR N];rfl
 obtain⟨es,Z,f⟩:=j.b;have q:=zHZ Z (.agg []) p;have x:(wB (kP p) es).getD (.agg [])= .agg []/\(wB (kP p) es).isSome=decide (p∈F):=by
  rw[f p];by_cases hp:p∈F<;>simp[hp]
 rw[x.1,x.2]at q;obtain⟨o,e3,g3,s3,n3⟩:=jV m.ok T (l':=[]) rfl rfl;have J:stN 0 (.ptr S 0) (.agg []) O=some (jQ,o):=e3;have y:Prs u o:=m.fresh s3 fun B hB=>by omega
 refine⟨o, ?_,j.prs a.ok y,a.trans y⟩;simp(maxSteps:=999999)(disch:=omega) only[f114,eZ,C,b1,j.b10.ld,Y,q,jN,nth,z,b2,J]
end
def lpF (X6:Nat):ALoop:=⟨.ready,none,65,0,[6],[.ptr X6 0]⟩
def zGU (s:List (Ptr×Nd.Node))(x:Ptr×Nd.Node):Bool×List (Ptr×Nd.Node):=(true,s++[x])
theorem zMq: ∀(l a:List (Ptr×Nd.Node)),hH zGU l a=a++l
 | [],a=>by simp[hH]
 | x::l,a=>by
  show hH zGU l (a++[x])=_;rw[zMq l,zZ];rfl
structure IF (N0 A1 X6 M6:Nat)(b:Nat)(x:Bool×List (Ptr×Nd.Node))(H:AH)(W:Nat->Prop):Prop where
 ok:H.ok
 gA:H.h.get A1=some (.loop (lpF X6))
 bx:Box H X6 (.map M6)
 f:FM H M6 x.2
 w: ∀B,W B↔(B=A1\/B=X6\/B=M6)
 lo:N0<=A1/\N0<=X6/\N0<=M6
theorem zLw (m:Nat)(a:A.h.get v=some (.loop (lpF t)))(az:List AV):(dy (m+1)).yld v az A=zHl (dy m) m v (lpF t) az A:=by
 show YP (tabR (dy m) m) v az A=_;simp only[YP,a];rfl
def zAr {l:ALoop}(g:A.h.get v=some (.loop l)):NR A v:=fun _ _ _ _ h=>by rw[g]at h;cases h
def zQ2 {ks:List Nat}(g:A.h.get v=some (.map ks j)):NR A v:=fun _ _ _ _ h=>by rw[g]at h;cases h
theorem zIr (m:Nat)(hi:IF v t e M (g+1) (true,p) A h)(he:encN A h r N):
  ∃H' W',(dy (m+1)).yld t N A=some (.bool (zGU p r).1,H')/\IF v t e M g (zGU p r) H' W'/\Adw h A W' H':=by
 obtain⟨N0,z,M6,hf,O,a6⟩:=hi;obtain⟨w,rfl,S,_⟩:=he;obtain⟨X6,nd⟩:=r;simp only at hf S⊢;obtain⟨ks,vs,ps,rfl,w1,w2,w3⟩:=id S;rw[zLw m z];have lA:=N0.lt z;have lx:=M6.lt N0;obtain⟨b4,T,_⟩:=id hf;have lM:=N0.lt T;have nA:t≠e:=zOP z M6;have a0:t≠M:=fun A1=>by rw[<-A1,z]at T;cases T
 have a7:e≠M:=fun A1=>by obtain⟨_,gx⟩:=M6;rw[A1,T]at gx;cases gx
 obtain⟨H1,A8,b1,p1,g1,m1,n1⟩:=box N0 (.cells [.int .i64 (0:Nat), .int .i64 (0:Nat), .int .u64 (0:Nat)] 42 1 false);obtain⟨H2,e2,g2,s2,n2⟩:=jV p1.ok g1 (l':=jS X6) rfl rfl;have a8:stN 3 (.ptr A8 0) (.agg (jS X6)) H1=some (jQ,H2):=e2;obtain⟨H3,A9,b3,Y,g3,m3,n3⟩:=box s2.ok (.cells [.bool false, .nS, .nS, .nS] 119 1 false);obtain⟨o,e4,g4,C,n4⟩:=jV Y.ok g3 (l':=[.bool nd.leaf,ks,vs,ps]) rfl (by simp[jP,w1.isCell,w2.isCell,w3.isCell];rfl);have a9:stN 4 (.ptr A9 0) (.agg [.bool nd.leaf,ks,vs,ps]) H3=some (jQ,o):=e4;have N1:=p1.next;have N2:=s2.next;have N3:=Y.next;have N4:=C.next
 have q:Prs A o:=((p1.fresh s2 fun B f=>by omega).trans Y).fresh C fun B f=>by omega
 have J:=zRt q N0 z;have a1: ∀K:AH->Rs,uR t o K=K (o.put t (.loop { lpF e with state:= .busy})):=fun K=>by
  simp only[uR,J,lpF,kT]
 have j:Stp (fun B=>B=t) o (o.put t (.loop { lpF e with state:= .busy})):=(zRo C.ok).put (C.ok.lt J) _ (.inr rfl);have g5:(o.put t (.loop { lpF e with state:= .busy})).h.get t=some (.loop { lpF e with state:= .busy}):=by rw[zRk,if_pos rfl]
 generalize o.put t (.loop { lpF e with state:= .busy})=H5 at j g5 a1;have N5:=j.next
 have a2:Box H5 e (.map M):=(M6.mono N0 q fun x=>x).mono q.ok j (fun A1=>nA A1.symm);have f5:FM H5 M p:=(hf.prs N0 q).stp q.ok j (fun A1=>a0 A1.symm) fun B f=>by subst f;exact zAr J
 have b0:jZ H5 (.agg [.bool nd.leaf,ks,vs,ps]) nd:=(S.prs q).stp j fun B f A1=>by subst A1;exact(zAr J).node (S.prs q) f
 have q8:H5.h.get A8=some (.cells (jS X6) 42 1 false):=by rw[j.keep _ (by omega) (by omega),C.keep _ (by omega) (by omega),Y.keep _ (by omega) (fun x=>x)];exact g2
 have q9:H5.h.get A9=some (.cells [.bool nd.leaf,ks,vs,ps] 119 1 false):=by rw[j.keep _ (by omega) (by omega)];exact g4
 have r8:ldN 3 (.ptr A8 0) H5=some (kP X6):=by rw[jR q8];rfl
 have r9:ldN 4 (.ptr A9 0) H5=some (.agg [.bool nd.leaf,ks,vs,ps]):=gJ q9 rfl;obtain⟨y,e6,f6,u,n6⟩:=f5.up j.ok X6 b0;have g6:y.h.get t=some (.loop { lpF e with state:= .busy}):=by rw[u.keep _ (by omega) a0];exact g5
 have Z:Stp (fun B=>B=t) y (y.put t (.loop (lpF e))):=(zRo u.ok).put (u.ok.lt g6) _ (.inr rfl);have a3:KH t none y=some (.bool true,y.put t (.loop (lpF e))):=by simp only[KH,g6,kT,lpF]
 have hl:Y4 [6] (lpF e).live=true:=rfl;have a4:(lpF e).vals=[.ptr e 0]:=rfl;have b2:bxV 42 (.agg [.int .i64 (0:Nat), .int .i64 (0:Nat), .int .u64 (0:Nat)])=some (.cells [.int .i64 (0:Nat), .int .i64 (0:Nat), .int .u64 (0:Nat)] 42 1 false,fun b=> .ptr b 0):=rfl;have a5:bxV 119 (.agg [.bool false, .nS, .nS, .nS])=some (.cells [.bool false, .nS, .nS, .nS] 119 1 false,fun b=> .ptr b 0):=rfl;refine⟨y.put t (.loop (lpF e)),h, ?_,⟨Z.ok,by rw[zRk,if_pos rfl],(a2.mono j.ok u a7).mono u.ok Z (fun A1=>nA A1.symm),f6.stp u.ok Z (fun A1=>a0 A1.symm) (fun B f=>by subst f;exact zAr g6),O,a6⟩,⟨(((zRv q).trans (j.mono fun B _ f=>(O B).2 (.inl f))).trans (u.mono fun B _ f=>(O B).2 (.inr (.inr f)))).trans (Z.mono fun B _ f=>(O B).2 (.inl f)),fun B f=> .inl f⟩⟩;simp(maxSteps:=999999)(disch:=omega) only[zHl,eZ,hl,a4,zP,b2,b1,a8,a5,b3,a9,a1,a2.ld,r8,r9,e6];exact a3
def zIs (N0 A1 X6 M6:Nat):CnsX A1 0 N0 zGU (IF N0 A1 X6 M6) where
 ok:=fun h=>h.ok
 lt:=fun {b x H W} h B a=>by
  obtain⟨es,j,_⟩:=h.f;rcases(h.w B).1 a with e | e | e
  .subst e;exact⟨h.ok.lt h.gA,h.lo.1⟩
  .subst e;exact⟨h.bx.lt h.ok,h.lo.2.1⟩
  .subst e;exact⟨h.ok.lt j,h.lo.2.2⟩
 mono:=fun h hb=>⟨h.ok,h.gA,h.bx,h.f,h.w,h.lo⟩
 frame:=fun {b x H H' W S} h s o hR=>by
  have n: ∀ {B:Nat},(B=A1\/B=X6\/B=M6)-> ¬S B:=fun p q=>o _ q ((h.w _).2 p)
  exact⟨s.ok,by rw[s.keep _ (h.ok.lt h.gA) (n (.inl rfl))];exact h.gA,h.bx.mono h.ok s (n (.inr (.inl rfl))),h.f.stp h.ok s (n (.inr (.inr rfl))) hR,h.w,h.lo⟩
 run:=fun m _ hi t=>zIr m hi t
section
variable {At N0 N1 k X6 X10 M6 M10:Nat}{root:Ptr}{Q:Ptr->Option Nd.Node}{G:AH->(Nat->Prop)->Prop}{L:List (Ptr×Nd.Node)}{F:List Ptr}
def zNS (r:Rdr At N0 k root Q G)(h: ∀ {H W},G H W-> ∀B,¬W B):Pss N0 (.func 106 [] []) .nM Q (fun _:Unit=>G) (fun s _=>(false,s)) where
 nr:=fun g B a=>(h g B a).elim
 pass:=fun {s H W} m n p g=>by
  obtain⟨H',e,f⟩:=zOW m n (r.ok g) p;exact⟨H',W,e,r.prs g f,⟨zRv f,fun B a=> .inl a⟩⟩
 known:=fun _ _=> .inr rfl
def zNR (r:Rdr At N0 k root Q G)(o:N0<=M10):Pss N1 (.func 113 [] [.ptr X6 0, .ptr X10 0]) .nM Q (fun s=>GX G (PD N1 X6 X10 M6 M10 L s) (fun B=>B=M10)) (pbA L) where
 nr:=fun⟨_,h2,h3⟩ B a=>by
  obtain⟨es,g,_⟩:=h2.b;rw[(h3 B).1 a];exact zQ2 g
 pass:=fun {s H W} m n p ⟨f,h2,h3⟩=>by
  obtain⟨H',e,j,h⟩:=zLi (dy m) m (r.ok f) h2 p;exact⟨H',W,e,⟨r.frame f h fun B a=>⟨by omega,fun x=>x⟩,j,h3⟩,⟨h.mono fun B _ a=>(h3 B).2 a,fun B a=> .inl a⟩⟩
 known:=fun _ _=> .inr rfl
def zNQ (r:Rdr At N0 k root Q G)(hL: ∀x∈L,Q x.1=some x.2):Pss N1 (.func 114 [] [.ptr X10 0]) (.map M6) Q (fun _:Unit=>GX G (PD N1 X6 X10 M6 M10 L F) (fun _=>False)) (pbB F) where
 nr:=fun⟨_,_,h3⟩ B a=>((h3 B).1 a).elim
 pass:=fun {s H W} m n p ⟨j,h2,h3⟩=>by
  obtain⟨H',e,q,o⟩:=zLh (dy m) m (r.ok j) h2 p;exact⟨H',W,e,⟨r.prs j o,q,h3⟩,⟨zRv o,fun B a=> .inl a⟩⟩
 known:=fun {s H W p nd} ⟨j,h2,h3⟩ hq=>by
  obtain⟨C,es,t,f⟩:=h2.f;have h:=zHZ t zNd p
  cases hl:fZ p L with
  | none=>rw[(f p).2 hl]at h;exact .inr h
  | some nd'=>
   obtain⟨v,u,y,z⟩:=(f p).1 nd' hl;have:=hL _ ((zBU p L).1 nd' hl);simp only at this;rw[hq]at this;obtain rfl:=qT this;rw[u]at h;exact .inl ⟨v,h,y,fun B a=>⟨z B a,fun w=>((h3 B).1 w).elim⟩⟩
def zMb (r:Rdr At N0 k root Q G)(j:N0<=N1)(m: ∀ {H W},G H W-> ∀B,¬W B)(o: ∀B,h B->B=M10):Rdr At N1 k root Q (GX G (PD N1 X6 X10 M6 M10 L F) h):=
 rdr_x r j m (fun a f B p=>by rw[o B p];exact f.lt a) fun a f s q=>f.stp a s q
end
def lpU (a:Nat):ALoop:=⟨.ready,none,112,0,[9],[.ptr a 0]⟩
structure IU (N0 A1 Bl:Nat)(b:Nat)(x:Bool×Kvs)(H:AH)(W:Nat->Prop):Prop where
 ok:H.ok
 gA:H.h.get A1=some (.loop (lpU Bl))
 bl: ∃v,Box H Bl v/\kZ 2 48 H v x.2.length (x.2.flatMap prV)/\ ¬Blk v A1/\ ¬Blk v Bl/\(∀B,Blk v B->N0<=B)/\ ∀B,W B↔((B=A1\/B=Bl)\/Blk v B)
 lo:N0<=A1/\N0<=Bl
 few:x.2.length+b<=900000000
theorem zJp (m:Nat)(f:A.h.get v=some (.loop (lpU t)))(az:List AV):(dy (m+1)).yld v az A=zBC (dy m) m v (lpU t) az A:=by
 show YP (tabR (dy m) m) v az A=_;simp only[YP,f];rfl
theorem zK4 {a:Str×Str}(m:Nat)(hi:IU v t e (M+1) (true,w) A h)(he:encP A h a N):
  ∃H' W',(dy (m+1)).yld t N A=some (.bool (K0 w a).1,H')/\IU v t e M (K0 w a) H' W'/\Adw h A W' H':=by
 obtain⟨z,b,⟨N0,bl,gv,O,v3,v5,u⟩,a8,hf⟩:=hi;obtain rfl:N=[.agg [S a.1,S a.2]]:=he;simp only at gv hf;rw[zJp m b];have lA:=z.lt b;have ll:=bl.lt z;have nA:t≠e:=zOP b bl;obtain⟨H1,a0,b1,p1,g1,m1,n1⟩:=box z (.cells [S [],S []] 48 1 false);obtain⟨o,e2,g2,T,n2⟩:=jV p1.ok g1 (l':=[S a.1,S a.2]) rfl rfl;have a9:stN 2 (.ptr a0 0) (.agg [S a.1,S a.2]) H1=some (jQ,o):=e2;have C:Prs A o:=p1.fresh T fun B f=>by omega
 have N1:=p1.next;have N2:=T.next
 have a2:=zRt C z b;have a1: ∀K:AH->Rs,uR t o K=K (o.put t (.loop { lpU e with state:= .busy})):=fun K=>by
  simp only[uR,a2,lpU,kT]
 have p:Stp (fun B=>B=t) o (o.put t (.loop { lpU e with state:= .busy})):=(zRo T.ok).put (T.ok.lt a2) _ (.inr rfl);have g3:(o.put t (.loop { lpU e with state:= .busy})).h.get t=some (.loop { lpU e with state:= .busy}):=by rw[zRk,if_pos rfl]
 generalize o.put t (.loop { lpU e with state:= .busy})=H3 at p g3 a1;have N3:=p.next
 have a3:Box H3 e N0:=(bl.mono z C fun x=>x).mono C.ok p (fun j=>nA j.symm);have b0:kZ 2 48 H3 N0 w.length (w.flatMap prV):=(gv.mono C (fun _ _ x=>x)).mono p fun B f j=>O (j▸f)
 have q3:H3.h.get a0=some (.cells [S a.1,S a.2] 48 1 false):=by rw[p.keep _ (by omega) (by omega)];exact g2
 have hl:Y4 [9] (lpU e).live=true:=rfl;have a5:(lpU e).vals=[.ptr e 0]:=rfl;have hS:(AV.str 0 0)=S []:=rfl;have b2:bxV 48 (.agg [S [],S []])=some (.cells [S [],S []] 48 1 false,fun s=> .ptr s 0):=rfl;obtain⟨H4,b3,b4,q,g4,m4,n4⟩:=box p.ok (.cells [S a.1,S a.2] 48 2 false);have a6:srcOf 2 (.slice b3 0 1 2) H4=some (1,[S a.1,S a.2]):=by simp only[srcOf,g4];rfl
 obtain⟨Y,H5,e5,a4,J,f5⟩:=(b0.mono q (fun _ _ x=>x)).app (bytes:=32) (m:=1) (new:=[S a.1,S a.2]) q.ok (by decide) a6 rfl rfl (by omega) (by decide);have N4:=q.next;have N5:=J.next
 have b5:Box H5 e N0:=(a3.mono p.ok q fun x=>x).mono q.ok J v3;obtain⟨y,e6,b6,A1⟩:=b5.st J.ok (x:=Y) a4.isCell;have N6:=A1.next
 have g6:y.h.get t=some (.loop { lpU e with state:= .busy}):=by rw[A1.keep _ (by omega) nA,J.keep _ (by omega) O,q.keep _ (by omega) (fun x=>x)];exact g3
 have Z:Stp (fun B=>B=t) y (y.put t (.loop (lpU e))):=(zRo A1.ok).put (A1.ok.lt g6) _ (.inr rfl);have a7:KH t none y=some (.bool true,y.put t (.loop (lpU e))):=by simp only[KH,g6,kT,lpU]
 have nb: ∀ {B:Nat},¬Blk N0 B->B<A.next-> ¬Blk Y B:=fun h1 h2 f=>by
  rcases f5 _ f with j | j
  .exact h1 j
  .omega
 have fl:(w++[a]).flatMap prV=w.flatMap prV++[S a.1,S a.2]:=by simp[yV,prV]
 refine⟨y.put t (.loop (lpU e)),fun B=>(B=t\/B=e)\/Blk Y B, ?_,⟨Z.ok,by rw[zRk,if_pos rfl],⟨Y,b6.mono A1.ok Z (fun j=>nA j.symm), ?_,nb O lA,nb v3 ll,fun B f=> ?_,fun B=>Iff.rfl⟩,a8,by simp only[K0,zV,yR];omega⟩,⟨?_,fun B f=> ?_⟩⟩
 .have b7:ldN 2 (.ptr a0 0) H3=some (.agg [S a.1,S a.2]):=by rw[jR q3];rfl
  have b8:dW 48 2 1 [S [],S []] [(0, .agg [S a.1,S a.2])]=some (.cells [S a.1,S a.2] 48 2 false,fun s=> .slice s 0 1 2):=rfl;simp(maxSteps:=999999)(disch:=omega) only[zBC,eZ,hl,a5,zP,hS,b2,b1,a9,a1,a3.ld,b7,b8,b4,e5,e6];exact a7
 .simp only[K0,fl,zV,yR];exact(a4.mono A1 fun B f j=>nb v3 ll (j▸f)).mono Z fun B f j=>nb O lA (j▸f)
 .rcases f5 B f with j | j
  .exact v5 B j
  .omega
 .exact(((((zRv C).trans (p.mono fun B _ f=>(u B).2 (.inl (.inl f)))).trans q.stp).trans (J.mono fun B _ f=>(u B).2 (.inr f))).trans (A1.mono fun B _ f=>(u B).2 (.inl (.inr f)))).trans (Z.mono fun B _ f=>(u B).2 (.inl (.inl f)))
 .rcases f with j | j
  .exact .inl ((u B).2 (.inl j))
  .rcases f5 B j with j | j
   .exact .inl ((u B).2 (.inr j))
   .exact .inr (by omega)
def zK5 (N0 A1 t:Nat):Cns A1 0 N0 encP K0 (IU N0 A1 t) where
 ok:=fun h=>h.ok
 lt:=fun {b x H W} h B f=>by
  obtain⟨v,j,o,u,y,p,a⟩:=h.bl;rcases(a B).1 f with(e | e) | e
  .subst e;exact⟨h.ok.lt h.gA,h.lo.1⟩
  .subst e;exact⟨j.lt h.ok,h.lo.2⟩
  .exact⟨o.lt e,p B e⟩
 mono:=fun h hb=>⟨h.ok,h.gA,h.bl,h.lo,by have:=h.few;omega⟩
 frame:=fun {b x H H' W S} h s z=>by
  obtain⟨v,j,o,u,y,p,a⟩:=h.bl;have n: ∀ {B:Nat},(B=A1\/B=t)-> ¬S B:=fun C q=>z _ q ((a _).2 (.inl C))
  exact⟨s.ok,by rw[s.keep _ (h.ok.lt h.gA) (n (.inl rfl))];exact h.gA,⟨v,j.mono h.ok s (n (.inr rfl)),o.mono s fun B f q=>z B q ((a B).2 (.inr f)),u,y,p,a⟩,h.lo,h.few⟩
 run:=fun m _ hi J=>zK4 m hi J
section
variable {π:Type}{At N0 k:Nat}{pv kv:AV}{root:Ptr}{Q:Ptr->Option Nd.Node}{GG:π->AH->(Nat->Prop)->Prop}{pb:π->Ptr->Bool×π}
variable (rr: ∀s,Rdr At N0 k root Q (GG s))(ps:Pss N0 pv kv Q GG pb)
include rr ps
set_option maxRecDepth 100000 in
theorem WB (m:Nat)(hm:700000000<=m){s s':π}{H:AH}{Wg:Nat->Prop}(a6:jU pv=[pv])(b8:Eng.isCell kv=true)(Z:GG s H Wg)(d6:N0<=H.next)(hL:zR8 Q pb root s p s')(hl:p.length<=8192+k)(d7:k<=1000000):
  ∃H' J v,f112 (dy (m+1)) (m+1) [.ptr At 0,kv,pv] H=some (.tuple [v, .int .i64 (0:Nat)],H')/\GG s' H' J/\Stp Wg H H'/\(∀B,J B->Wg B\/H.next<=B)/\
   kZ 2 48 H' v (p.flatMap (gK [])).length ((p.flatMap (gK [])).flatMap prV)/\ ∀B,Blk v B->H.next<=B:=by
 have r:=rr s;have r':=rr s';have hk:=r.ok Z;obtain⟨left,d5⟩: ∃left,left=8192+k:=⟨_,rfl⟩;have ed:=r.dirty (dy (m+1)) (m+1) Z;obtain⟨H2,Aw,b2,p2,g2,m2,n2⟩:=box hk (.cells [.ptr At 0, .nM, .int .i64 ((left:Nat):Int), .int .i64 (0:Nat)] 215 1 false);obtain⟨H3,e3,g3,s3⟩:=zPN p2.ok g2 (o:=1) (x:=kv) b8 (by simp);have b9:H3.h.get Aw=some (.cells [.ptr At 0,kv, .int .i64 ((left:Nat):Int), .int .i64 (0:Nat)] 215 1 false):=g3;obtain⟨H5,j,b4,O,g4,m4,n4⟩:=box s3.ok (.cells [.nS] 37 1 false);obtain⟨H6,X4,c4,p6,g6,m6,n6⟩:=box O.ok (.cells [.ptr Aw 0] 207 1 false);obtain⟨H7,X5,c5,T,g7,m7,n7⟩:=box p6.ok (.cells [S []] 9 1 false);obtain⟨H8,X6,c6,C,g8,m8,n8⟩:=box T.ok (.cells [S []] 9 1 false);obtain⟨L,X7,c7,t,g9,m9,n9⟩:=box C.ok (.cells [pv] 212 1 false);have N2:=p2.next;have N3:=s3.next;have N4:=O.next;have N6:=p6.next;have N7:=T.next;have N8:=C.next;have N9:=t.next
 have q:Prs L (L.push (.loop (lpU j))):=(zRo t.ok).push _;have a3:(L.push (.loop (lpU j))).h.get L.next=some (.loop (lpU j)):=zRg _ _
 have a0: ∀K:Nat->AH->Rs,VN L (.loop ⟨.ready,none,112,0,[9],[.ptr j 0]⟩) K=K L.next (L.push (.loop (lpU j))):=fun K=>X1 t.ok _ K
 have c0:(L.push (.loop (lpU j))).next=L.next+1:=rfl
 generalize L.push (.loop (lpU j))=H10 at q a3 a0 c0;obtain⟨A1,c1⟩: ∃A1,A1=L.next:=⟨_,rfl⟩
 rw[<-c1]at a3 a0;have d8:=q.next
 have a1:Prs H5 H10:=(((p6.trans T).trans C).trans t).trans q;have P3:Prs H H3:=p2.fresh s3 fun B f=>by omega
 have a7:Prs H H10:=(P3.trans O).trans a1;have b0:=zRt (O.trans a1) s3.ok b9;have b1:Box H10 j .nS:=⟨_,zRt a1 O.ok g4⟩;have N: ∀B,Wg B->B<H.next:=fun B f=>r.lt Z B f
 have Y: ∀B,¬Blk .nS B:=fun B f=>zRu.1 f
 have c2:IU N0 A1 j (500*left) (true,[]) H10 (fun B=>B=A1\/B=j):=⟨q.ok,a3,⟨.nS,b1, .inl (zRw ..),Y _,Y _,fun B f=>(Y B f).elim,fun B=>⟨fun h=> .inl h,fun h=>h.elim id fun h=>(Y B h).elim⟩⟩,by omega,by simp;omega⟩;obtain⟨u,J,d9,bo,left',c3,c8,c9,y,a4,a8,a9,d0⟩:=zFK rr ps (zK5 N0 A1 j) m (by omega) (Xw:=X4) (Xf:=X5) (Xt:=X6) (Xp:=X7) (fun _ _=>rfl) a6 (r.prs Z a7) c2 b0 (by omega) (fun w=>by have:=N _ w;omega) (fun w=>by rcases w with w | w<;>omega) (fun B f w=>by have:=N _ w;rcases f with w | w<;>omega) hL (by omega) (by omega)
  ⟨_,zRt (((T.trans C).trans t).trans q) p6.ok g6⟩ ⟨_,zRt ((C.trans t).trans q) T.ok g7⟩ ⟨_,zRt (t.trans q) C.ok g8⟩ ⟨_,zRt q t.ok g9⟩ ⟨by omega,by omega,fun w=>by rcases w with w | w<;>omega,fun w=>by rcases w with w | w<;>omega,fun w=>by have:=N _ w;omega,fun w=>by have:=N _ w;omega⟩
 rw[UT,qX]at y;have e0:=a8.next
 have a2:=y.gA;obtain⟨v,a5,gv,v1,v3,v5,hW⟩:=y.bl;simp only at gv;have z:Stp (fun B=>B=A1) u (u.put A1 .dead):=(zRo y.ok).put (y.ok.lt a2) _ (.inr rfl);have b3: ∀K:Option Code->AH->Rs,fT A1 u K=K (lpU j).pending (u.put A1 .dead):=fun K=>by
  simp only[fT,a2,lpU,kT]
 have d1: ¬J A1:=fun w=>by
  rcases a9 _ w with w | w
  .have:=N _ w;omega
  .omega
 have b5:=a5.mono y.ok z (fun e=>zOP a2 a5 e.symm);have b6:(u.put A1 .dead).h.get Aw=some (.cells [.ptr At 0,kv, .int .i64 left', .int .i64 (0:Nat)] c3 1 false):=by rw[z.keep _ (y.ok.lt a4) (by omega)];exact a4
 refine⟨u.put A1 .dead,J,v, ?_,r'.frame c9 z (fun B f=>by subst f;exact⟨by omega,d1⟩), ?_,fun B f=>(a9 B f).imp id fun e=>by omega,gv.mono z fun B f e=>v1 (e▸f),fun B f=> ?_⟩
 .have d2:rfC [(104,f104 (dy (m+1)) (m+1)),(105,f105 (dy (m+1)) (m+1))] (dy (m+1)) (.func 164 [] [.ptr X4 0, .ptr X5 0, .ptr X6 0, .ptr X7 0]) A1 H10=some (.tuple [],u):=c8;have x1:jU (.ptr Aw 0)=[.ptr Aw 0]:=rfl;have x2: ∀a,jU (S a)=[S a]:=fun _=>rfl
  have x5:jU .nS=[.nS]:=rfl;have hS:(AV.str 0 0)=S []:=rfl;have hf:f105 (dy (m+1)) (m+1) [.ptr Aw 0,S [],S [],pv] H5=some (.func 164 [] [.ptr X4 0, .ptr X5 0, .ptr X6 0, .ptr X7 0],L):=by
   simp only[f105,eZ,x1,x2,a6,c4,c5,c6,c7]
  have b7:((8192:Nat):Int)+(k:Int)=((left:Nat):Int):=by omega
  have d3:vJ [(0,1),(1,1),(2,1),(3,1)] [.nP, .nM, .int .i64 (0:Nat), .int .i64 (0:Nat)] [(0, .ptr At 0),(2, .int .i64 ((left:Nat):Int))]=some (.agg [.ptr At 0, .nM, .int .i64 ((left:Nat):Int), .int .i64 (0:Nat)]):=rfl;have d4:f104 (dy (m+1)) (m+1) [.ptr At 0] H=some (.ptr Aw 0,H2):=by
   simp(maxSteps:=999999)(disch:=omega) only[f104,eZ,ed,b7,d3,b2]
  simp(maxSteps:=999999)(disch:=omega) only[f112,eZ,cq,d4,e3,x5,b4,hS,hf,a0,d2,b3,lpU,zEE,jM b6,b5.ld]
 .refine⟨z.ok,by have:=z.next;omega,fun B f hS=> ?_⟩
  rw[z.keep B (by omega) (by omega),a8.keep B (by omega) (fun w=> ?_),a7.keep B f fun x=>x];rcases w with w | (w | w) | w | w | w
  .exact hS w
  all_goals omega
 .rcases d0 B ((hW B).2 (.inr f))with(e | e) | e<;>omega
end
theorem Tl.grow {v:AV}(h:kZ 2 t A v w.length (w.flatMap prV))(f:A.ok):Tl A v w:=by
 have hr:=kZ.row h;rcases h with h | ⟨_,_,_,_,_,_,_,j⟩
 .exact Tl.own h rfl f
 .have:w=[]:=zW j;subst this;exact .inl ⟨rfl,hr⟩
theorem zEo (L:List (Ptr×Nd.Node)): ∀(l s:List Ptr),(∀p∈l,((fZ p L).isSome&&decide (p.at_≠1))=true)->l.foldl (fun s p=>(pbA L s p).2) s=s++l
 | [],s,_=>by simp
 | p::l,s,h=>by
  have a:(pbA L s p).2=s++[p]:=by simp only[pbA,h p (zJ ..),zP]
  rw[List.foldl_cons,a,zEo L l _ fun q f=>h q (zC _ f),zZ];rfl
section
variable {At0 At1 Nt:Nat}{root0 root1:Ptr}{E:Ev}{q0 q1:PN}{kv0 kv1:Kvs}{T0 T1:List Ptr}{G0 G1:AH->(Nat->Prop)->Prop}
set_option maxRecDepth 100000 in
theorem zLf (r0:Rdr At0 Nt q0.length root0 (Qf E q0 []) G0)(r1:Rdr At1 Nt q1.length root1 (Qf E q1 []) G1)(e0: ∀ {H W},G0 H W-> ∀B,¬W B)(e1: ∀ {H W},G1 H W-> ∀B,¬W B)
  (R0:vD E q0 root0 kv0 T0) (R1:vD E q1 root1 kv1 T1) (k0:kv0.length<=400000) (k1:kv1.length<=400000) (s0:Srt kv0) (s1:Srt kv1) (nd:T1.Nodup) (l0:q0.length<=1000000) (l1:q1.length<=1000000)
  (hs: ∀q:Ptr,q.at_≠1-> ∀k T k' T',zLW (Qf E q0 []) q k T->zLW (Qf E q1 []) q k' T'->k=k'/\T=T')
  (m:Nat) (hm:700000000<=m) {H:AH} (a0:G0 H (fun _=>False)) (e4:G1 H (fun _=>False)) (i4:Nt<=H.next):
  ∃H' v,f65 (dy (m+1)) (m+1) [.ptr At0 0, .ptr At1 0] H=some (.tuple [v, .int .i64 (0:Nat)],H')/\Cacc H H' v (Bt.chg kv0 kv1):=by
 have hk:=r0.ok a0;obtain⟨j,e5,i5,e6,e7⟩:=zN9 R0 (by omega);obtain⟨left,i2⟩: ∃left,left=8192+q0.length:=⟨_,rfl⟩;obtain⟨H1,M6,b1,p1,g1,m1,n1⟩:=box hk (.map (1::[6,6,10]) []);obtain⟨H2,X6,b2,p2,g2,m2,n2⟩:=box p1.ok (.cells [.nM] 213 1 false);obtain⟨H3,e3,b3,s3⟩:=(show Box H2 X6 .nM from⟨_,g2⟩).st p2.ok (x:= .map M6) rfl;have P3:Prs H1 H3:=p2.fresh s3 fun B o=>by omega
 have Q3:=p1.trans P3;have ed:=r0.dirty (dy (m+1)) (m+1) (r0.prs a0 Q3);obtain⟨H4,Aw,b4,p4,g4,m4,n4⟩:=box s3.ok (.cells [.ptr At0 0, .nM, .int .i64 ((left:Nat):Int), .int .i64 (0:Nat)] 215 1 false);obtain⟨H6,X4,c4,p6,g6,m6,n6⟩:=box p4.ok (.cells [.ptr Aw 0] 207 1 false);obtain⟨H7,X5,c5,p7,g7,m7,n7⟩:=box p6.ok (.cells [S []] 9 1 false);obtain⟨H8,Xt,c6,Y,g8,m8,n8⟩:=box p7.ok (.cells [S []] 9 1 false);obtain⟨u,X7,c7,J,g9,m9,n9⟩:=box Y.ok (.cells [.func 106 [] []] 212 1 false);have N1:=p1.next;have N2:=p2.next;have N3:=s3.next;have N4:=p4.next;have N6:=p6.next;have N7:=p7.next;have N8:=Y.next;have N9:=J.next
 have z:Prs u (u.push (.loop (lpF X6))):=(zRo J.ok).push _;have a8:(u.push (.loop (lpF X6))).h.get u.next=some (.loop (lpF X6)):=zRg _ _
 have a4: ∀K:Nat->AH->Rs,VN u (.loop ⟨.ready,none,65,0,[6],[.ptr X6 0]⟩) K=K u.next (u.push (.loop (lpF X6))):=fun K=>X1 J.ok _ K
 have e8:(u.push (.loop (lpF X6))).next=u.next+1:=rfl
 generalize u.push (.loop (lpF X6))=H10 at z a8 a4 e8;obtain⟨A1,e9⟩: ∃A1,A1=u.next:=⟨_,rfl⟩
 rw[<-e9]at a8 a4;have i6:=z.next
 have a5:Prs H3 H10:=((((p4.trans p6).trans p7).trans Y).trans J).trans z;have d1:Prs H H10:=Q3.trans a5;have d6:H10.h.get M6=some (.map (1::[6,6,10]) []):=zRt (P3.trans a5) p1.ok g1;have f1:IF Nt A1 X6 M6 left (true,[]) H10 (fun B=>B=A1\/B=X6\/B=M6):=⟨z.ok,a8,b3.mono s3.ok a5 fun x=>x,FM.new d6,fun B=>Iff.rfl,by omega,by omega,by omega⟩;have wk:Wp Nt At0 Aw .nM G0 (IF Nt A1 X6 M6) H10 (fun _=>False) (fun B=>B=A1\/B=X6\/B=M6) left left (true,[]):=⟨r0.prs a0 d1,f1,⟨_,zRt ((((p6.trans p7).trans Y).trans J).trans z) p4.ok g4⟩,by omega,fun w=>w,fun w=>by rcases w with w | w | w<;>omega,fun B _ w=>w,fun B w=>w.elim⟩;obtain⟨t,i7,i8,left',f2,c0,d2⟩:=UO (fun _=>r0) (zNS r0 e0) (zIs Nt A1 X6 M6) m (by omega) (fun _ _=>rfl) wk e5 (by omega) (by omega) (Xw:=X4) (Xt:=Xt) (Xf:=X5) (Xp:=X7)
  ⟨_,zRt (((p7.trans Y).trans J).trans z) p6.ok g6⟩ ⟨_,zRt (J.trans z) Y.ok g8⟩ ⟨_,zRt ((Y.trans J).trans z) p7.ok g7⟩ ⟨_,zRt z J.ok g9⟩
 have N:=c0.i;obtain⟨ek,c1⟩:=c0.w;have i9:=d2.s.next
 have a6:=N.gA;have y:Stp (fun B=>B=A1) t (t.put A1 .dead):=(zRo N.ok).put (N.ok.lt a6) _ (.inr rfl);have c2: ∀K:Option Code->AH->Rs,fT A1 t K=K (lpF X6).pending (t.put A1 .dead):=fun K=>by
  simp only[fT,a6,lpF,kT]
 have c3:(t.put A1 .dead).h.get Aw=some (.cells [.ptr At0 0, .nM, .int .i64 left', .int .i64 (0:Nat)] ek 1 false):=by rw[y.keep _ (N.ok.lt c1) (by omega)];exact c1
 have c8:Box (t.put A1 .dead) X6 (.map M6):=N.bx.mono N.ok y (by omega);have d3:FM (t.put A1 .dead) M6 j:=by
  have:=N.f.stp N.ok y (by omega) fun B o=>by subst o;exact zAr a6
  rw[zMq,qX]at this;exact this
 have a9:Prs H (t.put A1 .dead):=by
  refine⟨y.ok,by have:=y.next;omega,fun B o _=> ?_⟩
  rw[y.keep B (by omega) (by omega),d2.s.keep B (by omega) (fun w=> ?_),d1.keep B o fun x=>x];rcases w with w | (w | w | w) | w
  .exact w
  all_goals omega
 have d7:X6< (t.put A1 .dead).next/\M6< (t.put A1 .dead).next:=by have:=y.next;omega
 have f3:=a9.next
 generalize t.put A1 .dead=H12 at y c2 c3 c8 d3 a9 d7 f3;obtain⟨f4,M10,f5,a1,f6,j0,j1⟩:=box y.ok (.map (1::[6,6,10]) []);obtain⟨f7,X10,f8,b0,f9,j2,j3⟩:=box a1.ok (.cells [.nM] 223 1 false);obtain⟨C,g0,g3,b5⟩:=(show Box f7 X10 .nM from⟨_,f9⟩).st b0.ok (x:= .map M10) rfl;have d4:Prs f4 C:=b0.fresh b5 fun B o=>by omega
 have b7:Prs H12 C:=a1.trans d4;have j4:=a1.next;have j5:=b0.next;have j6:=b5.next
 have d8:=b5.ok;have pd:PD C.next X6 X10 M6 M10 j [] C:=⟨by omega,by omega,by omega,by omega,c8.mono y.ok b7 fun x=>x,g3,(d3.prs y.ok b7).b d8 (zM _),BM.new (zRt d4 a1.ok f6)⟩
 have PH:=a9.trans b7;have g5:=zM3 R1 (by omega) (pb:=pbA j) (d:=fun p=>(fZ p j).isSome&&decide (p.at_≠1)) (fun s p=>by
  simp only[pbA]
  cases(fZ p j).isSome&&decide (p.at_≠1)<;>rfl) (fun s p h=>by simp only[pbA,h,qH]) ([]:List Ptr)
 obtain⟨LB,O,v1,v2,v3,v4,v5,v6⟩:=g5;have hF:(xN O).foldl (fun s p=>(pbA j s p).2) []=xN O:=by
  rw[zEo j _ _ fun p hp=> ?_,qX];obtain⟨x,hx,h0,rfl⟩:=YX.1 hp;exact(v3.pass x hx h0).1
 rw[hF]at v1;obtain⟨b8,j7,vB,h2,h3,a2,j8,gB,fB⟩:=WB (π:=List Ptr) (pv:= .func 113 [] [.ptr X6 0, .ptr X10 0]) (kv:= .nM) (GG:=fun s=>GX G1 (PD C.next X6 X10 M6 M10 j s) (fun B=>B=M10)) (pb:=pbA j)
  (fun s=>zMb (N1:=C.next) (X6:=X6) (X10:=X10) (M6:=M6) (M10:=M10) (L:=j) (F:=s) r1 (by omega) e1 (fun B o=>o)) (zNR r1 (by omega)) m (by omega) (s:=[]) (H:=C) (Wg:=fun B=>B=M10) rfl rfl ⟨r1.prs e4 PH,pd,fun B=>Iff.rfl⟩ (zM _) v1 (by omega) (by omega)
 obtain⟨_,c9,_⟩:=h3;have i3:=a2.ok;have j9:=a2.next
 have d9:G0 b8 (fun _=>False):=r0.frame (r0.prs a0 PH) a2 fun B o=>⟨by omega,fun x=>x⟩
 obtain⟨LA,PA,u1,u2,u3,u4,u5,u6⟩:=zM3 R0 (by omega) (pb:=pbB (xN O)) (d:=fun p=>decide (p∈xN O)) (fun _ _=>rfl) (fun _ _ _=>rfl) ();obtain⟨b9,k2,vA,h4,k3,a3,k4,gA,fA⟩:=WB (π:=Unit) (pv:= .func 114 [] [.ptr X10 0]) (kv:= .map M6) (GG:=fun _=>GX G0 (PD C.next X6 X10 M6 M10 j (xN O)) (fun _=>False)) (pb:=pbB (xN O))
  (fun _=>zMb (N1:=C.next) (X6:=X6) (X10:=X10) (M6:=M6) (M10:=M10) (L:=j) (F:=xN O) r0 (by omega) e0 (fun B o=>o.elim)) (zNQ r0 e7) m (by omega) (s:=()) (H:=b8) (Wg:=fun _=>False) rfl rfl ⟨d9,c9,fun B=>Iff.rfl⟩ (by omega) u1 (by omega) (by omega)
 have a7:=a3.ok;have k5:=a3.next
 have h5:Prs b8 b9:=a3;have tB:Tl b9 vB (LB.flatMap (gK [])):=Tl.grow (gB.mono h5 fun _ _ x=>x) a7;have tA:Tl b9 vA (LA.flatMap (gK [])):=Tl.grow gA a7;have d0: ∀ {P:List Pc},(vL P).length<=(Q0 P).length:=fun {P} =>by
  induction P with
  | nil=>exact zM _
  | cons x P ih=>
   have x1:vL (x::P)=(bif x.told then x.kv else[])++vL P:=rfl;have x2:Q0 (x::P)=x.kv++Q0 P:=rfl;rw[x1,x2,zV,zV]
   cases x.told
   .simp only[qH,yG];omega
   .simp only[zP];omega
 have lB:=d0 (P:=O);have lA:=d0 (P:=PA);rw[v6,v4]at lB;rw[u6,u4]at lA;obtain⟨d5,v,h6,Z⟩:=zGw (dy (m+1)) (m+1) a7 tA tB (by omega) (by omega);have h7:Bt.chg (LA.flatMap (gK [])) (LB.flatMap (gK []))=Bt.chg kv0 kv1:=by
  have:=zKF (disk:=fun q=>decide (q.at_≠1)) u3 v3 (by rw[u4];exact s0) (by rw[v4];exact s1) (by rw[v5];exact nd) (fun q=>by simp) (fun q=>by
   rw[u5,<-e6];have h1:=(zBU q j).2
   cases hl:fZ q j with
   | none=>simp[h1.1 hl]
   | some nd=>
    have:q∈j.map Prod.fst:=by
     refine Classical.byContradiction fun h=> ?_
     rw[h1.2 h]at hl;cases hl
    simp[this]) (fun q hq=>hs q (by simpa using hq))
  rw[u4,v4,u6,v6]at this;exact this
 rw[h7]at Z;have PE:Prs H d5:=by
  refine⟨Z.prs.ok,by have:=Z.prs.next;have:=PH.next;omega,fun B o _=> ?_⟩
  have:=PH.next
  rw[Z.prs.keep B (by omega) fun x=>x,a3.keep B (by omega) fun x=>x,a2.keep B (by omega) (by omega),PH.keep B o fun x=>x]
 refine⟨d5,v, ?_,⟨PE,Z.g,fun B o=>by have:=Z.f B o;have:=PH.next;omega⟩⟩
 have h8:rfC [(104,f104 (dy (m+1)) (m+1)),(107,f107 (dy (m+1)) (m+1)),(112,f112 (dy (m+1)) (m+1)),(115,f115 (dy (m+1)) (m+1))] (dy (m+1)) (.func 165 [] [.ptr X4 0, .ptr Xt 0, .ptr X5 0, .ptr X7 0]) A1 H10=some (.tuple [],t):=f2;have x1:jU (.ptr Aw 0)=[.ptr Aw 0]:=rfl;have x2: ∀a,jU (S a)=[S a]:=fun _=>rfl
 have x3:jU (.func 106 [] [])=[.func 106 [] []]:=rfl;have x5:jU .nM=[.nM]:=rfl;have hS:(AV.str 0 0)=S []:=rfl;have hf:f107 (dy (m+1)) (m+1) [.ptr Aw 0,S [],S [], .func 106 [] []] H4=some (.func 165 [] [.ptr X4 0, .ptr Xt 0, .ptr X5 0, .ptr X7 0],u):=by
  simp only[f107,eZ,x1,x2,x3,c4,c5,c6,c7]
 have e2:((8192:Nat):Int)+(q0.length:Int)=((left:Nat):Int):=by omega
 have h9:vJ [(0,1),(1,1),(2,1),(3,1)] [.nP, .nM, .int .i64 (0:Nat), .int .i64 (0:Nat)] [(0, .ptr At0 0),(2, .int .i64 ((left:Nat):Int))]=some (.agg [.ptr At0 0, .nM, .int .i64 ((left:Nat):Int), .int .i64 (0:Nat)]):=rfl;have i0:f104 (dy (m+1)) (m+1) [.ptr At0 0] H3=some (.ptr Aw 0,H4):=by
  simp(maxSteps:=999999)(disch:=omega) only[f104,eZ,ed,e2,h9,b4]
 have mk:mkM (1::[6,6,10])=some (.map (1::[6,6,10]) [],fun A=> .map A):=rfl;have i1: ¬(((0:Nat):Int)≠((0:Nat):Int)):=by omega
 simp(maxSteps:=999999)(disch:=omega) only[f65,eZ,cq,mk,b1,x5,b2,e3,i0,hS,hf,a4,h8,c2,lpF,zEE,jM c3,i1,f5,f8,g0,h2,jN,nth,c9.b6.ld,h4,h6]
end
open Go.Bk
theorem Qf_ev {a:Ev}(h:a.nb=P.nb)(j:a.ws=P.ws):Qf a=Qf P:=by
 have:a.K=P.K:=by
  funext p
  cases P;cases a
  simp only at h j;subst h;subst j;rfl
 funext q f p;simp only[Qf,this]
def zMW (h:C.at_≠1):Qf P Y [] C=P.K C:=JD fun s e=>h (by rw[e];simp[pp])
theorem zJV {nd:Nd.Node}(h:P.K C=some nd): ∀k∈nd.kids,k.at_≠1:=by
 obtain⟨a,birth,kind,body,_,_,_,⟨_,h⟩,_⟩:=zRn.1 h;exact h
theorem zMa {E:Ev}{q:PN}{h:Nat}(f: ∀ {nd:Nd.Node} {t:Bt.Tr h} {S:List Ptr},kU (Qf E q []) h nd t S->(∀k∈nd.kids,k.at_≠1)->kU E.K h nd t S):
  ∀ {ps:List Ptr} {ts:List (Bt.Tr h)} {S:List Ptr},xT (Qf E q []) (kU (Qf E q []) h) ps ts S->(∀p∈ps,p.at_≠1)->xT E.K (kU E.K h) ps ts S
 | [],[],_,e,_=>e
 | p::ps,t::ts,_,⟨nd,S1,S2,a,b,c,e⟩,hp=>by
  have m:=hp p (zJ ..);rw[zMW m]at a;exact⟨nd,S1,S2,a,f b (zJV a),zMa f c fun p j=>hp p (zC _ j),e⟩
 | [],_::_,_,h,_=>h.elim
 | _::_,[],_,h,_=>h.elim
theorem zHg {E:Ev}{q:PN} : ∀(h:Nat) {nd:Nd.Node} {t:Bt.Tr h} {S:List Ptr},kU (Qf E q []) h nd t S->(∀k∈nd.kids,k.at_≠1)->kU E.K h nd t S
 | 0,_,_,_,w,_=>w
 | h+1,_,_,_,w,hk=>⟨w.1,w.2.1,w.2.2.1,zMa (fun a b=>zHg h a b) w.2.2.2 hk⟩
theorem zEg {Q:Ptr->Option Nd.Node}{h f:Nat}(q: ∀ {nd:Nd.Node} {t:Bt.Tr h} {S:List Ptr} {o:Bt.Tr f} {j:List Ptr},kU Q h nd t S->kU Q f nd o j->con h t=con f o/\S=j):
  ∀ {ps:List Ptr} {ts:List (Bt.Tr h)} {S:List Ptr} {m:List (Bt.Tr f)} {j:List Ptr},xT Q (kU Q h) ps ts S->xT Q (kU Q f) ps m j->ts.flatMap (con h)=m.flatMap (con f)/\S=j
 | [],[],_,[],_,e,e'=>⟨rfl,e.trans e'.symm⟩
 | p::ps,t::ts,_,o::m,_,⟨nd,S1,S2,a,b,c,e⟩,⟨nd',S1',S2',a',b',c',e'⟩=>by
  rw[a]at a';obtain rfl:=qT a';obtain⟨u,x⟩:=q b b';obtain⟨y,z⟩:=zEg q c c';subst e;subst e';exact⟨by rw[qJ,qJ,u,y],by rw[x,z]⟩
 | [],_::_,_,_,_,h,_=>h.elim
 | _::_,[],_,_,_,h,_=>h.elim
 | [],[],_,_::_,_,_,h=>h.elim
 | _::_,_::_,_,[],_,_,h=>h.elim
theorem zEe {Q:Ptr->Option Nd.Node} : ∀(h f:Nat) {nd:Nd.Node} {t:Bt.Tr h} {S:List Ptr} {j:Bt.Tr f} {m:List Ptr},kU Q h nd t S->kU Q f nd j m->con h t=con f j/\S=m
 | 0,0,nd,t,_,j,_,⟨a,b⟩,⟨a',b'⟩=>by
  refine⟨?_,b.trans b'.symm⟩;have o:=XD pZ t;have p:=XD pZ j;rw[<-a]at o;rw[<-a',o]at p;exact p
 | 0,f+1,nd,_,_,_,_,⟨a,_⟩,⟨b,_⟩=>by rw[a]at b;simp[leafOf]at b
 | h+1,0,nd,_,_,_,_,⟨b,_⟩,⟨a,_⟩=>by rw[a]at b;simp[leafOf]at b
 | h+1,f+1,nd,_,_,_,_,⟨_,_,_,a⟩,⟨_,_,_,b⟩=>zEg (fun x y=>zEe h f x y) a b
theorem zKc {q1:PN}(hp:C.at_≠1){j:List Ptr}(o:zLW (Qf P Y []) C w J)(q:zLW (Qf P q1 []) C R j):w=R/\J=j:=by
 obtain⟨h,nd,t,S,a,b,rfl,rfl⟩:=o;obtain⟨m,y,z,E,f,b',rfl,rfl⟩:=q;rw[zMW hp]at a f;rw[a]at f;obtain rfl:=qT f;obtain⟨u,x⟩:=zEe h m (zHg h b (zJV a)) (zHg m b' (zJV a));exact⟨u,by rw[x]⟩
theorem vD.keepQ (h:vD P Y C w J)(hb: ∀r∈J,r.at_≠1->blkAt r.at_.toNat q=blkAt r.at_.toNat P.ws):vD { P with ws:=q} Y C w J:=by
 rcases h with⟨a,b,c⟩ | ⟨h,nd,t,S,j,m,o,u,x,rfl⟩
 .exact .inl ⟨a,b,c⟩
 .exact .inr ⟨h,nd,t,S,zDR j (hb C (zJ ..)),m.mono fun r hr nd y=>zDR y (hb r (zC _ hr)),o,u,x,rfl⟩
def Fz (Ad:Nat)(ws:Ws)(is:Nat->Nat)(i:Nat)(Bs W xx:Nat->Prop)(At:Nat)(kv:Kvs)(H:AH):Prop:= ∃f M root q T h es a L,TI ⟨1024,ws,f,xx⟩ H At M (.ptr Ad 0) .nP root es q a h/\(∀s nd,jX s q=some nd->s<=a)/\q.length<=a/\a<=L/\f.length<=L/\vD ⟨1024,ws,f,xx⟩ q root kv T/\L<=200*i/\(∀r∈dsk T++f,is r.at_.toNat≠0)/\(∀B,W B↔B=At\/B=M\/Blk h B)/\ ∀B,Bs B↔(B=At\/B=M\/Blk h B\/ ∃kv∈es,xS kv.2 B)
theorem zQs {E:Ev}(At:fG (.ptr g 0) .nP E A v t e h C Y w J)(a:E.nb=1024)(hL:e<=200*M)(j: ∀r∈dsk J++E.dl,l r.at_.toNat≠0): ∃Bs,Fz g E.ws l M Bs h E.x v w A:=by
 obtain⟨nb,ws,m,xx⟩:=E;simp only at a;subst a;obtain⟨o,es,f,_,p,H,u,y,z,L,i⟩:=At;exact⟨_,m,t,C,Y,J,o,es,f,e,p,H,u,y,z,L,hL,j,i,fun B=>Iff.rfl⟩
section
variable {Ad i At:Nat}{ws:Ws}{is:Nat->Nat}{Bs W xx:Nat->Prop}{kv:Kvs}{H:AH}
theorem Fz.ok (f:Fz Ad ws is i Bs W xx At kv H):H.ok:=by
 obtain⟨j,M,root,q,T,m,es,h,L,a,_⟩:=f;exact a.ok
theorem Fz.go (f:Fz Ad ws is i Bs W xx At kv H)(s:Stp h H A)(u: ∀B,Bs B-> ¬h B)(x:Dsk A Ad v 1024 q t l I)(hd: ∀a,is a≠0->l a≠0/\blkAt a q=blkAt a ws):Fz Ad q l i Bs W xx At kv A:=by
 obtain⟨y,M,root,U,T,z,es,p,L,C,J,K,N,O,S,hL,m,Y,o⟩:=f;obtain⟨On,Nw,wv,dm,Z,_⟩:=x;exact⟨y,M,root,U,T,z,es,p,L,C.wr s (fun B hb=>u B ((o B).2 hb)) Z,J,K,N,O,S.keepQ (fun r hr H'=>(hd _ (m r (qU _ (hJ.2 ⟨hr,H'⟩)))).2),hL,fun r hr=>(hd _ (m r hr)).1,Y,o⟩
theorem Fz.prs (f:Fz Ad ws is i Bs W xx At kv H){H':AH}(s:Prs H H'):Fz Ad ws is i Bs W xx At kv H':=by
 obtain⟨j,M,root,q,T,m,es,a,L,o,h⟩:=f;exact⟨j,M,root,q,T,m,es,a,L,o.prs s,h⟩
theorem Fz.dsk (f:Fz Ad ws is i Bs W xx At kv H)(m:Dsk H v t M q e l h): ∀B,Bs B-> ¬h B:=by
 obtain⟨u,As,root,la,T,x,es,a,L,o,y,z,C,J,K,hL,N,O,p⟩:=f;exact fun B hb=>zA7 o m B ((p B).1 hb)
theorem Fz.off (f:Fz Ad ws is i Bs W xx At kv H)(hb:Bs v)(h:xx v):W v:=by
 obtain⟨t,M,root,q,T,u,es,o,L,j,x,y,z,C,J,hL,K,a,m⟩:=f;rcases(m v).1 hb with e | e | e | ⟨p,hp,e⟩
 .exact(a v).2 (.inl e)
 .exact(a v).2 (.inr (.inl e))
 .exact(a v).2 (.inr (.inr e))
 .exact absurd (.inr h) (j.ds p hp v e)
def Fz.box (f:Fz Ad ws is i Bs W xx At kv H)(g:H.h.get v=some (.cells (B::N) 104 1 false))(o: ∀a b,B≠ .str a b): ¬Bs v:=fun hb=>by
 obtain⟨y,M,root,q,T,z,es,u,L,j,C,J,K,x,O,hL,S,Y,t⟩:=f;rcases(t v).1 hb with rfl | rfl | e | ⟨p,hp,e⟩
 .have:=j.gT;rw[g]at this;simp at this
 .have:=j.gM;rw[g]at this;cases this
 .exact zRs j.dg g (fun Z g=>by simp) e
 .obtain⟨nd,m⟩:=j.pq.node p hp;exact m.nblk g (.inl ⟨_,_,_,_,rfl,o⟩) e
theorem Fz.srt (f:Fz Ad ws is i Bs W xx At kv H):Srt kv:=by
 obtain⟨j,M,root,q,T,m,es,h,L,o,p,t,u,x,a,hL,y,z,C⟩:=f;exact a.srt.1
theorem Fz.gst (f:Fz Ad ws is i Bs W xx At kv H)(j:Dsk H Ad v 1024 ws t is h)(m:H.h.get e=some (.cells [.ptr At 0,B, .ptr Ad 0, .ptr v 0, .int .i64 M] 104 1 false))(gl:GrP H B kv): ∃E la L root q T,Gst E H e Ad v At la L M t is h W root q kv T/\E.nb=1024/\E.ws=ws/\E.x=xx/\L<=200*i:=by
 obtain⟨o,la,root,q,T,p,es,a,L,As,u,y,z,C,J,hL,K,N,O⟩:=f;exact⟨⟨1024,ws,o,xx⟩,la,L,root,q,T,⟨⟨p,es,a,rfl,As,u,y,z,C,J,N⟩,j,K,B,m,gl⟩,rfl,rfl,rfl,hL⟩
end
theorem zP5 (h:vD P Y C w J):J.Nodup:=by
 rcases h with⟨_,_,rfl⟩ | ⟨h,nd,t,S,f,j,m,a,o,rfl⟩
 .exact List.nodup_nil
 .exact a
theorem zLg (m:Nat)(hm:700000000<=m){a0:Nat->Nat}{W1 f p:Nat->Prop}(f0:Fz v q l t h c f M w A)(O:Fz v q a0 e I W1 p g R A)(h0:t<=1000)(h1:e<=1000)(k0:w.length<=1000)(k1:R.length<=1000):
  ∃H' Ad,f65 (dy (m+1)) (m+1) [.ptr M 0, .ptr g 0] A=some (.tuple [Ad, .int .i64 (0:Nat)],H')/\Cacc A H' Ad (Bt.chg w R):=by
 have s0:=f0.srt;have s1:=O.srt;obtain⟨o,M0,root0,q0,T0,b0,b1,a8,L0,a1,_,a3,a4,_,R0,aL,_⟩:=f0;obtain⟨u,S,root1,q1,T1,b2,b5,a9,L1,a2,_,b3,b4,_,y,bL,_⟩:=O;have Y:Qf ⟨1024,q,u,p⟩=Qf ⟨1024,q,o,f⟩:=Qf_ev rfl rfl;have Z: ∀ {At N K:Nat} {z:List Ptr} {xx:Nat->Prop} {root:Ptr} {es:List (AV×AV)} {At0:PN} {C:AV},TI ⟨1024,q,z,xx⟩ A At N (.ptr v 0) .nP root es At0 K C->GD0 A.next At N v ⟨1024,q,z,xx⟩ root At0 A (fun _=>False):=fun {At N K z xx root es At0 C} a=>by
  obtain⟨a5,On,Nw,wv,ds,a6,j⟩:=a.dk;obtain rfl:v=a5:=by simpa using a6
  exact⟨fun _ x=>x,a.ok.lt a.gT,a.ok.lt a.gM,es,K,C,On,Nw,wv,ds,a,a.hold,fun B J=>kZ.lt a.dg J,j,a.ok.lt j.gD,a.ok.lt j.gO,a.ok.lt j.gN,fun B J=>Own.lt j.ow J⟩
 have r1:Rdr g A.next q1.length root1 (Qf ⟨1024,q,o,f⟩ q1 []) (GD0 A.next g S v ⟨1024,q,u,p⟩ root1 q1):=by
  rw[<-Y];exact zEh A.next g S v ⟨1024,q,u,p⟩ root1 q1
 have a7:vD ⟨1024,q,o,f⟩ q1 root1 R T1:=by
  unfold vD at y⊢;rw[<-Y];exact y
 exact zLf (zEh A.next M M0 v ⟨1024,q,o,f⟩ root0 q0) r1 (fun At1=>At1.1) (fun At1=>At1.1) R0 a7 (by omega) (by omega) s0 s1 (zP5 y) (by omega) (by omega) (fun At0 hq k T k' T'=>zKc hq) m hm (Z a1) (Z a2) (zM _)
structure Gs (Ad As Gd i:Nat)(ws:Ws)(is:Nat->Nat)(la:Nat)(V W Bs xx:Nat->Prop)(At txg:Nat)(lv:AV)(kv:Kvs)(H:AH):Prop where
 f:Fz Ad ws is i Bs W xx At kv H
 ds:Dsk H Ad As 1024 ws la is V
 g:H.h.get Gd=some (.cells [.ptr At 0,lv, .ptr Ad 0, .ptr As 0, .int .i64 txg] 104 1 false)
 l:GrP H lv kv
 tx:txg<=i
 kl:kv.length<=i
theorem Fz.sub (f:Fz v q l t h I c e w A)(ws:I M):h M:=by
 obtain⟨o,is,root,At,T,p,es,m,L,Ad,u,x,y,z,C,hL,J,a,j⟩:=f;exact(j M).2 (by
  rcases(a M).1 ws with i | i | i
  .exact .inl i
  .exact .inr (.inl i)
  .exact .inr (.inr (.inl i)))
theorem Fz.lt {Ad i At:Nat}{ws:Ws}{is:Nat->Nat}{Bs W xx:Nat->Prop}{kv:Kvs}{H:AH}(f:Fz Ad ws is i Bs W xx At kv H){B:Nat}(h:W B):B<H.next:=by
 obtain⟨o,M,root,q,T,p,es,m,L,a,t,u,x,y,z,hL,C,j,J⟩:=f;rcases(j B).1 h with rfl | rfl | e
 .exact a.ok.lt a.gT
 .exact a.ok.lt a.gM
 .exact a.dg.lt e
section
variable {Ad As Gd i la At txg:Nat}{ws:Ws}{is:Nat->Nat}{V W Bs xx:Nat->Prop}{lv:AV}{kv:Kvs}{H:AH}
theorem Gs.ok (s:Gs Ad As Gd i ws is la V W Bs xx At txg lv kv H):H.ok:=s.f.ok
theorem Gs.prs (s:Gs Ad As Gd i ws is la V W Bs xx At txg lv kv H){H':AH}(p:Prs H H'):Gs Ad As Gd i ws is la V W Bs xx At txg lv kv H':=
 ⟨s.f.prs p,s.ds.prs s.ok p,zRt p s.ok s.g,s.l.prs p,s.tx,s.kl⟩
theorem Gs.off (s:Gs Ad As Gd i ws is la V W Bs xx At txg lv kv H){o:AObj}(a:H.h.get v=some o)(h:(∃l e g,o= .cells l e 2 g)\/ ∃l,o= .cells l 104 1 false): ¬W v/\ ¬V v:=by
 obtain⟨E,M,L,root,q,T,w,_⟩:=s.f.gst s.ds s.g s.l;exact JJ w.tx w.ds a h
def Gs.vw (s:Gs Ad As Gd i ws is la V W Bs xx At txg lv kv H)(a:V v): ¬W v:=fun h=>s.f.dsk s.ds v (s.f.sub h) a
theorem Gs.lt (s:Gs Ad As Gd i ws is la V W Bs xx At txg lv kv H){B:Nat}(h:W B\/V B\/B=Gd):B<H.next:=by
 rcases h with h | h | rfl
 .exact s.f.lt h
 .exact s.ds.lt s.ok B h
 .exact s.ok.lt s.g
def Gs.ld (s:Gs Ad As Gd i ws is la V W Bs xx At txg lv kv H):Eng.ld1 (.ptr Gd 0) H=some (.ptr At 0)/\Eng.ld1 (.ptr Gd 1) H=some lv/\Eng.ld1 (.ptr Gd 2) H=some (.ptr Ad 0)/\Eng.ld1 (.ptr Gd 3) H=some (.ptr As 0):=
 ⟨by rw[jM s.g];rfl,by rw[jM s.g];rfl,by rw[jM s.g];rfl,by rw[jM s.g];rfl⟩
theorem Gs.gu (s:Gs Ad As Gd i ws is la V W Bs xx At txg lv kv H):GU H (fun B=>W B\/V B\/B=Gd) ws is xx Ad As Gd i kv H:=by
 obtain⟨E,M,L,root,q,T,w,h,j,m,hL⟩:=s.f.gst s.ds s.g s.l;exact⟨E,At,M,L,txg,la,is,V,W,root,q,T,w,⟨hL,h,m⟩,s.tx,s.kl,zRo s.ok,fun B o=> .inr o,fun a p=>⟨p,by rw[j]⟩⟩
end
theorem GU.out {H:AH}(g:GU A h q l I v t e M w H):
  ∃ws is la V W Bs At txg lv,Gs v t e M ws is la V W Bs I At txg lv w H/\Stp h A H/\(∀B,(W B\/V B\/B=e)->A.next<=B\/h B)/\ ∀a,l a≠0->is a≠0/\blkAt a ws=blkAt a q:=by
 obtain⟨E,At,is0,L,txg,la,is,V,W,root,U,T,xx,⟨hL,H0,ws0⟩,o,p,st,m,hd⟩:=g;obtain⟨lv,u,gl⟩:=xx.gG;obtain⟨Bs,f⟩:=zQs xx.tx H0 hL xx.us;rw[ws0]at f;have j:=xx.ds;rw[H0]at j;exact⟨E.ws,is,la,V,W,Bs,At,txg,lv,⟨f,j,u,gl,o,p⟩,st,m,hd⟩
section
variable {Ad As Gd i la At txg:Nat}{ws:Ws}{is:Nat->Nat}{V W Bs xx:Nat->Prop}{lv:AV}{kv:Kvs}{H:AH}
theorem Gs.grow (s:Gs Ad As Gd i ws is la V W Bs xx At txg lv kv H)(m n:Nat)(hm:400000000<=m)(y:300000000<=n){v:AV}{l:List Sw}(z: ∀ {H'},Stp (fun B=>W B\/V B\/B=Gd) H H'->SwR H' v l)(hl:i+l.length<=200):
  ∃H' f h la' j o q t p u,f64 (dy (m+2)) n [.ptr Gd 0,v] H=some (.bool true,H')/\Gs Ad As Gd (i+l.length) f h la' j o q xx t p u (bJ kv l) H'/\Stp (fun B=>W B\/V B\/B=Gd) H H'/\(∀B,(o B\/j B\/B=Gd)->H.next<=B\/(W B\/V B\/B=Gd))/\ ∀a,is a≠0->h a≠0/\blkAt a f=blkAt a ws:=by
 obtain⟨H',e,g⟩:=zEH m n hm y z hl s.gu;obtain⟨f,h,la',j,o,q,t,p,u,s',st,x,hd⟩:=g.out;exact⟨H',f,h,la',j,o,q,t,p,u,e,s',st,x,hd⟩
theorem Gs.copy (s:Gs Ad As Gd i ws is la V W Bs xx At txg lv kv H)(D:Dyn)(n:Nat)(hi:i<=1000):
  ∃H' a m j,f28 D n [.ptr At 0] H=some (.ptr a 0,H')/\Prs H H'/\Fz Ad ws is i m j W a kv H'/\ ∀B,j B->H.next<=B:=by
 obtain⟨E,M,L,root,q,T,w,u,y,C,hL⟩:=s.f.gst s.ds s.g s.l;have t:E.dl.length<=1000000000:=by
  obtain⟨_,_,_,_,_,_,_,_,h,_⟩:=w.tx;omega
 obtain⟨H',a,J,j,e,p,z,f⟩:=zLn D n w.tx t;obtain⟨m,o⟩:=zQs (E:= { E with x:=W}) z u hL w.us;rw[show({ E with x:=W} :Ev).ws=ws from y]at o;exact⟨H',a,m,j,e,p,o,f⟩
def Fz.stay (f:Fz Ad ws is t h I W v w H)(s:Gs Ad As Gd i ws is la V W Bs xx At txg lv kv H)(x: ∀B,I B-> ¬W B)(st:Stp (fun B=>W B\/V B\/B=Gd) H A)(z:Dsk A Ad e 1024 q M l c)(hd: ∀a,is a≠0->l a≠0/\blkAt a q=blkAt a ws):Fz Ad q l t h I W v w A:=
 f.go st (fun B hb J=>by
  rcases J with o | o | rfl
  .exact x B (f.off hb o) o
  .exact f.dsk s.ds B hb o
  .exact f.box s.g (fun _ _ o=>by cases o) hb) z hd
def GrP.stay (gl:GrP H B w)(s:Gs Ad As Gd i ws is la V W Bs xx At txg lv kv H)(st:Stp (fun lo=>W lo\/V lo\/lo=Gd) H A):GrP A B w:=
 gl.mono st fun lo j h=>by
  obtain⟨l,e,g,a⟩:=kZ.get2 gl j;obtain⟨m,o⟩:=s.off a (.inl ⟨_,_,_,rfl⟩);rcases h with h | h | rfl
  .exact m h
  .exact o h
  .rw[s.g]at a;simp at a
end
theorem zHD (m n:Nat)(hm:400000000<=m)(f:300000000<=n)(j:A.ok){l:List Sw}(o:SwR A B l)(hl:l.length<=200):
  ∃H' Ad As Gd ws is la V W Bs At txg lv,f52 (dy (m+2)) n [B] A=some (.tuple [.ptr Gd 0, .bool true],H')/\Gs Ad As Gd l.length ws is la V W Bs (fun _=>False) At txg lv (bJ [] l) H'/\Prs A H'/\ ∀H,(W H\/V H\/H=Gd)->A.next<=H:=by
 obtain⟨H',Ad,As,Gd,e,g⟩:=zHC m n hm f j o hl;obtain⟨ws,is,la,V,W,Bs,At,txg,lv,s,st,a,_⟩:=g.out;exact⟨H',Ad,As,Gd,ws,is,la,V,W,Bs,At,txg,lv,e,s,st,fun H p=>(a H p).elim id fun h=>h.elim⟩
end Go.Eng.Sh
namespace Go.Bt
open Go.Nd (lookP putP delP QQ KA)
open Go.Eng (ltS kN wX kB xK uH)
theorem ZV: ∀(a b:Kvs),(chg a b).length<=a.length+b.length
 | [],[]=>by simp[chg]
 | (k,v)::a,[]=>by
  have:=ZV a [];rw[chg];simp only[zT]at this⊢;omega
 | [],(j,w)::b=>by
  have:=ZV [] b;rw[chg];simp only[zT]at this⊢;omega
 | (k,v)::a,(j,w)::b=>by
  have f:=ZV a ((j,w)::b);have h:=ZV ((k,v)::a) b;have m:=ZV a b;rw[chg];simp only[zT]at f h m⊢;split
  .simp only[zT];omega
  .split
   .simp only[zT];omega
   .split
    .omega
    .simp only[zT];omega
termination_by a b=>a.length+b.length
end Go.Bt
namespace Go.Eng.Sh
open Go.Nd (lookP putP delP QQ KA)
open Go.Bt
open Go.Bk
theorem zEM: ∀(l:List Cg) (i:Nat) (h:i<l.length),((l.flatMap cgV).drop (i*5)).take 5=cgV l[i]
 | p::l,0,_=>by rw[Nat.zero_mul,yL,qJ,jA (show(cgV p).length=5 from rfl)];rfl
 | p::l,i+1,h=>by
  rw[qJ,show(i+1)*5=5+i*5 by omega,<-List.drop_drop,yX (show(cgV p).length=5 from rfl)];exact zEM l i (by simpa using h)
def RwC (H:AH)(v:AV)(c:List Cg):Prop:=Rw 5 H v c.length (c.flatMap cgV)
theorem RwC.at {H:AH}{v:AV}{c:List Cg}(h:RwC H v c){i:Nat}(hi:i<c.length): ∃A o,(∀κ (z:Int),z=(i:Int)->dV 5 v (.int κ z)=some (.ptr A o))/\ldN 5 (.ptr A o) H=some (.agg (cgV c[i]))/\Eng.ld1 (.ptr A (o+0)) H=some (S c[i].k)/\Eng.ld1 (.ptr A (o+1)) H=some (S c[i].old)/\Eng.ld1 (.ptr A (o+2)) H=some (S c[i].new)/\Eng.ld1 (.ptr A (o+3)) H=some (.bool c[i].had)/\Eng.ld1 (.ptr A (o+4)) H=some (.bool c[i].has):=by
 obtain⟨A,o,c',e,sz,g,p,a,u,q,m⟩:=Rw.at h hi;rw[zEM c i hi]at m;have f: ∀j,j<5->c'[o+j]? =(cgV c[i])[j]? :=fun j t=>by
  have:=congrArg (fun x=>x[j]?) m;simp only[jF t,jG]at this;exact this
 exact⟨A,o,p,by rw[J0 a q,m],wY a (f 0 (by omega)),wY a (f 1 (by omega)),wY a (f 2 (by omega)),wY a (f 3 (by omega)),wY a (f 4 (by omega))⟩
end Go.Eng.Sh
namespace Go.Proofs.YtaaflpnhdkoaeaaGreat.steps14
open Go.ChangeShapes Go.WideShapes Go.ChangeAt Go.RowKit
theorem zFb: Tryz.prog.cellsOf 113=3:=by kernel_rfl
theorem zLu: Tryz.prog.cellsOf 5=1:=by kernel_rfl
theorem zFc: Tryz.prog.cellsOf 9=1:=by kernel_rfl
abbrev Raw:=Int×ByteArray×ByteArray
def zFx (s:Raw):List Value:=[.int .u8 s.1, .string s.2.1, .string s.2.2]
def zFV (s:Raw):Prop:=0<=s.1/\s.1<256
open Go.Eng.Sh (Sw swV SwR)
def zNn (s:Raw):Sw:=⟨s.1.toNat,s.2.1.data.toList,s.2.2.data.toList⟩
theorem zPJ (N:Nat){s:Raw}(h:zFV s):swV (zNn s)=(zFx s).map (Go.Eng.cellAV N):=by
 have a:((s.1.toNat:Nat):Int)=s.1:=Int.toNat_of_nonneg h.1;simp only[zFx,yJ,List.map_nil,Go.Eng.cellAV_string,swV,zNn,a];rfl
set_option maxRecDepth 100000 in
theorem zNr {enc:TypeId×Value->u}{cs:List Value}{x:DataW u×List MemPlace}(h:DataW.trod enc Tryz.prog m v (fun _=>true) z t 113 cs=some x): ∃s:Raw,cs=zFx s/\zFV s:=by
 obtain⟨xs,n,_,_,hl,o,f⟩:=DataW.trod_struct Tryz.underlying113 h;rw[zFb]at hl
 match cs,hl with
 | [c0,c1,c2],_=>
  match xs,o with
  | [y0,y1,y2],_=>
   have k0:DataW.trod enc Tryz.prog m v (fun _=>true) z n 5 [c0]=some y0:=by
    have this:DataW.trod enc Tryz.prog m v (fun _=>true) z n 5 (List.take (Tryz.prog.cellsOf 5) (List.drop 0 [c0,c1,c2]))=some y0:=f 0 _ rfl;rw[zLu]at this;exact this
   have k1:DataW.trod enc Tryz.prog m v (fun _=>true) z n 9 [c1]=some y1:=by
    have this:DataW.trod enc Tryz.prog m v (fun _=>true) z n 9 (List.take (Tryz.prog.cellsOf 9) (List.drop 1 [c0,c1,c2]))=some y1:=f 1 _ rfl;rw[zFc]at this;exact this
   have k2:DataW.trod enc Tryz.prog m v (fun _=>true) z n 9 [c2]=some y2:=by
    have this:DataW.trod enc Tryz.prog m v (fun _=>true) z n 9 (List.take (Tryz.prog.cellsOf 9) (List.drop 2 [c0,c1,c2]))=some y2:=f 2 _ rfl;rw[zFc]at this;exact this
   clear f h;obtain⟨p,q,_,j⟩:=DataW.trod_int Tryz.underlying5 k0;obtain⟨base,H,_⟩:=DataW.trod_string Tryz.underlying9 k1;obtain⟨y,w,_⟩:=DataW.trod_string Tryz.underlying9 k2;obtain rfl:=(List.cons.inj q).1;obtain rfl:=(List.cons.inj H).1;obtain rfl:=(List.cons.inj w).1;refine⟨(p,base,y),rfl, ?_⟩;simp only[Lit.wf,IntKind.min,IntKind.max,IntKind.signed,IntKind.bits,zE,zR]at j;simp only[zFV];simp at j;omega
instance:Inhabited Raw:=⟨(0, .empty, .empty)⟩
set_option maxRecDepth 100000 in
theorem steps_in {enc:TypeId×Value->u}{base:Value}{d:DataW u}{ps:List MemPlace}(p: ∃a len cap,base= .slice a len cap)(h:DataW.Trod enc Tryz.prog m v (fun _=>true) z 96 base d ps):
  ∃l:List Sw,SwR (Go.Eng.H0 m) (Go.Eng.argAV m.heap.size base) l/\ ∀s∈l,s.kd<256:=by
 obtain⟨o,H,x,rfl⟩:=p;obtain⟨y,q⟩:=h;obtain⟨l,t,j⟩:=Go.Eng.srows_arg (α:=Raw) (k:=3) (by decide) (vals:=zFx) (fun _=>rfl) (good:=zFV) Tryz.underlying96 zFb (fun h=>zNr h) q;refine⟨l.map zNn, ?_,fun s f=> ?_⟩
 .have e:(l.map zNn).flatMap swV=l.flatMap fun s=>(zFx s).map (Go.Eng.cellAV m.heap.size):=by
   have: ∀l:List Raw,(∀s∈l,zFV s)->(l.map zNn).flatMap swV=l.flatMap fun s=>(zFx s).map (Go.Eng.cellAV m.heap.size):=by
    intro l
    induction l with
    | nil=>intro _;rfl
    | cons s l ih=>
     intro w;rw[yJ,qJ,qJ,zPJ m.heap.size (w s (zJ ..)),ih fun s f=>w s (zC _ f)]
   exact this l j
  show Go.Eng.Rw 3 _ _ (l.map zNn).length _;rw[e,jE];exact t
 .obtain⟨r,hr,rfl⟩:=qZ.1 f;have:=j r hr;simp only[zNn];simp only[zFV]at this;omega
end Go.Proofs.YtaaflpnhdkoaeaaGreat.steps14
namespace Go.Eng.Sh
open Go.Bt
structure Racc (H0 H:AH)(v:AV)(acc:List Cg):Prop where
 prs:Prs H0 H
 g:kZ 5 230 H v acc.length (acc.flatMap cgV)
 f: ∀B,Blk v B->H0.next<=B
theorem Racc.add {H:AH}{acc:List Cg}(h:Racc A H B acc)(c:Cg)(hl:acc.length<=1000000): ∃a A1 j o,(∀(q:Nat->AV) (K:AV->AH->Rs),bA (some (.cells (cgV c) 230 5 false,q)) H K=K (q A1) a)/\apP 230 5 56 B (.slice A1 0 1 2) a=some (j,o)/\Racc A o j (acc++[c]):=by
 obtain⟨a,A1,b1,p,u,O,S⟩:=box h.prs.ok (.cells (cgV c) 230 5 false);have t:srcOf 5 (.slice A1 0 1 2) a=some (1,cgV c):=by simp only[srcOf,u];rfl
 obtain⟨j,o,y,z,C,J⟩:=(h.g.mono p fun _ _ x=>x).app (bytes:=56) (m:=1) (new:=cgV c) p.ok (by decide) t rfl rfl (by omega) (by decide);have N0:=h.prs.next;have N1:=p.next
 refine⟨a,A1,j,o,b1,y,(h.prs.trans p).fresh C h.f, ?_,fun H0 N=> ?_⟩
 .rw[zV,yR,yV,qJ,List.flatMap_nil,yB];exact z
 .rcases J H0 N with e | e
  .exact h.f H0 e
  .omega
theorem zKr(hA:VQ A B w)(hB:VQ A f R)(lA:w.length<=1000)(lB:R.length<=1000): ∀(r i j:Nat) (acc:List Cg) (v:AV) (H:AH) (q:Nat),(w.length - i)+(R.length - j)=r->i<=w.length->j<=R.length->Racc A H v acc->acc.length+r<=1000000->r<q->
  ∃H' a,kJ q (VW D n) [B,f,v, .int .i64 i, .int .i64 j] H=some (.exit 0 [a],H')/\Racc A H' a (acc++Bt.chg (w.drop i) (R.drop j)):=by
 intro r
 induction r using Nat.strongRecOn with
 | ind r ih=>
  intro i j acc v H q hr hi hj h b2 b3;obtain⟨q,rfl⟩: ∃k,q=k+1:=⟨q - 1,by omega⟩;have l0:lnSl B=some (.int .i64 w.length):=Rw.lnSl hA;have l1:lnSl f=some (.int .i64 R.length):=Rw.lnSl hB;have hi1:(i:Int)+((1:Nat):Int)=((i+1:Nat):Int):=by omega
  have a7:(j:Int)+((1:Nat):Int)=((j+1:Nat):Int):=by omega
  have hS:(AV.str 0 0)=S []:=rfl;have bo: ∀k K:Str,vJ [(0,1),(1,1),(2,1),(3,1),(4,1)] [S [],S [],S [], .bool false, .bool false] [(0,S k),(1,S K),(3, .bool true)]=some (.agg (cgV ⟨k,K,[],true,false⟩)):=fun _ _=>rfl
  have bn: ∀k K:Str,vJ [(0,1),(1,1),(2,1),(3,1),(4,1)] [S [],S [],S [], .bool false, .bool false] [(0,S k),(2,S K),(4, .bool true)]=some (.agg (cgV ⟨k,[],K,false,true⟩)):=fun _ _=>rfl
  have bb: ∀k K z:Str,vJ [(0,1),(1,1),(2,1),(3,1),(4,1)] [S [],S [],S [], .bool false, .bool false] [(0,S k),(1,S K),(2,S z),(3, .bool true),(4, .bool true)]=some (.agg (cgV ⟨k,K,z,true,true⟩)):=fun _ _ _=>rfl
  have bl: ∀c:Cg,dW 230 5 1 [S [],S [],S [], .bool false, .bool false] [(0, .agg (cgV c))]=some (.cells (cgV c) 230 5 false,fun w=> .slice w 0 1 2):=fun _=>rfl
  by_cases a8:i<w.length
  .obtain⟨P,o,i1,_,i3,i4⟩:=(show VQ H B w from Rw.prs hA h.prs).at a8;have a4:=i1 .i64 _ rfl;have a0:Eng.ld1 (.ptr P (o+0)) H=some (S w[i].1):=i3;have Y:(i:Int)< (w.length:Int):=by omega
   have a9: ¬(i:Int)=(w.length:Int):=by omega
   rw[qI a8];by_cases a1:j<R.length
   .obtain⟨Q,p,j1,_,j3,j4⟩:=(show VQ H f R from Rw.prs hB h.prs).at a1;have a2:=j1 .i64 _ rfl;have Z:Eng.ld1 (.ptr Q (p+0)) H=some (S R[j].1):=j3;have J:(j:Int)< (R.length:Int):=by omega
    have a3: ¬(j:Int)=(R.length:Int):=by omega
    rw[qI a1];generalize hx:w[i]=x at*
    generalize hy:R[j]=y at*
    obtain⟨u,xv⟩:=x;obtain⟨N,yv⟩:=y;simp only at a0 i4 Z j4;rw[Bt.chg];by_cases a5:ltS u N=true
    .have q1:d7 .lss (S u) (S N)=some (.bool true):=by rw[gU,a5]
     rw[if_pos a5];obtain⟨H1,A1,a,m,b1,O,T⟩:=h.add ⟨u,xv,[],true,false⟩ (by omega);obtain⟨H',K,C,H0⟩:=ih (r - 1) (by omega) (i+1) j _ a m q (by omega) (by omega) hj T (by simp;omega) (by omega);refine⟨H',K, ?_,by rw[zZ,qI a1,hy]at H0;exact H0⟩;rw[kD (vs':=[B,f,a, .int .i64 (i+1:Nat), .int .i64 j]) (H':=m)]
     .exact C
     .simp(maxSteps:=999999)(disch:=omega) only[VW,zAH,eZ,l0,l1,Y,J,a3,a4,a0,i4,a2,Z,q1,hS,bo,bl,b1,O,hi1,decide_true,decide_false]
    .have q1:d7 .lss (S u) (S N)=some (.bool false):=by rw[gU];simp[a5]
     rw[if_neg a5];by_cases a6:ltS N u=true
     .have q2:d7 .lss (S N) (S u)=some (.bool true):=by rw[gU,a6]
      rw[if_pos a6];obtain⟨H1,A1,a,m,b1,O,T⟩:=h.add ⟨N,[],yv,false,true⟩ (by omega);obtain⟨H',K,C,H0⟩:=ih (r - 1) (by omega) i (j+1) _ a m q (by omega) hi (by omega) T (by simp;omega) (by omega);refine⟨H',K, ?_,by rw[zZ,qI a8,hx]at H0;exact H0⟩;rw[kD (vs':=[B,f,a, .int .i64 i, .int .i64 (j+1:Nat)]) (H':=m)]
      .exact C
      .simp(maxSteps:=999999)(disch:=omega) only[VW,zAH,zCe,eZ,l0,l1,Y,a9,J,a3,a4,a0,i4,a2,Z,j4,q1,q2,hS,bn,bl,b1,O,a7,decide_true,decide_false]
     .have q2:d7 .lss (S N) (S u)=some (.bool false):=by rw[gU];simp[a6]
      rw[if_neg a6];have b0:u=N:=xK (by simpa using a5) (by simpa using a6);subst b0;by_cases hv:xv=yv
      .subst hv;have q3:d7 .neq (S xv) (S xv)=some (.bool false):=by rw[vE];simp
       rw[if_pos rfl];obtain⟨H',K,C,H0⟩:=ih (r - 2) (by omega) (i+1) (j+1) acc v H q (by omega) (by omega) (by omega) h (by omega) (by omega);refine⟨H',K, ?_,H0⟩;rw[kD (vs':=[B,f,v, .int .i64 (i+1:Nat), .int .i64 (j+1:Nat)]) (H':=H)]
       .exact C
       .simp(maxSteps:=999999)(disch:=omega) only[VW,zAH,zCe,zDA,eZ,l0,l1,Y,a9,J,a3,a4,a0,i4,a2,Z,j4,q1,q2,q3,hi1,a7,decide_true,decide_false]
      .have q3:d7 .neq (S xv) (S yv)=some (.bool true):=by rw[vE];simp[hv]
       rw[if_neg hv];obtain⟨H1,A1,a,m,b1,O,T⟩:=h.add ⟨u,xv,yv,true,true⟩ (by omega);obtain⟨H',K,C,H0⟩:=ih (r - 2) (by omega) (i+1) (j+1) _ a m q (by omega) (by omega) (by omega) T (by simp;omega) (by omega);refine⟨H',K, ?_,by rw[zZ]at H0;exact H0⟩;rw[kD (vs':=[B,f,a, .int .i64 (i+1:Nat), .int .i64 (j+1:Nat)]) (H':=m)]
       .exact C
       .simp(maxSteps:=999999)(disch:=omega) only[VW,zAH,zCe,zDA,eZ,l0,l1,Y,a9,J,a3,a4,a0,i4,a2,Z,j4,q1,q2,q3,hS,bb,bl,b1,O,hi1,a7,decide_true,decide_false]
   .obtain rfl:j=R.length:=by omega
    have J: ¬(R.length:Int)< (R.length:Int):=by omega
    rw[qO (zM R.length)];generalize hx:w[i]=x at*
    obtain⟨u,xv⟩:=x;simp only at a0 i4;rw[Bt.chg];obtain⟨H1,A1,a,m,b1,O,T⟩:=h.add ⟨u,xv,[],true,false⟩ (by omega);obtain⟨H',K,C,H0⟩:=ih (r - 1) (by omega) (i+1) R.length _ a m q (by omega) (by omega) hj T (by simp;omega) (by omega);refine⟨H',K, ?_,by rw[zZ,qO (zM R.length)]at H0;exact H0⟩;rw[kD (vs':=[B,f,a, .int .i64 (i+1:Nat), .int .i64 R.length]) (H':=m)]
    .exact C
    .simp(maxSteps:=999999)(disch:=omega) only[VW,zAH,eZ,l0,l1,Y,J,a4,a0,i4,hS,bo,bl,b1,O,hi1,decide_true,decide_false]
  .obtain rfl:i=w.length:=by omega
   have Y: ¬(w.length:Int)< (w.length:Int):=by omega
   rw[qO (zM w.length)];by_cases a1:j<R.length
   .obtain⟨Q,p,j1,_,j3,j4⟩:=(show VQ H f R from Rw.prs hB h.prs).at a1;have a2:=j1 .i64 _ rfl;have Z:Eng.ld1 (.ptr Q (p+0)) H=some (S R[j].1):=j3;have J:(j:Int)< (R.length:Int):=by omega
    have a3: ¬(j:Int)=(R.length:Int):=by omega
    rw[qI a1];generalize hy:R[j]=y at*
    obtain⟨N,yv⟩:=y;simp only at Z j4;rw[Bt.chg];obtain⟨H1,A1,a,m,b1,O,T⟩:=h.add ⟨N,[],yv,false,true⟩ (by omega);obtain⟨H',K,C,H0⟩:=ih (r - 1) (by omega) w.length (j+1) _ a m q (by omega) hi (by omega) T (by simp;omega) (by omega);refine⟨H',K, ?_,by rw[zZ,qO (zM w.length)]at H0;exact H0⟩;rw[kD (vs':=[B,f,a, .int .i64 w.length, .int .i64 (j+1:Nat)]) (H':=m)]
    .exact C
    .simp(maxSteps:=999999)(disch:=omega) only[VW,zAH,zCe,eZ,l0,l1,Y,J,a3,a2,Z,j4,hS,bn,bl,b1,O,a7,decide_true,decide_false]
   .obtain rfl:j=R.length:=by omega
    have J: ¬(R.length:Int)< (R.length:Int):=by omega
    refine⟨H,v,jW ?_,by rw[qO (zM R.length),Bt.chg,yB];exact h⟩;simp(maxSteps:=999999)(disch:=omega) only[VW,eZ,l0,l1,Y,J,decide_false]
theorem zEi(t:3000<=n)(m:A.ok)(o:VQ A B w)(a:VQ A f R)(p:w.length<=1000)(q:R.length<=1000):
  ∃H' v,f67 D n [B,f] A=some (v,H')/\Racc A H' v (Bt.chg w R):=by
 obtain⟨H',v,e,h⟩:=zKr D n o a p q _ 0 0 [] .nS A n rfl (Nat.zero_le _) (Nat.zero_le _) ⟨zRo m, .inl ⟨rfl, .inl ⟨rfl,rfl⟩⟩,fun R ⟨_,_,_,a⟩=>by cases a⟩ (by simp;omega) (by omega);refine⟨H',v, ?_,by simpa using h⟩;simp(maxSteps:=999999)(disch:=omega) only[f67,zQA,eZ,e]
theorem zQM (c:Cg):eqA [2,2,2,0,0] (.agg (cgV c)) (.agg (cgV c))=some true:=by
 have a: ∀s:Str,JV 2 (S s) (S s)=some true:=fun s=>by simp[JV,S]
 have f: ∀b:Bool,JV 0 (.bool b) (.bool b)=some true:=fun b=>by cases b<;>rfl
 simp only[eqA,cgV,Z9,Nat.succ_eq_add_one,yF,zT,yG,qP,zP,uC,a,f]
theorem zEa{H:AH}{v w:AV}{c:List Cg}(a:RwC H v c)(f:RwC H w c)(hl:c.length<n)(T:c.length<=1000000):f66 D n [v,w] H=some (.bool true,H):=by
 have l1:lnSl v=some (.int .i64 c.length):=Rw.lnSl a;have m:lnSl w=some (.int .i64 c.length):=Rw.lnSl f;have p:kJ n (zIv D n) [v,w, .int .i64 (0:Nat)] H=some (.exit 0 [],H):=by
  refine uX (fun i=>[v,w, .int .i64 ((i:Nat):Int)]) c.length (fun i hi=> ?_) (fun k=> ?_) n (by omega)
  .have j:((i:Nat):Int)< (c.length:Int):=by omega
   have hi1:((i:Nat):Int)+((1:Nat):Int)=((i+1:Nat):Int):=by omega
   obtain⟨A,o,q,_,u,x,y,z,C⟩:=a.at hi;obtain⟨Y,o',J,K,_⟩:=f.at hi;have N:vJ [(0,1),(1,1),(2,1),(3,1),(4,1)] [.str 0 0, .str 0 0, .str 0 0, .bool false, .bool false] [(0,S c[i].k),(1,S c[i].old),(2,S c[i].new),(3, .bool c[i].had),(4, .bool c[i].has)]=some (.agg (cgV c[i])):=rfl;have O:dS .neq (eqA [2,2,2,0,0] (.agg (cgV c[i])) (.agg (cgV c[i])))=some (.bool false):=by rw[zQM];rfl
   simp(maxSteps:=999999)(disch:=omega) only[zIv,eZ,l1,j,q,u,x,y,z,C,N,J,K,O,hi1]
  .refine jW ?_;simp(maxSteps:=999999)(disch:=omega) only[zIv,eZ,l1,y7]
 have t: ¬((c.length:Int)≠(c.length:Int)):=fun h=>h rfl
 simp(maxSteps:=999999)(disch:=omega) only[f66,eZ,l1,m,t,p,zQB]
open Go.Bk
structure Rd (Ad:Nat)(ws:Ws)(X At:Nat)(lv:AV)(kv:Kvs)(H:AH):Prop where
 f: ∃i is Bs W xx,Fz Ad ws is i Bs W xx At kv H/\i<=1000
 t:Eng.ld1 (.ptr X 0) H=some (.ptr At 0)
 l:Eng.ld1 (.ptr X 1) H=some lv
 r:VQ H lv kv
 n:kv.length<=1000
theorem Rd.prs {Ad X At:Nat}{ws:Ws}{lv:AV}{kv:Kvs}{H H':AH}(h:Rd Ad ws X At lv kv H)(p:Prs H H'):Rd Ad ws X At lv kv H':=by
 obtain⟨⟨i,is,Bs,W,xx,f,hi⟩,t,l,r,n⟩:=h;exact⟨⟨i,is,Bs,W,xx,f.prs p,hi⟩,QT f.ok p t,QT f.ok p l,Rw.prs r p,n⟩
theorem Rd.diff (h:Rd v q t M B w A)(k:Rd v q e g f R A)(m:Nat)(hm:700000000<=m):
  ∃H' Ad,f65 (dy (m+1)) (m+1) [.ptr M 0, .ptr g 0] A=some (.tuple [Ad, .int .i64 (0:Nat)],H')/\Prs A H'/\RwC H' Ad (Bt.chg w R):=by
 obtain⟨⟨i,is,Bs,W,xx,a,hi⟩,_,_,_,n⟩:=h;obtain⟨⟨K,z,C,N,J,x,Y⟩,_,_,_,y⟩:=k;obtain⟨H',Ad,X,c⟩:=zLg m hm a x hi Y n y;exact⟨H',Ad,X,c.prs,c.g.row⟩
theorem XZ (m:Nat)(hm:800000000<=m){Ag i o:Nat}(x:Rd v q t M B w A)(X:Rd v q e g f R A)(hi:i<2)(N:dV 1 (.slice Ag 0 2 4) (.int .i64 i)=some (.ptr Ag o))(hx:Eng.ld1 (.ptr Ag o) A=some (.ptr t 0)):
  ∃H',XV (dy (m+3)) (m+3) [.ptr e 0, .slice Ag 0 2 4, .int .i64 (2:Nat), .int .i64 i] A=some (.norm [.ptr e 0, .slice Ag 0 2 4, .int .i64 (2:Nat), .int .i64 (i+1:Nat)],H')/\Prs A H':=by
 obtain⟨H1,v1,e1,j,r1⟩:=x.diff X (m+2) (by omega);have p:=x.prs j;have Gd:=X.prs j;obtain⟨H2,v2,e2,h,r2⟩:=Gd.diff p (m+2) (by omega);have u:=p.prs h;have y:=Gd.prs h;obtain⟨H3,w1,e3,c3⟩:=zEi (dy (m+3)) (m+3) (by omega) h.ok u.r y.r x.n X.n;have C:=u.prs c3.prs;have J:=y.prs c3.prs;have a0:=ZV w R;have a1:=ZV R w;have nx:=x.n;have ng:=X.n;have O:=zEa (dy (m+3)) (m+3) (H:=H3) (v:=v1) (w:=w1) (c:=Bt.chg w R) (Rw.prs (Rw.prs r1 h) c3.prs) c3.g.row (by omega) (by omega);obtain⟨K,w2,e4,z⟩:=zEi (dy (m+3)) (m+3) (by omega) c3.prs.ok J.r C.r X.n x.n;have S:=zEa (dy (m+3)) (m+3) (H:=K) (v:=v2) (w:=w2) (c:=Bt.chg R w) (Rw.prs (Rw.prs r2 c3.prs) z.prs) z.g.row (by omega) (by omega);have T:(i:Int)< ((2:Nat):Int):=by omega
 have hi1:(i:Int)+((1:Nat):Int)=((i+1:Nat):Int):=by omega
 have Y: ¬(((0:Nat):Int)≠((0:Nat):Int)):=by omega
 refine⟨K, ?_,((j.trans h).trans c3.prs).trans z.prs⟩;simp(maxSteps:=999999)(disch:=omega) only[XV,eZ,T,N,hx,x.t,X.t,e1,jN,nth,Gd.t,p.t,e2,Y,u.l,y.l,e3,O,J.l,C.l,e4,S,hi1,decide_false,Bool.not_true]
theorem walkDiffs_walk (m:Nat)(hm:800000000<=m)(hk:A.ok){v2:AV}{l l1 l2:List Sw}(h0:SwR A B l)(h1:SwR A f l1)(h2:SwR A v2 l2):
  ∃H',zPn (dy (m+3)) (m+3) [B,f,v2] A=some (.bool true,H')/\Prs A H':=by
 have T: ∀A:AH,z51 (dy (m+3)) (m+3) [] A=some (.bool true,A):=fun _=>rfl
 obtain⟨b0,Y,b8⟩:=zAv (dy (m+3)) (m+3) (by omega) h0;obtain⟨b1,e1,b9⟩:=zAv (dy (m+3)) (m+3) (by omega) h1;obtain⟨b2,e2,c0⟩:=zAv (dy (m+3)) (m+3) (by omega) h2;by_cases hc:b0=false/\b1=false/\b2=false
 .obtain⟨rfl,rfl,rfl⟩:=hc;have f4:=b8 rfl;have f5:=b9 rfl;have f6:=c0 rfl;obtain⟨H1,Ad,As,Gd,ws,is,la,V,W,Bs,At,txg,lv,ep,j,P1,a2⟩:=zHD (m+1) (m+3) (by omega) (by omega) hk h0 (by omega);obtain⟨y0,y1,y2,y3⟩:=j.ld;obtain⟨H2,z,f7,W',ec,Z,c1,c2⟩:=j.copy (dy (m+3)) (m+3) (by omega);have s2:=j.prs Z;obtain⟨_,z1,z2,z3⟩:=s2.ld;have c3:=j.l.row.isCell;obtain⟨H3,q,b3,O,g3,m3,n3⟩:=box Z.ok (.cells [.ptr z 0,lv, .ptr Ad 0, .ptr As 0, .int .i64 (0:Nat)] 104 1 false);have a:=s2.prs O;have a8:=c1.prs O;obtain⟨u0,_,u2,u3⟩:=a.ld;have P3:Prs A H3:=(P1.trans Z).trans O;have N1:=P1.next;have N2:=Z.next;have N3:=O.next
  have hV: ∀v0,V v0->A.next<=v0:=fun v0 o=>a2 v0 (.inr (.inl o))
  obtain⟨C,J,eb,gu⟩:=BU (m+1) (m+3) (by omega) (by omega) O.ok a.ds (xx:=W) (fun v0 o=>a.f.lt o) (v:=v2) (l:=l2) (fun st=>h2.prs (Stp.fresh P3 st hV)) (by omega);obtain⟨c4,c5,c6,V4,W4,B4,c7,f1,c8,t,x,a3,a6⟩:=gu.out;have P4:Prs A C:=Stp.fresh P3 x hV;have c9:=a.f.go x (fun v0 hb=>a.f.dsk a.ds v0 hb) t.ds a6;have gV: ¬V Gd:=(a.off a.g (.inr ⟨_,rfl⟩)).2;have wV: ¬V q:=(a.off g3 (.inr ⟨_,rfl⟩)).2;have d0:C.h.get Gd=_:=(x.keep _ (a.ok.lt a.g) gV).trans a.g;have d1:C.h.get q=_:=(x.keep _ n3 wV).trans g3;have a9:GrP C lv (bJ [] l):=a.l.mono x fun v0 o h=>by
   obtain⟨l,e,g,hg⟩:=kZ.get2 a.l o;exact(a.off hg (.inl ⟨_,_,_,rfl⟩)).2 h
  have u:Gs Ad As Gd l.length c4 c5 c6 V4 W Bs (fun _=>False) At txg lv (bJ [] l) C:=⟨c9,t.ds,d0,a9,a.tx,a.kl⟩;have d2:=a8.go x (fun v0 hb=>a8.dsk a.ds v0 hb) t.ds a6;have lG:Gd<H1.next:=j.ok.lt j.g
  have a5: ∀v0,(W v0\/V4 v0\/v0=Gd)->A.next<=v0:=fun v0 o=>by
   rcases o with h | h | h
   .exact a2 v0 (.inl h)
   .rcases a3 v0 (.inr (.inl h))with h | h
    .omega
    .exact hV v0 h
   .exact a2 v0 (.inr (.inr h))
  obtain⟨H5,a4,f8,f9,V5,W5,B5,d3,f2,d4,eg,p,y,f3,a7⟩:=u.grow (m+1) (m+3) (by omega) (by omega) (v:=f) (l:=l1) (fun st=>h1.prs (Stp.fresh P4 st a5)) (by omega);have P5:Prs A H5:=Stp.fresh P4 y a5;have d5:=d2.stay u (fun v0 o hw=>by have:=c2 v0 o;have:=j.f.lt hw;omega) y p.ds a7;have d6:=t.f.stay u (fun v0 o hw=>by
   rcases a3 v0 (.inl o)with h | h
   .have:=j.f.lt hw;omega
   .exact j.vw h hw) y p.ds a7
  have d7:=GrP.stay a9 u y;have d8:=GrP.stay t.l u y;have kp: ∀ {X:Nat} {c:List AV},C.h.get X=some (.cells c 104 1 false)->X≠Gd->H5.h.get X=some (.cells c 104 1 false):=fun {X c} g d9=>by
   rw[y.keep _ (u.ok.lt g) (fun h=> ?_)]
   .exact g
   .obtain⟨o1,o2⟩:=u.off g (.inr ⟨_,rfl⟩);rcases h with h | h | h
    .exact o1 h
    .exact o2 h
    .exact d9 h
  have b4:=kp d1 (by omega);have b5:=kp t.g (fun e=>by
   rcases a3 J (.inr (.inr rfl))with h | h
   .omega
   .rw[e]at h;exact gV h)
  obtain⟨N,H,b6,S,g6,m6,n6⟩:=box p.ok (.cells [.ptr q 0, .ptr J 0] 98 1 false);have g0:=j.kl;have g1:=p.kl;have g2:=t.kl;have rg:Rd Ad a4 Gd d3 d4 (bJ (bJ [] l) l1) N:=Rd.prs ⟨⟨_,_,_,_,_,p.f,by omega⟩,p.ld.1,p.ld.2.1,p.l.row,by omega⟩ S;have e3:Rd Ad a4 q z lv (bJ [] l) N:=Rd.prs ⟨⟨_,_,_,_,_,d5,by omega⟩,by rw[jM b4];rfl,by rw[jM b4];rfl,d7.row,by omega⟩ S;have rh:Rd Ad a4 J c7 c8 (bJ [] l2) N:=Rd.prs ⟨⟨_,_,_,_,_,d6,by omega⟩,by rw[jM b5];rfl,by rw[jM b5];rfl,d8.row,by omega⟩ S;have q0:dV 1 (.slice H 0 2 4) (.int .i64 (0:Nat))=some (.ptr H 0):=rfl;have q1:dV 1 (.slice H 0 2 4) (.int .i64 (1:Nat))=some (.ptr H 1):=rfl;have a0:Eng.ld1 (.ptr H 0) N=some (.ptr q 0):=by rw[jM g6];rfl
  have a1:Eng.ld1 (.ptr H 1) N=some (.ptr J 0):=by rw[jM g6];rfl
  obtain⟨H7,e7,p7⟩:=XZ m hm e3 rg (by omega) q0 a0;obtain⟨H8,e8,p8⟩:=XZ m hm (rh.prs p7) (rg.prs p7) (by omega) q1 (QT S.ok p7 a1);have b7:XV (dy (m+3)) (m+3) [.ptr Gd 0, .slice H 0 2 4, .int .i64 (2:Nat), .int .i64 (2:Nat)] H8=some (.exit 0 [],H8):=by
   simp only[XV,eZ,y7]
  have lp:kJ (m+3) (XV (dy (m+3)) (m+3)) [.ptr Gd 0, .slice H 0 2 4, .int .i64 (2:Nat), .int .i64 (0:Nat)] N=some (.exit 0 [],H8):=by
   rw[show m+3=(m+2)+1 from rfl,kD e7,show m+2=(m+1)+1 from rfl,kD e8];exact jW b7
  have cell:jU lv=[lv]:=kO c3;have bs:vJ [(0,1),(1,1),(2,1),(3,1),(4,1)] [.nP, .nS, .nP, .nP, .int .i64 (0:Nat)] [(0, .ptr z 0),(1,lv),(2, .ptr Ad 0),(3, .ptr As 0)]=some (.agg [.ptr z 0,lv, .ptr Ad 0, .ptr As 0, .int .i64 (0:Nat)]):=by
   simp only[vJ,fD,zJY,cell];rfl
  have e4:bxV 104 (.agg [.ptr z 0,lv, .ptr Ad 0, .ptr As 0, .int .i64 (0:Nat)])=some (.cells [.ptr z 0,lv, .ptr Ad 0, .ptr As 0, .int .i64 (0:Nat)] 104 1 false,fun H=> .ptr H 0):=rfl;have br:dW 98 1 2 [.nP] [(0, .ptr q 0),(1, .ptr J 0)]=some (.cells [.ptr q 0, .ptr J 0] 98 1 false,fun H=> .slice H 0 2 4):=rfl;have e5:lnSl (.slice H 0 2 4)=some (.int .i64 (2:Nat)):=rfl;have e6: ∀K:Rs,chk (some lv) lv K=K:=fun K=>kW rfl (kK j.l.row)
  have e9: ∀(v0:Nat) (K:Rs),chk (some (.ptr v0 0)) (.ptr v0 0) K=K:=fun v0 K=>kW rfl (by simp[aveq])
  refine⟨H8, ?_,((P5.trans S).trans p7).trans p8⟩;simp(maxSteps:=999999)(disch:=omega) only[zPn,eZ,Y,e1,e2,T,ep,jN,nth,y0,y1,y2,y3,ec,z1,z2,z3,e6,e9,bs,e4,b3,u2,u3,eb,eg,br,b6,e5,lp,zMO,Bool.not_true]
 .refine⟨A, ?_,zRo hk⟩
  cases b0 with
  | true=>simp(maxSteps:=999999)(disch:=omega) only[zPn,eZ,Y,T]
  | false=>
   cases b1 with
   | true=>simp(maxSteps:=999999)(disch:=omega) only[zPn,eZ,Y,e1,T]
   | false=>
    cases b2 with
    | true=>simp(maxSteps:=999999)(disch:=omega) only[zPn,eZ,Y,e1,e2,T]
    | false=>exact absurd ⟨rfl,rfl,rfl⟩ hc
end Go.Eng.Sh
namespace Go.Proofs.YtaaflpnhdkoaeaaGreat.walkDiffs
open Go.ChangeShapes Go.WideShapes Go.ChangeAt Go.RowKit
theorem own:ownKnob Tryz.prog.godebug=none:=by kernel_rfl
theorem laid:laidOutB Tryz.prog=true:=by kernel_rfl
set_option maxRecDepth 100000 in
theorem contract (H:Type)(enc:TypeId×Value->H)(W:World)(base:Nat)(args:Array Value)(J gs:List (DataW H))(a0:List MemPlace)
  (f: ∀(j:Nat) t v, Tryz.f11.params[j]? =some t->args[j]? =some v->Value.okWide Tryz.prog W .any base t v)
  (K:DataW.Whole enc Tryz.prog Tryz.f11.params.toList Rows.walkDiffsSpec.vars false W args.toList J gs a0):
  Calls Tryz.prog 11 args W fun e N=> ∃v,e= .returned v/\Rows.walkDiffsSpec.post enc Tryz.prog Tryz.f11 false true false false W args v N:=by
 have o:=K;obtain⟨p,q,C,hV,rfl,b3,b4⟩:=K;have u:DataW.TrodAll enc Tryz.prog W 0 (fun _=>true) true Tryz.f11.params.toList args.toList J p:=C;rw[Tryz.params11]at u f;obtain⟨y,b5,d0,b6,O,q0,a9,rfl,rfl,S,r0⟩:=trodAll_cons u;obtain⟨z,b7,d1,b8,T,q1,rfl,rfl,rfl,Y,r1⟩:=trodAll_cons r0;obtain⟨v2,b9,d2,c0,Z,q2,rfl,rfl,rfl,h2,r2⟩:=trodAll_cons r1;obtain⟨rfl,rfl,rfl⟩:=trodAll_nil r2;obtain rfl:args= #[y,z,v2]:=by cases args;simp_all
 obtain⟨rfl,rfl⟩:=trodVars_none hV;clear C;have a2: ∀x∈O,x.block<W.heap.size:=fun x a=>o.lt x (by simp[a])
 have a3: ∀x∈T,x.block<W.heap.size:=fun x a=>o.lt x (by simp[a])
 have a4: ∀x∈Z,x.block<W.heap.size:=fun x a=>o.lt x (by simp[a])
 obtain⟨l0,a6,b0⟩:=steps14.steps_in (okWide_slice Tryz.underlying96 (f 0 96 y rfl rfl)) S;obtain⟨l1,a7,b1⟩:=steps14.steps_in (okWide_slice Tryz.underlying96 (f 1 96 z rfl rfl)) Y;obtain⟨l2,a8,b2⟩:=steps14.steps_in (okWide_slice Tryz.underlying96 (f 2 96 v2 rfl rfl)) h2;obtain⟨m,hm⟩: ∃m:Nat,800000000<=m:=⟨_,zM _⟩;obtain⟨H',a5,hP⟩:=Go.Eng.Sh.walkDiffs_walk m hm (Go.Eng.H0_ok W) a6 a7 a8;have a1:=Go.Eng.calls_param (Go.Eng.Sh.f11z_ok (Go.Eng.Sh.dy_ok (m+3)) (m+3)) W (args:= #[y,z,v2]) (H':=H') (by
  simp only[yJ,List.map_nil];exact a5) (fun A u=>hP.keep A u (fun x=>x))
 refine a1.mono fun e N ⟨he,hb⟩=> ?_
 subst he;refine⟨_,rfl,_,_,_,[],(O++(T++(Z++[]))),[],o, ?_, ?_,rfl,hb.frame _,fun h=>by cases h⟩
 .exact trodAll_cons_mk (shut_bool Tryz.underlying4 _) trodAll_mk0
 .exact(trodAll_cons_mk (Below.trod laid (by kernel_rfl) (of_decide_eq_true (by kernel_rfl)) S hb a2) (trodAll_cons_mk (Below.trod laid (by kernel_rfl) (of_decide_eq_true (by kernel_rfl)) Y hb a3) (trodAll_cons_mk (Below.trod laid (by kernel_rfl) (of_decide_eq_true (by kernel_rfl)) h2 hb a4) trodAll_mk0)))
set_option maxRecDepth 100000 in
theorem lifted (a:Os)(f:a.Started)(H:Type)(enc:TypeId×Value->H):
  ReturnsInHanded {} Tryz.checked a 11 .any (Rows.walkDiffsSpec.pre6 enc Tryz.prog Tryz.f11 Rows.walkDiffsRow.domain false) (Rows.walkDiffsSpec.post enc Tryz.prog Tryz.f11 false true false false):=by
 refine returnsInHanded_of_change (C:= Tryz.checked) own f (by kernel_rfl) Tryz.func11
  (ChangeSpec.witness6 (enc:=enc) (C:= Tryz.checked) false ⟨#[], #[.slice none 0 0, .slice none 0 0, .slice none 0 0],[]⟩ 8 (by kernel_rfl) (by kernel_rfl) (by kernel_rfl) (by kernel_rfl)) ?_
 intro W base args m o h j p _ _;exact contract H enc W base args m o h j p
theorem holds:Rows.WalkDiffsSaid:=
 OpenClaim.holds_of_wide 11 Tryz.f11 rfl rfl rfl rfl rfl rfl rfl ⟨rfl,rfl,rfl,rfl,rfl⟩ rfl rfl rfl rfl rfl (by kernel_rfl) Tryz.func11 (by kernel_rfl)
  (of_decide_eq_true (by kernel_rfl)) (by unfold Func.isWrapper;first | (rw[if_pos (by decide+kernel)];kernel_rfl) | (rw[if_neg (by decide+kernel)];exact⟨rfl,rfl⟩))
  (fun f a H enc _=>lifted f a H enc)
end Go.Proofs.YtaaflpnhdkoaeaaGreat.walkDiffs
namespace Go.Proofs.YtaaflpnhdkoaeaaGreat
theorem walkDiffs_holds:Rows.WalkDiffsSaid:=walkDiffs.holds
end Go.Proofs.YtaaflpnhdkoaeaaGreat




