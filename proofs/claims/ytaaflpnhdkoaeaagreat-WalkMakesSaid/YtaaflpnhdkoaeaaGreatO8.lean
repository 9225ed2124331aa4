/- A checked evaluator for the program, and what it tells, part 8: no condition. -/
import Derived.Test.YtaaflpnhdkoaeaaGreatO7
import Derived.Test.YtaaflpnhdkoaeaaGreatRows
import Derived.ProofKit
import Derived.OpenShut
import Derived.Carry
set_option linter.all false
set_option linter.unusedVariables false
set_option linter.unusedSimpArgs false
set_option maxHeartbeats 8000000
set_option maxRecDepth 20000
variable {h q a:Nat->Prop}{n U:Go.Nd.Kvs}{A:Go.Eng.AH}{v p B D:Nat}{w:Nat->Nat}{l:List (Go.Nd.Ptr×Go.Nd.Node)}{t:Go.Nd.Ptr}{e:List Go.Nd.Ptr}{C:Go.Bk.Ws}{I:List Go.Eng.AV}{J:Go.Eng.Sh.Ev}{M:Go.Eng.AV}{N:List Go.Eng.Sh.Sw}{P:Go.Eng.AH->(Nat->Prop)->Prop}{R:Go.Eng.Sh.PN}{Y:Go.Nd.Ptr->Option Go.Nd.Node}{c:List (Go.Eng.AV×Go.Eng.AV)}{f:Go.World}{g:Go.Nd.Ptr×Go.Nd.Node}{j:Type}{m:Bool}{r:List Go.Value}
section
namespace Go.Eng.Sh
open Go.Nd (Ptr sumL leafOf Kvs)
open Go.Bt
def GX (G:AH->(Nat->Prop)->Prop)(P:AH->Prop)(a:Nat->Prop)(H:AH)(W:Nat->Prop):Prop:=G H (fun _=>False)/\P H/\ ∀B,W B↔a B
theorem rdr_x (r:Rdr v p D t Y P)(y:p<=B)(C: ∀ {H W},P H W-> ∀N1,¬W N1){Q:AH->Prop}(root: ∀ {H},H.ok->Q H-> ∀N1,h N1->N1<H.next)(u: ∀ {H H' S},H.ok->Q H->Stp S H H'->(∀N1,S N1->B<=N1)->Q H'):Rdr v B D t Y (GX P Q h) where
 ok:=fun G=>r.ok G.1
 lt:=fun⟨j,h2,h3⟩ N1 o=>root (r.ok j) h2 N1 ((h3 N1).1 o)
 frame:=fun⟨j,h2,h3⟩ s hS=>⟨r.frame j s fun N1 o=>⟨qM y (hS N1 o).1,fun x=>x⟩,u (r.ok j) h2 s fun N1 o=>(hS N1 o).1,h3⟩
 root:=fun k n ⟨j,_⟩=>r.root k n j
 dirty:=fun k n ⟨j,_⟩=>r.dirty k n j
 load:=fun {H W N0 nd} m n hm J ⟨j,h2,h3⟩ hq hz=>by
  obtain⟨At,H',K,e,g,a,N,f⟩:=r.load m n hm J j hq hz;have z:K=fun _=>False:=by funext N1;exact eq_false (C g N1)
  subst z;exact⟨At,H',W,e,⟨g,u (r.ok j) h2 a.1 fun N1 x=>x.elim,h3⟩,⟨a.1.mono fun N1 _ x=>x.elim,fun N1 o=> .inl o⟩,N,fun N1 o=>⟨(f N1 o).1,fun O=>by have:=root (r.ok j) h2 N1 ((h3 N1).1 O);have:=(f N1 o).1;omega⟩⟩
def FB (N1:Nat)(H:AH)(M:Nat)(L:List (Ptr×Nd.Node)):Prop:=M<N1/\ ∃es,H.h.get M=some (.map (1::[6,6,10]) es)/\ ∀p,(∀nd,hJ p L=some nd-> ∃v,kZ (kP p) es=some v/\kB H v nd/\ ∀B,xT v B->B<N1)/\(hJ p L=none->kZ (kP p) es=none)
theorem FM.b (h:FM A v l)(m:A.ok)(a:A.next<=p):FB p A v l:=by
 obtain⟨es,g,f⟩:=h;exact⟨qG (m.lt g) a,es,g,fun M=>⟨fun nd o=>by
  obtain⟨H,q,j⟩:=(f M).1 nd o;exact⟨H,q,j,fun B t=>qG (j.lt t) a⟩,(f M).2⟩⟩
theorem FB.stp {H H':AH}{M N1:Nat}{L:List (Ptr×Nd.Node)}{S:Nat->Prop}(h:FB N1 H M L)(m:H.ok)(s:Stp S H H')(a: ∀B,S B->N1<=B):FB N1 H' M L:=by
 obtain⟨o,es,g,f⟩:=h;refine⟨o,es,by rw[s.keep _ (m.lt g) (fun x=>by have:=a _ x;omega)];exact g,fun p=>⟨fun nd q=> ?_,(f p).2⟩⟩;obtain⟨v,t,u,j⟩:=(f p).1 nd q;exact⟨v,t,u.stp s fun B y z=>by have:=a _ z;have:=j B y;omega,j⟩
theorem FB.map {H H':AH}{M a N1:Nat}{L:List (Ptr×Nd.Node)}{ks:List Nat}{es:List (AV×AV)}(h:FB N1 H M L)(o:H.ok)(s:Stp (fun B=>B=a) H H')(q:H.h.get a=some (.map ks es))(j:a≠M):FB N1 H' M L:=by
 obtain⟨j,es',g,f⟩:=h;have t:NR H a:=fun _ _ _ _ x=>by rw[q]at x;cases x
 refine⟨j,es',by rw[s.keep _ (o.lt g) (fun x=> ‹a≠M› x.symm)];exact g,fun p=>⟨fun nd u=> ?_,(f p).2⟩⟩;obtain⟨v,y,m,z⟩:=(f p).1 nd u;exact⟨v,y,m.stp s fun B C J=>t.node m (J▸C),z⟩
structure PDx (N1 X6 X10 M6 M10:Nat)(L:List (Ptr×Nd.Node))(F:List Ptr)(H:AH):Prop where
 x6:X6<N1
 x10:X10<N1
 m10:M10<N1
 ne:M10≠M6
 b6:Box H X6 (.map M6)
 b10:Box H X10 (.map M10)
 f:FB N1 H M6 L
 b:BM H M10 F
section
variable {N1 X6 X10 M6 M10:Nat}{L:List (Ptr×Nd.Node)}{F:List Ptr}
theorem PDx.stp {H H':AH}{S:Nat->Prop}(a:H.ok)(h:PDx N1 X6 X10 M6 M10 L F H)(s:Stp S H H')(j: ∀B,S B->N1<=B):PDx N1 X6 X10 M6 M10 L F H':=
 have n: ∀ {B:Nat},B<N1-> ¬S B:=fun o m=>by have:=j _ m;omega
 ⟨h.x6,h.x10,h.m10,h.ne,h.b6.mono a s (n h.x6),h.b10.mono a s (n h.x10),h.f.stp a s j,h.b.stp a s (n h.m10)⟩
theorem PDx.prs {H':AH}(a:A.ok)(h:PDx N1 X6 X10 M6 M10 L F A)(s:Prs A H'):PDx N1 X6 X10 M6 M10 L F H':=h.stp a s fun _ x=>x.elim
theorem PDx.up {H:AH}(a:H.ok)(h:PDx N1 X6 X10 M6 M10 L F H)(p:Ptr): ∃H',upM (1::[6,6,10]) (.map M10) (kP p) (.agg []) H=some (jQ,H')/\PDx N1 X6 X10 M6 M10 L (F++[p]) H'/\Stp (fun B=>B=M10) H H'/\H'.next=H.next:=by
 obtain⟨H',e,b,s,n⟩:=h.b.up a p;obtain⟨es,g,_⟩:=h.b;have nb: ∀ {A:Nat} {x:AV},Box H A x->A≠M10:=fun⟨_,gA⟩ e=>by rw[e,g]at gA;cases gA
 exact⟨H',e,⟨h.x6,h.x10,h.m10,h.ne,h.b6.mono a s (nb h.b6),h.b10.mono a s (nb h.b10),h.f.map a s g h.ne,b⟩,s,n⟩
theorem PDx.lt {H:AH}(a:H.ok)(h:PDx N1 X6 X10 M6 M10 L F H):M10<H.next:=by
 obtain⟨es,g,_⟩:=h.b;exact a.lt g
def pbA (L:List (Ptr×Nd.Node))(s:List Ptr)(p:Ptr):Bool×List Ptr:=bif (hJ p L).isSome&&decide (p.at_≠1)then(true,s++[p])else(false,s)
def pbB (F:List Ptr)(s:Unit)(p:Ptr):Bool×Unit:=(decide (p∈F),())
theorem zLp (D:Dyn)(n:Nat)(Y:A.ok)(h:PDx N1 X6 X10 M6 M10 L F A)(p:Ptr):
  ∃H',f113 D n [.agg (jS p), .ptr X6 0, .ptr X10 0] A=some (.bool (pbA L F p).1,H')/\PDx N1 X6 X10 M6 M10 L (pbA L F p).2 H'/\Stp (fun B=>B=M10) A H':=by
 obtain⟨H1,O,b1,a,u,m1,n1⟩:=box Y (.cells (jS p) 42 1 false);have J:bxV 42 (.agg (jS p))=some (.cells (jS p) 42 1 false,fun H=> .ptr H 0):=rfl;have o:=h.prs Y a;obtain⟨H2,A5,b2,S,g2,m2,n2⟩:=box a.ok (.cells [.bool false, .nS, .nS, .nS] 119 1 false);have C:bxV 119 (.agg [.bool false, .nS, .nS, .nS])=some (.cells [.bool false, .nS, .nS, .nS] 119 1 false,fun H=> .ptr H 0):=rfl;have a0:=a.next;have N2:=S.next
 have x: ∀ {A:AH},A.h.get O=some (.cells (jS p) 42 1 false)->ldN 3 (.ptr O 0) A=some (kP p):=fun g=>by rw[jR g];rfl
 obtain⟨hM,es,gM,f⟩:=o.f;have j:=zI6 gM (.agg [.bool false, .nS, .nS, .nS]) p;obtain⟨v,hv,hz⟩: ∃l,(kZ (kP p) es).getD (.agg [.bool false, .nS, .nS, .nS])= .agg l/\l.length=4/\jP l=true/\(kZ (kP p) es).isSome=(hJ p L).isSome:=by
  cases hl:hJ p L with
  | none=>exact⟨_,by rw[(f p).2 hl];rfl,rfl,rfl,by rw[(f p).2 hl];rfl⟩
  | some nd=>
   obtain⟨v,Z,⟨ks,vs,ps,rfl,w1,w2,w3⟩,_⟩:=(f p).1 nd hl;exact⟨_,by rw[Z];rfl,rfl,by simp[jP,w1.isCell,w2.isCell,w3.isCell];rfl,by rw[Z];rfl⟩
 obtain⟨z1,z2,z3⟩:=hz;rw[hv,z3]at j;obtain⟨q,e3,g3,s3,n3⟩:=jV S.ok g2 (l':=v) z1 z2;have K:stN 4 (.ptr A5 0) (.agg v) H2=some (jQ,q):=e3;have m:Prs H1 q:=S.fresh s3 fun B hB=>by omega
 have y:=o.prs a.ok m;have T:=zRB m a.ok u;have l3:Eng.ld1 (.ptr O 0) q=some (.int .i64 p.at_):=by rw[jM T];rfl
 have hb:uB [] [] []=some (.agg []):=rfl
 cases t:(hJ p L).isSome with
 | false=>
  have hp:pbA L F p=(false,F):=by simp only[pbA,t,Bool.false_and,qH]
  rw[hp];rw[t]at j;refine⟨q, ?_,y,zRD (a.trans m)⟩;simp(maxSteps:=999999)(disch:=omega) only[f113,zEU,eZ,J,b1,o.b6.ld,x u,j,jN,nth,C,b2,K,zL]
 | true=>
  rw[t]at j;by_cases z:p.at_=1
  .have hp:pbA L F p=(false,F):=by simp only[pbA,t,z,Bool.true_and,ne_eq,not_true_eq_false,decide_false,qH]
   have N: ¬(p.at_≠((1:Nat):Int)):=by simp[z]
   rw[hp];refine⟨q, ?_,y,zRD (a.trans m)⟩;simp(maxSteps:=999999)(disch:=omega) only[f113,zEU,eZ,J,b1,o.b6.ld,x u,j,jN,nth,C,b2,K,l3,N,decide_false]
  .have hp:pbA L F p=(true,F++[p]):=by simp only[pbA,t,z,Bool.true_and,ne_eq,yC,decide_true,zO]
   have N:p.at_≠((1:Nat):Int):=by simpa using z
   rw[hp];obtain⟨H4,e4,h4,s4,n4⟩:=y.up m.ok p;refine⟨H4, ?_,h4,(zRD (a.trans m)).trans s4⟩;simp(maxSteps:=999999)(disch:=omega) only[f113,zEU,eZ,J,b1,o.b6.ld,x u,j,jN,nth,C,b2,K,l3,N,ne_eq,yC,decide_true,y.b10.ld,x T,hb,e4]
theorem zLo (D:Dyn)(n:Nat)(t:A.ok)(h:PDx N1 X6 X10 M6 M10 L F A)(p:Ptr):
  ∃H',f114 D n [.agg (jS p), .ptr X10 0] A=some (.bool (decide (p∈F)),H')/\PDx N1 X6 X10 M6 M10 L F H'/\Prs A H':=by
 obtain⟨u,K,b1,a,N,m1,n1⟩:=box t (.cells (jS p) 42 1 false);have C:bxV 42 (.agg (jS p))=some (.cells (jS p) 42 1 false,fun H=> .ptr H 0):=rfl;have j:=h.prs t a;obtain⟨O,S,b2,m,T,m2,n2⟩:=box a.ok (.cells [] 227 1 false);have z:bxV 227 (.agg [])=some (.cells [] 227 1 false,fun H=> .ptr H 0):=rfl;have a0:=a.next;have N2:=m.next
 have Y:ldN 3 (.ptr K 0) u=some (kP p):=by rw[jR N];rfl
 obtain⟨es,Z,f⟩:=j.b;have q:=zI6 Z (.agg []) p;have x:(kZ (kP p) es).getD (.agg [])= .agg []/\(kZ (kP p) es).isSome=decide (p∈F):=by
  rw[f p];by_cases hp:p∈F<;>simp[hp]
 rw[x.1,x.2]at q;obtain⟨o,e3,g3,s3,n3⟩:=jV m.ok T (l':=[]) rfl rfl;have J:stN 0 (.ptr S 0) (.agg []) O=some (jQ,o):=e3;have y:Prs u o:=m.fresh s3 fun B hB=>by omega
 refine⟨o, ?_,j.prs a.ok y,a.trans y⟩;simp(maxSteps:=999999)(disch:=omega) only[f114,eZ,C,b1,j.b10.ld,Y,q,jN,nth,z,b2,J]
end
def lpF (X6:Nat):ALoop:=⟨.ready,none,65,0,[6],[.ptr X6 0]⟩
def zH1 (s:List (Ptr×Nd.Node))(x:Ptr×Nd.Node):Bool×List (Ptr×Nd.Node):=(true,s++[x])
theorem zMy: ∀(l a:List (Ptr×Nd.Node)),d6 zH1 l a=a++l
 | [],a=>by simp[d6]
 | x::l,a=>by
  show d6 zH1 l (a++[x])=_;rw[zMy l,qC];rfl
structure IF (N0 A1 X6 M6:Nat)(b:Nat)(x:Bool×List (Ptr×Nd.Node))(H:AH)(W:Nat->Prop):Prop where
 ok:H.ok
 gA:H.h.get A1=some (.loop (lpF X6))
 bx:Box H X6 (.map M6)
 f:FM H M6 x.2
 w: ∀B,W B↔(B=A1\/B=X6\/B=M6)
 lo:N0<=A1/\N0<=X6/\N0<=M6
theorem zLF (m:Nat)(a:A.h.get v=some (.loop (lpF p)))(az:List AV):(dy (m+1)).yld v az A=zHr (dy m) m v (lpF p) az A:=by
 show YP (tabR (dy m) m) v az A=_;simp only[YP,a];rfl
theorem zAp {l:ALoop}(g:A.h.get v=some (.loop l)):NR A v:=fun _ _ _ _ h=>by rw[g]at h;cases h
theorem zQb {ks:List Nat}(g:A.h.get v=some (.map ks c)):NR A v:=fun _ _ _ _ h=>by rw[g]at h;cases h
theorem zIy {b:Nat}(m:Nat)(hi:IF v p B D (b+1) (true,l) A h)(he:encN A h g I):
  ∃H' W',(dy (m+1)).yld p I A=some (.bool (zH1 l g).1,H')/\IF v p B D b (zH1 l g) H' W'/\Adw h A W' H':=by
 obtain⟨t,z,N,hf,O,a6⟩:=hi;obtain⟨w,rfl,S,_⟩:=he;obtain⟨N0,nd⟩:=g;simp only at hf S⊢;obtain⟨ks,vs,ps,rfl,w1,w2,w3⟩:=id S;rw[zLF m z];have lA:=t.lt z;have lx:=N.lt t;obtain⟨b4,T,_⟩:=id hf;have lM:=t.lt T;have nA:p≠B:=zOY z N;have a0:p≠D:=fun e=>by rw[<-e,z]at T;cases T
 have a7:B≠D:=fun e=>by obtain⟨_,gx⟩:=N;rw[e,T]at gx;cases gx
 obtain⟨H1,A8,b1,p1,g1,m1,n1⟩:=box t (.cells [.int .i64 (0:Nat), .int .i64 (0:Nat), .int .u64 (0:Nat)] 42 1 false);obtain⟨H2,e2,g2,s2,n2⟩:=jV p1.ok g1 (l':=jS N0) rfl rfl;have a8:stN 3 (.ptr A8 0) (.agg (jS N0)) H1=some (jQ,H2):=e2;obtain⟨H3,A9,b3,Y,g3,m3,n3⟩:=box s2.ok (.cells [.bool false, .nS, .nS, .nS] 119 1 false);obtain⟨o,e4,g4,C,n4⟩:=jV Y.ok g3 (l':=[.bool nd.leaf,ks,vs,ps]) rfl (by simp[jP,w1.isCell,w2.isCell,w3.isCell];rfl);have a9:stN 4 (.ptr A9 0) (.agg [.bool nd.leaf,ks,vs,ps]) H3=some (jQ,o):=e4;have N1:=p1.next;have N2:=s2.next;have N3:=Y.next;have N4:=C.next
 have q:Prs A o:=((p1.fresh s2 fun A1 f=>by omega).trans Y).fresh C fun A1 f=>by omega
 have J:=zRB q t z;have a1: ∀K:AH->Rs,uV p o K=K (o.put p (.loop { lpF B with state:= .busy})):=fun K=>by
  simp only[uV,J,lpF,kR]
 have j:Stp (fun A1=>A1=p) o (o.put p (.loop { lpF B with state:= .busy})):=(zRx C.ok).put (C.ok.lt J) _ (.inr rfl);have g5:(o.put p (.loop { lpF B with state:= .busy})).h.get p=some (.loop { lpF B with state:= .busy}):=by rw[zRt,if_pos rfl]
 generalize o.put p (.loop { lpF B with state:= .busy})=H5 at j g5 a1;have N5:=j.next
 have a2:Box H5 B (.map D):=(N.mono t q fun x=>x).mono q.ok j (fun e=>nA e.symm);have f5:FM H5 D l:=(hf.prs t q).stp q.ok j (fun e=>a0 e.symm) fun A1 f=>by subst f;exact zAp J
 have b0:kB H5 (.agg [.bool nd.leaf,ks,vs,ps]) nd:=(S.prs q).stp j fun A1 f e=>by subst e;exact(zAp J).node (S.prs q) f
 have q8:H5.h.get A8=some (.cells (jS N0) 42 1 false):=by rw[j.keep _ (by omega) (by omega),C.keep _ (by omega) (by omega),Y.keep _ (by omega) (fun x=>x)];exact g2
 have q9:H5.h.get A9=some (.cells [.bool nd.leaf,ks,vs,ps] 119 1 false):=by rw[j.keep _ (by omega) (by omega)];exact g4
 have r8:ldN 3 (.ptr A8 0) H5=some (kP N0):=by rw[jR q8];rfl
 have r9:ldN 4 (.ptr A9 0) H5=some (.agg [.bool nd.leaf,ks,vs,ps]):=gP q9 rfl;obtain⟨y,e6,f6,u,n6⟩:=f5.up j.ok N0 b0;have g6:y.h.get p=some (.loop { lpF B with state:= .busy}):=by rw[u.keep _ (by omega) a0];exact g5
 have Z:Stp (fun A1=>A1=p) y (y.put p (.loop (lpF B))):=(zRx u.ok).put (u.ok.lt g6) _ (.inr rfl);have a3:KG p none y=some (.bool true,y.put p (.loop (lpF B))):=by simp only[KG,g6,kR,lpF]
 have hl:Y4 [6] (lpF B).live=true:=rfl;have a4:(lpF B).vals=[.ptr B 0]:=rfl;have b2:bxV 42 (.agg [.int .i64 (0:Nat), .int .i64 (0:Nat), .int .u64 (0:Nat)])=some (.cells [.int .i64 (0:Nat), .int .i64 (0:Nat), .int .u64 (0:Nat)] 42 1 false,fun X6=> .ptr X6 0):=rfl;have a5:bxV 119 (.agg [.bool false, .nS, .nS, .nS])=some (.cells [.bool false, .nS, .nS, .nS] 119 1 false,fun X6=> .ptr X6 0):=rfl;refine⟨y.put p (.loop (lpF B)),h, ?_,⟨Z.ok,by rw[zRt,if_pos rfl],(a2.mono j.ok u a7).mono u.ok Z (fun e=>nA e.symm),f6.stp u.ok Z (fun e=>a0 e.symm) (fun A1 f=>by subst f;exact zAp g6),O,a6⟩,⟨(((zRD q).trans (j.mono fun A1 _ f=>(O A1).2 (.inl f))).trans (u.mono fun A1 _ f=>(O A1).2 (.inr (.inr f)))).trans (Z.mono fun A1 _ f=>(O A1).2 (.inl f)),fun A1 f=> .inl f⟩⟩;simp(maxSteps:=999999)(disch:=omega) only[zHr,eZ,hl,a4,zO,b2,b1,a8,a5,b3,a9,a1,a2.ld,r8,r9,e6];exact a3
theorem zIz (N0 A1 X6 M6:Nat):CnsX A1 0 N0 zH1 (IF N0 A1 X6 M6) where
 ok:=fun h=>h.ok
 lt:=fun {b x H W} h B a=>by
  obtain⟨es,j,_⟩:=h.f;rcases(h.w B).1 a with e | e | e
  .subst e;exact⟨h.ok.lt h.gA,h.lo.1⟩
  .subst e;exact⟨h.bx.lt h.ok,h.lo.2.1⟩
  .subst e;exact⟨h.ok.lt j,h.lo.2.2⟩
 mono:=fun h hb=>⟨h.ok,h.gA,h.bx,h.f,h.w,h.lo⟩
 frame:=fun {b x H H' W S} h s o hR=>by
  have n: ∀ {B:Nat},(B=A1\/B=X6\/B=M6)-> ¬S B:=fun p q=>o _ q ((h.w _).2 p)
  exact⟨s.ok,by rw[s.keep _ (h.ok.lt h.gA) (n (.inl rfl))];exact h.gA,h.bx.mono h.ok s (n (.inr (.inl rfl))),h.f.stp h.ok s (n (.inr (.inr rfl))) hR,h.w,h.lo⟩
 run:=fun m _ hi t=>zIy m hi t
section
variable {At N0 N1 k X6 X10 M6 M10:Nat}{root:Ptr}{Q:Ptr->Option Nd.Node}{G:AH->(Nat->Prop)->Prop}{L:List (Ptr×Nd.Node)}{F:List Ptr}
theorem zNZ (r:Rdr At N0 k root Q G)(h: ∀ {H W},G H W-> ∀B,¬W B):Pss N0 (.func 106 [] []) .nM Q (fun _:Unit=>G) (fun s _=>(false,s)) where
 nr:=fun g B a=>(h g B a).elim
 pass:=fun {s H W} m n p g=>by
  obtain⟨H',e,f⟩:=zP5 m n (r.ok g) p;exact⟨H',W,e,r.prs g f,⟨zRD f,fun B a=> .inl a⟩⟩
 known:=fun _ _=> .inr rfl
theorem zNY (r:Rdr At N0 k root Q G)(o:N0<=M10):Pss N1 (.func 113 [] [.ptr X6 0, .ptr X10 0]) .nM Q (fun s=>GX G (PDx N1 X6 X10 M6 M10 L s) (fun B=>B=M10)) (pbA L) where
 nr:=fun⟨_,h2,h3⟩ B a=>by
  obtain⟨es,g,_⟩:=h2.b;rw[(h3 B).1 a];exact zQb g
 pass:=fun {s H W} m n p ⟨f,h2,h3⟩=>by
  obtain⟨H',e,j,h⟩:=zLp (dy m) m (r.ok f) h2 p;exact⟨H',W,e,⟨r.frame f h fun B a=>⟨by omega,fun x=>x⟩,j,h3⟩,⟨h.mono fun B _ a=>(h3 B).2 a,fun B a=> .inl a⟩⟩
 known:=fun _ _=> .inr rfl
theorem zNX (r:Rdr At N0 k root Q G)(hL: ∀x∈L,Q x.1=some x.2):Pss N1 (.func 114 [] [.ptr X10 0]) (.map M6) Q (fun _:Unit=>GX G (PDx N1 X6 X10 M6 M10 L F) (fun _=>False)) (pbB F) where
 nr:=fun⟨_,_,h3⟩ B a=>((h3 B).1 a).elim
 pass:=fun {s H W} m n p ⟨j,h2,h3⟩=>by
  obtain⟨H',e,q,o⟩:=zLo (dy m) m (r.ok j) h2 p;exact⟨H',W,e,⟨r.prs j o,q,h3⟩,⟨zRD o,fun B a=> .inl a⟩⟩
 known:=fun {s H W p nd} ⟨j,h2,h3⟩ hq=>by
  obtain⟨C,es,t,f⟩:=h2.f;have h:=zI6 t zNd p
  cases hl:hJ p L with
  | none=>rw[(f p).2 hl]at h;exact .inr h
  | some nd'=>
   obtain⟨v,u,y,z⟩:=(f p).1 nd' hl;have:=hL _ ((zBT p L).1 nd' hl);simp only at this;rw[hq]at this;obtain rfl:=qT this;rw[u]at h;exact .inl ⟨v,h,y,fun B a=>⟨z B a,fun w=>((h3 B).1 w).elim⟩⟩
theorem zMj (r:Rdr At N0 k root Q G)(j:N0<=N1)(m: ∀ {H W},G H W-> ∀B,¬W B)(o: ∀B,h B->B=M10):Rdr At N1 k root Q (GX G (PDx N1 X6 X10 M6 M10 L F) h):=
 rdr_x r j m (fun a f B p=>by rw[o B p];exact f.lt a) fun a f s q=>f.stp a s q
end
open Go.Nd (Str)
def lpU (a:Nat):ALoop:=⟨.ready,none,112,0,[9],[.ptr a 0]⟩
structure IU (N0 A1 Bl:Nat)(b:Nat)(x:Bool×Kvs)(H:AH)(W:Nat->Prop):Prop where
 ok:H.ok
 gA:H.h.get A1=some (.loop (lpU Bl))
 bl: ∃v,Box H Bl v/\wB 2 48 H v x.2.length (x.2.flatMap prV)/\ ¬Blk v A1/\ ¬Blk v Bl/\(∀B,Blk v B->N0<=B)/\ ∀B,W B↔((B=A1\/B=Bl)\/Blk v B)
 lo:N0<=A1/\N0<=Bl
 few:x.2.length+b<=900000000
theorem zJx (m:Nat)(f:A.h.get v=some (.loop (lpU p)))(az:List AV):(dy (m+1)).yld v az A=zBz (dy m) m v (lpU p) az A:=by
 show YP (tabR (dy m) m) v az A=_;simp only[YP,f];rfl
theorem zKb {a:Str×Str}(m:Nat)(hi:IU v p B (D+1) (true,n) A h)(he:encP A h a I):
  ∃H' W',(dy (m+1)).yld p I A=some (.bool (K0 n a).1,H')/\IU v p B D (K0 n a) H' W'/\Adw h A W' H':=by
 obtain⟨z,N,⟨N0,bl,gv,O,v3,v5,u⟩,a8,hf⟩:=hi;obtain rfl:I=[.agg [S a.1,S a.2]]:=he;simp only at gv hf;rw[zJx m N];have lA:=z.lt N;have ll:=bl.lt z;have nA:p≠B:=zOY N bl;obtain⟨H1,a0,b1,p1,g1,m1,n1⟩:=box z (.cells [S [],S []] 48 1 false);obtain⟨o,e2,g2,T,n2⟩:=jV p1.ok g1 (l':=[S a.1,S a.2]) rfl rfl;have a9:stN 2 (.ptr a0 0) (.agg [S a.1,S a.2]) H1=some (jQ,o):=e2;have C:Prs A o:=p1.fresh T fun j f=>by omega
 have N1:=p1.next;have N2:=T.next
 have a2:=zRB C z N;have a1: ∀K:AH->Rs,uV p o K=K (o.put p (.loop { lpU B with state:= .busy})):=fun K=>by
  simp only[uV,a2,lpU,kR]
 have A1:Stp (fun j=>j=p) o (o.put p (.loop { lpU B with state:= .busy})):=(zRx T.ok).put (T.ok.lt a2) _ (.inr rfl);have g3:(o.put p (.loop { lpU B with state:= .busy})).h.get p=some (.loop { lpU B with state:= .busy}):=by rw[zRt,if_pos rfl]
 generalize o.put p (.loop { lpU B with state:= .busy})=H3 at A1 g3 a1;have N3:=A1.next
 have a3:Box H3 B N0:=(bl.mono z C fun x=>x).mono C.ok A1 (fun e=>nA e.symm);have b0:wB 2 48 H3 N0 n.length (n.flatMap prV):=(gv.mono C (fun _ _ x=>x)).mono A1 fun j f e=>O (e▸f)
 have q3:H3.h.get a0=some (.cells [S a.1,S a.2] 48 1 false):=by rw[A1.keep _ (by omega) (by omega)];exact g2
 have hl:Y4 [9] (lpU B).live=true:=rfl;have a5:(lpU B).vals=[.ptr B 0]:=rfl;have hS:(AV.str 0 0)=S []:=rfl;have b2:bxV 48 (.agg [S [],S []])=some (.cells [S [],S []] 48 1 false,fun b=> .ptr b 0):=rfl;obtain⟨H4,b3,b4,q,g4,m4,n4⟩:=box A1.ok (.cells [S a.1,S a.2] 48 2 false);have a6:srcOf 2 (.slice b3 0 1 2) H4=some (1,[S a.1,S a.2]):=by simp only[srcOf,g4];rfl
 obtain⟨Y,H5,e5,a4,J,f5⟩:=(b0.mono q (fun _ _ x=>x)).app (bytes:=32) (m:=1) (new:=[S a.1,S a.2]) q.ok (by decide) a6 rfl rfl (by omega) (by decide);have N4:=q.next;have N5:=J.next
 have b5:Box H5 B N0:=(a3.mono A1.ok q fun x=>x).mono q.ok J v3;obtain⟨y,e6,b6,t⟩:=b5.st J.ok (x:=Y) a4.isCell;have N6:=t.next
 have g6:y.h.get p=some (.loop { lpU B with state:= .busy}):=by rw[t.keep _ (by omega) nA,J.keep _ (by omega) O,q.keep _ (by omega) (fun x=>x)];exact g3
 have Z:Stp (fun j=>j=p) y (y.put p (.loop (lpU B))):=(zRx t.ok).put (t.ok.lt g6) _ (.inr rfl);have a7:KG p none y=some (.bool true,y.put p (.loop (lpU B))):=by simp only[KG,g6,kR,lpU]
 have nb: ∀ {j:Nat},¬Blk N0 j->j<A.next-> ¬Blk Y j:=fun h1 h2 f=>by
  rcases f5 _ f with e | e
  .exact h1 e
  .omega
 have fl:(n++[a]).flatMap prV=n.flatMap prV++[S a.1,S a.2]:=by simp[yY,prV]
 refine⟨y.put p (.loop (lpU B)),fun j=>(j=p\/j=B)\/Blk Y j, ?_,⟨Z.ok,by rw[zRt,if_pos rfl],⟨Y,b6.mono t.ok Z (fun e=>nA e.symm), ?_,nb O lA,nb v3 ll,fun j f=> ?_,fun j=>Iff.rfl⟩,a8,by simp only[K0,zV,yX];omega⟩,⟨?_,fun j f=> ?_⟩⟩
 .have b7:ldN 2 (.ptr a0 0) H3=some (.agg [S a.1,S a.2]):=by rw[jR q3];rfl
  have b8:aU 48 2 1 [S [],S []] [(0, .agg [S a.1,S a.2])]=some (.cells [S a.1,S a.2] 48 2 false,fun b=> .slice b 0 1 2):=rfl;simp(maxSteps:=999999)(disch:=omega) only[zBz,eZ,hl,a5,zO,hS,b2,b1,a9,a1,a3.ld,b7,b8,b4,e5,e6];exact a7
 .simp only[K0,fl,zV,yX];exact(a4.mono t fun j f e=>nb v3 ll (e▸f)).mono Z fun j f e=>nb O lA (e▸f)
 .rcases f5 j f with e | e
  .exact v5 j e
  .omega
 .exact(((((zRD C).trans (A1.mono fun j _ f=>(u j).2 (.inl (.inl f)))).trans q.stp).trans (J.mono fun j _ f=>(u j).2 (.inr f))).trans (t.mono fun j _ f=>(u j).2 (.inl (.inr f)))).trans (Z.mono fun j _ f=>(u j).2 (.inl (.inl f)))
 .rcases f with e | e
  .exact .inl ((u j).2 (.inl e))
  .rcases f5 j e with e | e
   .exact .inl ((u j).2 (.inr e))
   .exact .inr (by omega)
theorem zKc (N0 A1 t:Nat):Cns A1 0 N0 encP K0 (IU N0 A1 t) where
 ok:=fun h=>h.ok
 lt:=fun {b x H W} h B f=>by
  obtain⟨v,j,o,u,y,p,a⟩:=h.bl;rcases(a B).1 f with(e | e) | e
  .subst e;exact⟨h.ok.lt h.gA,h.lo.1⟩
  .subst e;exact⟨j.lt h.ok,h.lo.2⟩
  .exact⟨o.lt e,p B e⟩
 mono:=fun h hb=>⟨h.ok,h.gA,h.bl,h.lo,by have:=h.few;omega⟩
 frame:=fun {b x H H' W S} h s z=>by
  obtain⟨v,j,o,u,y,p,a⟩:=h.bl;have n: ∀ {B:Nat},(B=A1\/B=t)-> ¬S B:=fun C q=>z _ q ((a _).2 (.inl C))
  exact⟨s.ok,by rw[s.keep _ (h.ok.lt h.gA) (n (.inl rfl))];exact h.gA,⟨v,j.mono h.ok s (n (.inr rfl)),o.mono s fun B f q=>z B q ((a B).2 (.inr f)),u,y,p,a⟩,h.lo,h.few⟩
 run:=fun m _ hi J=>zKb m hi J
section
variable {π:Type}{At N0 k:Nat}{pv kv:AV}{root:Ptr}{Q:Ptr->Option Nd.Node}{GG:π->AH->(Nat->Prop)->Prop}{pb:π->Ptr->Bool×π}
variable (rr: ∀s,Rdr At N0 k root Q (GG s))(ps:Pss N0 pv kv Q GG pb)
include rr ps
set_option maxRecDepth 100000 in
theorem WC (m:Nat)(hm:700000000<=m){s s':π}{H:AH}{Wg:Nat->Prop}(a6:jU pv=[pv])(b8:Eng.isCell kv=true)(Z:GG s H Wg)(d6:N0<=H.next)(hL:zRh Q pb root s l s')(hl:l.length<=8192+k)(d7:k<=1000000):
  ∃H' J v,f112 (dy (m+1)) (m+1) [.ptr At 0,kv,pv] H=some (.tuple [v, .int .i64 (0:Nat)],H')/\GG s' H' J/\Stp Wg H H'/\(∀B,J B->Wg B\/H.next<=B)/\
   wB 2 48 H' v (l.flatMap (gQ [])).length ((l.flatMap (gQ [])).flatMap prV)/\ ∀B,Blk v B->H.next<=B:=by
 have r:=rr s;have r':=rr s';have hk:=r.ok Z;obtain⟨left,d5⟩: ∃left,left=8192+k:=⟨_,rfl⟩;have ed:=r.dirty (dy (m+1)) (m+1) Z;obtain⟨H2,Aw,b2,p2,g2,m2,n2⟩:=box hk (.cells [.ptr At 0, .nM, .int .i64 ((left:Nat):Int), .int .i64 (0:Nat)] 215 1 false);obtain⟨H3,e3,g3,s3⟩:=zPW p2.ok g2 (o:=1) (x:=kv) b8 (by simp);have b9:H3.h.get Aw=some (.cells [.ptr At 0,kv, .int .i64 ((left:Nat):Int), .int .i64 (0:Nat)] 215 1 false):=g3;obtain⟨H5,j,b4,O,g4,m4,n4⟩:=box s3.ok (.cells [.nS] 37 1 false);obtain⟨H6,X4,c4,p6,g6,m6,n6⟩:=box O.ok (.cells [.ptr Aw 0] 207 1 false);obtain⟨H7,X5,c5,T,g7,m7,n7⟩:=box p6.ok (.cells [S []] 9 1 false);obtain⟨H8,X6,c6,C,g8,m8,n8⟩:=box T.ok (.cells [S []] 9 1 false);obtain⟨p,X7,c7,t,g9,m9,n9⟩:=box C.ok (.cells [pv] 212 1 false);have N2:=p2.next;have N3:=s3.next;have N4:=O.next;have N6:=p6.next;have N7:=T.next;have N8:=C.next;have N9:=t.next
 have q:Prs p (p.push (.loop (lpU j))):=(zRx t.ok).push _;have a3:(p.push (.loop (lpU j))).h.get p.next=some (.loop (lpU j)):=zRp _ _
 have a0: ∀K:Nat->AH->Rs,VN p (.loop ⟨.ready,none,112,0,[9],[.ptr j 0]⟩) K=K p.next (p.push (.loop (lpU j))):=fun K=>X3 t.ok _ K
 have c0:(p.push (.loop (lpU j))).next=p.next+1:=rfl
 generalize p.push (.loop (lpU j))=H10 at q a3 a0 c0;obtain⟨A1,c1⟩: ∃A1,A1=p.next:=⟨_,rfl⟩
 rw[<-c1]at a3 a0;have d8:=q.next
 have a1:Prs H5 H10:=(((p6.trans T).trans C).trans t).trans q;have P3:Prs H H3:=p2.fresh s3 fun B f=>by omega
 have a7:Prs H H10:=(P3.trans O).trans a1;have b0:=zRB (O.trans a1) s3.ok b9;have b1:Box H10 j .nS:=⟨_,zRB a1 O.ok g4⟩;have N: ∀B,Wg B->B<H.next:=fun B f=>r.lt Z B f
 have Y: ∀B,¬Blk .nS B:=fun B f=>zRC.1 f
 have c2:IU N0 A1 j (500*left) (true,[]) H10 (fun B=>B=A1\/B=j):=⟨q.ok,a3,⟨.nS,b1, .inl (zRF ..),Y _,Y _,fun B f=>(Y B f).elim,fun B=>⟨fun h=> .inl h,fun h=>h.elim id fun h=>(Y B h).elim⟩⟩,by omega,by simp;omega⟩;obtain⟨u,J,d9,bo,left',c3,c8,c9,y,a4,a8,a9,d0⟩:=zFN rr ps (zKc N0 A1 j) m (by omega) (Xw:=X4) (Xf:=X5) (Xt:=X6) (Xp:=X7) (fun _ _=>rfl) a6 (r.prs Z a7) c2 b0 (by omega) (fun w=>by have:=N _ w;omega) (fun w=>by rcases w with w | w<;>omega) (fun B f w=>by have:=N _ w;rcases f with w | w<;>omega) hL (by omega) (by omega)
  ⟨_,zRB (((T.trans C).trans t).trans q) p6.ok g6⟩ ⟨_,zRB ((C.trans t).trans q) T.ok g7⟩ ⟨_,zRB (t.trans q) C.ok g8⟩ ⟨_,zRB q t.ok g9⟩ ⟨by omega,by omega,fun w=>by rcases w with w | w<;>omega,fun w=>by rcases w with w | w<;>omega,fun w=>by have:=N _ w;omega,fun w=>by have:=N _ w;omega⟩
 rw[US,qW]at y;have e0:=a8.next
 have a2:=y.gA;obtain⟨v,a5,gv,v1,v3,v5,hW⟩:=y.bl;simp only at gv;have z:Stp (fun B=>B=A1) u (u.put A1 .dead):=(zRx y.ok).put (y.ok.lt a2) _ (.inr rfl);have b3: ∀K:Option Code->AH->Rs,fU A1 u K=K (lpU j).pending (u.put A1 .dead):=fun K=>by
  simp only[fU,a2,lpU,kR]
 have d1: ¬J A1:=fun w=>by
  rcases a9 _ w with w | w
  .have:=N _ w;omega
  .omega
 have b5:=a5.mono y.ok z (fun e=>zOY a2 a5 e.symm);have b6:(u.put A1 .dead).h.get Aw=some (.cells [.ptr At 0,kv, .int .i64 left', .int .i64 (0:Nat)] c3 1 false):=by rw[z.keep _ (y.ok.lt a4) (by omega)];exact a4
 refine⟨u.put A1 .dead,J,v, ?_,r'.frame c9 z (fun B f=>by subst f;exact⟨by omega,d1⟩), ?_,fun B f=>(a9 B f).imp id fun e=>by omega,gv.mono z fun B f e=>v1 (e▸f),fun B f=> ?_⟩
 .have d2:rfC [(104,f104 (dy (m+1)) (m+1)),(105,f105 (dy (m+1)) (m+1))] (dy (m+1)) (.func 164 [] [.ptr X4 0, .ptr X5 0, .ptr X6 0, .ptr X7 0]) A1 H10=some (.tuple [],u):=c8;have x1:jU (.ptr Aw 0)=[.ptr Aw 0]:=rfl;have x2: ∀a,jU (S a)=[S a]:=fun _=>rfl
  have x5:jU .nS=[.nS]:=rfl;have hS:(AV.str 0 0)=S []:=rfl;have hf:f105 (dy (m+1)) (m+1) [.ptr Aw 0,S [],S [],pv] H5=some (.func 164 [] [.ptr X4 0, .ptr X5 0, .ptr X6 0, .ptr X7 0],p):=by
   simp only[f105,eZ,x1,x2,a6,c4,c5,c6,c7]
  have b7:((8192:Nat):Int)+(k:Int)=((left:Nat):Int):=by omega
  have d3:uB [(0,1),(1,1),(2,1),(3,1)] [.nP, .nM, .int .i64 (0:Nat), .int .i64 (0:Nat)] [(0, .ptr At 0),(2, .int .i64 ((left:Nat):Int))]=some (.agg [.ptr At 0, .nM, .int .i64 ((left:Nat):Int), .int .i64 (0:Nat)]):=rfl;have d4:f104 (dy (m+1)) (m+1) [.ptr At 0] H=some (.ptr Aw 0,H2):=by
   simp(maxSteps:=999999)(disch:=omega) only[f104,eZ,ed,b7,d3,b2]
  simp(maxSteps:=999999)(disch:=omega) only[f112,eZ,cq,d4,e3,x5,b4,hS,hf,a0,d2,b3,lpU,zEC,jM b6,b5.ld]
 .refine⟨z.ok,by have:=z.next;omega,fun B f hS=> ?_⟩
  rw[z.keep B (by omega) (by omega),a8.keep B (by omega) (fun w=> ?_),a7.keep B f fun x=>x];rcases w with w | (w | w) | w | w | w
  .exact hS w
  all_goals omega
 .rcases d0 B ((hW B).2 (.inr f))with(e | e) | e<;>omega
end
open Go.Nd (Srt)
theorem Tl.grow {v:AV}(h:wB 2 p A v n.length (n.flatMap prV))(f:A.ok):Tl A v n:=by
 have hr:=wB.row h;rcases h with h | ⟨_,_,_,_,_,_,_,j⟩
 .exact Tl.own h rfl f
 .have:n=[]:=zW j;subst this;exact .inl ⟨rfl,hr⟩
theorem zEj (L:List (Ptr×Nd.Node)): ∀(l s:List Ptr),(∀p∈l,((hJ p L).isSome&&decide (p.at_≠1))=true)->l.foldl (fun s p=>(pbA L s p).2) s=s++l
 | [],s,_=>by simp
 | p::l,s,h=>by
  have a:(pbA L s p).2=s++[p]:=by simp only[pbA,h p (zJ ..),zO]
  rw[List.foldl_cons,a,zEj L l _ fun q f=>h q (zC _ f),qC];rfl
section
variable {At0 At1 Nt:Nat}{root0 root1:Ptr}{E:Ev}{q0 q1:PN}{kv0 kv1:Kvs}{T0 T1:List Ptr}{G0 G1:AH->(Nat->Prop)->Prop}
set_option maxRecDepth 100000 in
theorem zLn (r0:Rdr At0 Nt q0.length root0 (Qf E q0 []) G0)(r1:Rdr At1 Nt q1.length root1 (Qf E q1 []) G1)(e0: ∀ {H W},G0 H W-> ∀B,¬W B)(e1: ∀ {H W},G1 H W-> ∀B,¬W B)
  (R0:vF E q0 root0 kv0 T0) (R1:vF E q1 root1 kv1 T1) (k0:kv0.length<=400000) (k1:kv1.length<=400000) (s0:Srt kv0) (s1:Srt kv1) (nd:T1.Nodup) (l0:q0.length<=1000000) (l1:q1.length<=1000000)
  (hs: ∀q:Ptr,q.at_≠1-> ∀k T k' T',zM4 (Qf E q0 []) q k T->zM4 (Qf E q1 []) q k' T'->k=k'/\T=T')
  (m:Nat) (hm:700000000<=m) {H:AH} (a0:G0 H (fun _=>False)) (e2:G1 H (fun _=>False)) (i3:Nt<=H.next):
  ∃H' v,f65 (dy (m+1)) (m+1) [.ptr At0 0, .ptr At1 0] H=some (.tuple [v, .int .i64 (0:Nat)],H')/\Cacc H H' v (Bt.chg kv0 kv1):=by
 have hk:=r0.ok a0;obtain⟨j,e4,i4,e5,e6⟩:=zNh R0 (by omega);obtain⟨left,i1⟩: ∃left,left=8192+q0.length:=⟨_,rfl⟩;obtain⟨H1,M6,b1,p1,g1,m1,n1⟩:=box hk (.map (1::[6,6,10]) []);obtain⟨H2,X6,b2,p2,g2,m2,n2⟩:=box p1.ok (.cells [.nM] 213 1 false);obtain⟨H3,e3,b3,s3⟩:=(show Box H2 X6 .nM from⟨_,g2⟩).st p2.ok (x:= .map M6) rfl;have P3:Prs H1 H3:=p2.fresh s3 fun B o=>by omega
 have Q3:=p1.trans P3;have ed:=r0.dirty (dy (m+1)) (m+1) (r0.prs a0 Q3);obtain⟨H4,Aw,b4,p4,g4,m4,n4⟩:=box s3.ok (.cells [.ptr At0 0, .nM, .int .i64 ((left:Nat):Int), .int .i64 (0:Nat)] 215 1 false);obtain⟨H6,X4,c4,p6,g6,m6,n6⟩:=box p4.ok (.cells [.ptr Aw 0] 207 1 false);obtain⟨H7,X5,c5,p7,g7,m7,n7⟩:=box p6.ok (.cells [S []] 9 1 false);obtain⟨H8,Xt,c6,Y,g8,m8,n8⟩:=box p7.ok (.cells [S []] 9 1 false);obtain⟨u,X7,c7,J,g9,m9,n9⟩:=box Y.ok (.cells [.func 106 [] []] 212 1 false);have N1:=p1.next;have N2:=p2.next;have N3:=s3.next;have N4:=p4.next;have N6:=p6.next;have N7:=p7.next;have N8:=Y.next;have N9:=J.next
 have z:Prs u (u.push (.loop (lpF X6))):=(zRx J.ok).push _;have a8:(u.push (.loop (lpF X6))).h.get u.next=some (.loop (lpF X6)):=zRp _ _
 have a4: ∀K:Nat->AH->Rs,VN u (.loop ⟨.ready,none,65,0,[6],[.ptr X6 0]⟩) K=K u.next (u.push (.loop (lpF X6))):=fun K=>X3 J.ok _ K
 have e7:(u.push (.loop (lpF X6))).next=u.next+1:=rfl
 generalize u.push (.loop (lpF X6))=H10 at z a8 a4 e7;obtain⟨A1,e8⟩: ∃A1,A1=u.next:=⟨_,rfl⟩
 rw[<-e8]at a8 a4;have i5:=z.next
 have a5:Prs H3 H10:=((((p4.trans p6).trans p7).trans Y).trans J).trans z;have d1:Prs H H10:=Q3.trans a5;have d5:H10.h.get M6=some (.map (1::[6,6,10]) []):=zRB (P3.trans a5) p1.ok g1;have e9:IF Nt A1 X6 M6 left (true,[]) H10 (fun B=>B=A1\/B=X6\/B=M6):=⟨z.ok,a8,b3.mono s3.ok a5 fun x=>x,FM.new d5,fun B=>Iff.rfl,by omega,by omega,by omega⟩;have wk:Wp Nt At0 Aw .nM G0 (IF Nt A1 X6 M6) H10 (fun _=>False) (fun B=>B=A1\/B=X6\/B=M6) left left (true,[]):=⟨r0.prs a0 d1,e9,⟨_,zRB ((((p6.trans p7).trans Y).trans J).trans z) p4.ok g4⟩,by omega,fun w=>w,fun w=>by rcases w with w | w | w<;>omega,fun B _ w=>w,fun B w=>w.elim⟩;obtain⟨t,i6,i7,left',f1,c0,d2⟩:=UN (fun _=>r0) (zNZ r0 e0) (zIz Nt A1 X6 M6) m (by omega) (fun _ _=>rfl) wk e4 (by omega) (by omega) (Xw:=X4) (Xt:=Xt) (Xf:=X5) (Xp:=X7)
  ⟨_,zRB (((p7.trans Y).trans J).trans z) p6.ok g6⟩ ⟨_,zRB (J.trans z) Y.ok g8⟩ ⟨_,zRB ((Y.trans J).trans z) p7.ok g7⟩ ⟨_,zRB z J.ok g9⟩
 have N:=c0.i;obtain⟨ek,c1⟩:=c0.w;have i8:=d2.s.next
 have a6:=N.gA;have y:Stp (fun B=>B=A1) t (t.put A1 .dead):=(zRx N.ok).put (N.ok.lt a6) _ (.inr rfl);have c2: ∀K:Option Code->AH->Rs,fU A1 t K=K (lpF X6).pending (t.put A1 .dead):=fun K=>by
  simp only[fU,a6,lpF,kR]
 have c3:(t.put A1 .dead).h.get Aw=some (.cells [.ptr At0 0, .nM, .int .i64 left', .int .i64 (0:Nat)] ek 1 false):=by rw[y.keep _ (N.ok.lt c1) (by omega)];exact c1
 have c8:Box (t.put A1 .dead) X6 (.map M6):=N.bx.mono N.ok y (by omega);have f12:FM (t.put A1 .dead) M6 j:=by
  have:=N.f.stp N.ok y (by omega) fun B o=>by subst o;exact zAp a6
  rw[zMy,qW]at this;exact this
 have a9:Prs H (t.put A1 .dead):=by
  refine⟨y.ok,by have:=y.next;omega,fun B o _=> ?_⟩
  rw[y.keep B (by omega) (by omega),d2.s.keep B (by omega) (fun w=> ?_),d1.keep B o fun x=>x];rcases w with w | (w | w | w) | w
  .exact w
  all_goals omega
 have d6:X6< (t.put A1 .dead).next/\M6< (t.put A1 .dead).next:=by have:=y.next;omega
 have f2:=a9.next
 generalize t.put A1 .dead=H12 at y c2 c3 c8 f12 a9 d6 f2;obtain⟨f3,M10,f4,a1,f5,i9,j0⟩:=box y.ok (.map (1::[6,6,10]) []);obtain⟨f6,X10,f7,b0,f8,j1,j2⟩:=box a1.ok (.cells [.nM] 223 1 false);obtain⟨C,f9,g0,b5⟩:=(show Box f6 X10 .nM from⟨_,f8⟩).st b0.ok (x:= .map M10) rfl;have d3:Prs f3 C:=b0.fresh b5 fun B o=>by omega
 have b7:Prs H12 C:=a1.trans d3;have j3:=a1.next;have j4:=b0.next;have j5:=b5.next
 have d7:=b5.ok;have pd:PDx C.next X6 X10 M6 M10 j [] C:=⟨by omega,by omega,by omega,by omega,c8.mono y.ok b7 fun x=>x,g0,(f12.prs y.ok b7).b d7 (zP _),BM.new (zRB d3 a1.ok f5)⟩
 have PH:=a9.trans b7;have g3:=zMb R1 (by omega) (pb:=pbA j) (d:=fun p=>(hJ p j).isSome&&decide (p.at_≠1)) (fun s p=>by
  simp only[pbA]
  cases(hJ p j).isSome&&decide (p.at_≠1)<;>rfl) (fun s p h=>by simp only[pbA,h,qH]) ([]:List Ptr)
 obtain⟨LB,O,v1,v2,v3,v4,v5,v6⟩:=g3;have hF:(xN O).foldl (fun s p=>(pbA j s p).2) []=xN O:=by
  rw[zEj j _ _ fun p hp=> ?_,qW];obtain⟨x,hx,g5,rfl⟩:=YX.1 hp;exact(v3.pass x hx g5).1
 rw[hF]at v1;obtain⟨b8,j6,vB,h0,h2,a2,j7,gB,fB⟩:=WC (π:=List Ptr) (pv:= .func 113 [] [.ptr X6 0, .ptr X10 0]) (kv:= .nM) (GG:=fun s=>GX G1 (PDx C.next X6 X10 M6 M10 j s) (fun B=>B=M10)) (pb:=pbA j)
  (fun s=>zMj (N1:=C.next) (X6:=X6) (X10:=X10) (M6:=M6) (M10:=M10) (L:=j) (F:=s) r1 (by omega) e1 (fun B o=>o)) (zNY r1 (by omega)) m (by omega) (s:=[]) (H:=C) (Wg:=fun B=>B=M10) rfl rfl ⟨r1.prs e2 PH,pd,fun B=>Iff.rfl⟩ (zP _) v1 (by omega) (by omega)
 obtain⟨_,c9,_⟩:=h2;have i2:=a2.ok;have j8:=a2.next
 have d8:G0 b8 (fun _=>False):=r0.frame (r0.prs a0 PH) a2 fun B o=>⟨by omega,fun x=>x⟩
 obtain⟨LA,PA,u1,u2,u3,u4,u5,u6⟩:=zMb R0 (by omega) (pb:=pbB (xN O)) (d:=fun p=>decide (p∈xN O)) (fun _ _=>rfl) (fun _ _ _=>rfl) ();obtain⟨b9,j9,vA,h3,k2,a3,k3,gA,fA⟩:=WC (π:=Unit) (pv:= .func 114 [] [.ptr X10 0]) (kv:= .map M6) (GG:=fun _=>GX G0 (PDx C.next X6 X10 M6 M10 j (xN O)) (fun _=>False)) (pb:=pbB (xN O))
  (fun _=>zMj (N1:=C.next) (X6:=X6) (X10:=X10) (M6:=M6) (M10:=M10) (L:=j) (F:=xN O) r0 (by omega) e0 (fun B o=>o.elim)) (zNX r0 e6) m (by omega) (s:=()) (H:=b8) (Wg:=fun _=>False) rfl rfl ⟨d8,c9,fun B=>Iff.rfl⟩ (by omega) u1 (by omega) (by omega)
 have a7:=a3.ok;have k4:=a3.next
 have h4:Prs b8 b9:=a3;have tB:Tl b9 vB (LB.flatMap (gQ [])):=Tl.grow (gB.mono h4 fun _ _ x=>x) a7;have tA:Tl b9 vA (LA.flatMap (gQ [])):=Tl.grow gA a7;have d0: ∀ {P:List Pc},(vL P).length<=(Q1 P).length:=fun {P} =>by
  induction P with
  | nil=>exact zP _
  | cons x P ih=>
   have x1:vL (x::P)=(bif x.told then x.kv else[])++vL P:=rfl;have x2:Q1 (x::P)=x.kv++Q1 P:=rfl;rw[x1,x2,zV,zV]
   cases x.told
   .simp only[qH,yF];omega
   .simp only[zO];omega
 have lB:=d0 (P:=O);have lA:=d0 (P:=PA);rw[v6,v4]at lB;rw[u6,u4]at lA;obtain⟨d4,v,h5,Z⟩:=zGC (dy (m+1)) (m+1) a7 tA tB (by omega) (by omega);have h6:Bt.chg (LA.flatMap (gQ [])) (LB.flatMap (gQ []))=Bt.chg kv0 kv1:=by
  have:=zKL (disk:=fun q=>decide (q.at_≠1)) u3 v3 (by rw[u4];exact s0) (by rw[v4];exact s1) (by rw[v5];exact nd) (fun q=>by simp) (fun q=>by
   rw[u5,<-e5];have h1:=(zBT q j).2
   cases hl:hJ q j with
   | none=>simp[h1.1 hl]
   | some nd=>
    have:q∈j.map Prod.fst:=by
     refine Classical.byContradiction fun h=> ?_
     rw[h1.2 h]at hl;cases hl
    simp[this]) (fun q hq=>hs q (by simpa using hq))
  rw[u4,v4,u6,v6]at this;exact this
 rw[h6]at Z;have PE:Prs H d4:=by
  refine⟨Z.prs.ok,by have:=Z.prs.next;have:=PH.next;omega,fun B o _=> ?_⟩
  have:=PH.next
  rw[Z.prs.keep B (by omega) fun x=>x,a3.keep B (by omega) fun x=>x,a2.keep B (by omega) (by omega),PH.keep B o fun x=>x]
 refine⟨d4,v, ?_,⟨PE,Z.g,fun B o=>by have:=Z.f B o;have:=PH.next;omega⟩⟩
 have h7:rfC [(104,f104 (dy (m+1)) (m+1)),(107,f107 (dy (m+1)) (m+1)),(112,f112 (dy (m+1)) (m+1)),(115,f115 (dy (m+1)) (m+1))] (dy (m+1)) (.func 165 [] [.ptr X4 0, .ptr Xt 0, .ptr X5 0, .ptr X7 0]) A1 H10=some (.tuple [],t):=f1;have x1:jU (.ptr Aw 0)=[.ptr Aw 0]:=rfl;have x2: ∀a,jU (S a)=[S a]:=fun _=>rfl
 have x3:jU (.func 106 [] [])=[.func 106 [] []]:=rfl;have x5:jU .nM=[.nM]:=rfl;have hS:(AV.str 0 0)=S []:=rfl;have hf:f107 (dy (m+1)) (m+1) [.ptr Aw 0,S [],S [], .func 106 [] []] H4=some (.func 165 [] [.ptr X4 0, .ptr Xt 0, .ptr X5 0, .ptr X7 0],u):=by
  simp only[f107,eZ,x1,x2,x3,c4,c5,c6,c7]
 have d9:((8192:Nat):Int)+(q0.length:Int)=((left:Nat):Int):=by omega
 have h8:uB [(0,1),(1,1),(2,1),(3,1)] [.nP, .nM, .int .i64 (0:Nat), .int .i64 (0:Nat)] [(0, .ptr At0 0),(2, .int .i64 ((left:Nat):Int))]=some (.agg [.ptr At0 0, .nM, .int .i64 ((left:Nat):Int), .int .i64 (0:Nat)]):=rfl;have h9:f104 (dy (m+1)) (m+1) [.ptr At0 0] H3=some (.ptr Aw 0,H4):=by
  simp(maxSteps:=999999)(disch:=omega) only[f104,eZ,ed,d9,h8,b4]
 have mk:mkM (1::[6,6,10])=some (.map (1::[6,6,10]) [],fun A=> .map A):=rfl;have i0: ¬(((0:Nat):Int)≠((0:Nat):Int)):=by omega
 simp(maxSteps:=999999)(disch:=omega) only[f65,eZ,cq,mk,b1,x5,b2,e3,h9,hS,hf,a4,h7,c2,lpF,zEC,jM c3,i0,f4,f7,f9,h0,jN,nth,c9.b6.ld,h3,h5]
end
open Go.Bk
theorem Qf_ev {a:Ev}(h:a.nb=J.nb)(j:a.ws=J.ws):Qf a=Qf J:=by
 have:a.K=J.K:=by
  funext p
  cases J;cases a
  simp only at h j;subst h;subst j;rfl
 funext q f p;simp only[Qf,this]
theorem zN3 (h:t.at_≠1):Qf J R [] t=J.K t:=JE fun s e=>h (by rw[e];simp[pp])
theorem zK3 {nd:Nd.Node}(h:J.K t=some nd): ∀k∈nd.kids,k.at_≠1:=by
 obtain⟨a,birth,kind,body,_,_,_,⟨_,h⟩,_⟩:=zRw.1 h;exact h
theorem zMi {E:Ev}{q:PN}{h:Nat}(f: ∀ {nd:Nd.Node} {t:Bt.Tr h} {S:List Ptr},kT (Qf E q []) h nd t S->(∀k∈nd.kids,k.at_≠1)->kT E.K h nd t S):
  ∀ {ps:List Ptr} {ts:List (Bt.Tr h)} {S:List Ptr},xU (Qf E q []) (kT (Qf E q []) h) ps ts S->(∀p∈ps,p.at_≠1)->xU E.K (kT E.K h) ps ts S
 | [],[],_,e,_=>e
 | p::ps,t::ts,_,⟨nd,S1,S2,a,b,c,e⟩,hp=>by
  have m:=hp p (zJ ..);rw[zN3 m]at a;exact⟨nd,S1,S2,a,f b (zK3 a),zMi f c fun p j=>hp p (zC _ j),e⟩
 | [],_::_,_,h,_=>h.elim
 | _::_,[],_,h,_=>h.elim
theorem zHm {E:Ev}{q:PN} : ∀(h:Nat) {nd:Nd.Node} {t:Bt.Tr h} {S:List Ptr},kT (Qf E q []) h nd t S->(∀k∈nd.kids,k.at_≠1)->kT E.K h nd t S
 | 0,_,_,_,w,_=>w
 | h+1,_,_,_,w,hk=>⟨w.1,w.2.1,w.2.2.1,zMi (fun a b=>zHm h a b) w.2.2.2 hk⟩
theorem zEd {Q:Ptr->Option Nd.Node}{h f:Nat}(q: ∀ {nd:Nd.Node} {t:Bt.Tr h} {S:List Ptr} {o:Bt.Tr f} {j:List Ptr},kT Q h nd t S->kT Q f nd o j->con h t=con f o/\S=j):
  ∀ {ps:List Ptr} {ts:List (Bt.Tr h)} {S:List Ptr} {m:List (Bt.Tr f)} {j:List Ptr},xU Q (kT Q h) ps ts S->xU Q (kT Q f) ps m j->ts.flatMap (con h)=m.flatMap (con f)/\S=j
 | [],[],_,[],_,e,e'=>⟨rfl,e.trans e'.symm⟩
 | p::ps,t::ts,_,o::m,_,⟨nd,S1,S2,a,b,c,e⟩,⟨nd',S1',S2',a',b',c',e'⟩=>by
  rw[a]at a';obtain rfl:=qT a';obtain⟨u,x⟩:=q b b';obtain⟨y,z⟩:=zEd q c c';subst e;subst e';exact⟨by rw[qI,qI,u,y],by rw[x,z]⟩
 | [],_::_,_,_,_,h,_=>h.elim
 | _::_,[],_,_,_,h,_=>h.elim
 | [],[],_,_::_,_,_,h=>h.elim
 | _::_,_::_,_,[],_,_,h=>h.elim
theorem zEb {Q:Ptr->Option Nd.Node} : ∀(h f:Nat) {nd:Nd.Node} {t:Bt.Tr h} {S:List Ptr} {j:Bt.Tr f} {m:List Ptr},kT Q h nd t S->kT Q f nd j m->con h t=con f j/\S=m
 | 0,0,nd,t,_,j,_,⟨a,b⟩,⟨a',b'⟩=>by
  refine⟨?_,b.trans b'.symm⟩;have o:=XG pZ t;have p:=XG pZ j;rw[<-a]at o;rw[<-a',o]at p;exact p
 | 0,f+1,nd,_,_,_,_,⟨a,_⟩,⟨b,_⟩=>by rw[a]at b;simp[leafOf]at b
 | h+1,0,nd,_,_,_,_,⟨b,_⟩,⟨a,_⟩=>by rw[a]at b;simp[leafOf]at b
 | h+1,f+1,nd,_,_,_,_,⟨_,_,_,a⟩,⟨_,_,_,b⟩=>zEd (fun x y=>zEb h f x y) a b
theorem zKj {q1:PN}(hp:t.at_≠1){j:List Ptr}(o:zM4 (Qf J R []) t n e)(q:zM4 (Qf J q1 []) t U j):n=U/\e=j:=by
 obtain⟨h,nd,E,S,a,b,rfl,rfl⟩:=o;obtain⟨m,y,z,C,f,b',rfl,rfl⟩:=q;rw[zN3 hp]at a f;rw[a]at f;obtain rfl:=qT f;obtain⟨u,x⟩:=zEb h m (zHm h b (zK3 a)) (zHm m b' (zK3 a));exact⟨u,by rw[x]⟩
theorem vF.keepQ (h:vF J R t n e)(hb: ∀r∈e,r.at_≠1->blkAt r.at_.toNat C=blkAt r.at_.toNat J.ws):vF { J with ws:=C} R t n e:=by
 rcases h with⟨a,b,c⟩ | ⟨h,nd,E,S,j,m,o,u,x,rfl⟩
 .exact .inl ⟨a,b,c⟩
 .exact .inr ⟨h,nd,E,S,zDP j (hb t (zJ ..)),m.mono fun r hr nd y=>zDP y (hb r (zC _ hr)),o,u,x,rfl⟩
def Fz (Ad:Nat)(ws:Ws)(is:Nat->Nat)(i:Nat)(Bs W xx:Nat->Prop)(At:Nat)(kv:Kvs)(H:AH):Prop:= ∃f M root q T h es a L,TI ⟨1024,ws,f,xx⟩ H At M (.ptr Ad 0) .nP root es q a h/\(∀s nd,jX s q=some nd->s<=a)/\q.length<=a/\a<=L/\f.length<=L/\vF ⟨1024,ws,f,xx⟩ q root kv T/\L<=200*i/\(∀r∈dsk T++f,is r.at_.toNat≠0)/\(∀B,W B↔B=At\/B=M\/Blk h B)/\ ∀B,Bs B↔(B=At\/B=M\/Blk h B\/ ∃kv∈es,xT kv.2 B)
theorem zQC {E:Ev}{Ad:Nat}(M:fG (.ptr Ad 0) .nP E A v p B h t R n e)(a:E.nb=1024)(hL:B<=200*D)(j: ∀r∈dsk e++E.dl,w r.at_.toNat≠0): ∃Bs,Fz Ad E.ws w D Bs h E.x v n A:=by
 obtain⟨nb,ws,m,xx⟩:=E;simp only at a;subst a;obtain⟨o,es,f,_,H,L,u,y,z,C,J⟩:=M;exact⟨_,m,p,t,R,e,o,es,f,B,H,L,u,y,z,C,hL,j,J,fun At=>Iff.rfl⟩
section
variable {Ad i At:Nat}{ws:Ws}{is:Nat->Nat}{Bs W xx:Nat->Prop}{kv:Kvs}{H:AH}
theorem Fz.ok (f:Fz Ad ws is i Bs W xx At kv H):H.ok:=by
 obtain⟨j,M,root,q,T,m,es,h,L,a,_⟩:=f;exact a.ok
theorem Fz.go (f:Fz Ad ws is i Bs W xx At kv H)(s:Stp h H A)(u: ∀B,Bs B-> ¬h B)(x:Dsk A Ad v 1024 C p w q)(hd: ∀a,is a≠0->w a≠0/\blkAt a C=blkAt a ws):Fz Ad C w i Bs W xx At kv A:=by
 obtain⟨y,M,root,As,T,z,es,H',L,U,J,K,N,O,S,hL,m,Y,o⟩:=f;obtain⟨On,Nw,wv,dm,Z,_⟩:=x;exact⟨y,M,root,As,T,z,es,H',L,U.wr s (fun B hb=>u B ((o B).2 hb)) Z,J,K,N,O,S.keepQ (fun r hr t=>(hd _ (m r (qU _ (d7.2 ⟨hr,t⟩)))).2),hL,fun r hr=>(hd _ (m r hr)).1,Y,o⟩
theorem Fz.prs (f:Fz Ad ws is i Bs W xx At kv H){H':AH}(s:Prs H H'):Fz Ad ws is i Bs W xx At kv H':=by
 obtain⟨j,M,root,q,T,m,es,a,L,o,h⟩:=f;exact⟨j,M,root,q,T,m,es,a,L,o.prs s,h⟩
theorem Fz.dsk (f:Fz Ad ws is i Bs W xx At kv H)(m:Dsk H v p D C B w h): ∀As,Bs As-> ¬h As:=by
 obtain⟨u,M,root,q,T,x,es,t,L,o,y,z,la,J,K,hL,N,O,a⟩:=f;exact fun As hb=>zA5 o m As ((a As).1 hb)
theorem Fz.off (f:Fz Ad ws is i Bs W xx At kv H)(hb:Bs v)(h:xx v):W v:=by
 obtain⟨t,M,root,q,T,u,es,o,L,j,x,y,z,C,J,hL,K,a,m⟩:=f;rcases(m v).1 hb with e | e | e | ⟨p,hp,e⟩
 .exact(a v).2 (.inl e)
 .exact(a v).2 (.inr (.inl e))
 .exact(a v).2 (.inr (.inr e))
 .exact absurd (.inr h) (j.ds p hp v e)
theorem Fz.box (f:Fz Ad ws is i Bs W xx At kv H)(g:H.h.get v=some (.cells (M::I) 104 1 false))(o: ∀a b,M≠ .str a b): ¬Bs v:=fun hb=>by
 obtain⟨y,B,root,q,T,z,es,u,L,j,C,J,K,N,O,hL,S,Y,t⟩:=f;rcases(t v).1 hb with rfl | rfl | e | ⟨p,hp,e⟩
 .have:=j.gT;rw[g]at this;simp at this
 .have:=j.gM;rw[g]at this;cases this
 .exact zRE j.dg g (fun Z g=>by simp) e
 .obtain⟨nd,m⟩:=j.pq.node p hp;exact m.nblk g (.inl ⟨_,_,_,_,rfl,o⟩) e
theorem Fz.srt (f:Fz Ad ws is i Bs W xx At kv H):Srt kv:=by
 obtain⟨j,M,root,q,T,m,es,h,L,o,p,t,u,x,a,hL,y,z,C⟩:=f;exact a.srt.1
theorem Fz.gst (f:Fz Ad ws is i Bs W xx At kv H)(j:Dsk H Ad v 1024 ws p is h)(m:H.h.get B=some (.cells [.ptr At 0,M, .ptr Ad 0, .ptr v 0, .int .i64 D] 104 1 false))(gl:GrP H M kv): ∃E la L root q T,Gst E H B Ad v At la L D p is h W root q kv T/\E.nb=1024/\E.ws=ws/\E.x=xx/\L<=200*i:=by
 obtain⟨o,la,root,q,T,As,es,a,L,t,u,y,z,C,J,hL,K,N,O⟩:=f;exact⟨⟨1024,ws,o,xx⟩,la,L,root,q,T,⟨⟨As,es,a,rfl,t,u,y,z,C,J,N⟩,j,K,M,m,gl⟩,rfl,rfl,rfl,hL⟩
end
theorem zPe (h:vF J R t n e):e.Nodup:=by
 rcases h with⟨_,_,rfl⟩ | ⟨h,nd,E,S,f,j,m,a,o,rfl⟩
 .exact List.nodup_nil
 .exact a
theorem zEY (m:Nat)(hm:700000000<=m){At1:Nat}{a0:Nat->Nat}{W1 f K:Nat->Prop}(f0:Fz v C w p h a f D n A)(O:Fz v C a0 B q W1 K At1 U A)(h0:p<=1000)(h1:B<=1000)(k0:n.length<=1000)(k1:U.length<=1000):
  ∃H' Ad,f65 (dy (m+1)) (m+1) [.ptr D 0, .ptr At1 0] A=some (.tuple [Ad, .int .i64 (0:Nat)],H')/\Cacc A H' Ad (Bt.chg n U):=by
 have s0:=f0.srt;have s1:=O.srt;obtain⟨o,M0,root0,q0,T0,b0,b1,a8,L0,a1,_,a3,a4,_,R0,aL,_⟩:=f0;obtain⟨u,S,root1,q1,T1,b2,b5,a9,L1,a2,_,b3,b4,_,y,bL,_⟩:=O;have Y:Qf ⟨1024,C,u,K⟩=Qf ⟨1024,C,o,f⟩:=Qf_ev rfl rfl;have Z: ∀ {At M t:Nat} {z:List Ptr} {xx:Nat->Prop} {root:Ptr} {es:List (AV×AV)} {is0:PN} {At0:AV},TI ⟨1024,C,z,xx⟩ A At M (.ptr v 0) .nP root es is0 t At0->GD0 A.next At M v ⟨1024,C,z,xx⟩ root is0 A (fun _=>False):=fun {At M t z xx root es is0 At0} B0=>by
  obtain⟨a5,On,Nw,wv,ds,a6,j⟩:=B0.dk;obtain rfl:v=a5:=by simpa using a6
  exact⟨fun _ x=>x,B0.ok.lt B0.gT,B0.ok.lt B0.gM,es,t,At0,On,Nw,wv,ds,B0,B0.hold,fun N J=>wB.lt B0.dg J,j,B0.ok.lt j.gD,B0.ok.lt j.gO,B0.ok.lt j.gN,fun N J=>Own.lt j.ow J⟩
 have r1:Rdr At1 A.next q1.length root1 (Qf ⟨1024,C,o,f⟩ q1 []) (GD0 A.next At1 S v ⟨1024,C,u,K⟩ root1 q1):=by
  rw[<-Y];exact zEe A.next At1 S v ⟨1024,C,u,K⟩ root1 q1
 have a7:vF ⟨1024,C,o,f⟩ q1 root1 U T1:=by
  unfold vF at y⊢;rw[<-Y];exact y
 exact zLn (zEe A.next D M0 v ⟨1024,C,o,f⟩ root0 q0) r1 (fun ws=>ws.1) (fun ws=>ws.1) R0 a7 (by omega) (by omega) s0 s1 (zPe y) (by omega) (by omega) (fun is0 hq k T k' T'=>zKj hq) m hm (Z a1) (Z a2) (zP _)
structure Gs (Ad As Gd i:Nat)(ws:Ws)(is:Nat->Nat)(la:Nat)(V W Bs xx:Nat->Prop)(At txg:Nat)(lv:AV)(kv:Kvs)(H:AH):Prop where
 f:Fz Ad ws is i Bs W xx At kv H
 ds:Dsk H Ad As 1024 ws la is V
 g:H.h.get Gd=some (.cells [.ptr At 0,lv, .ptr Ad 0, .ptr As 0, .int .i64 txg] 104 1 false)
 l:GrP H lv kv
 tx:txg<=i
 kl:kv.length<=i
theorem Fz.sub (f:Fz v C w p h q a B n A)(At:q D):h D:=by
 obtain⟨o,M,root,ws,T,Ad,es,m,L,t,u,x,y,z,i,hL,J,is,j⟩:=f;exact(j D).2 (by
  rcases(is D).1 At with e | e | e
  .exact .inl e
  .exact .inr (.inl e)
  .exact .inr (.inr (.inl e)))
theorem Fz.lt {Ad i At:Nat}{ws:Ws}{is:Nat->Nat}{Bs W xx:Nat->Prop}{kv:Kvs}{H:AH}(f:Fz Ad ws is i Bs W xx At kv H){B:Nat}(h:W B):B<H.next:=by
 obtain⟨o,M,root,q,T,p,es,m,L,a,t,u,x,y,z,hL,C,j,J⟩:=f;rcases(j B).1 h with rfl | rfl | e
 .exact a.ok.lt a.gT
 .exact a.ok.lt a.gM
 .exact a.dg.lt e
section
variable {Ad As Gd i la At txg:Nat}{ws:Ws}{is:Nat->Nat}{V W Bs xx:Nat->Prop}{lv:AV}{kv:Kvs}{H:AH}
theorem Gs.ok (s:Gs Ad As Gd i ws is la V W Bs xx At txg lv kv H):H.ok:=s.f.ok
theorem Gs.prs (s:Gs Ad As Gd i ws is la V W Bs xx At txg lv kv H){H':AH}(p:Prs H H'):Gs Ad As Gd i ws is la V W Bs xx At txg lv kv H':=
 ⟨s.f.prs p,s.ds.prs s.ok p,zRB p s.ok s.g,s.l.prs p,s.tx,s.kl⟩
theorem Gs.off (s:Gs Ad As Gd i ws is la V W Bs xx At txg lv kv H){o:AObj}(a:H.h.get v=some o)(h:(∃l e g,o= .cells l e 2 g)\/ ∃l,o= .cells l 104 1 false): ¬W v/\ ¬V v:=by
 obtain⟨E,M,L,root,q,T,w,_⟩:=s.f.gst s.ds s.g s.l;exact JK w.tx w.ds a h
theorem Gs.lt (s:Gs Ad As Gd i ws is la V W Bs xx At txg lv kv H){B:Nat}(h:W B\/V B\/B=Gd):B<H.next:=by
 rcases h with h | h | rfl
 .exact s.f.lt h
 .exact s.ds.lt s.ok B h
 .exact s.ok.lt s.g
theorem Gs.ld (s:Gs Ad As Gd i ws is la V W Bs xx At txg lv kv H):Eng.ld1 (.ptr Gd 0) H=some (.ptr At 0)/\Eng.ld1 (.ptr Gd 1) H=some lv/\Eng.ld1 (.ptr Gd 2) H=some (.ptr Ad 0)/\Eng.ld1 (.ptr Gd 3) H=some (.ptr As 0):=
 ⟨by rw[jM s.g];rfl,by rw[jM s.g];rfl,by rw[jM s.g];rfl,by rw[jM s.g];rfl⟩
theorem Gs.gu (s:Gs Ad As Gd i ws is la V W Bs xx At txg lv kv H):GU H (fun B=>W B\/V B\/B=Gd) ws is xx Ad As Gd i kv H:=by
 obtain⟨E,M,L,root,q,T,w,h,j,m,hL⟩:=s.f.gst s.ds s.g s.l;exact⟨E,At,M,L,txg,la,is,V,W,root,q,T,w,⟨hL,h,m⟩,s.tx,s.kl,zRx s.ok,fun B o=> .inr o,fun a p=>⟨p,by rw[j]⟩⟩
end
theorem GU.out {H:AH}(g:GU A h C w q v p B D n H):
  ∃ws is la V W Bs At txg lv,Gs v p B D ws is la V W Bs q At txg lv n H/\Stp h A H/\(∀xx,(W xx\/V xx\/xx=B)->A.next<=xx\/h xx)/\ ∀a,w a≠0->is a≠0/\blkAt a ws=blkAt a C:=by
 obtain⟨E,At,M,L,txg,la,is,V,W,root,ws0,T,U,⟨hL,H0,t⟩,o,is0,st,m,hd⟩:=g;obtain⟨lv,u,gl⟩:=U.gG;obtain⟨Bs,f⟩:=zQC U.tx H0 hL U.us;rw[t]at f;have j:=U.ds;rw[H0]at j;exact⟨E.ws,is,la,V,W,Bs,At,txg,lv,⟨f,j,u,gl,o,is0⟩,st,m,hd⟩
section
variable {Ad As Gd i la At txg:Nat}{ws:Ws}{is:Nat->Nat}{V W Bs xx:Nat->Prop}{lv:AV}{kv:Kvs}{H:AH}
theorem Gs.grow (s:Gs Ad As Gd i ws is la V W Bs xx At txg lv kv H)(m n:Nat)(hm:400000000<=m)(y:300000000<=n){v:AV}{l:List Sw}(z: ∀ {H'},Stp (fun B=>W B\/V B\/B=Gd) H H'->SwR H' v l)(hl:i+l.length<=200):
  ∃H' f h la' j o q t p u,f64 (dy (m+2)) n [.ptr Gd 0,v] H=some (.bool true,H')/\Gs Ad As Gd (i+l.length) f h la' j o q xx t p u (xG kv l) H'/\Stp (fun B=>W B\/V B\/B=Gd) H H'/\(∀B,(o B\/j B\/B=Gd)->H.next<=B\/(W B\/V B\/B=Gd))/\ ∀a,is a≠0->h a≠0/\blkAt a f=blkAt a ws:=by
 obtain⟨H',e,g⟩:=zEF m n hm y z hl s.gu;obtain⟨f,h,la',j,o,q,t,p,u,s',st,x,hd⟩:=g.out;exact⟨H',f,h,la',j,o,q,t,p,u,e,s',st,x,hd⟩
theorem Gs.copy (s:Gs Ad As Gd i ws is la V W Bs xx At txg lv kv H)(D:Dyn)(n:Nat)(hi:i<=1000):
  ∃H' a m j,f28 D n [.ptr At 0] H=some (.ptr a 0,H')/\Prs H H'/\Fz Ad ws is i m j W a kv H'/\ ∀B,j B->H.next<=B:=by
 obtain⟨E,M,L,root,q,T,w,u,y,C,hL⟩:=s.f.gst s.ds s.g s.l;have t:E.dl.length<=1000000000:=by
  obtain⟨_,_,_,_,_,_,_,_,h,_⟩:=w.tx;omega
 obtain⟨H',a,J,j,e,p,z,f⟩:=zLu D n w.tx t;obtain⟨m,o⟩:=zQC (E:= { E with x:=W}) z u hL w.us;rw[show({ E with x:=W} :Ev).ws=ws from y]at o;exact⟨H',a,m,j,e,p,o,f⟩
theorem Fz.stay (f:Fz Ad ws is p h q W v n H)(s:Gs Ad As Gd i ws is la V W Bs xx At txg lv kv H)(x: ∀t,q t-> ¬W t)(st:Stp (fun t=>W t\/V t\/t=Gd) H A)(z:Dsk A Ad B 1024 C D w a)(hd: ∀u,is u≠0->w u≠0/\blkAt u C=blkAt u ws):Fz Ad C w p h q W v n A:=
 f.go st (fun t hb J=>by
  rcases J with o | o | rfl
  .exact x t (f.off hb o) o
  .exact f.dsk s.ds t hb o
  .exact f.box s.g (fun _ _ o=>by cases o) hb) z hd
theorem GrP.stay (gl:GrP H M n)(s:Gs Ad As Gd i ws is la V W Bs xx At txg lv kv H)(st:Stp (fun B=>W B\/V B\/B=Gd) H A):GrP A M n:=
 gl.mono st fun B j h=>by
  obtain⟨l,e,g,a⟩:=wB.get2 gl j;obtain⟨m,o⟩:=s.off a (.inl ⟨_,_,_,rfl⟩);rcases h with h | h | rfl
  .exact m h
  .exact o h
  .rw[s.g]at a;simp at a
end
theorem zHJ (m n:Nat)(hm:400000000<=m)(f:300000000<=n)(j:A.ok)(o:SwR A M N)(hl:N.length<=200):
  ∃H' Ad As Gd ws is la V W Bs At txg lv,f52 (dy (m+2)) n [M] A=some (.tuple [.ptr Gd 0, .bool true],H')/\Gs Ad As Gd N.length ws is la V W Bs (fun _=>False) At txg lv (xG [] N) H'/\Prs A H'/\ ∀B,(W B\/V B\/B=Gd)->A.next<=B:=by
 obtain⟨H',Ad,As,Gd,e,g⟩:=zHI m n hm f j o hl;obtain⟨ws,is,la,V,W,Bs,At,txg,lv,s,st,a,_⟩:=g.out;exact⟨H',Ad,As,Gd,ws,is,la,V,W,Bs,At,txg,lv,e,s,st,fun B p=>(a B p).elim id fun h=>h.elim⟩
end Go.Eng.Sh
end
section
namespace Go.Bt
open Go.Nd (Str Kvs Srt lookP putP delP hH aQ)
open Go.Eng (ltS kL wX jY xQ uL)
theorem zLz (h:Srt n):chg n n=[]:=List.eq_nil_iff_forall_not_mem.2 fun c f=>((uF n n h h c).1 f).2 rfl
theorem zOW (o:Srt n)(hb:Srt U){k:Str}(h: ∀j,j≠k->lookP j n=lookP j U):(chg n U).length<=1:=by
 have hp:=gI n U o hb;have f: ∀c∈chg n U,c.k=k:=fun c m=>by
  refine Classical.byContradiction fun e=> ?_
  exact((uF n U o hb c).1 m).2 (h _ e)
 match m:chg n U with
 | []=>simp
 | [_]=>simp
 | x::y::l=>
  rw[m]at hp f;have p:=(qQ.1 hp).1 y (zJ ..);rw[f x (zJ ..),f y (zC _ (zJ ..)),jY]at p
  cases p
def v7 (kv:Kvs)(c:Cg):Kvs:=if c.has=true then putP c.k c.new kv else delP c.k kv
theorem zBQ (c:Cg)(h:Srt n):Srt (v7 n c):=by
 rw[v7];split
 .exact Nd.srt_put _ _ h
 .exact Nd.srt_del _ h
theorem zFU (c:Cg)(h:Srt n)(j:Str):lookP j (v7 n c)=if j=c.k then(if c.has=true then some c.new else none)else lookP j n:=by
 rw[v7];split
 .rename_i a;rw[hH]
 .rename_i a;rw[aQ _ _ h]
theorem zAs: ∀(l:List Cg) {kv:Kvs},Srt kv->Srt (l.foldl v7 kv)
 | [],_,h=>h
 | c::l,_,h=>zAs l (zBQ c h)
theorem zBP: ∀(l:List Cg) {kv:Kvs},Srt kv->(l.Pairwise fun x y=>ltS x.k y.k=true)-> ∀j,(∀c∈l,c.k=j->lookP j (l.foldl v7 kv)=if c.has=true then some c.new else none)/\((∀c∈l,c.k≠j)->lookP j (l.foldl v7 kv)=lookP j kv)
 | [],kv,_,_,j=>⟨by simp,fun _=>rfl⟩
 | c::l,kv,hs,hp,j=>by
  obtain⟨m,o⟩:=qQ.1 hp;obtain⟨p,f⟩:=zBP l (zBQ c hs) o j;have hl:=zFU c hs j;rw[List.foldl_cons];refine⟨fun d hd e=> ?_,fun h=> ?_⟩
  .rcases zK.1 hd with rfl | hd
   .rw[f (fun x a q=>by have:=m x a;rw[e,q,jY]at this;cases this),hl,if_pos e.symm]
   .exact p d hd e
  .rw[f fun x a=>h x (zC _ a),hl,if_neg fun e=>h c (zJ ..) e.symm]
theorem zKV (f:Srt n)(hb:Srt U):(chg n U).foldl v7 n=U:=by
 refine Go.Eng.Sh.srt_ext (zAs _ f) hb fun j=> ?_
 obtain⟨o,p⟩:=zBP (chg n U) f (gI n U f hb) j;by_cases h:lookP j n=lookP j U
 .rw[p fun c q e=> ?_,h];subst e;exact((uF n U f hb c).1 q).2 h
 .have hm:oneC j (lookP j n) (lookP j U)∈chg n U:=(uF n U f hb _).2 ⟨rfl,h⟩;rw[o _ hm rfl]
  cases m:lookP j U<;>simp[oneC,m]
theorem zLB (h:Srt n)(hb:Srt U){c:Cg}(j:c∈chg n U):(c.had||c.has)=true/\(c.had=true->c.has=true->c.old≠c.new):=by
 obtain⟨m,f⟩:=(uF n U h hb c).1 j;rw[m];generalize lookP c.k n=x at f⊢;generalize lookP c.k U=y at f⊢
 cases x<;>cases y<;>simp[oneC]at f⊢
 exact f
theorem J6: ∀(a b:Kvs),(chg a b).length<=a.length+b.length
 | [],[]=>by simp[chg]
 | (k,v)::a,[]=>by
  have:=J6 a [];rw[chg];simp only[zR]at this⊢;omega
 | [],(j,w)::b=>by
  have:=J6 [] b;rw[chg];simp only[zR]at this⊢;omega
 | (k,v)::a,(j,w)::b=>by
  have f:=J6 a ((j,w)::b);have h:=J6 ((k,v)::a) b;have m:=J6 a b;rw[chg];simp only[zR]at f h m⊢;split
  .simp only[zR];omega
  .split
   .simp only[zR];omega
   .split
    .omega
    .simp only[zR];omega
termination_by a b=>a.length+b.length
end Go.Bt
namespace Go.Eng.Sh
open Go.Nd (Str Kvs Srt lookP putP delP hH aQ)
open Go.Bt
theorem zFC (s:Sw)(h:Srt n)(j:Str)(a:j≠s.k):lookP j (vX s n)=lookP j n:=by
 rw[vX];split
 .split
  .rw[hH,if_neg a]
  .rfl
 .split
  .rw[aQ _ _ h,if_neg a]
  .rfl
theorem zFB (h:N.length=1)(a:Srt n):(Bt.chg n (xG n N)).length<=1:=by
 match N,h with
 | [s],_=>exact zOW a (zH0 s a) (k:=s.k) fun j f=>(zFC s a j f).symm
open Go.Nd (Ptr sumL leafOf)
open Go.Bk
theorem zEK: ∀(l:List Cg) (i:Nat) (h:i<l.length),((l.flatMap cgV).drop (i*5)).take 5=cgV l[i]
 | p::l,0,_=>by rw[Nat.zero_mul,yM,qI,jA (show(cgV p).length=5 from rfl)];rfl
 | p::l,i+1,h=>by
  rw[qI,show(i+1)*5=5+i*5 by omega,<-List.drop_drop,yV (show(cgV p).length=5 from rfl)];exact zEK l i (by simpa using h)
def RwC (H:AH)(v:AV)(c:List Cg):Prop:=Rw 5 H v c.length (c.flatMap cgV)
theorem RwC.at {H:AH}{v:AV}{c:List Cg}(h:RwC H v c){i:Nat}(hi:i<c.length): ∃A o,(∀κ (z:Int),z=(i:Int)->aS 5 v (.int κ z)=some (.ptr A o))/\ldN 5 (.ptr A o) H=some (.agg (cgV c[i]))/\Eng.ld1 (.ptr A (o+0)) H=some (S c[i].k)/\Eng.ld1 (.ptr A (o+1)) H=some (S c[i].old)/\Eng.ld1 (.ptr A (o+2)) H=some (S c[i].new)/\Eng.ld1 (.ptr A (o+3)) H=some (.bool c[i].had)/\Eng.ld1 (.ptr A (o+4)) H=some (.bool c[i].has):=by
 obtain⟨A,o,c',e,sz,g,p,a,u,q,m⟩:=Rw.at h hi;rw[zEK c i hi]at m;have f: ∀j,j<5->c'[o+j]? =(cgV c[i])[j]? :=fun j t=>by
  have:=congrArg (fun x=>x[j]?) m;simp only[jF t,jG]at this;exact this
 exact⟨A,o,p,by rw[J0 a q,m],wY a (f 0 (by omega)),wY a (f 1 (by omega)),wY a (f 2 (by omega)),wY a (f 3 (by omega)),wY a (f 4 (by omega))⟩
theorem zEZ (k:Str): ∀kv:Kvs,(delP k kv).length<=kv.length
 | []=>by simp[delP]
 | (a,b)::l=>by
  have:=zEZ k l;rw[delP];split
  .simp
  .simp only[zR];omega
theorem zI3 (kv:Kvs)(c:Cg):(v7 kv c).length<=kv.length+1:=by
 rw[v7];split
 .exact zAl ..
 .have:=zEZ c.k kv;omega
theorem zEs: ∀(l:List Cg) (kv:Kvs),(l.foldl v7 kv).length<=kv.length+l.length
 | [],kv=>zP _
 | c::l,kv=>by
  have a:=zEs l (v7 kv c);have f:=zI3 kv c;simp only[List.foldl_cons,zR];omega
theorem zFT (D:Dyn)(v:Nat)(hn:2000<=v)(hk:A.ok){Gd:Nat}{w0:AV}{c:List Cg}(hw:VQ A w0 n)(hs:Srt n)(hl:n.length+c.length<=1000)(hv:RwC A M c)(hp:c.Pairwise fun x y=>ltS x.k y.k=true)(hf: ∀x∈c,(x.had||x.has)=true/\(x.had=true->x.has=true->x.old≠x.new)):
  ∃H' w,kI v (dK D v) [.ptr Gd 0,w0,M, .int .i64 (0:Nat)] A=some (.exit 0 [.ptr Gd 0,w],H')/\Prs A H'/\VQ H' w (c.foldl v7 n):=by
 have j:lnSl M=some (.int .i64 c.length):=Rw.lnSl hv;have lp:=vS (b:=dK D v) c.length (fun i us H'=> ∃w,us=[.ptr Gd 0,w,M, .int .i64 ((i:Nat):Int)]/\Prs A H'/\VQ H' w ((c.take i).foldl v7 n)) (fun i us H' hi ⟨w,hus,P,g⟩=>by
  subst hus;have p:((i:Nat):Int)< (c.length:Int):=by omega
  have hi1:((i:Nat):Int)+((1:Nat):Int)=((i+1:Nat):Int):=by omega
  have a7:(c.take (i+1)).foldl v7 n=v7 ((c.take i).foldl v7 n) c[i]:=by
   rw[qJ hi,List.foldl_append];rfl
  have a8:Srt ((c.take i).foldl v7 n):=zAs _ hs;have b2:((c.take i).foldl v7 n).length<=1000:=by
   have:=zEs (c.take i) n;have h2:(c.take i).length<=c.length:=by simp;omega
   omega
  obtain⟨H,o,i1,_,u,z,C,J,K⟩:=(show RwC H' M c from Rw.prs hv P).at hi;have t:=i1 .i64 _ rfl;obtain⟨f1,f2⟩:=hf c[i] (yK hi);have a9:0<i-> ∃T o',aS 5 M (.int .i64 (((i:Nat):Int) - ((1:Nat):Int)))=some (.ptr T o')/\ ∃k',Eng.ld1 (.ptr T (o'+0)) H'=some (S k')/\ltS k' c[i].k=true:=fun h0=>by
   obtain⟨T,o',Y,_,Z,_⟩:=(show RwC H' M c from Rw.prs hv P).at (show i - 1<c.length by omega);exact⟨T,o',Y .i64 _ (by omega),_,Z,List.pairwise_iff_getElem.1 hp (i - 1) i (by omega) hi (by omega)⟩
  have key: ∀ {a:AH} {f:AV},Prs H' a->VQ a f (v7 ((c.take i).foldl v7 n) c[i])->(c[i].has=true->f68 D v [w,S c[i].k,S c[i].new] H'=some (f,a))->(c[i].has=false->f69 D v [w,S c[i].k] H'=some (f,a))->dK D v [.ptr Gd 0,w,M, .int .i64 ((i:Nat):Int)] H'=some (.norm [.ptr Gd 0,f,M, .int .i64 (i+1:Nat)],a):=fun {a f} N g2 eP eD=>by
   generalize c[i].had=had at*
   generalize b3:c[i].has=has at*
   by_cases h0:0<i
   .obtain⟨T,o',Y,k',Z,b1⟩:=a9 h0;have m:((0:Nat):Int)< ((i:Nat):Int):=by omega
    have a5:dY .leq (S c[i].k) (S k')=some (.bool false):=by rw[zFf,b1];rfl
    cases had<;>cases has
    .simp at f1
    .simp(maxSteps:=999999)(disch:=omega) only[dK,QZ,eZ,j,p,m,t,u,Y,Z,a5,J,K,z,C,eP rfl,hi1,Bool.not_true,Bool.not_false]
    .simp(maxSteps:=999999)(disch:=omega) only[dK,QZ,eZ,j,p,m,t,u,Y,Z,a5,J,K,z,C,eD rfl,hi1,Bool.not_true,Bool.not_false]
    .have a6:dY .eql (S c[i].old) (S c[i].new)=some (.bool false):=by rw[KP];simp[f2 rfl rfl]
     simp(maxSteps:=999999)(disch:=omega) only[dK,QZ,eZ,j,p,m,t,u,Y,Z,a5,J,K,z,C,a6,eP rfl,hi1,Bool.not_true,Bool.not_false]
   .have m: ¬((0:Nat):Int)< ((i:Nat):Int):=by omega
    cases had<;>cases has
    .simp at f1
    .simp(maxSteps:=999999)(disch:=omega) only[dK,QZ,eZ,j,p,m,t,u,J,K,z,C,eP rfl,hi1,Bool.not_true,Bool.not_false]
    .simp(maxSteps:=999999)(disch:=omega) only[dK,QZ,eZ,j,p,m,t,u,J,K,z,C,eD rfl,hi1,Bool.not_true,Bool.not_false]
    .have a6:dY .eql (S c[i].old) (S c[i].new)=some (.bool false):=by rw[KP];simp[f2 rfl rfl]
     simp(maxSteps:=999999)(disch:=omega) only[dK,QZ,eZ,j,p,m,t,u,J,K,z,C,a6,eP rfl,hi1,Bool.not_true,Bool.not_false]
  cases hh:c[i].has with
  | true=>
   obtain⟨a,f,e2,N,g2⟩:=zD9 D v P.ok a8 g (by omega) (by omega) c[i].k c[i].new;have hm:v7 ((c.take i).foldl v7 n) c[i]=putP c[i].k c[i].new ((c.take i).foldl v7 n):=by rw[v7,if_pos hh]
   have O:VQ a f (v7 ((c.take i).foldl v7 n) c[i]):=by rw[hm];exact g2.1.row
   exact⟨_,a,key N O (fun _=>e2) (fun h=>by rw[hh]at h;cases h),f,rfl,P.trans N,by rw[a7];exact O⟩
  | false=>
   obtain⟨a,f,e2,N,g2,_⟩:=WU D v P.ok g (by omega) (by omega) c[i].k;rw[Nd.filt_del c[i].k a8]at g2;have hm:v7 ((c.take i).foldl v7 n) c[i]=delP c[i].k ((c.take i).foldl v7 n):=by rw[v7,if_neg (by rw[hh];simp)]
   have O:VQ a f (v7 ((c.take i).foldl v7 n) c[i]):=by rw[hm];exact g2.1.row
   exact⟨_,a,key N O (fun h=>by rw[hh]at h;cases h) (fun _=>e2),f,rfl,P.trans N,by rw[a7];exact O⟩) v _ A ⟨w0,rfl,zRx hk,hw⟩ (by omega)
 obtain⟨q,us,H5,e5,w,rfl,P5,g5⟩:=lp;rw[j6]at g5;refine⟨H5,w, ?_,P5,g5⟩;rw[e5];exact jW (by simp only[dK,eZ,j,y7])
theorem walkMakes_walk (m:Nat)(hm:800000000<=m)(hk:A.ok){t:AV}{l1:List Sw}(h0:SwR A M N)(C:SwR A t l1):
  ∃H',zPw (dy (m+3)) (m+3) [M,t] A=some (.bool true,H')/\Prs A H':=by
 have q: ∀A:AH,z51 (dy (m+3)) (m+3) [] A=some (.bool true,A):=fun _=>rfl
 obtain⟨b0,u,a1⟩:=zEw (dy (m+3)) (m+3) (by omega) h0;obtain⟨b1,J,a2⟩:=zEw (dy (m+3)) (m+3) (by omega) C;by_cases hc:b0=false/\b1=false
 .obtain⟨rfl,rfl⟩:=hc;have a9:=a1 rfl;have b2:=a2 rfl;obtain⟨H1,Ad,As,Gd,ws,is,la,V,W,Bs,At,txg,lv,ep,a,P1,S⟩:=zHJ (m+1) (m+3) (by omega) (by omega) hk h0 (by omega);obtain⟨y0,y1,_⟩:=a.ld;obtain⟨H2,b3,b4,W',ec,p2,f2,a3⟩:=a.copy (dy (m+3)) (m+3) (by omega);have K:=a.prs p2;have j:Srt (xG [] N):=a.f.srt;obtain⟨z0,z1,_⟩:=K.ld;obtain⟨H3,va,ed,o⟩:=zEY (m+2) (by omega) f2 K.f (by omega) (by omega) (by have:=a.kl;omega) (by have:=a.kl;omega);rw[zLz j]at o;have Y:lnSl va=some (.int .i64 (0:Nat)):=o.g.row.lnSl;have y:=K.prs o.prs;have f3:=f2.prs o.prs;have P3:Prs A H3:=(P1.trans p2).trans o.prs;obtain⟨H4,b5,b6,b7,V4,W4,b8,b9,a8,c0,eg,h,st4,c1,a4⟩:=y.grow (m+1) (m+3) (by omega) (by omega) (v:=t) (l:=l1) (fun st=>C.prs (Stp.fresh P3 st S)) (by omega);have f4:=f3.stay y (fun B hB hw=>by have:=a3 B hB;have:=a.f.lt hw;omega) st4 h.ds a4;have a5:=GrP.stay y.l y st4;have P4:Prs A H4:=Stp.fresh P3 st4 S;obtain⟨u0,u1,_⟩:=h.ld;obtain⟨H5,vb,ee,p⟩:=zEY (m+2) (by omega) f4 h.f (by omega) (by omega) (by have:=a.kl;omega) (by have:=h.kl;omega);have z:Srt (xG (xG [] N) l1):=h.f.srt;have a7:=J6 (xG [] N) (xG (xG [] N) l1);have c2:=a.kl;have c3:=h.kl;have rc:RwC H5 vb (Bt.chg (xG [] N) (xG (xG [] N) l1)):=p.g.row;have a6:lnSl vb=some (.int .i64 (((Bt.chg (xG [] N) (xG (xG [] N) l1)).length:Nat):Int)):=Rw.lnSl rc;obtain⟨H6,w,el,p6,gw⟩:=zFT (dy (m+3)) (m+3) (by omega) p.prs.ok (Gd:=Gd) (a5.prs p.prs).row j (by omega) rc (gI _ _ j z) (fun x hx=>zLB j z hx);rw[zKV j z]at gw;have s6:=(h.prs p.prs).prs p6;obtain⟨_,t1,_⟩:=s6.ld;have O:=zFG (dy (m+3)) (m+3) (H:=H6) gw s6.l.row (by omega) (by omega);have T:lnSl t=some (.int .i64 l1.length):=C.lnSl;have Z: ¬(((0:Nat):Int)≠((0:Nat):Int)):=by omega
  refine⟨H6, ?_,(P4.trans p.prs).trans p6⟩;by_cases a0:l1.length=1
  .have c4:=zFB a0 j;have H:(l1.length:Int)=((1:Nat):Int):=by omega
   have o2: ¬((1:Nat):Int)< (((Bt.chg (xG [] N) (xG (xG [] N) l1)).length:Nat):Int):=by omega
   simp(maxSteps:=999999)(disch:=omega) only[zPw,eZ,u,J,q,ep,jN,nth,y0,ec,z0,z1,ed,Y,Z,eg,u0,ee,T,H,a6,o2,decide_false,decide_true,Bool.not_true,el,zIT,t1,O]
  .have H: ¬(l1.length:Int)=((1:Nat):Int):=by omega
   simp(maxSteps:=999999)(disch:=omega) only[zPw,eZ,u,J,q,ep,jN,nth,y0,ec,z0,z1,ed,Y,Z,eg,u0,ee,T,H,decide_false,decide_true,Bool.not_true,el,zIT,t1,O]
 .refine⟨A, ?_,zRx hk⟩
  cases b0 with
  | true=>simp(maxSteps:=999999)(disch:=omega) only[zPw,eZ,u,q]
  | false=>
   cases b1 with
   | true=>simp(maxSteps:=999999)(disch:=omega) only[zPw,eZ,u,J,q]
   | false=>exact absurd ⟨rfl,rfl⟩ hc
end Go.Eng.Sh
end
section
namespace Go.Proofs.YtaaflpnhdkoaeaaGreat.steps14
open Go.ChangeShapes Go.WideShapes Go.ChangeAt Go.RowKit
theorem zFb: Tryz.prog.cellsOf 113=3:=by kernel_rfl
theorem zLD: Tryz.prog.cellsOf 5=1:=by kernel_rfl
theorem zFc: Tryz.prog.cellsOf 9=1:=by kernel_rfl
abbrev Raw:=Int×ByteArray×ByteArray
def zFx (s:Raw):List Value:=[.int .u8 s.1, .string s.2.1, .string s.2.2]
def zG0 (s:Raw):Prop:=0<=s.1/\s.1<256
open Go.Eng.Sh (Sw swV SwR)
def zNu (s:Raw):Sw:=⟨s.1.toNat,s.2.1.data.toList,s.2.2.data.toList⟩
theorem zPS (N:Nat){s:Raw}(h:zG0 s):swV (zNu s)=(zFx s).map (Go.Eng.cellAV N):=by
 have a:((s.1.toNat:Nat):Int)=s.1:=Int.toNat_of_nonneg h.1;simp only[zFx,yJ,List.map_nil,Go.Eng.cellAV_string,swV,zNu,a];rfl
set_option maxRecDepth 100000 in
theorem zNy {enc:TypeId×Value->j}{x:DataW j×List MemPlace}(h:DataW.trod enc Tryz.prog f v (fun _=>true) m p 113 r=some x): ∃s:Raw,r=zFx s/\zG0 s:=by
 obtain⟨xs,n,_,_,hl,o,w⟩:=DataW.trod_struct Tryz.underlying113 h;rw[zFb]at hl
 match r,hl with
 | [c0,c1,c2],_=>
  match xs,o with
  | [y0,y1,y2],_=>
   have k0:DataW.trod enc Tryz.prog f v (fun _=>true) m n 5 [c0]=some y0:=by
    have this:DataW.trod enc Tryz.prog f v (fun _=>true) m n 5 (List.take (Tryz.prog.cellsOf 5) (List.drop 0 [c0,c1,c2]))=some y0:=w 0 _ rfl;rw[zLD]at this;exact this
   have k1:DataW.trod enc Tryz.prog f v (fun _=>true) m n 9 [c1]=some y1:=by
    have this:DataW.trod enc Tryz.prog f v (fun _=>true) m n 9 (List.take (Tryz.prog.cellsOf 9) (List.drop 1 [c0,c1,c2]))=some y1:=w 1 _ rfl;rw[zFc]at this;exact this
   have k2:DataW.trod enc Tryz.prog f v (fun _=>true) m n 9 [c2]=some y2:=by
    have this:DataW.trod enc Tryz.prog f v (fun _=>true) m n 9 (List.take (Tryz.prog.cellsOf 9) (List.drop 2 [c0,c1,c2]))=some y2:=w 2 _ rfl;rw[zFc]at this;exact this
   clear w h;obtain⟨base,q,_,H⟩:=DataW.trod_int Tryz.underlying5 k0;obtain⟨t,u,_⟩:=DataW.trod_string Tryz.underlying9 k1;obtain⟨y,z,_⟩:=DataW.trod_string Tryz.underlying9 k2;obtain rfl:=(List.cons.inj q).1;obtain rfl:=(List.cons.inj u).1;obtain rfl:=(List.cons.inj z).1;refine⟨(base,t,y),rfl, ?_⟩;simp only[Lit.wf,IntKind.min,IntKind.max,IntKind.signed,IntKind.bits,zE,zT]at H;simp only[zG0];simp at H;omega
instance:Inhabited Raw:=⟨(0, .empty, .empty)⟩
set_option maxRecDepth 100000 in
theorem steps_in {enc:TypeId×Value->j}{base:Value}{d:DataW j}{ps:List MemPlace}(p: ∃a len cap,base= .slice a len cap)(h:DataW.Trod enc Tryz.prog f v (fun _=>true) m 96 base d ps):
  ∃l:List Sw,SwR (Go.Eng.H0 f) (Go.Eng.argAV f.heap.size base) l/\ ∀s∈l,s.kd<256:=by
 obtain⟨z,u,x,rfl⟩:=p;obtain⟨y,q⟩:=h;obtain⟨l,t,H⟩:=Go.Eng.srows_arg (α:=Raw) (k:=3) (by decide) (vals:=zFx) (fun _=>rfl) (good:=zG0) Tryz.underlying96 zFb (fun h=>zNy h) q;refine⟨l.map zNu, ?_,fun s w=> ?_⟩
 .have e:(l.map zNu).flatMap swV=l.flatMap fun s=>(zFx s).map (Go.Eng.cellAV f.heap.size):=by
   have: ∀l:List Raw,(∀s∈l,zG0 s)->(l.map zNu).flatMap swV=l.flatMap fun s=>(zFx s).map (Go.Eng.cellAV f.heap.size):=by
    intro l
    induction l with
    | nil=>intro _;rfl
    | cons s l ih=>
     intro o;rw[yJ,qI,qI,zPS f.heap.size (o s (zJ ..)),ih fun s w=>o s (zC _ w)]
   exact this l H
  show Go.Eng.Rw 3 _ _ (l.map zNu).length _;rw[e,jE];exact t
 .obtain⟨r,hr,rfl⟩:=qZ.1 w;have:=H r hr;simp only[zNu];simp only[zG0]at this;omega
end Go.Proofs.YtaaflpnhdkoaeaaGreat.steps14
end
section
namespace Go.Proofs.YtaaflpnhdkoaeaaGreat.walkMakes
open Go.ChangeShapes Go.WideShapes Go.ChangeAt Go.RowKit
theorem own:ownKnob Tryz.prog.godebug=none:=by kernel_rfl
theorem laid:laidOutB Tryz.prog=true:=by kernel_rfl
set_option maxRecDepth 100000 in
theorem contract (H:Type)(enc:TypeId×Value->H)(W:World)(base:Nat)(args:Array Value)(J gs:List (DataW H))(Z:List MemPlace)
  (f: ∀(j:Nat) t v, Tryz.f12.params[j]? =some t->args[j]? =some v->Value.okWide Tryz.prog W .any base t v)
  (K:DataW.Whole enc Tryz.prog Tryz.f12.params.toList Rows.walkMakesSpec.vars false W args.toList J gs Z):
  Calls Tryz.prog 12 args W fun e N=> ∃v,e= .returned v/\Rows.walkMakesSpec.post enc Tryz.prog Tryz.f12 false true false false W args v N:=by
 have o:=K;obtain⟨p,q,C,hV,rfl,a9,b0⟩:=K;have a:DataW.TrodAll enc Tryz.prog W 0 (fun _=>true) true Tryz.f12.params.toList args.toList J p:=C;rw[Tryz.params12]at a f;obtain⟨u,b1,d0,b2,O,q0,a6,rfl,rfl,S,r0⟩:=trodAll_cons a;obtain⟨y,b3,d1,b4,T,q1,rfl,rfl,rfl,Y,r1⟩:=trodAll_cons r0;obtain⟨rfl,rfl,rfl⟩:=trodAll_nil r1;obtain rfl:args= #[u,y]:=by cases args;simp_all
 obtain⟨rfl,rfl⟩:=trodVars_none hV;clear C;have a1: ∀x∈O,x.block<W.heap.size:=fun x z=>o.lt x (by simp[z])
 have a2: ∀x∈T,x.block<W.heap.size:=fun x z=>o.lt x (by simp[z])
 obtain⟨l0,a4,a7⟩:=steps14.steps_in (okWide_slice Tryz.underlying96 (f 0 96 u rfl rfl)) S;obtain⟨l1,a5,a8⟩:=steps14.steps_in (okWide_slice Tryz.underlying96 (f 1 96 y rfl rfl)) Y;obtain⟨m,hm⟩: ∃m:Nat,800000000<=m:=⟨_,zP _⟩;obtain⟨H',a3,hP⟩:=Go.Eng.Sh.walkMakes_walk m hm (Go.Eng.H0_ok W) a4 a5;have a0:=Go.Eng.calls_param (Go.Eng.Sh.f12z_ok (Go.Eng.Sh.dy_ok (m+3)) (m+3)) W (args:= #[u,y]) (H':=H') (by
  simp only[yJ,List.map_nil];exact a3) (fun A a=>hP.keep A a (fun x=>x))
 refine a0.mono fun e N ⟨he,hb⟩=> ?_
 subst he;refine⟨_,rfl,_,_,_,[],(O++(T++[])),[],o, ?_, ?_,rfl,hb.frame _,fun h=>by cases h⟩
 .exact trodAll_cons_mk (shut_bool Tryz.underlying4 _) trodAll_mk0
 .exact(trodAll_cons_mk (Below.trod laid (by kernel_rfl) (of_decide_eq_true (by kernel_rfl)) S hb a1) (trodAll_cons_mk (Below.trod laid (by kernel_rfl) (of_decide_eq_true (by kernel_rfl)) Y hb a2) trodAll_mk0))
set_option maxRecDepth 100000 in
theorem lifted (a:Os)(f:a.Started)(H:Type)(enc:TypeId×Value->H):
  ReturnsInHanded {} Tryz.checked a 12 .any (Rows.walkMakesSpec.pre6 enc Tryz.prog Tryz.f12 Rows.walkMakesRow.domain false) (Rows.walkMakesSpec.post enc Tryz.prog Tryz.f12 false true false false):=by
 refine returnsInHanded_of_change (C:= Tryz.checked) own f (by kernel_rfl) Tryz.func12
  (ChangeSpec.witness6 (enc:=enc) (C:= Tryz.checked) false ⟨#[], #[.slice none 0 0, .slice none 0 0],[]⟩ 8 (by kernel_rfl) (by kernel_rfl) (by kernel_rfl) (by kernel_rfl)) ?_
 intro W base args m o h j p _ _;exact contract H enc W base args m o h j p
theorem holds:Rows.WalkMakesSaid:=
 OpenClaim.holds_of_wide 12 Tryz.f12 rfl rfl rfl rfl rfl rfl rfl ⟨rfl,rfl,rfl,rfl,rfl⟩ rfl rfl rfl rfl rfl (by kernel_rfl) Tryz.func12 (by kernel_rfl)
  (of_decide_eq_true (by kernel_rfl)) (by unfold Func.isWrapper;first | (rw[if_pos (by decide+kernel)];kernel_rfl) | (rw[if_neg (by decide+kernel)];exact⟨rfl,rfl⟩))
  (fun f a H enc _=>lifted f a H enc)
end Go.Proofs.YtaaflpnhdkoaeaaGreat.walkMakes
namespace Go.Proofs.YtaaflpnhdkoaeaaGreat
theorem walkMakes_holds:Rows.WalkMakesSaid:=walkMakes.holds
end Go.Proofs.YtaaflpnhdkoaeaaGreat
end



