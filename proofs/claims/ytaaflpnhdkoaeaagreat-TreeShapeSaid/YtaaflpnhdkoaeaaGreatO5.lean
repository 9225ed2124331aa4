/- A checked evaluator for the program, and what it tells, part 5: no condition. -/
import Derived.Test.YtaaflpnhdkoaeaaGreatO4
set_option linter.all false
set_option linter.unusedVariables false
set_option linter.unusedSimpArgs false
set_option maxHeartbeats 8000000
set_option maxRecDepth 20000
variable (D:Go.Eng.Dyn)(n:Nat){H:List (Go.Eng.AV×Go.Eng.AV)}{h C P:Go.Eng.AH}{k w p q F W:Nat}{i G:Go.Nd.Node}{A t J:Go.Eng.AV}{v L:List Go.Nd.Ptr}{l V:List Go.Eng.AV}{e:List (Nat×List Go.Eng.AV)}{s:Go.Nd.Ptr->Option Go.Nd.Node}{B:Go.Nd.Ptr}{I:Nat->Prop}{M:List Go.Nd.Node}{N:Bool}{Q:List (List Go.Eng.AV)}{R:Go.Eng.AObj}{U:UInt8}
section
namespace Go.Eng.Sh
open Go.Nd (Ptr sumL cutOk cutA aI)
theorem catS1(q:Rw 1 h A l.length l)(H:Rws 1 h l e)(hb:gG e<=1000000000)(hl:l.length<=1000000000)(a:Nat)(s:l.length<a):
  kL a (KF D n) [A, .int .i64 (0:Nat),A, .int .i64 (l.length:Nat), .int .i64 (0:Nat)] h=some (.exit 0 [A, .int .i64 (gG e:Nat)],h):=by
 have f:=H.len;refine bK (fun i=>[A, .int .i64 (gG (e.take i):Nat),A, .int .i64 (l.length:Nat), .int .i64 (i:Nat)]) l.length ?_ ?_ a s
 .intro i hi;obtain⟨p,x,t,u,y⟩:=q.ld1 hi;obtain⟨r,z,C,J⟩:=H.at y;have o:((i:Nat):Int)< (l.length:Int):=by omega
  have K:=aX z;have G:=Q5 e i;have I:=Q5 e (i+1);have j: ¬((gG (e.take i):Nat):Int)+((r.1:Nat):Int)< ((0:Nat):Int):=by omega
  have F:((gG (e.take (i+1)):Nat):Int)=((gG (e.take i):Nat):Int)+((r.1:Nat):Int):=by omega
  rw[F];simp(disch:=omega) only[KF,XM,eZ,o,t,u,C.lnSl,j,yF]
 .intro m;refine jZ ?_;have:e.take l.length=e:=by rw[f];exact jE
  simp only[KF,eZ,yS,this]
theorem catS2(J:h.ok)(K:Rw 1 h A l.length l)(H:Rws 1 h l e)(hl:l.length<=1000000000)
   (L:Part 1 9 h t 0 [] (gG e)) (z: ∀B,Blk t B-> ¬Blk A B) (C: ∀B,Blk t B-> ∀x∈l,¬Blk x B) (j:Nat) (M:l.length<j):
  ∃a H',kL j (KE D n) [t,A, .int .i64 (l.length:Nat), .int .i64 (0:Nat)] h=some (.exit 2 [a],H')/\Stp (Blk t) h H'/\Part 1 9 H' a (gG e) (zEb e) (gG e)/\ ∀B,Blk a B->Blk t B:=by
 have y:=H.len;obtain⟨m,o,H',k1,a,rfl,k3,k4,k5⟩:=fC (b:=KE D n) l.length (fun i o H'=> ∃a,o=[a,A, .int .i64 (l.length:Nat), .int .i64 (i:Nat)]/\Stp (Blk t) h H'/\Part 1 9 H' a (gG (e.take i)) (zEb (e.take i)) (gG e)/\ ∀B,Blk a B->Blk t B) (fun i o Z hi ⟨w1,hus,hs,hp,hB⟩=>by
  subst hus;obtain⟨p,x,N,O,s⟩:=(K.stp hs (fun v f q=>z v q f)).ld1 hi;obtain⟨r,vs,u,Q⟩:=H.at s;have S:x∈l:=List.mem_of_getElem? s;have F:=u.stp hs (fun v f q=>C v q x S f);have G:((i:Nat):Int)< (l.length:Int):=by omega
  have Y:=Q5 e (i+1);have I:=aX vs;obtain⟨T,U,V,q2,W,n2,b2⟩:=hp.app (bytes:=16) hs.ok (by decide) F.srcOf u.1 Q (by omega);rw[<-I,<-zB7 vs]at q2;refine⟨_,U, ?_,T,rfl,hs.trans (W.mono fun v _ f=>hB v f),q2,fun B hb=>hB B (b2 B hb)⟩;simp(disch:=omega) only[KE,eZ,G,N,O,V,yF]) j _ h ⟨t,rfl,zOp J,L,fun _ x=>x⟩ M
 rw[y,jE]at k4;exact⟨a,H',k1.trans (jZ (by simp only[KE,eZ,yS])),k3,k4,k5⟩
theorem zH4(s:h.ok){v:AV}{vs:List AV}{rs:List (Nat×List AV)}(j:Rw 1 h v vs.length vs)(H:Rws 1 h vs rs)(hb:gG rs<=1000000000)(hl:vs.length<=1000000000)(o:vs.length<n)
  (p: ∀B,Blk v B->B<h.next) (q: ∀x∈vs,∀B,Blk x B->B<h.next):
  ∃w H',f132 D n [v] h=some (w,H')/\Prs h H'/\Own 1 9 H' w (gG rs) (zEb rs)/\ ∀B,Blk w B->h.next<=B:=by
 obtain⟨J,K,t,f,q1,i⟩:=zIC D n (gG rs) hb s;obtain⟨u,y,z,C,q2,F⟩:=catS2 D n f.ok (j.prs f) (H.prs f) hl q1 (fun B a m=>by have:=i B a;have:=p B m;omega) (fun B a x G m=>by have:=i B a;have:=q x G B m;omega) n o;have I:=catS1 D n j H hb hl n o;refine⟨u,y, ?_,f.fresh C i,q2.own,fun B a=>i B (F B a)⟩;simp only[f132,eZ,j.lnSl,I,zJZ,t,z,zGo]
theorem catP1(q:Rw 1 h A l.length l)(H:Rws 3 h l e)(hb:gG e<=1000000000)(hl:l.length<=1000000000)(a:Nat)(s:l.length<a):
  kL a (KC D n) [A, .int .i64 (0:Nat),A, .int .i64 (l.length:Nat), .int .i64 (0:Nat)] h=some (.exit 0 [A, .int .i64 (gG e:Nat)],h):=by
 have f:=H.len;refine bK (fun i=>[A, .int .i64 (gG (e.take i):Nat),A, .int .i64 (l.length:Nat), .int .i64 (i:Nat)]) l.length ?_ ?_ a s
 .intro i hi;obtain⟨p,x,t,u,y⟩:=q.ld1 hi;obtain⟨r,z,C,J⟩:=H.at y;have o:((i:Nat):Int)< (l.length:Int):=by omega
  have K:=aX z;have G:=Q5 e i;have I:=Q5 e (i+1);have j: ¬((gG (e.take i):Nat):Int)+((r.1:Nat):Int)< ((0:Nat):Int):=by omega
  have F:((gG (e.take (i+1)):Nat):Int)=((gG (e.take i):Nat):Int)+((r.1:Nat):Int):=by omega
  rw[F];simp(disch:=omega) only[KC,XK,eZ,o,t,u,C.lnSl,j,yF]
 .intro m;refine jZ ?_;have:e.take l.length=e:=by rw[f];exact jE
  simp only[KC,eZ,yS,this]
theorem catP2(J:h.ok)(K:Rw 1 h A l.length l)(H:Rws 3 h l e)(hl:l.length<=1000000000)
   (L:Part 3 42 h t 0 [] (gG e)) (z: ∀B,Blk t B-> ¬Blk A B) (C: ∀B,Blk t B-> ∀x∈l,¬Blk x B) (j:Nat) (M:l.length<j):
  ∃a H',kL j (KA D n) [t,A, .int .i64 (l.length:Nat), .int .i64 (0:Nat)] h=some (.exit 2 [a],H')/\Stp (Blk t) h H'/\Part 3 42 H' a (gG e) (zEb e) (gG e)/\ ∀B,Blk a B->Blk t B:=by
 have y:=H.len;obtain⟨m,o,H',k1,a,rfl,k3,k4,k5⟩:=fC (b:=KA D n) l.length (fun i o H'=> ∃a,o=[a,A, .int .i64 (l.length:Nat), .int .i64 (i:Nat)]/\Stp (Blk t) h H'/\Part 3 42 H' a (gG (e.take i)) (zEb (e.take i)) (gG e)/\ ∀B,Blk a B->Blk t B) (fun i o Z hi ⟨w1,hus,hs,hp,hB⟩=>by
  subst hus;obtain⟨p,x,N,O,s⟩:=(K.stp hs (fun v f q=>z v q f)).ld1 hi;obtain⟨r,vs,u,Q⟩:=H.at s;have S:x∈l:=List.mem_of_getElem? s;have F:=u.stp hs (fun v f q=>C v q x S f);have G:((i:Nat):Int)< (l.length:Int):=by omega
  have Y:=Q5 e (i+1);have I:=aX vs;obtain⟨T,U,V,q2,W,n2,b2⟩:=hp.app (bytes:=24) hs.ok (by decide) F.srcOf u.1 Q (by omega);rw[<-I,<-zB7 vs]at q2;refine⟨_,U, ?_,T,rfl,hs.trans (W.mono fun v _ f=>hB v f),q2,fun B hb=>hB B (b2 B hb)⟩;simp(disch:=omega) only[KA,eZ,G,N,O,V,yF]) j _ h ⟨t,rfl,zOp J,L,fun _ x=>x⟩ M
 rw[y,jE]at k4;exact⟨a,H',k1.trans (jZ (by simp only[KA,eZ,yS])),k3,k4,k5⟩
theorem zH5(s:h.ok){v:AV}{vs:List AV}{rs:List (Nat×List AV)}(j:Rw 1 h v vs.length vs)(H:Rws 3 h vs rs)(hb:gG rs<=1000000000)(hl:vs.length<=1000000000)(o:vs.length<n)
  (p: ∀B,Blk v B->B<h.next) (q: ∀x∈vs,∀B,Blk x B->B<h.next):
  ∃w H',f178 D n [v] h=some (w,H')/\Prs h H'/\Own 3 42 H' w (gG rs) (zEb rs)/\ ∀B,Blk w B->h.next<=B:=by
 obtain⟨J,K,t,f,q1,i⟩:=zID D n (gG rs) hb s;obtain⟨u,y,z,C,q2,F⟩:=catP2 D n f.ok (j.prs f) (H.prs f) hl q1 (fun B a m=>by have:=i B a;have:=p B m;omega) (fun B a x G m=>by have:=i B a;have:=q x G B m;omega) n o;have I:=catP1 D n j H hb hl n o;refine⟨u,y, ?_,f.fresh C i,q2.own,fun B a=>i B (F B a)⟩;simp only[f178,eZ,j.lnSl,I,zJT,t,z,zGi]
end Go.Eng.Sh
end
section
namespace Go.Eng
theorem hp:(∀(o:AObj) (f:Nat->AV) (H:AH) (K:AV->AH->Rs),H.ok->bA (some (o,f)) H K=K (f H.next) (H.push o))/\
  (∀(H:AH) (A o:Nat) (x:AObj),A<H.next->ld1 (.ptr A o) (H.push x)=ld1 (.ptr A o) H)/\
  (∀(H:AH) (A o n:Nat) (x:AObj),A<H.next->ldN n (.ptr A o) (H.push x)=ldN n (.ptr A o) H)/\
  (∀(l:List AV) (o n:Nat) (a:AV),o=0->n=l.length->(uP l o n).map AV.agg=some (.agg l))/\
  (∀(a b c d:AV),uP [a,b,c,d] 0 4=some [a,b,c,d])/\
  (∀(l:List AV),(some l).map AV.agg=some (.agg l))/\
  (∀(vs:List AV) (i:Nat),jR (.tuple vs) i=vs[i]?):=
 ⟨fun o f H K h=>kT h o f K,fun H A o x h=>zBL o x h,fun H A o n x h=>zLf o n x h,fun l o n _ j m=>by subst j;subst m;rw[kV _ _ _ (.inr (by omega)),y9,jE];rfl,fun _ _ _ _=>rfl,fun _=>rfl,fun vs i=>by simp only[jR,Z9]⟩
end Go.Eng
end
section
namespace Go.Nd
def partedN (lt:Str->Str->Bool)(a:Node)(sep:Str)(b:Node):Bool:=
 mayK sep&&(a.leaf==b.leaf)&&(decide (a.keys.length=0)||lt (a.keys.getD (a.keys.length - 1) []) sep)&&(decide (b.keys.length=0)||lt sep (b.keys.getD 0 [])||(a.leaf&&decide (sep=b.keys.getD 0 [])))
end Go.Nd
namespace Go.Eng.Sh
open Go.Nd (Ptr sumL cutOk cutA aI partedN)
theorem zFp(hk:h.ok){sep:Str}(H:fK h A i)(h':fK h t G)(hs:small i)(Z:small G):
  ∃H',f212 D n [A,S sep,t] h=some (.bool (partedN ltS i sep G),H')/\Prs h H':=by
 obtain⟨ks,vs,J,rfl,V,h2,h3⟩:=H;obtain⟨I,vs',M,rfl,k1,k2,k3⟩:=h';have a2:=Nd.sumL_ge i.keys;have a1:=Nd.sumL_ge G.keys;obtain⟨s1,s2,s3⟩:=hs;obtain⟨a3,a4,a5⟩:=Z;have P:Prs h ((h.push (.cells [.bool i.leaf,ks,vs,J] 119 1 false)).push (.cells [.bool G.leaf,I,vs',M] 119 1 false)):=((zOp hk).push _).push _;have u:=V.lnSl;have C:=k1.lnSl;have q1:=V.prs P;have q2:=k1.prs P;generalize f:(h.push (.cells [.bool i.leaf,ks,vs,J] 119 1 false)).push (.cells [.bool G.leaf,I,vs',M] 119 1 false)=H2 at P q1 q2;have p: ∀o,ld1 (.ptr h.next o) H2=[.bool i.leaf,ks,vs,J][o]? :=fun o=>by rw[<-f,zBL _ _ (by rw[zOi];omega),U3]
 have j: ∀o,ld1 (.ptr (h.push (.cells [.bool i.leaf,ks,vs,J] 119 1 false)).next o) H2=[.bool G.leaf,I,vs',M][o]? :=fun o=>by rw[<-f,U3]
 refine⟨H2, ?_,P⟩;have a0: ∀x y:Bool,(!(x==y))=false->x=y:=fun x y=>by cases x<;>cases y<;>simp
 cases hm:Nd.mayK sep with
 | false=>simp(disch:=first | assumption | omega | (simp only[zOi,zOj];omega) | (repeat(first | assumption | apply AH.ok.push))) only[f212,eZ,hp,f,wD,hm,partedN]
 | true=>
  cases hl:(i.leaf==G.leaf)with
  | false=>simp(disch:=first | assumption | omega | (simp only[zOi,zOj];omega) | (repeat(first | assumption | apply AH.ok.push))) only[f212,eZ,hp,f,wD,hm,partedN,p,j,hl]
  | true=>
   have e:G.leaf=i.leaf:=by revert hl;cases i.leaf<;>cases G.leaf<;>simp
   rw[e]at j f;simp only[partedN,hm,hl,Bool.true_and];rw[e];clear hl e a0;generalize i.leaf=la at*
   have v:(la==la)=true:=by simp
   have Y:
     (∃Q,G.keys.length≠0->(∀κ (z:Int),z=((0:Nat):Int)->cN 1 I (.int κ z)=some Q)/\Eng.ld1 Q H2=some (S (G.keys.getD 0 []))):=by
    by_cases h0:G.keys.length=0
    .exact⟨.nP,fun H=>absurd h0 H⟩
    .obtain⟨q,F,a⟩:=q2.at (i:=0) (by omega);refine⟨q,fun _=>⟨F, ?_⟩⟩;rw[vN (by omega)];exact a
   obtain⟨Q,U⟩:=Y;by_cases W:i.keys.length=0
   .have s: ¬((0:Nat):Int)< (i.keys.length:Int):=by omega
    simp only[W,decide_true,Bool.true_or,Bool.true_and];by_cases hb:G.keys.length=0
    .have m:(G.keys.length:Int)=((0:Nat):Int):=by omega
     simp only[hb,decide_true,Bool.true_or];simp(disch:=first | assumption | omega | (simp only[zOi,zOj];omega) | (repeat(first | assumption | apply AH.ok.push))) only[f212,eZ,hp,f,wD,hm,p,j,v,u,C,s,m]
    .have m: ¬(G.keys.length:Int)=((0:Nat):Int):=by omega
     obtain⟨F,a⟩:=U hb;simp only[hb,decide_false,Bool.false_or]
     cases N:ltS sep (G.keys.getD 0 [])<;>cases la<;>simp(disch:=first | assumption | omega | (simp only[zOi,zOj];omega) | (repeat(first | assumption | apply AH.ok.push))) only[f212,eZ,hp,f,wD,hm,p,j,v,u,C,s,m,F,a,N]
   .have s:((0:Nat):Int)< (i.keys.length:Int):=by omega
    obtain⟨q,T,K⟩:=q1.at (i:=i.keys.length - 1) (by omega);rw[<-vN (d:=[])]at K;have L:(i.keys.length:Int) - ((1:Nat):Int)=((i.keys.length - 1:Nat):Int):=by omega
    simp only[W,decide_false,Bool.false_or]
    cases O:ltS (i.keys.getD (i.keys.length - 1) []) sep with
    | false=>simp(disch:=first | assumption | omega | (simp only[zOi,zOj];omega) | (repeat(first | assumption | apply AH.ok.push))) only[f212,eZ,hp,f,wD,hm,p,j,v,u,C,s,L,T,K,O]
    | true=>
     by_cases hb:G.keys.length=0
     .have m:(G.keys.length:Int)=((0:Nat):Int):=by omega
      simp only[hb,decide_true,Bool.true_or];simp(disch:=first | assumption | omega | (simp only[zOi,zOj];omega) | (repeat(first | assumption | apply AH.ok.push))) only[f212,eZ,hp,f,wD,hm,p,j,v,u,C,s,m,L,T,K,O]
     .have m: ¬(G.keys.length:Int)=((0:Nat):Int):=by omega
      obtain⟨F,a⟩:=U hb;simp only[hb,decide_false,Bool.false_or]
      cases N:ltS sep (G.keys.getD 0 [])<;>cases la<;>simp(disch:=first | assumption | omega | (simp only[zOi,zOj];omega) | (repeat(first | assumption | apply AH.ok.push))) only[f212,eZ,hp,f,wD,hm,p,j,v,u,C,s,m,L,T,K,O,F,a,N]
end Go.Eng.Sh
end
section
namespace Go.Eng
theorem box (f:h.ok)(o:AObj): ∃H' A,(∀(a:Nat->AV) (K:AV->AH->Rs),bA (some (o,a)) h K=K (a A) H')/\Prs h H'/\H'.h.get A=some o/\h.next<=A/\A<H'.next:=
 ⟨h.push o,h.next,fun a K=>kT f o a K,(zOp f).push o,zOh _ _,zP _,by rw[zOi];omega⟩
theorem zMY (e:TypeId)(z:AV)(a:isCell A=true)(f:isCell t=true)(h:isCell z=true):Q2 e 1 2 [z] [(0,A),(1,t)]=some (.cells [A,t] e 1 false,fun x=> .slice x 0 2 4):=by
 simp only[Q2,gP,rep,kR a,kR f];rfl
theorem row3 (e:TypeId)(z:AV)(a:isCell A=true)(f:isCell t=true)(h:isCell J=true):Q2 e 1 3 [z] [(0,A),(1,t),(2,J)]=some (.cells [A,t,J] e 1 false,fun x=> .slice x 0 3 6):=by
 simp only[Q2,gP,rep,kR a,kR f,kR h];rfl
theorem zKP (e:TypeId)(z:AV)(a:isCell A=true):Q2 e 1 1 [z] [(0,A)]=some (.cells [A] e 1 false,fun x=> .slice x 0 1 2):=by
 simp only[Q2,gP,rep,kR a];rfl
theorem Rw.lit {cc:Nat}(a:h.ok)(H:h.h.get k=some (.cells l w 1 false)):Rw 1 h (.slice k 0 l.length cc) l.length l:=
 ⟨by simp, .inr (.inr ⟨k,0,cc,l,w,1,false,rfl,H,a.lt H,by simp,by simp⟩)⟩
end Go.Eng
namespace Go.Eng.Sh
open Go.Nd (Ptr sumL cutOk cutA aI partedN d8)
theorem bF {e:TypeId}(A:h.h.get k=some (.cells l e 1 false))(hl:l.length=4):ldN 4 (.ptr k 0) h=some (.agg l):=by
 rw[jU A,kV _ _ _ (.inr (by omega)),y9,zZ (by omega)];rfl
def nd0:Nd.Node:=⟨false,[],[],[]⟩
theorem Q0.zero (H0 H:AH):Q0 H0 H (.agg [.bool false, .nS, .nS, .nS]) nd0:=
 ⟨_,_,_,rfl,zOv ..,zOv ..,zOv ..,fun B a=>by rcases a with h | h | h<;>exact(zOt.1 h).elim,fun B a=>(zOt.1 a).elim,fun B a=>(zOt.1 a).elim⟩
def joinOk (a:Nd.Node)(sep:Str)(b:Nd.Node):Bool:=Nd.shaped ltS a&&Nd.shaped ltS b&&partedN ltS a sep b
theorem zIU{cc:Nat}{l m:List Str}(i:h.ok)(j:h.h.get k=some (.cells [A,t] 117 1 false))(q:Strs h A l)(s:Strs h t m)(hb:l.length+m.length<=1000000000)(u:100<=n):
  ∃w H',f132 D n [.slice k 0 2 cc] h=some (w,H')/\Prs h H'/\Own 1 9 H' w (l++m).length ((l++m).map S)/\ ∀B,Blk w B->h.next<=B:=by
 obtain⟨w,H',e,p,o,f⟩:=zH4 D n i (v:= .slice k 0 2 cc) (vs:=[A,t]) (rs:=[(l.length,l.map S),(m.length,m.map S)]) (Rw.lit i j) ⟨⟨q,vL _⟩,⟨s,vL _⟩,trivial⟩ (by simpa[gG]using hb) (by simp) (by simp;omega)
  (fun B a=>by rw[zOm.1 a];exact i.lt j) (fun z H B a=>by
   simp only[zO,List.not_mem_nil,or_false]at H;rcases H with rfl | rfl
   .exact zOx q a
   .exact zOx s a)
 exact⟨w,H',e,p,by simpa[gG,zEb]using o,f⟩
theorem zNW{cc:Nat}{l m H:List Str}(i:h.ok)(j:h.h.get k=some (.cells [A,t,J] 117 1 false))(q:Strs h A l)(s:Strs h t m)(x:Strs h J H)(hb:l.length+m.length+H.length<=1000000000)(C:100<=n):
  ∃w H',f132 D n [.slice k 0 3 cc] h=some (w,H')/\Prs h H'/\Own 1 9 H' w (l++(m++H)).length ((l++(m++H)).map S)/\ ∀B,Blk w B->h.next<=B:=by
 obtain⟨w,H',e,p,o,f⟩:=zH4 D n i (v:= .slice k 0 3 cc) (vs:=[A,t,J]) (rs:=[(l.length,l.map S),(m.length,m.map S),(H.length,H.map S)]) (Rw.lit i j) ⟨⟨q,vL _⟩,⟨s,vL _⟩,⟨x,vL _⟩,trivial⟩ (by simp[gG];omega) (by simp) (by simp;omega)
  (fun B a=>by rw[zOm.1 a];exact i.lt j) (fun J u B a=>by
   simp only[zO,List.not_mem_nil,or_false]at u;rcases u with rfl | rfl | rfl
   .exact zOx q a
   .exact zOx s a
   .exact zOx x a)
 exact⟨w,H',e,p,by simpa[gG,zEb]using o,f⟩
theorem conP2{cc:Nat}{m:List Ptr}(i:h.ok)(j:h.h.get k=some (.cells [A,t] 50 1 false))(q:bI h A L)(s:bI h t m)(hb:L.length+m.length<=1000000000)(u:100<=n):
  ∃w H',f178 D n [.slice k 0 2 cc] h=some (w,H')/\Prs h H'/\Own 3 42 H' w (L++m).length ((L++m).flatMap jV)/\ ∀B,Blk w B->h.next<=B:=by
 obtain⟨w,H',e,p,o,f⟩:=zH5 D n i (v:= .slice k 0 2 cc) (vs:=[A,t]) (rs:=[(L.length,L.flatMap jV),(m.length,m.flatMap jV)]) (Rw.lit i j) ⟨⟨q,uT _⟩,⟨s,uT _⟩,trivial⟩ (by simpa[gG]using hb) (by simp) (by simp;omega)
  (fun B a=>by rw[zOm.1 a];exact i.lt j) (fun z H B a=>by
   simp only[zO,List.not_mem_nil,or_false]at H;rcases H with rfl | rfl
   .exact zOx q a
   .exact zOx s a)
 exact⟨w,H',e,p,by simpa[gG,zEb]using o,f⟩
theorem aK:uD [(0,1),(1,1),(2,1),(3,1)] [.bool false, .nS, .nS, .nS] []=some (.agg [.bool false, .nS, .nS, .nS]):=rfl
theorem zHa (x:Bool)(f:isCell A=true)(hb:isCell t=true):uD [(0,1),(1,1),(2,1),(3,1)] [.bool false, .nS, .nS, .nS] [(0, .bool x),(1,A),(2,t)]=some (.agg [.bool x,A,t, .nS]):=by
 simp only[uD,gP,zIp,kR f,kR hb];rfl
theorem zM6 (f:isCell A=true)(hb:isCell t=true):uD [(0,1),(1,1),(2,1),(3,1)] [.bool false, .nS, .nS, .nS] [(1,A),(3,t)]=some (.agg [.bool false,A, .nS,t]):=by
 simp only[uD,gP,zIp,kR f,kR hb];rfl
theorem zFM(hn:200000000<=n)(hk:h.ok){sep:Str}(H:fK h A i)(h':fK h t G)(hs:small i)(c0:small G):
  ∃u H',f176 D n [A,S sep,t] h=some (.tuple [u, .int .i64 (if joinOk i sep G then 0 else 1:Nat)],H')/\Prs h H'/\Q0 h H' u (if joinOk i sep G then d8 i sep G else nd0):=by
 have i0:=H;have c4:=h';obtain⟨ks,vs,ps,rfl,h1,h2,h3⟩:=H;obtain⟨la,a5⟩: ∃la,la=i.leaf:=⟨_,rfl⟩;rw[<-a5]at i0⊢;obtain⟨a6,vs',c5,rfl,k1,k2,k3⟩:=h';have d9:=Nd.sumL_ge i.keys;have d6:=Nd.sumL_ge G.keys;have e0:=Nd.sumL_ge i.vals;have d7:=Nd.sumL_ge G.vals;have s0:=hs;have c6:=c0;obtain⟨s1,s2,s3⟩:=hs;obtain⟨e1,e2,e3⟩:=c0;obtain⟨H1,A1,b1,p1,g1,m1,n1⟩:=box hk (.cells [.bool la,ks,vs,ps] 119 1 false);obtain⟨H2,A2,b2,p2,g2,m2,n2⟩:=box p1.ok (.cells [.bool G.leaf,a6,vs',c5] 119 1 false);obtain⟨H3,N,b3,p3,g3,m3,n3⟩:=box p2.ok (.cells [.bool false, .nS, .nS, .nS] 119 1 false);have Z:Prs h H3:=(p1.trans p2).trans p3;have U:=p3.get p2.ok (p2.get p1.ok g1);have d1:=p3.get p2.ok g2;obtain⟨H4,e4,p4⟩:=uX D n Z.ok (i0.prs Z) s0 hn;have O:=Z.trans p4;have d2:=p4.get Z.ok U;have a0:=p4.get Z.ok d1;have c7:=p4.get Z.ok g3;have a1: ∀ {w:AH} {l:List AV},Prs h w->w.h.get N=some (.cells [.bool false, .nS, .nS, .nS] 119 1 false)->l.length=4->jS l=true-> ∃a,stN 4 (.ptr N 0) (.agg l) w=some (jT,a)/\Prs h a/\Stp (fun B=>B=N) w a/\ldN 4 (.ptr N 0) a=some (.agg l):=fun {w l} px hg hl hc=>by
  obtain⟨a,e,g,s,_⟩:=kD px.ok hg hl hc;have e':stN 4 (.ptr N 0) (.agg l) w=some (jT,a):=e;exact⟨a,e',px.fresh s (fun B f=>by omega),s,by rw[jU g,kV _ _ _ (.inr (by omega)),y9,zZ (by omega)];rfl⟩
 cases c1:Nd.shaped ltS i with
 | false=>
  obtain⟨a,C,F,_,b⟩:=a1 (l:=[.bool false, .nS, .nS, .nS]) O c7 rfl rfl;refine⟨.agg [.bool false, .nS, .nS, .nS],a, ?_,F, ?_⟩
  rotate_left
  .simp only[joinOk,c1,Bool.false_and,zM,qE];exact Q0.zero _ _
  .simp only[joinOk,c1,Bool.false_and,zM,qE];simp(disch:=omega) only[f176,eZ,b1,b2,b3,jU U,cS,qA,e4,c1,aK,C,b]
 | true=>
 obtain⟨H5,e5,p5⟩:=uX D n O.ok (c4.prs O) c6 hn;have K:=O.trans p5;have a2:=p5.get O.ok d2;have a3:=p5.get O.ok a0;have c8:=p5.get O.ok c7
 cases c2:Nd.shaped ltS G with
 | false=>
  obtain⟨a,C,F,_,b⟩:=a1 (l:=[.bool false, .nS, .nS, .nS]) K c8 rfl rfl;refine⟨.agg [.bool false, .nS, .nS, .nS],a, ?_,F, ?_⟩
  rotate_left
  .simp only[joinOk,c2,Bool.false_and,Bool.and_false,zM,qE];exact Q0.zero _ _
  .simp only[joinOk,c2,Bool.false_and,Bool.and_false,zM,qE];simp(disch:=omega) only[f176,eZ,b1,b2,b3,jU U,jU a0,cS,qA,e4,e5,c1,c2,aK,C,b]
 | true=>
 obtain⟨H6,e6,p6⟩:=zFp D n K.ok (sep:=sep) (i0.prs K) (c4.prs K) s0 c6;have Q:=K.trans p6;have V:=p6.get K.ok a2;have L:=p6.get K.ok a3;have a7:=p6.get K.ok c8
 cases c3:partedN ltS i sep G with
 | false=>
  obtain⟨a,C,F,_,b⟩:=a1 (l:=[.bool false, .nS, .nS, .nS]) Q a7 rfl rfl;refine⟨.agg [.bool false, .nS, .nS, .nS],a, ?_,F, ?_⟩
  rotate_left
  .simp only[joinOk,c3,Bool.false_and,Bool.and_false,zM,qE];exact Q0.zero _ _
  .simp only[joinOk,c3,Bool.false_and,Bool.and_false,zM,qE];simp(disch:=omega) only[f176,eZ,b1,b2,b3,jU U,jU a0,jU a2,jU a3,cS,qA,e4,e5,e6,c1,c2,c3,aK,C,b]
 | true=>
 have hj:joinOk i sep G=true:=by simp only[joinOk,c1,c2,c3,qO]
 simp only[hj,if_true]
 cases la with
 | true=>
  obtain⟨H7,A7,b7,j,g7,m7,n7⟩:=box Q.ok (.cells [ks,a6] 117 1 false);have T:=Q.trans j;obtain⟨H8,A8,b8,q,g8,m8,n8⟩:=box T.ok (.cells [vs,vs'] 117 1 false);have y:=T.trans q;obtain⟨w9,H9,e9,z,o9,f9⟩:=zIU D n (cc:=4) y.ok (q.get T.ok g7) (h1.prs y) (k1.prs y) (by omega) (by omega);have m:=y.trans z;obtain⟨M,c9,a8,I,J,W⟩:=zIU D n (cc:=4) m.ok (z.get y.ok g8) (h2.prs m) (k2.prs m) (by omega) (by omega);have Y:=m.trans I;have up {w:AH} {o:AObj} {v:Nat} (g:H6.h.get v=some o) (p:Prs H6 w):=p.get Q.ok g;have a9:Prs H6 H9:=(j.trans q).trans z;obtain⟨a,C,F,sy,b⟩:=a1 (l:=[.bool true,w9,M, .nS]) Y (up a7 (a9.trans I)) rfl (by simp only[jS,o9.row.isCell,J.row.isCell];rfl);have d3:N<H8.next:=by have:=p4.next;have:=p5.next;have:=p6.next;have:=j.next;have:=q.next;omega
  have n9:=z.next
  refine⟨.agg [.bool true,w9,M, .nS],a, ?_,F, ?_⟩
  rotate_left
  .have:d8 i sep G=⟨true,i.keys++G.keys,i.vals++G.vals,[]⟩:=by simp only[d8,<-a5,if_true]
   rw[this];refine⟨w9,M, .nS,rfl,(o9.mono I (fun _ _ x=>x)).mono sy (fun B f e=>by have:=f9 B f;omega),J.mono sy (fun B f e=>by have:=W B f;omega),zOv ..,fun B f=> ?_,fun B f=>⟨fun H=> ?_,fun H=>(zOt.1 H).elim⟩,fun B f H=>(zOt.1 H).elim⟩
   .have:=y.next
    rcases f with H | H | H
    .have:=f9 B H;omega
    .have:=W B H;omega
    .exact(zOt.1 H).elim
   .have:=W B H;have:=zOx o9.row f;omega
  .simp(disch:=omega) only[f176,eZ,b1,b2,b3,jU U,jU a0,jU a2,jU a3,cS,qA,e4,e5,e6,c1,c2,c3,jP V,jP L,jP (up V j),jP (up L j),zMY 117 .nS h1.isCell k1.isCell rfl,zMY 117 .nS h2.isCell k2.isCell rfl,b7,b8,e9,
    kY (jP (up V a9) 2) (kK h2),kY (jP (up L a9) 2) (kK k2),a8,zHa _ o9.row.isCell J.row.isCell,C,b]
 | false=>
  obtain⟨H7,A7,b7,j,g7,m7,n7⟩:=box Q.ok (.cells [S sep] 9 1 false);have T:=Q.trans j;obtain⟨H8,A8,b8,q,g8,m8,n8⟩:=box T.ok (.cells [ks, .slice A7 0 1 2,a6] 117 1 false);have y:=T.trans q;obtain⟨H9,A9,b9,z,g9,m9,n9⟩:=box y.ok (.cells [ps,c5] 50 1 false);have m:=y.trans z;have d0:Strs H9 (.slice A7 0 1 2) [sep]:=Rw.lit (cc:=2) m.ok (zOs (q.trans z) T.ok g7);obtain⟨M,c9,a8,I,J,W⟩:=zNW D n (cc:=6) m.ok (z.get y.ok g8) (h1.prs m) d0 (k1.prs m) (by simp only[zY,yO];omega) (by omega);have Y:=m.trans I;obtain⟨b0,e7,d4,b4,b5,b6⟩:=conP2 D n (cc:=4) Y.ok (I.get m.ok g9) (h3.prs Y) (k3.prs Y) (by omega) (by omega);have d5:=Y.trans b4;have up {w:AH} {o:AObj} {v:Nat} (g:H6.h.get v=some o) (p:Prs H6 w):=p.get Q.ok g;have a4:Prs H6 c9:=((j.trans q).trans z).trans I;obtain⟨a,C,F,sy,b⟩:=a1 (l:=[.bool false,M, .nS,b0]) d5 (up a7 (a4.trans b4)) rfl (by simp only[jS,J.row.isCell,b5.row.isCell];rfl);have d3:N<H9.next:=by have:=p4.next;have:=p5.next;have:=p6.next;have:=j.next;have:=q.next;have:=z.next;omega
  have e8:=I.next
  refine⟨.agg [.bool false,M, .nS,b0],a, ?_,F, ?_⟩
  rotate_left
  .have:d8 i sep G=⟨false,i.keys++([sep]++G.keys),[],i.kids++G.kids⟩:=by simp only[d8,<-a5,zM,qE]
   rw[this];refine⟨M, .nS,b0,rfl,(J.mono b4 (fun _ _ x=>x)).mono sy (fun B f e=>by have:=W B f;omega),zOv ..,b5.mono sy (fun B f e=>by have:=b6 B f;omega),fun B f=> ?_,fun B f=>⟨fun H=>(zOt.1 H).elim,fun H=> ?_⟩,fun B f=>(zOt.1 f).elim⟩
   .have:=m.next
    rcases f with H | H | H
    .have:=W B H;omega
    .exact(zOt.1 H).elim
    .have:=b6 B H;omega
   .have:=b6 B H;have:=zOx J.row f;omega
  .simp(disch:=omega) only[f176,eZ,b1,b2,b3,jU U,jU a0,jU a2,jU a3,cS,qA,e4,e5,e6,c1,c2,c3,jP V,jP L,jP (up L j),jP (up V (j.trans q)),jP (up L (j.trans q)),zKP 9 (.str 0 0) (YE sep),b7,
    row3 117 .nS h1.isCell (show isCell (.slice A7 0 1 2)=true from rfl) k1.isCell,zMY 50 .nS h3.isCell k3.isCell rfl,b8,b9,a8,
    kY (jP (up V a4) 3) (kK h3),kY (jP (up L a4) 3) (kK k3),d4,zM6 J.row.isCell b5.row.isCell,C,b]
end Go.Eng.Sh
end
section
namespace Go.Nd
end Go.Nd
namespace Go.Eng.Sh
open Go.Nd (Ptr sumL cutOk cutA aI)
theorem kJ.cells (H:kJ h A i): ∃l,A= .agg l/\l.length=4/\jS l=true:=by
 obtain⟨ks,vs,m,rfl,f,v,j⟩:=H;exact⟨_,rfl,rfl,ZZ _ _ _ _ f.row.isCell v.row.isCell j.row.isCell⟩
theorem kJ.zero (H:AH):kJ H (.agg [.bool false, .nS, .nS, .nS]) nd0:=
 ⟨_,_,_,rfl, .inl (zOv ..), .inl (zOv ..), .inl (zOv ..)⟩
theorem vQ.zero (N:Nat)(H:AH):vQ N H (.agg [.bool false, .nS, .nS, .nS]) nd0:=
 ⟨kJ.zero H,fun B a=>by rcases wU.1 a with h | h | h<;>exact(zOt.1 h).elim⟩
theorem cutNo(J:200000000<=n)(K:h.ok)(H:fK h A i)(L:small i)(j: ¬(Nd.shaped ltS i=true/\bO i)):
  ∃H',f213 D n [A] h=some (.tuple [.agg [.bool false, .nS, .nS, .nS],S [], .agg [.bool false, .nS, .nS, .nS], .int .i64 (1:Nat)],H')/\Prs h H':=by
 have C:=H;obtain⟨ks,vs,Y,rfl,M,Z,h3⟩:=H;obtain⟨m,o⟩: ∃m,m=i.leaf:=⟨_,rfl⟩;rw[<-o]at C⊢;obtain⟨H1,H2,H3,N,A1,O,A4,b1,b2,t,u,x,f⟩:=zC3 D n J K o.symm C L;have o1:=f.o1;have o2:=f.o2;have o4:=f.o4;have l4:=f.lt;obtain⟨F,Q,T,s5⟩:=f.all2 (l':=[.bool false, .nS, .nS, .nS]) rfl rfl;obtain⟨G,U,v,s6⟩:=T.all4 (l':=[.bool false, .nS, .nS, .nS]) rfl rfl;have p:stN 4 (.ptr O 0) (.agg [.bool false, .nS, .nS, .nS]) N=some (jT,F):=Q;have q:stN 4 (.ptr A4 0) (.agg [.bool false, .nS, .nS, .nS]) F=some (jT,G):=U;have z:=M.lnSl;refine⟨G, ?_,v.prs⟩;have y:(AV.str 0 0)=S []:=rfl
 cases c1:Nd.shaped ltS i with
 | false=>
  simp(maxSteps:=999999)(disch:=omega) only[f213,eZ,b1,b2,t,jU x.a1,jU f.a1,cS,qA,u,c1,aK,p,q,jU v.a2,jU v.a4,y]
 | true=>
  have j: ¬bO i:=fun V=>j ⟨c1,V⟩
  by_cases t2:i.keys.length<2
  .have s:(i.keys.length:Int)< ((2:Nat):Int):=by omega
   simp(maxSteps:=999999)(disch:=omega) only[f213,eZ,b1,b2,t,jU x.a1,jU f.a1,cS,qA,u,c1,jP f.a1,z,s,aK,p,q,jU v.a2,jU v.a4,y]
  .have s: ¬(i.keys.length:Int)< ((2:Nat):Int):=by omega
   have W:m=false:=by
    cases m with
    | false=>rfl
    | true=>exact absurd ⟨by omega, .inl o.symm⟩ j
   have t3:i.keys.length<3:=by
    rcases Nat.lt_or_ge i.keys.length 3 with H | H
    .exact H
    .exact absurd ⟨by omega, .inr H⟩ j
   have I:(i.keys.length:Int)< ((3:Nat):Int):=by omega
   subst W;simp(maxSteps:=999999)(disch:=omega) only[f213,eZ,b1,b2,t,jU x.a1,jU f.a1,cS,qA,u,c1,jP f.a1,z,s,I,aK,p,q,jU v.a2,jU v.a4,y]
theorem zNT(m:200000000<=n)(o:h.ok)(H:kJ h A i)(q:small i):
  ∃v sep j e H',f213 D n [A] h=some (.tuple [v,S sep,j, .int .i64 ((e:Nat):Int)],H')/\Prs h H'/\
   ((e=0/\ ∃k,Nd.shaped ltS i=true/\cutOk i k/\hbnd i k/\sep=i.keys.getD k []/\vQ h.next H' v (cutA i k)/\vQ h.next H' j (aI i k))\/
    (e=1/\sep=[]/\ ¬(Nd.shaped ltS i=true/\bO i)/\v= .agg [.bool false, .nS, .nS, .nS]/\j= .agg [.bool false, .nS, .nS, .nS])):=by
 by_cases f:Nd.shaped ltS i=true/\bO i
 .cases hl:i.leaf with
  | true=>
   obtain⟨k,v,j,H',e,p,s,t,ok,u⟩:=zM0 D n m o H q f.1 f.2 hl;exact⟨v,_,j,0,H',e,p, .inl ⟨rfl,k,f.1,ok,u,rfl,s,t⟩⟩
  | false=>
   obtain⟨k,v,j,H',e,p,s,t,ok,u⟩:=zIS D n m o H q f.1 f.2 hl;exact⟨v,_,j,0,H',e,p, .inl ⟨rfl,k,f.1,ok,u,rfl,s,t⟩⟩
 .obtain⟨H',e,p⟩:=cutNo D n m o H.node q f;exact⟨_,[],_,1,H',e,p, .inr ⟨rfl,rfl,f,rfl,rfl⟩⟩
end Go.Eng.Sh
end
section
namespace Go.Nd
open Go.Eng (ltS xI wX QH gK ZB)
abbrev Kvs:=List (Str×Str)
def lookP (k:Str):Kvs->Option Str
 | []=>none
 | (a,b)::l=>if a=k then some b else lookP k l
def putP (k v:Str):Kvs->Kvs
 | []=>[(k,v)]
 | (a,b)::l=>if a=k then(k,v)::l else if ltS a k then(a,b)::putP k v l else(k,v)::(a,b)::l
def delP (k:Str):Kvs->Kvs
 | []=>[]
 | (a,b)::l=>if a=k then l else(a,b)::delP k l
def Srt:Kvs->Prop
 | []=>True
 | (a,_)::l=>(∀p∈l,ltS a p.1=true)/\Srt l
theorem rising_cons {a:Str}{l:List Str} :rising ltS (a::l)=true↔(∀x∈l,ltS a x=true)/\rising ltS l=true:=by
 induction l generalizing a with
 | nil=>simp[rising]
 | cons b l ih=>
  rw[rising,zF];constructor
  .rintro⟨h1,h2⟩
   refine⟨fun x f=> ?_,h2⟩;rcases zO.1 f with rfl | f
   .exact h1
   .exact wX h1 ((ih.1 h2).1 x f)
  .rintro⟨h1,h2⟩
   exact⟨h1 b (zJ ..),h2⟩
theorem WS: ∀l:Kvs,Srt l↔rising ltS (l.map Prod.fst)=true
 | []=>by simp[Srt,rising]
 | (a,b)::l=>by
  rw[yE,rising_cons,Srt,WS l];simp only[qK,forall_exists_index,and_imp];constructor
  .rintro⟨h1,h2⟩;exact⟨fun x p hp e=>e▸h1 p hp,h2⟩
  .rintro⟨h1,h2⟩;exact⟨fun p hp=>h1 _ p hp rfl,h2⟩
theorem look_none {k:Str} : ∀ {l:Kvs},(∀p∈l,p.1≠k)->lookP k l=none
 | [],_=>rfl
 | (a,b)::l,h=>by
  rw[lookP,if_neg (h (a,b) (zJ ..))];exact look_none fun p hp=>h p (zE _ hp)
theorem mem_put {k v:Str}{p:Str×Str} : ∀ {l:Kvs},p∈putP k v l->p=(k,v)\/p∈l
 | [],h=>by simpa[putP]using h
 | (a,b)::l,h=>by
  simp only[putP]at h;split at h
  .rcases zO.1 h with h | h
   .exact .inl h
   .exact .inr (zE _ h)
  .split at h
   .rcases zO.1 h with h | h
    .exact .inr (h▸zJ ..)
    .rcases mem_put h with h | h
     .exact .inl h
     .exact .inr (zE _ h)
   .rcases zO.1 h with h | h
    .exact .inl h
    .exact .inr h
theorem srt_put (k v:Str): ∀ {l:Kvs},Srt l->Srt (putP k v l)
 | [],_=>⟨by simp,trivial⟩
 | (a,b)::l,h=>by
  simp only[putP];split
  .rename_i e;subst e;exact h
  .rename_i j;split
   .rename_i f;refine⟨fun p hp=> ?_,srt_put k v h.2⟩;rcases mem_put hp with rfl | hp
    .exact f
    .exact h.1 p hp
   .rename_i f;have i:ltS k a=true:=by
     cases m:ltS k a with
     | true=>rfl
     | false=>exact absurd (QH (by simpa using f) m) j
    refine⟨fun p hp=> ?_,h⟩;rcases zO.1 hp with rfl | hp
    .exact i
    .exact wX i (h.1 p hp)
theorem mem_del {k:Str}{p:Str×Str} : ∀ {l:Kvs},p∈delP k l->p∈l
 | [],h=>h
 | (a,b)::l,h=>by
  simp only[delP]at h;split at h
  .exact zE _ h
  .rcases zO.1 h with h | h
   .exact h▸zJ ..
   .exact zE _ (mem_del h)
theorem srt_del (k:Str): ∀ {l:Kvs},Srt l->Srt (delP k l)
 | [],_=>trivial
 | (a,b)::l,h=>by
  simp only[delP];split
  .exact h.2
  .exact⟨fun p hp=>h.1 p (mem_del hp),srt_del k h.2⟩
def whereN (n:Node)(key:Str):Nat:=(n.keys.filter fun k=>ltS k key||(!n.leaf&&decide (k=key))).length
theorem whereN_le (n:Node)(key:Str):whereN n key<=n.keys.length:=List.length_filter_le _ _
def leafOf (l:Kvs):Node:=⟨true,l.map Prod.fst,l.map Prod.snd,[]⟩
theorem where_cons {a b key:Str}{l:Kvs}(h:Srt ((a,b)::l)):whereN (leafOf ((a,b)::l)) key=if ltS a key then whereN (leafOf l) key+1 else 0:=by
 simp only[whereN,leafOf,yE,Bool.not_true,Bool.false_and,Bool.or_false]
 cases hl:ltS a key with
 | true=>simp[hl]
 | false=>
  rw[List.filter_cons,hl];simp only[zM,qE];rw[List.length_eq_zero_iff,List.filter_eq_nil_iff];intro x i f;obtain⟨p,hp,rfl⟩:=qK.1 i;have:=wX (h.1 p hp) f;rw[hl]at this;cases this
def hereN (n:Node)(key:Str):Bool:=decide (whereN n key<n.keys.length)&&decide (n.keys.getD (whereN n key) []=key)
theorem here_look (key:Str): ∀ {l:Kvs},Srt l->hereN (leafOf l) key=(lookP key l).isSome
 | [],_=>by simp[hereN,leafOf,lookP]
 | (a,b)::l,h=>by
  have f:=here_look key h.2;have j:(leafOf ((a,b)::l)).keys=a::(leafOf l).keys:=rfl;simp only[hereN,where_cons h,lookP,j]at f⊢
  cases hl:ltS a key with
  | true=>
   have i:a≠key:=ZB hl;simp only[if_true,if_neg i,zY,Nat.add_lt_add_iff_right,List.getD_cons_succ];exact f
  | false=>
   simp only[zM,qE,zY,List.getD_cons_zero,Nat.zero_lt_succ,decide_true,Bool.true_and];by_cases e:a=key
   .simp[e]
   .rw[if_neg e,look_none]
    .simp[e]
    .intro p hp m;have:=h.1 p hp;rw[m,hl]at this;cases this
def zIe (n:Node)(key value:Str):Node:=
 if hereN n key then⟨true,n.keys,n.vals.set (whereN n key) value,[]⟩
 else⟨true,n.keys.take (whereN n key)++[key]++n.keys.drop (whereN n key),n.vals.take (whereN n key)++[value]++n.vals.drop (whereN n key),[]⟩
def zMy (n:Node)(key:Str):Node:=⟨true,n.keys.take (whereN n key)++n.keys.drop (whereN n key+1),n.vals.take (whereN n key)++n.vals.drop (whereN n key+1),[]⟩
theorem put_leaf (key value:Str): ∀ {l:Kvs},Srt l->zIe (leafOf l) key value=leafOf (putP key value l)
 | [],_=>by simp[zIe,hereN,leafOf,putP,whereN]
 | (a,b)::l,h=>by
  have f:=put_leaf key value h.2;have j:=here_look key h;have i:=here_look key h.2;simp only[zIe,j,i,where_cons h,lookP,putP]at f⊢;by_cases e:a=key
  .subst e;simp[xI,leafOf]
  .rw[if_neg e,if_neg e]
   cases hl:ltS a key with
   | true=>
    simp only[if_true];have g: ∀(q:Kvs),leafOf ((a,b)::q)=⟨true,a::(leafOf q).keys,b::(leafOf q).vals,[]⟩:=fun q=>rfl
    rw[g (putP key value l),<-f,g l];split
    .simp
    .simp
   | false=>
    have:lookP key l=none:=look_none fun p hp m=>by have:=h.1 p hp;rw[m,hl]at this;cases this
    rw[this];simp[leafOf]
theorem del_leaf (key:Str): ∀ {l:Kvs},Srt l->hereN (leafOf l) key=true->zMy (leafOf l) key=leafOf (delP key l)
 | [],_,h=>by simp[hereN,leafOf]at h
 | (a,b)::l,h,hr=>by
  have i:=here_look key h;have f:=here_look key h.2;rw[i]at hr;simp only[zMy,where_cons h,delP];by_cases e:a=key
  .subst e;simp[xI,leafOf]
  .simp only[lookP,if_neg e]at hr;rw[if_neg e];have hl:ltS a key=true:=by
    cases hl:ltS a key with
    | true=>rfl
    | false=>
     have:lookP key l=none:=look_none fun p hp j=>by have:=h.1 p hp;rw[j,hl]at this;cases this
     rw[this]at hr;cases hr
   have m:=del_leaf key h.2 (f.trans hr);simp only[hl,if_true];have g: ∀(q:Kvs),leafOf ((a,b)::q)=⟨true,a::(leafOf q).keys,b::(leafOf q).vals,[]⟩:=fun q=>rfl
   rw[g (delP key l),<-m,g l];simp[zMy]
def getN (n:Node)(key:Str):Option Str:=if n.leaf then lookP key (n.keys.zip n.vals)else none
theorem get_leaf (key:Str)(l:Kvs):getN (leafOf l) key=lookP key l:=by
 simp only[getN,leafOf,if_true];congr 1
 induction l with
 | nil=>rfl
 | cons p l ih=>simp[ih]
theorem leaf_shaped {l:Kvs}(h:Srt l)(a: ∀p∈l,mayK p.1=true/\p.2.length<=200):shaped ltS (leafOf l)=true:=by
 simp only[shaped,leafOf,if_true,zF,zQ,y8,qK,forall_exists_index,and_imp,jD,true_and];exact⟨⟨fun x p hp e=>e▸(a p hp).1,(WS l).1 h⟩,fun x p hp e=>e▸(a p hp).2⟩
end Go.Nd
namespace Go.Eng.Sh
open Go.Nd (Ptr sumL cutOk cutA aI whereN getN lookP)
theorem zBU {f:Str->Bool}(l:List Str)(h:k<l.length):((l.take (k+1)).filter f).length=((l.take k).filter f).length+if f (l.getD k [])then 1 else 0:=by
 rw[qQ h,jK,zV,vN h];congr 1
 cases a:f l[k]<;>simp[a]
theorem VB(Q:200000000<=n)(J:h.ok){key:Str}(H:fK h A i)(K:small i):
  ∃H',f79 D n [A,S key] h=some (.int .i64 (whereN i key:Nat),H')/\Prs h H':=by
 obtain⟨ks,vs,L,rfl,z,T,U⟩:=H;obtain⟨f,y⟩: ∃f,f=i.leaf:=⟨_,rfl⟩;rw[<-y];have O:=Nd.sumL_ge i.keys;obtain⟨V,W,Y⟩:=K;obtain⟨u,C,b1,F,q,Z,n1⟩:=box J (.cells [.bool f,ks,vs,L] 119 1 false);have M:=z.prs F;have N:kL n (zAA D n) [S key, .ptr C 0, .int .i64 (0:Nat),ks, .int .i64 (i.keys.length:Nat), .int .i64 (0:Nat)] u=some (.exit 0 [.int .i64 (whereN i key:Nat)],u):=by
  refine bK (fun v=>[S key, .ptr C 0, .int .i64 ((((i.keys.take v).filter fun k=>ltS k key||(!i.leaf&&decide (k=key))).length:Nat):Int),ks, .int .i64 (i.keys.length:Nat), .int .i64 (v:Nat)]) i.keys.length ?_ ?_ n (by omega)
  .intro v hi;obtain⟨p,s,j⟩:=M.at hi;rw[<-vN (d:=[])]at j;have o:((v:Nat):Int)< (i.keys.length:Int):=by omega
   rw[zBU i.keys hi,<-y];have I:((i.keys.take v).filter fun k=>ltS k key||(!f&&decide (k=key))).length<=i.keys.length:=qR (List.length_filter_le _ _) (by rw[qC];omega);generalize((i.keys.take v).filter fun k=>ltS k key||(!f&&decide (k=key))).length=c at I;generalize i.keys.getD v []=x at j
   cases t:ltS x key with
   | true=>simp(disch:=omega) only[zAA,zBX,eZ,o,s,j,t,yF]
   | false=>
    cases f with
    | true=>simp(disch:=omega) only[zAA,zBX,eZ,o,s,j,t,jP q,yF,Nat.add_zero]
    | false=>
     by_cases G:x=key
     .subst G;simp(disch:=omega) only[zAA,zBX,eZ,o,s,j,t,jP q,yF]
     .simp(disch:=omega) only[zAA,zBX,eZ,o,s,j,t,jP q,G,yF,Nat.add_zero]
  .intro m;refine jZ ?_;rw[jE];simp only[zAA,eZ,yS,whereN]
 refine⟨u, ?_,F⟩;simp only[f79,eZ,b1,jP q,z.lnSl,N,zNy]
end Go.Eng.Sh
end
section
namespace Go.Eng
theorem YM (n:wF k w h A p l)(j:0<k)(u:0<p)(κ:IntKind):
  ∃r,vD k A (some (.int κ (p:Nat))) none none h=some r/\Rw k h r 0 []:=by
 have i:=kO κ (z:=(p:Int)) (by omega);simp only[yD]at i;have hb:Nat.blt 0 k=true:=by rw[qD];exact j
 have b1:Nat.ble p p=true:=by rw[qT];exact zP _
 have b2:Nat.blt p p=false:=by rw[y7];intro n;rw[qD]at n;omega
 have e:Nat.beq p 0=false:=by rw[y7];intro n;have:=Nat.eq_of_beq_eq_true n;omega
 rcases n with⟨m,⟨rfl,rfl⟩ | ⟨H,rfl,o,a⟩⟩ | ⟨m,H,q,g,rfl,o,a,t⟩
 .omega
 .have f:kP l true k 0 1 k=p:=by
   simp only[kP,show((1 % 2).beq 0)=false from rfl,yH,yK,show Nat.beq 0 (1 / 2*k)=true from by simp,qO,zU,kE,m,jC];exact Nat.mul_div_cancel _ j
  refine⟨.eS, ?_,⟨by simp, .inr (.inl ⟨rfl,rfl⟩)⟩⟩;simp only[vD,kU,i,a,hb,zU];simp[YJ,f,b1,b2,e,show Nat.beq 1 0=false from rfl]
 .have f:kP l g k 0 (2*p) k=p:=by
   simp only[kP,show((2*p) % 2).beq 0=true by rw[jB];rfl,zU,yQ p (show 0<2 by omega)]
  have s:Nat.beq (2*p / 2) p=true:=by rw[yQ p (show 0<2 by omega),yK]
  refine⟨.slice H 0 0 (2*(2*p / 2 - p)), ?_,⟨by simp, .inr (.inr ⟨H,0,_,l,q,k,g,rfl,a,o,by omega,by simp⟩)⟩⟩;simp only[vD,kU,i,a,hb,zU];simp[YJ,f,b1,s,kG]
end Go.Eng
namespace Go.Eng.Sh
open Go.Nd (Ptr sumL)
theorem zAX(j:h.ok){l:List Str}(H:wF 1 9 h A l.length (l.map S))(hl:l.length<=1000000000):
  ∃a H',f108 D n [A] h=some (a,H')/\Prs h H'/\wF 1 9 H' a l.length (l.map S)/\(∀B,Blk a B->h.next<=B)/\(0<l.length->Own 1 9 H' a l.length (l.map S)):=by
 have hr:=H.row;by_cases s:A= .nS
 .subst s;have z:l=[]:=by
   rcases H with⟨_,⟨_,i⟩ | ⟨v,i,_⟩⟩ | ⟨_,v,_,_,i,_⟩
   .exact zR i
   .cases i
   .cases i
  subst z;refine⟨.nS,h, ?_,zOp j, .inl (zOv ..),fun B t=>(zOt.1 t).elim,fun H=>absurd H (by simp)⟩;have q:dJ .eql (eqS .nS .nS)=some (.bool true):=rfl;simp only[f108,eZ,q]
 .have C:A≠ .eS:=by
   rcases H with⟨_,⟨rfl,_⟩ | ⟨v,rfl,_⟩⟩ | ⟨_,v,_,_,rfl,_⟩<;>simp
  by_cases i:l.length=0
  .obtain⟨a,H',e,p,g,f⟩:=ZS D n j hr s C hl;exact⟨a,H',e,p,g,f,fun H=>absurd H (by omega)⟩
  .have o:Prs h (h.push (.cells [] 9 1 false)):=(zOp j).push _;have u:(h.push (.cells [] 9 1 false)).h.get h.next=some (.cells [] 9 1 false):=zOh _ _
   have I:(h.push (.cells [] 9 1 false)).next=h.next+1:=rfl
   generalize F:h.push (.cells [] 9 1 false)=H1 at o u I;have J:=KY (k:=1) (e:=9) (bytes:=16) (n:=0) (m:=l.length) (off:=0) (new:=l.map S) o.ok u (by simp) (by omega) (by omega) (by decide);have x:apP 9 1 16 (.slice h.next 0 0 0) A H1=some (.slice H1.next 0 (0+l.length) 1,H1.push (.cells (([]:List AV).drop 0 |>.take (0*1) |> (· ++l.map S)) 9 1 true)):=by
    simp only[apP,(hr.prs o).srcOf,vL,zU];exact J
   have G:Q2 9 1 0 [.str 0 0] []=some (.cells [] 9 1 false,fun v=> .slice v 0 0 0):=rfl;have q:dJ .eql (eqS A .nS)=some (.bool false):=by
    rcases H with⟨_,⟨rfl,_⟩ | ⟨v,rfl,_⟩⟩ | ⟨_,v,_,_,rfl,_⟩
    .exact absurd rfl s
    .rfl
    .rfl
   simp only[List.drop_nil,List.take_nil,yA,j7]at x;have y:Own 1 9 (H1.push (.cells (l.map S) 9 1 true)) (.slice H1.next 0 l.length 1) l.length (l.map S):=⟨by simp, .inr ⟨_,rfl,Nat.lt_succ_self _,zOh _ _⟩⟩
   refine⟨.slice H1.next 0 l.length 1,H1.push (.cells (l.map S) 9 1 true), ?_,o.push _, .inl y,fun B t=>by rw[zOm.1 t];omega,fun _=>y⟩
   simp only[f108,eZ,q,G,kT j,F,x]
theorem zAp(m:h.ok){l:List Str}{i:Nat}{x:Str}(H:wF 1 9 h A l.length (l.map S))(K:0<l.length->Own 1 9 h A l.length (l.map S))(hi:i<=l.length)(hl:l.length<=200000000)(p:h.h.get k=some (.cells [S x] 9 1 false)):
  ∃a H',zNa D n [A, .int .i64 (i:Nat), .slice k 0 1 2] h=some (a,H')/\Stp (Blk A) h H'/\wF 1 9 H' a (l.take i++[x]++l.drop i).length ((l.take i++[x]++l.drop i).map S)/\ ∀C,Blk a C->Blk A C\/h.next<=C:=by
 have L:Strs h (.slice k 0 1 2) [x]:=Rw.lit (cc:=2) m p;have q:lnSl (.slice k 0 1 2)=some (.int .i64 (1:Nat)):=rfl;have t10: ¬((1:Nat):Int)=((0:Nat):Int):=by omega
 by_cases G:i=l.length
 .subst G;have M: ∃r,vD 1 A (some (.int .i64 (l.length:Nat))) none none h=some r:=by
   by_cases s:0<l.length
   .obtain⟨r,e,_⟩:=YM H (by decide) s .i64;exact⟨r,e⟩
   .have f:l.length=0:=by omega
    rw[f];rcases H with⟨_,⟨rfl,_⟩ | ⟨v,rfl,_,j⟩⟩ | ⟨_,v,W,g,rfl,_,j,_⟩
    .exact⟨.nS,rfl⟩
    .rw[f];have:l=[]:=zR f;subst this;exact⟨.slice v 0 0 1,by simp[vD,kU,kO,j,YJ,kG,kP,show Nat.blt 0 1=true from rfl,show Nat.ble 0 0=true from rfl,show Nat.beq 1 0=false from rfl,show Nat.beq 0 0=true from rfl,cZ,show Nat.beq 1 1=true from rfl,aC,bne]⟩
    .rw[f];have:l=[]:=zR f;subst this;exact⟨.slice v 0 0 0,by simp[vD,kU,kO,j,YJ,kG,kP,show Nat.blt 0 1=true from rfl,show Nat.ble 0 0=true from rfl,show Nat.beq 0 0=true from rfl,cZ]⟩
  obtain⟨r,hr⟩:=M;obtain⟨a,H',N,O,Q,T⟩:=H.app (bytes:=16) m (by decide) L.srcOf (by simp) (vL _) (by simp;omega) (by decide);refine⟨a,H', ?_,Q,by simpa using O,T⟩;have:f138 D n [A, .int .i64 (l.length:Nat), .slice k 0 1 2] h=some (a,H'):=by
   simp only[f138,eZ,hr,q,t10,H.row.lnSl,N]
  show zLl (f138 D n) _ h=_;simp only[zLl,this]
 .have o:i<l.length:=by omega
  have U:=K (by omega);obtain⟨_,⟨_,s⟩ | ⟨v,rfl,t,j⟩⟩:=id U
  .omega
  .obtain⟨r,hr,_⟩:=QA H (by decide) o .i64;have u: ¬(i:Int)=(l.length:Int):=by omega
   have y:zMc X 117 (.slice v 0 l.length 1)=none:=rfl;have I:f138 D n [.slice v 0 l.length 1, .int .i64 (i:Nat), .slice k 0 1 2] h=none:=by
    simp(disch:=omega) only[f138,eZ,hr,q,t10,H.row.lnSl,u,y];rfl
   have b1:Nat.blt i l.length=true:=by rw[qD];exact o
   have b2:Nat.ble ((l.length+1)*16) 140737488355328=true:=by rw[qT];omega
   have J:(h.put v .dead).ok:=m.put t _;refine⟨.slice (h.put v .dead).next 0 (l.length+1) 1,(h.put v .dead).push (.cells ((l.map S).take i++[S x]++(l.map S).drop i) 9 1 true), ?_,((zOp m).put t _ (.inr (zOm.2 rfl))).push _, ?_,fun C V=> .inr (by rw[zOm.1 V];exact zP _)⟩
   .show zLl (f138 D n) _ h=_;simp only[zLl,I];show zMt 9 [.slice v 0 l.length 1, .int .i64 (.ofNat i), .slice k 0 1 2] h=_;simp only[zMt,j,p,b1,b2,vL,kE,jD,yK,show Nat.blt 0 1=true from rfl,show Nat.beq 1 1=true from rfl,show Nat.beq 0 0=true from rfl,show Nat.beq 9 9=true from rfl,qO,Bool.not_false,zU,uP,takeN,jS,YE,wM,cH,cY J,kG]
   .have z:(l.take i++[x]++l.drop i).length=l.length+1:=by simp;omega
    have F:(l.take i++[x]++l.drop i).map S=(l.map S).take i++[S x]++(l.map S).drop i:=by simp
    rw[z,F];exact .inl ⟨by simp;omega, .inr ⟨_,rfl,Nat.lt_succ_self _,zOh _ _⟩⟩
end Go.Eng.Sh
end
section
namespace Go.Eng
theorem Own.set1 {l:List Str}(f:h.ok)(e:Own 1 k h A l.length (l.map S)){i:Nat}(hi:i<l.length)(x:Str):
  ∃p H',(∀κ (z:Int),z=(i:Int)->cN 1 A (.int κ z)=some p)/\stN 1 p (S x) h=some (jT,H')/\Own 1 k H' A (l.set i x).length ((l.set i x).map S)/\Stp (Blk A) h H':=by
 obtain⟨o,⟨_,q⟩ | ⟨H,rfl,a,j⟩⟩:=e
 .omega
 .have hb:Nat.blt i l.length=true:=by rw[qD];exact hi
  refine⟨.ptr H (0+i*1),_,fun κ z m=> ?_,cI j (by decide) (YE x) (by simpa using hi),⟨by simp, .inr ⟨H,by simp,a,by rw[zOl,if_pos rfl];simp[List.map_set]⟩⟩,(zOp f).put a _ (.inr (zOm.2 rfl))⟩;subst m;simp only[cN,kO κ (show(0:Int)<=(i:Int)by omega),yD,hb,zU,kG]
end Go.Eng
namespace Go.Eng.Sh
open Go.Nd (Ptr sumL whereN hereN zIe)
def zDP (a:Nd.Node)(key value:Str):Bool:=Nd.shaped ltS a&&a.leaf&&Nd.mayK key&&decide (value.length<=200)
theorem zId(hn:200000000<=n)(hk:h.ok){key value:Str}(H:kJ h A G)(hs:small G):
  ∃u H',f89 D n [A,S key,S value] h=some (.tuple [u, .int .i64 (if zDP G key value then 0 else 1:Nat)],H')/\Prs h H'/\vQ h.next H' u (if zDP G key value then zIe G key value else nd0):=by
 have i0:=H.node;obtain⟨ks,vs,ps,rfl,h1,h2,h3⟩:=H;have h8:=Nd.sumL_ge G.keys;have h9:=Nd.sumL_ge G.vals;have s0:=hs;obtain⟨s1,s2,s3⟩:=hs;obtain⟨la,b0⟩: ∃la,la=G.leaf:=⟨_,rfl⟩;obtain⟨po,y⟩: ∃po,po=zDP G key value:=⟨_,rfl⟩;rw[<-y,<-b0];rw[<-b0]at i0;simp only[zDP,<-b0]at y;obtain⟨H1,A1,b1,p1,g1,m1,n1⟩:=box hk (.cells [.bool la,ks,vs,ps] 119 1 false);obtain⟨H2,V,b2,p2,g2,m2,n2⟩:=box p1.ok (.cells [.bool false, .nS, .nS, .nS] 119 1 false);have P2:Prs h H2:=p1.trans p2;have N:=p2.get p1.ok g1;obtain⟨z,W,p4⟩:=uX D n P2.ok (i0.prs P2) s0 hn;have v:=P2.trans p4;have O:=p4.get P2.ok N;have d0:=p4.get P2.ok g2;obtain⟨Hr,er,gr,sr,nr⟩:=kD v.ok d0 (l':=[.bool false, .nS, .nS, .nS]) rfl rfl;have b3:stN 4 (.ptr V 0) (.agg [.bool false, .nS, .nS, .nS]) z=some (jT,Hr):=er;have Pr:Prs h Hr:=v.fresh sr (fun B a=>by omega);have lr:=bF gr rfl
 cases c1:Nd.shaped ltS G with
 | false=>
  simp only[c1,Bool.false_and,Bool.and_false]at y;subst y;refine⟨.agg [.bool false, .nS, .nS, .nS],Hr, ?_,Pr,vQ.zero _ _⟩;simp only[zM,qE];simp(maxSteps:=999999)(disch:=omega) only[f89,eZ,b1,b2,jU N,cS,qA,W,c1,aK,b3,lr]
 | true=>
 cases la with
 | false=>
  simp only[Bool.false_and,Bool.and_false]at y;subst y;refine⟨.agg [.bool false, .nS, .nS, .nS],Hr, ?_,Pr,vQ.zero _ _⟩;simp only[zM,qE];simp(maxSteps:=999999)(disch:=omega) only[f89,eZ,b1,b2,jU N,cS,qA,W,c1,jP O,aK,b3,lr]
 | true=>
 cases c2:Nd.mayK key with
 | false=>
  simp only[c2,Bool.false_and,Bool.and_false]at y;subst y;refine⟨.agg [.bool false, .nS, .nS, .nS],Hr, ?_,Pr,vQ.zero _ _⟩;simp only[zM,qE];simp(maxSteps:=999999)(disch:=omega) only[f89,eZ,b1,b2,jU N,cS,qA,W,c1,jP O,wD,c2,aK,b3,lr]
 | true=>
 by_cases c3:value.length<=200
 case neg=>
  have a1:((200:Nat):Int)< (value.length:Int):=by omega
  simp only[c3,decide_false,Bool.and_false]at y;subst y;refine⟨.agg [.bool false, .nS, .nS, .nS],Hr, ?_,Pr,vQ.zero _ _⟩
  .simp only[zM,qE];simp(maxSteps:=999999)(disch:=omega) only[f89,eZ,b1,b2,jU N,cS,qA,W,c1,jP O,wD,c2,a1,aK,b3,lr]
 case pos=>
 have a1: ¬((200:Nat):Int)< (value.length:Int):=by omega
 simp only[c1,c2,c3,decide_true,qO]at y;subst y;simp only[if_true];have i5:G.vals.length=G.keys.length:=by
  simp only[Nd.shaped,<-b0,if_true,zF,zQ]at c1;exact c1.2.1.1
 obtain⟨H5,L,b5,p5,g5,m5,n5⟩:=box v.ok (.cells [.bool false, .nS, .nS, .nS] 119 1 false);have P5:=v.trans p5;have up1 {j:AH} (p:Prs z j):=zOs p v.ok O;have up2 {j:AH} (p:Prs z j):=zOs p v.ok d0;have q1 {j:AH} (p:Prs h j):wF 1 9 j ks G.keys.length (G.keys.map S):=h1.mono p (fun _ _ x=>x);have q2 {j:AH} (p:Prs h j):wF 1 9 j vs G.vals.length (G.vals.map S):=h2.mono p (fun _ _ x=>x);obtain⟨F,H6,e6,Y,Z,f6,t6⟩:=zAX D n P5.ok (q1 P5) (by omega);have P6:=P5.trans Y;obtain⟨m,H7,e7,p7,o7,f7,t7⟩:=zAX D n P6.ok (q2 P6) (by omega);have P7:=P6.trans p7;obtain⟨H8,e8,g8,s8,n8⟩:=kD P7.ok (zOs (Y.trans p7) P5.ok g5) (l':=[.bool true,F,m, .nS]) rfl (by simp only[jS,Z.row.isCell,o7.row.isCell];rfl);have b7:stN 4 (.ptr L 0) (.agg [.bool true,F,m, .nS]) H7=some (jT,H8):=e8;have N6:=Y.next
 have N7:=p7.next
 have f2:Prs z H7:=(p5.trans Y).trans p7;have a2:Prs z H8:=f2.fresh s8 (fun B a=>by omega);have P8:=v.trans a2;have k1:wF 1 9 H8 F G.keys.length (G.keys.map S):=(Z.mono p7 (fun _ _ x=>x)).mono s8 (fun B a e=>by have:=f6 B a;omega);have k2:wF 1 9 H8 m G.vals.length (G.vals.map S):=o7.mono s8 (fun B a e=>by have:=f7 B a;omega);have Q: ∀B,Blk F B->L<B/\B<H6.next:=fun B a=>⟨by have:=f6 B a;omega,Z.lt a⟩
 have t: ∀B,Blk m B->H6.next<=B/\B<H8.next:=fun B a=>⟨f7 B a,k2.lt a⟩
 obtain⟨H9,e9,I⟩:=VB D n hn P8.ok (key:=key) (i0.prs P8) s0;have P9:=P8.trans I;have a3:Prs z H9:=a2.trans I;have a4:=I.get P8.ok g8;have f3:=Nd.whereN_le G key;have b8:=h1.row.lnSl;have N9:=I.next
 have N5:=p5.next
 have N4:=p4.next
 have d1: ∀ {j:AH} {l:List AV},Prs h j->j.h.get V=some (.cells [.bool false, .nS, .nS, .nS] 119 1 false)->l.length=4->jS l=true-> ∃M,stN 4 (.ptr V 0) (.agg l) j=some (jT,M)/\Prs h M/\Stp (fun B=>B=V) j M/\ldN 4 (.ptr V 0) M=some (.agg l):=fun {j l} px hg hl hc=>by
  obtain⟨M,e,g,s,_⟩:=kD px.ok hg hl hc;have e':stN 4 (.ptr V 0) (.agg l) j=some (jT,M):=e;exact⟨M,e',px.fresh s (fun B a=>by omega),s,bF g hl⟩
 obtain⟨T,B1,d2,J,f4,i6,i7⟩:=box P9.ok (.cells [S key] 9 1 false);have f5:Prs z T:=a3.trans J;have f8:0<G.keys.length->Own 1 9 T F G.keys.length (G.keys.map S):=fun H=>(((t6 H).mono p7 (fun _ _ x=>x)).mono s8 (fun B a e=>by have:=f6 B a;omega)).mono (I.trans J) (fun _ _ x=>x)
 obtain⟨C,d3,d4,a5,b9,f9⟩:=zAp D n J.ok (k1.mono (I.trans J) (fun _ _ x=>x)) f8 f3 (by omega) (x:=key) f4;have g0:d3.h.get L=some (.cells [.bool true,F,m, .nS] 119 1 false):=by rw[a5.keep _ (by have:=J.next;omega) (fun a=>by have:=Q _ a;omega)];exact J.get P9.ok a4
 have d5:Prs z d3:=f5.fresh a5 (fun B a=>by have:=Q B a;omega);obtain⟨d6,d7,a0,a6,i8⟩:=xT d5.ok g0 (o:=1) (x:=C) b9.row.isCell (by simp);have a0:d6.h.get L=some (.cells [.bool true,C,m, .nS] 119 1 false):=a0;have c0:Prs z d6:=d5.fresh a6 (fun B a=>by omega);obtain⟨c4,B2,d8,U,g3,i9,j0⟩:=box c0.ok (.cells [S value] 9 1 false);have g4:Prs z c4:=c0.trans U;have d9: ∀B,Blk m B-> ¬Blk F B:=fun B a a7=>by have:=Q B a7;have:=t B a;omega
 have g6:wF 1 9 c4 m G.vals.length (G.vals.map S):=(((k2.mono (I.trans J) (fun _ _ x=>x)).mono a5 d9).mono a6 (fun B a e=>by have:=t B a;omega)).mono U (fun _ _ x=>x);have g7:0<G.vals.length->Own 1 9 c4 m G.vals.length (G.vals.map S):=fun H=>(((((t7 H).mono s8 (fun B a e=>by have:=f7 B a;omega)).mono (I.trans J) (fun _ _ x=>x)).mono a5 d9).mono a6 (fun B a e=>by have:=t B a;omega)).mono U (fun _ _ x=>x)
 obtain⟨K,e0,e1,c5,c6,f14⟩:=zAp D n U.ok g6 g7 (i:=whereN G key) (by omega) (by omega) (x:=value) g3;have j3:=J.next
 have j4:=a5.next
 have j5:=a6.next
 have j6:=U.next
 have g9:e0.h.get L=some (.cells [.bool true,C,m, .nS] 119 1 false):=by rw[c5.keep _ (by omega) (fun a=>by have:=t _ a;omega)];exact U.get c0.ok a0
 have e2:Prs z e0:=g4.fresh c5 (fun B a=>by have:=t B a;omega);obtain⟨e3,e5,b4,c7,j7⟩:=xT e2.ok g9 (o:=2) (x:=K) c6.row.isCell (by simp);have b4:e3.h.get L=some (.cells [.bool true,C,K, .nS] 119 1 false):=b4;have f1:Prs z e3:=e2.fresh c7 (fun B a=>by omega);have h0:jS [.bool true,C,K, .nS]=true:=by simp only[jS,b9.row.isCell,c6.row.isCell];rfl
 obtain⟨Hz,ez,Pz,sz,lz⟩:=d1 (l:=[.bool true,C,K, .nS]) (v.trans f1) (up2 f1) rfl h0;have a8: ∀B,Blk C B->L<B/\(B<H6.next\/T.next<=B):=fun B a=>by
  rcases f9 B a with H | H
  .have:=Q B H;omega
  .omega
 have c8: ∀B,Blk K B->L<B:=fun B a=>by
  rcases f14 B a with H | H
  .have:=t B H;omega
  .omega
 have j8:=v.next
 have rz:vQ h.next Hz (.agg [.bool true,C,K, .nS]) ⟨true,G.keys.take (whereN G key)++[key]++G.keys.drop (whereN G key),G.vals.take (whereN G key)++[value]++G.vals.drop (whereN G key),[]⟩:=
  ⟨⟨C,K, .nS,rfl,((((b9.mono a6 (fun B a e=>by have:=a8 B a;omega)).mono U (fun _ _ x=>x)).mono c5 (fun B a a7=>by have:=a8 B a;have:=t B a7;omega)).mono c7 (fun B a e=>by have:=a8 B a;omega)).mono sz (fun B a e=>by have:=a8 B a;omega),
   (c6.mono c7 (fun B a e=>by have:=c8 B a;omega)).mono sz (fun B a e=>by have:=c8 B a;omega), .inl (zOv ..)⟩,fun B a=>by
     rcases wU.1 a with H | H | H
     .have:=a8 B H;omega
     .have:=c8 B H;omega
     .exact(zOt.1 H).elim⟩
 by_cases c9:whereN G key<G.keys.length
 .obtain⟨q,j1,j2⟩:=(q1 P9).row |> (fun(r:Strs H9 ks G.keys)=>r.at c9);rw[<-vN (d:=[])]at j2;have a9:((whereN G key:Nat):Int)< (G.keys.length:Int):=by omega
  by_cases b6:G.keys.getD (whereN G key) []=key
  .have hh:hereN G key=true:=by simp only[hereN,b6,decide_true,Bool.and_true,zQ];exact c9
   rw[b6]at j2;have h4:=(t7 (by omega)).mono s8 (fun B a e=>by have:=f7 B a;omega);obtain⟨p,T,i1,i2,i3,i4⟩:=Own.set1 P9.ok (h4.mono I (fun _ _ x=>x)) (i:=whereN G key) (by omega) value;have h5:Prs h T:=P9.fresh i4 (fun B a=>by have:=t B a;have:=P5.next;omega)
   have h6:T.h.get L=some (.cells [.bool true,F,m, .nS] 119 1 false):=by rw[i4.keep _ (by omega) (fun a=>by have:=t _ a;omega)];exact a4
   have h7:T.h.get V=some (.cells [.bool false, .nS, .nS, .nS] 119 1 false):=by rw[i4.keep _ (by omega) (fun a=>by have:=t _ a;omega)];exact up2 a3
   obtain⟨M,ey,Py,sy,ly⟩:=d1 (l:=[.bool true,F,m, .nS]) h5 h7 rfl (by simp only[jS,Z.row.isCell,o7.row.isCell];rfl);refine⟨.agg [.bool true,F,m, .nS],M, ?_,Py, ?_⟩
   .simp(maxSteps:=999999)(disch:=omega) only[f89,eZ,b1,b2,jU N,cS,qA,W,c1,jP O,wD,c2,a1,b5,e6,kY (jP (up1 (p5.trans Y)) 2) (kK h2.row),e7,zHa _ Z.row.isCell o7.row.isCell,b7,jU (up1 a2),e9,jP (up1 a3),b8,a9,j1,j2,jP a4,i1,i2,bF h6 rfl,ey,ly]
   .have:zIe G key value=⟨true,G.keys,G.vals.set (whereN G key) value,[]⟩:=by simp only[zIe,hh,if_true]
    rw[this];have NN:=v.next
    refine⟨⟨F,m, .nS,rfl, ?_, ?_, .inl (zOv ..)⟩,fun B a=>by
     rcases wU.1 a with H | H | H
     .have:=Q B H;omega
     .have:=t B H;omega
     .exact(zOt.1 H).elim⟩
    .exact((k1.mono I (fun _ _ x=>x)).mono i4 (fun B a a7=>by have:=Q B a;have:=t B a7;omega)).mono sy (fun B a e=>by have:=Q B a;omega)
    .exact .inl (i3.mono sy (fun B a e=>by have:=t B a;omega))
  .have hh:hereN G key=false:=by simp only[hereN,b6,decide_false,Bool.and_false]
   refine⟨.agg [.bool true,C,K, .nS],Hz, ?_,Pz, ?_⟩
   .simp(maxSteps:=999999)(disch:=omega) only[f89,eZ,b1,b2,jU N,cS,qA,W,c1,jP O,wD,c2,a1,b5,e6,kY (jP (up1 (p5.trans Y)) 2) (kK h2.row),e7,zHa _ Z.row.isCell o7.row.isCell,b7,jU (up1 a2),e9,jP (up1 a3),b8,a9,j1,j2,b6,jP a4,zKP 9 (.str 0 0) (YE key),d2,d4,d7,jP a0,zKP 9 (.str 0 0) (YE value),d8,e1,e5,bF b4 rfl,ez,lz]
   .simp only[zIe,hh,zM,qE];exact rz
 .have hh:hereN G key=false:=by simp only[hereN,c9,decide_false,Bool.false_and]
  have a9: ¬((whereN G key:Nat):Int)< (G.keys.length:Int):=by omega
  refine⟨.agg [.bool true,C,K, .nS],Hz, ?_,Pz, ?_⟩
  .simp(maxSteps:=999999)(disch:=omega) only[f89,eZ,b1,b2,jU N,cS,qA,W,c1,jP O,wD,c2,a1,b5,e6,kY (jP (up1 (p5.trans Y)) 2) (kK h2.row),e7,zHa _ Z.row.isCell o7.row.isCell,b7,jU (up1 a2),e9,jP (up1 a3),b8,a9,jP a4,zKP 9 (.str 0 0) (YE key),d2,d4,d7,jP a0,zKP 9 (.str 0 0) (YE value),d8,e1,e5,bF b4 rfl,ez,lz]
  .simp only[zIe,hh,zM,qE];exact rz
open Go.Nd (zMy)
theorem hi1 {l:List Str}(H:wF 1 9 h A l.length (l.map S)){i:Nat}(hi:i<=l.length):
  ∃r,vD 1 A none (some (.int .i64 (i:Nat))) (some (.int .i64 (i:Nat))) h=some r/\Strs h r (l.take i):=by
 obtain⟨r,f,w,_⟩:=VM H (by decide) hi .i64 .i64;rw[map_take]at w;have a:(l.take i).length=i:=by rw[qC];omega
 exact⟨r,f,by rw[Strs,a];exact w⟩
theorem lo1 {l:List Str}(H:wF 1 9 h A l.length (l.map S)){i:Nat}(hi:i<=l.length)(m:0<l.length):
  ∃r,vD 1 A (some (.int .i64 (i:Nat))) none none h=some r/\Strs h r (l.drop i):=by
 by_cases j:i<l.length
 .obtain⟨r,a,w,_⟩:=QA H (by decide) j .i64;rw[map_drop]at w;have f:(l.drop i).length=l.length - i:=by rw[qI]
  exact⟨r,a,by rw[Strs,f];exact w⟩
 .obtain rfl:i=l.length:=by omega
  obtain⟨r,a,w⟩:=YM H (by decide) m .i64;exact⟨r,a,by rw[List.drop_length];exact w⟩
def zMz (a:Nd.Node)(key:Str):Nat:=if Nd.shaped ltS a&&a.leaf then(if hereN a key then 0 else 5)else 1
theorem zIQ(hn:200000000<=n)(hk:h.ok){key:Str}(H:kJ h A i)(hs:small i):
  ∃u H',f84 D n [A,S key] h=some (.tuple [u, .int .i64 (zMz i key:Nat)],H')/\Prs h H'/\vQ h.next H' u (if zMz i key=0 then zMy i key else nd0):=by
 have i0:=H.node;obtain⟨ks,vs,ps,rfl,h1,h2,h3⟩:=H;have a9:=Nd.sumL_ge i.keys;have b0:=Nd.sumL_ge i.vals;have s0:=hs;obtain⟨s1,s2,s3⟩:=hs;obtain⟨T,L⟩: ∃T,T=i.leaf:=⟨_,rfl⟩;obtain⟨po,f⟩: ∃po,po=zMz i key:=⟨_,rfl⟩;rw[<-f,<-L];rw[<-L]at i0;simp only[zMz,<-L]at f;obtain⟨H1,A1,b1,p1,g1,m1,n1⟩:=box hk (.cells [.bool T,ks,vs,ps] 119 1 false);obtain⟨H2,U,b2,p2,g2,m2,n2⟩:=box p1.ok (.cells [.bool false, .nS, .nS, .nS] 119 1 false);have F:Prs h H2:=p1.trans p2;have z:=p2.get p1.ok g1;obtain⟨H4,G,V⟩:=uX D n F.ok (i0.prs F) s0 hn;have y:=F.trans V;have t:=V.get F.ok z;have a5:=V.get F.ok g2;have a0: ∀ {j:AH} {l:List AV},Prs H4 j->l.length=4->jS l=true-> ∃o,stN 4 (.ptr U 0) (.agg l) j=some (jT,o)/\Prs h o/\Stp (fun B=>B=U) j o/\ldN 4 (.ptr U 0) o=some (.agg l):=fun {j l} px hl hc=>by
  obtain⟨o,e,g,s,_⟩:=kD px.ok (zOs px y.ok a5) hl hc;have e':stN 4 (.ptr U 0) (.agg l) j=some (jT,o):=e;exact⟨o,e',(y.trans px).fresh s (fun B C=>by omega),s,bF g hl⟩
 obtain⟨Hr,er,Pr,sr,lr⟩:=a0 (Prs.refl y.ok) (l:=[.bool false, .nS, .nS, .nS]) rfl rfl
 cases c1:Nd.shaped ltS i with
 | false=>
  simp only[c1,Bool.false_and,zM,qE]at f;subst f;refine⟨.agg [.bool false, .nS, .nS, .nS],Hr, ?_,Pr,vQ.zero _ _⟩;simp(maxSteps:=999999)(disch:=omega) only[f84,eZ,b1,b2,jU z,cS,qA,G,c1,aK,er,lr]
 | true=>
 cases T with
 | false=>
  simp only[Bool.and_false,zM,qE]at f;subst f;refine⟨.agg [.bool false, .nS, .nS, .nS],Hr, ?_,Pr,vQ.zero _ _⟩;simp(maxSteps:=999999)(disch:=omega) only[f84,eZ,b1,b2,jU z,cS,qA,G,c1,jP t,aK,er,lr]
 | true=>
 have b3:i.vals.length=i.keys.length:=by
  simp only[Nd.shaped,<-L,if_true,zF,zQ]at c1;exact c1.2.1.1
 simp only[c1,qO,if_true]at f;obtain⟨H5,e5,I⟩:=VB D n hn y.ok (key:=key) (i0.prs y) s0;have m:=y.trans I;have M:=I.get y.ok t;have b4:=Nd.whereN_le i key;have a1:=h1.row.lnSl;obtain⟨Hs,es,Ps,ss,ls⟩:=a0 I (l:=[.bool false, .nS, .nS, .nS]) rfl rfl;have q1 {j:AH} (p:Prs h j):wF 1 9 j ks i.keys.length (i.keys.map S):=h1.mono p (fun _ _ x=>x);have q2 {j:AH} (p:Prs h j):wF 1 9 j vs i.vals.length (i.vals.map S):=h2.mono p (fun _ _ x=>x);by_cases a2:whereN i key<i.keys.length
 case neg=>
  have J:hereN i key=false:=by simp only[hereN,a2,decide_false,Bool.false_and]
  have K:(i.keys.length:Int)<=((whereN i key:Nat):Int):=by omega
  simp only[J,zM,qE]at f;subst f;refine⟨.agg [.bool false, .nS, .nS, .nS],Hs, ?_,Ps,vQ.zero _ _⟩;simp(maxSteps:=999999)(disch:=omega) only[f84,eZ,b1,b2,jU z,cS,qA,G,c1,jP t,jU t,e5,jP M,a1,K,aK,es,ls]
 case pos=>
 obtain⟨q,j1,j2⟩:=(q1 m).row |> (fun(r:Strs H5 ks i.keys)=>r.at a2);rw[<-vN (d:=[])]at j2;have K: ¬(i.keys.length:Int)<=((whereN i key:Nat):Int):=by omega
 by_cases N:i.keys.getD (whereN i key) []=key
 case neg=>
  have J:hereN i key=false:=by simp only[hereN,N,decide_false,Bool.and_false]
  simp only[J,zM,qE]at f;subst f;refine⟨.agg [.bool false, .nS, .nS, .nS],Hs, ?_,Ps,vQ.zero _ _⟩;simp(maxSteps:=999999)(disch:=omega) only[f84,eZ,b1,b2,jU z,cS,qA,G,c1,jP t,jU t,e5,jP M,a1,K,j1,j2,ne_eq,N,jH,aK,es,ls]
 case pos=>
 have J:hereN i key=true:=by simp only[hereN,N,decide_true,Bool.and_true,zQ];exact a2
 simp only[J,if_true]at f;subst f;generalize hw:whereN i key=v at*
 obtain⟨r1,a6,x1⟩:=hi1 (q1 m) (i:=v) (by omega);obtain⟨r2,a3,x2⟩:=lo1 (q1 m) (i:=v+1) (by omega) (by omega);obtain⟨r3,a7,x3⟩:=hi1 (q2 m) (i:=v) (by omega);obtain⟨r4,a4,x4⟩:=lo1 (q2 m) (i:=v+1) (by omega) (by omega);obtain⟨H6,A6,b6,p6,g6,m6,n6⟩:=box m.ok (.cells [r1,r2] 117 1 false);have W:=m.trans p6;obtain⟨H7,A7,b7,p7,g7,m7,n7⟩:=box W.ok (.cells [r3,r4] 117 1 false);have Y:=W.trans p7;have O:Prs H5 H7:=p6.trans p7;obtain⟨w8,H8,e8,Z,o8,f8⟩:=zIU D n (cc:=4) Y.ok (p7.get W.ok g6) (x1.prs O) (x2.prs O) (by simp only[qC,qI];omega) (by omega);have P8:=Y.trans Z;have Q:=O.trans Z;obtain⟨w9,H9,e9,p9,o9,f9⟩:=zIU D n (cc:=4) P8.ok (Z.get Y.ok g7) (x3.prs Q) (x4.prs Q) (by simp only[qC,qI];omega) (by omega);have a8:=Q.trans p9;obtain⟨o,ey,Py,sy,ly⟩:=a0 (I.trans a8) (l:=[.bool true,w8,w9, .nS]) rfl (by simp only[jS,o8.row.isCell,o9.row.isCell];rfl);have N7:=O.next;have N5:=I.next;have N4:=V.next;have N8:=Z.next
 simp only[yF]at a3 a4;have up {j:AH} (p:Prs H5 j):=zOs p m.ok M;refine⟨.agg [.bool true,w8,w9, .nS],o, ?_,Py, ?_⟩
 .simp(maxSteps:=999999)(disch:=omega) only[f84,eZ,b1,b2,jU z,cS,qA,G,c1,jP t,jU t,e5,jP M,a1,K,j1,j2,ne_eq,N,not_true_eq_false,a6,a3,zMY 117 .nS x1.isCell x2.isCell rfl,b6,jP (up p6),u5 (q2 m) (q2 W) (by decide),a7,a4,zMY 117 .nS x3.isCell x4.isCell rfl,b7,e8,
   kY (jP (up Q) 2) (kK h2.row),u5 (q2 m) (q2 P8) (by decide),kY rfl (kK x3),kY rfl (kK x4),e9,zHa _ o8.row.isCell o9.row.isCell,ey,ly]
 .simp only[if_true,zMy,hw];have NN:=Y.next
  exact⟨⟨w8,w9, .nS,rfl, .inl ((o8.mono p9 (fun _ _ x=>x)).mono sy (fun B C e=>by have:=f8 B C;omega)), .inl (o9.mono sy (fun B C e=>by have:=f9 B C;omega)), .inl (zOv ..)⟩,fun B C=>by
   rcases wU.1 C with H | H | H
   .have:=f8 B H;omega
   .have:=f9 B H;omega
   .exact(zOt.1 H).elim⟩
end Go.Eng.Sh
end
section
namespace Go.Bt
open Go.Nd (Str Kvs lookP putP delP Srt leafOf mayK rising sumL)
open Go.Eng (ltS xI wX QH gK ZB)
abbrev Bd:=Option Str
def zEj:Bd->Str->Prop
 | none,_=>True
 | some a,k=>a=k\/ltS a k=true
def zBq:Bd->Str->Prop
 | none,_=>True
 | some a,k=>ltS a k=true
def hiB:Bd->Str->Prop
 | none,_=>True
 | some b,k=>ltS k b=true
theorem zBq.low {b:Bd}{k:Str}(h:zBq b k):zEj b k:=by
 cases b with
 | none=>trivial
 | some a=>exact .inr h
theorem U1 {a b c:Str}(h:a=b\/ltS a b=true)(k:ltS b c=true):ltS a c=true:=by
 rcases h with rfl | h
 .exact k
 .exact wX h k
theorem uY {a b c:Str}(h:ltS a b=true)(k:b=c\/ltS b c=true):ltS a c=true:=by
 rcases k with rfl | k
 .exact h
 .exact wX h k
theorem le_trans {a b c:Str}(h:a=b\/ltS a b=true)(k:b=c\/ltS b c=true):a=c\/ltS a c=true:=by
 rcases k with rfl | k
 .exact h
 .exact .inr (U1 h k)
theorem not_lt {a b:Str}(h: ¬ltS a b=true):b=a\/ltS b a=true:=by
 cases k:ltS b a with
 | true=>exact .inr rfl
 | false=>exact .inl (QH k (by simpa using h))
theorem zLb {b:Bd}{k x:Str}(h:zEj b k)(f:ltS k x=true):zBq b x:=by
 cases b with
 | none=>trivial
 | some a=>exact U1 h f
theorem JX {b:Bd}{k x:Str}(h:zBq b k)(f:k=x\/ltS k x=true):zBq b x:=by
 cases b with
 | none=>trivial
 | some a=>exact uY h f
theorem zCK {b:Bd}{k x:Str}(h:hiB b k)(f:x=k\/ltS x k=true):hiB b x:=by
 cases b with
 | none=>trivial
 | some a=>exact U1 f h
def Tr:Nat->Type
 | 0=>Kvs
 | h+1=>List Str×List (Tr h)
def con:(h:Nat)->Tr h->Kvs
 | 0,l=>l
 | h+1,t=>t.2.flatMap (con h)
def KB {α:Type}(W:Bd->Bd->α->Prop):Bd->List Str->List α->Bd->Prop
 | lo,[],[t],hi=>W lo hi t
 | lo,k::ks,t::ts,hi=>W lo (some k) t/\KB W (some k) ks ts hi
 | _,_,_,_=>False
def Q1 (lo:Bd)(ks:List Str):Nat->Bd
 | 0=>lo
 | i+1=>ks[i]?
def fU (ks:List Str)(hi:Bd)(i:Nat):Bd:=match ks[i]? with
 | some k=>some k
 | none=>hi
theorem JZ (lo:Bd)(k:Str)(ks:List Str)(i:Nat):Q1 lo (k::ks) (i+1)=Q1 (some k) ks i:=by cases i<;>rfl
theorem K2 (hi:Bd)(k:Str)(ks:List Str)(i:Nat):fU (k::ks) hi (i+1)=fU ks hi i:=rfl
theorem KB.len {α:Type}{W:Bd->Bd->α->Prop} : ∀ {ks:List Str} {ts:List α} {lo hi:Bd},KB W lo ks ts hi->ts.length=ks.length+1
 | [],[],_,_,h=>h.elim
 | [],[_],_,_,_=>rfl
 | [],_::_::_,_,_,h=>h.elim
 | _::_,[],_,_,h=>h.elim
 | _::ks,_::ts,_,_,h=>by simp[KB.len h.2]
theorem KB.at {α:Type}{W:Bd->Bd->α->Prop} : ∀ {ks:List Str} {ts:List α} {lo hi:Bd} {i:Nat} {t:α},KB W lo ks ts hi->ts[i]? =some t->W (Q1 lo ks i) (fU ks hi i) t
 | [],[],_,_,_,_,h,_=>h.elim
 | [],[a],_,_,0,t,h,ht=>by simp at ht;subst ht;exact h
 | [],[a],_,_,i+1,t,h,ht=>by simp at ht
 | [],_::_::_,_,_,_,_,h,_=>h.elim
 | _::_,[],_,_,_,_,h,_=>h.elim
 | k::ks,a::ts,_,_,0,t,h,ht=>by simp at ht;subst ht;exact h.1
 | k::ks,a::ts,_,_,i+1,t,h,ht=>by
  simp only[yV]at ht;rw[JZ,K2];exact KB.at h.2 ht
theorem KB.mono {α:Type}{W f:Bd->Bd->α->Prop}(a: ∀lo hi t,W lo hi t->f lo hi t): ∀ {ks:List Str} {ts:List α} {lo hi:Bd},KB W lo ks ts hi->KB f lo ks ts hi
 | [],[],_,_,h=>h.elim
 | [],[_],_,_,h=>a _ _ _ h
 | [],_::_::_,_,_,h=>h.elim
 | _::_,[],_,_,h=>h.elim
 | _::ks,_::ts,_,_,h=>⟨a _ _ _ h.1,KB.mono a h.2⟩
theorem KB.app {α:Type}{W:Bd->Bd->α->Prop}{k:Str}{a:List Str}{f:List α}{hi:Bd}(i:KB W (some k) a f hi): ∀ {ks:List Str} {ts:List α} {lo:Bd},KB W lo ks ts (some k)->KB W lo (ks++(k::a)) (ts++f) hi
 | [],[],_,h=>h.elim
 | [],[_],_,h=>⟨h,i⟩
 | [],_::_::_,_,h=>h.elim
 | _::_,[],_,h=>h.elim
 | _::ks,_::ts,_,h=>⟨h.1,KB.app i h.2⟩
theorem KB.drop {α:Type}{W:Bd->Bd->α->Prop} : ∀ {ks:List Str} {ts:List α} {lo hi:Bd} {m:Nat} {k:Str},KB W lo ks ts hi->ks[m]? =some k->KB W (some k) (ks.drop (m+1)) (ts.drop (m+1)) hi
 | [],_,_,_,_,_,_,hk=>by simp at hk
 | _::_,[],_,_,_,_,h,_=>h.elim
 | a::ks,t::ts,_,_,0,k,h,hk=>by simp at hk;subst hk;exact h.2
 | a::ks,t::ts,_,_,m+1,k,h,hk=>by
  simp only[yV]at hk;have:=KB.drop (m:=m) h.2 hk;exact this
theorem KB.take {α:Type}{W:Bd->Bd->α->Prop} : ∀ {ks:List Str} {ts:List α} {lo hi:Bd} {m:Nat} {k:Str},KB W lo ks ts hi->ks[m]? =some k->KB W lo (ks.take m) (ts.take (m+1)) (some k)
 | [],_,_,_,_,_,_,hk=>by simp at hk
 | _::_,[],_,_,_,_,h,_=>h.elim
 | a::ks,t::ts,_,_,0,k,h,hk=>by simp at hk;subst hk;exact h.1
 | a::ks,t::ts,_,_,m+1,k,h,hk=>by
  simp only[yV]at hk;exact⟨h.1,KB.take h.2 hk⟩
theorem KB.head {α:Type}{W:Bd->Bd->α->Prop}{ks:List Str}{ts:List α}{j hi:Bd}{m:Nat}(h:KB W j ks ts hi)(hm:m<ts.length): ∀ {f:List Str} {i:List α} {lo:Bd},KB W lo f i (fU ks hi m)->KB W lo (f++ks.drop m) (i++ts.drop (m+1)) hi
 | [],[],_,h=>h.elim
 | [],[p],lo,hp=>by
  have hl:=h.len;simp only[fU]at hp
  cases a:ks[m]? with
  | none=>
   rw[a]at hp;have:ks.length<=m:=by simpa using a
   rw[qS this,qS (by omega)];exact hp
  | some k=>
   rw[a]at hp;obtain⟨o,rfl⟩:=qP.1 a;rw[qN o];exact⟨hp,h.drop a⟩
 | [],_::_::_,_,h=>h.elim
 | _::_,[],_,h=>h.elim
 | _::f,_::i,_,hp=>⟨hp.1,KB.head h hm hp.2⟩
theorem KB.splice {α:Type}{W:Bd->Bd->α->Prop}{a:List Str}{f:List α} : ∀ {ks:List Str} {ts:List α} {lo hi:Bd} {i m:Nat},KB W lo ks ts hi->i+m<ts.length->KB W (Q1 lo ks i) a f (fU ks hi (i+m))->KB W lo (ks.take i++a++ks.drop (i+m)) (ts.take i++f++ts.drop (i+m+1)) hi
 | ks,ts,lo,hi,0,m,h,hm,hp=>by
  simp only[j7,List.take_zero,yA]at hm hp⊢;exact KB.head h hm (lo:=lo) hp
 | [],ts,_,_,i+1,m,h,hm,_=>by have:=h.len;simp only[yO]at this;omega
 | _::_,[],_,_,_+1,_,h,_,_=>h.elim
 | k::ks,t::ts,lo,hi,i+1,m,h,hm,hp=>by
  have e:i+1+m=i+m+1:=by omega
  rw[e,JZ,K2]at hp;rw[e];simp only[zY]at hm;have:=KB.splice (i:=i) (m:=m) h.2 (by omega) hp;simp only[List.take_succ_cons,List.drop_succ_cons,qF];exact⟨h.1,this⟩
def Lf (lo hi:Bd)(l:Kvs):Prop:=Srt l/\ ∀p∈l,zEj lo p.1/\hiB hi p.1/\mayK p.1=true/\p.2.length<=200
def wQ (l:Kvs):Nat:=Nd.size (leafOf l)
def wS (ks:List Str)(n:Nat):Nat:=2+16*n+sumL ks
def Inn {α:Type}(W:Bd->Bd->α->Prop)(lo hi:Bd)(t:List Str×List α):Prop:=(∀k∈t.1,mayK k=true/\zBq lo k/\hiB hi k)/\rising ltS t.1=true/\KB W lo t.1 t.2 hi
def wB:(h:Nat)->Tr h->Nat
 | 0,l=>wQ l
 | _+1,t=>wS t.1 t.2.length
def WF:(h:Nat)->Bd->Bd->Tr h->Prop
 | 0,lo,hi,l=>Lf lo hi l/\l≠[]/\wQ l<=500
 | h+1,lo,hi,t=>Inn (WF h) lo hi t/\t.1≠[]/\160<=wS t.1 t.2.length/\wS t.1 t.2.length<=500
def WR:(h:Nat)->Tr h->Prop
 | 0,l=>Lf none none l/\l≠[]/\wQ l<=500
 | h+1,t=>Inn (WF h) none none t/\t.1≠[]/\wS t.1 t.2.length<=500
def WX:(h:Nat)->Bd->Bd->Tr h->Prop
 | 0,lo,hi,l=>Lf lo hi l/\wQ l<=785
 | h+1,lo,hi,t=>Inn (WF h) lo hi t/\wS t.1 t.2.length<=785
theorem zAU {h:Nat}(a: ∀ {lo hi:Bd} {t:Tr h},WF h lo hi t-> ∀p∈con h t,zEj lo p.1/\hiB hi p.1): ∀ {ks:List Str} {ts:List (Tr h)} {lo hi:Bd},KB (WF h) lo ks ts hi->rising ltS ks=true->(∀k∈ks,zBq lo k/\hiB hi k)-> ∀p∈ts.flatMap (con h),zEj lo p.1/\hiB hi p.1
 | [],[],_,_,h,_,_=>h.elim
 | [],[t],lo,hi,hk,_,_=>fun p hp=>by
  simp only[qM,List.flatMap_nil,yC]at hp;exact a hk p hp
 | [],_::_::_,_,_,h,_,_=>h.elim
 | _::_,[],_,_,h,_,_=>h.elim
 | k::ks,t::ts,lo,hi,hk,hr,hb=>fun p hp=>by
  have f:=hb k (zJ ..);rw[Nd.rising_cons]at hr;simp only[qM,qB]at hp;rcases hp with hp | hp
  .have:=a hk.1 p hp;exact⟨this.1,zCK f.2 (.inr this.2)⟩
  .have:=zAU a hk.2 hr.2 (fun x i=>⟨hr.1 x i,(hb x (zE _ i)).2⟩) p hp;exact⟨(JX f.1 this.1).low,this.2⟩
theorem zAV: ∀(h:Nat) {lo hi:Bd} {t:Tr h},WF h lo hi t-> ∀p∈con h t,zEj lo p.1/\hiB hi p.1
 | 0,lo,hi,l,hw,p,hp=>⟨(hw.1.2 p hp).1,(hw.1.2 p hp).2.1⟩
 | h+1,lo,hi,t,hw,p,hp=>zAU (zAV h) hw.1.2.2 hw.1.2.1 (fun k a=>(hw.1.1 k a).2) p hp
theorem zES {a b:Kvs}(i:Srt a)(hb:Srt b)(h: ∀p∈a,∀q∈b,ltS p.1 q.1=true):Srt (a++b):=by
 induction a with
 | nil=>exact hb
 | cons p a ih=>
  obtain⟨k,v⟩:=p;refine⟨fun q f=> ?_,ih i.2 fun p hp=>h p (zE _ hp)⟩;rcases qB.1 f with f | f
  .exact i.1 q f
  .exact h _ (zJ ..) q f
theorem zER {h:Nat}(a: ∀ {lo hi:Bd} {t:Tr h},WF h lo hi t->Srt (con h t)): ∀ {ks:List Str} {ts:List (Tr h)} {lo hi:Bd},KB (WF h) lo ks ts hi->rising ltS ks=true->(∀k∈ks,zBq lo k/\hiB hi k)->Srt (ts.flatMap (con h))
 | [],[],_,_,h,_,_=>h.elim
 | [],[t],lo,hi,hk,_,_=>by
  simp only[qM,List.flatMap_nil,yC];exact a hk
 | [],_::_::_,_,_,h,_,_=>h.elim
 | _::_,[],_,_,h,_,_=>h.elim
 | k::ks,t::ts,lo,hi,hk,hr,hb=>by
  rw[Nd.rising_cons]at hr;have f: ∀x∈ks,zBq (some k) x/\hiB hi x:=fun x i=>⟨hr.1 x i,(hb x (zE _ i)).2⟩
  simp only[qM];refine zES (a hk.1) (zER a hk.2 hr.2 f) fun p hp q j=> ?_
  exact uY (zAV h hk.1 p hp).2 (zAU (zAV h) hk.2 hr.2 f q j).1
theorem zGU: ∀(h:Nat) {lo hi:Bd} {t:Tr h},WF h lo hi t->Srt (con h t)
 | 0,_,_,_,hw=>hw.1.1
 | h+1,_,_,_,hw=>zER (zGU h) hw.1.2.2 hw.1.2.1 (fun k a=>(hw.1.1 k a).2)
theorem zLn {lo hi:Bd}{t:List Str×List (Tr k)}(a:Inn (WF k) lo hi t):Srt (t.2.flatMap (con k)):=
 zER (zGU k) a.2.2 a.2.1 (fun h f=>(a.1 h f).2)
theorem zME {t:Tr k}(a:WR k t):Srt (con k t):=by
 cases k with
 | zero=>exact a.1.1
 | succ k=>exact zLn a.1
theorem zNV {lo hi:Bd}{t:Tr k}(a:WF k lo hi t): ∀p∈con k t,mayK p.1=true/\p.2.length<=200:=by
 induction k generalizing lo hi with
 | zero=>exact fun p hp=>(a.1.2 p hp).2.2
 | succ k ih=>
  intro p hp;obtain⟨t0,f,hp⟩:=List.mem_flatMap.1 hp;obtain⟨i,j,rfl⟩:=List.mem_iff_getElem.1 f;exact ih (KB.at a.1.2.2 (zK j)) p hp
theorem zFm {k v:Str}{A C B:Kvs}(f: ∀p∈A,ltS p.1 k=true)(i: ∀p∈B,ltS k p.1=true):putP k v (A++C++B)=A++putP k v C++B:=by
 induction A with
 | nil=>
  simp only[yA]
  induction C with
  | nil=>
   cases B with
   | nil=>rfl
   | cons b B=>
    obtain⟨b,w⟩:=b;have h:=i (b,w) (zJ ..);simp only[yA,putP,qF];rw[if_neg (fun e=>ZB h e.symm),if_neg (by rw[gK h];simp)]
  | cons c C ih=>
   obtain⟨c,w⟩:=c;simp only[qF,putP];split
   .rfl
   .split
    .rw[ih];rfl
    .rfl
 | cons a A ih=>
  obtain⟨a,w⟩:=a;have h:=f (a,w) (zJ ..);simp only[qF,putP];rw[if_neg (ZB h),if_pos h,ih (fun p hp=>f p (zE _ hp))]
theorem zCF {k:Str}{A B:Kvs} :lookP k (A++B)=match lookP k A with | some v=>some v | none=>lookP k B:=by
 induction A with
 | nil=>rfl
 | cons a A ih=>
  obtain⟨a,w⟩:=a;simp only[qF,lookP];split
  .rfl
  .exact ih
theorem zIs {k:Str}{A C B:Kvs}(a: ∀p∈A,ltS p.1 k=true)(f: ∀p∈B,ltS k p.1=true):lookP k (A++C++B)=lookP k C:=by
 rw[zCF,zCF,Nd.look_none (l:=A) (fun p hp=>ZB (a p hp)),Nd.look_none (l:=B) (fun p hp e=>ZB (f p hp) e.symm)]
 cases lookP k C<;>rfl
theorem UI {k:Str}{l:Kvs}(h: ∀p∈l,p.1≠k):delP k l=l:=by
 induction l with
 | nil=>rfl
 | cons a l ih=>
  obtain⟨a,w⟩:=a;rw[delP,if_neg (h (a,w) (zJ ..)),ih fun p hp=>h p (zE _ hp)]
theorem zGL {k:Str}{A C B:Kvs}(f: ∀p∈A,ltS p.1 k=true)(i: ∀p∈B,ltS k p.1=true):delP k (A++C++B)=A++delP k C++B:=by
 induction A with
 | nil=>
  simp only[yA]
  induction C with
  | nil=>exact UI fun p hp e=>ZB (i p hp) e.symm
  | cons c C ih=>
   obtain⟨c,w⟩:=c;simp only[qF,delP];split
   .rfl
   .rw[ih];rfl
 | cons a A ih=>
  obtain⟨a,w⟩:=a;have h:=f (a,w) (zJ ..);simp only[qF,delP];rw[if_neg (ZB h),ih (fun p hp=>f p (zE _ hp))]
def vF (ks:List Str)(key:Str):Nat:=(ks.filter fun k=>ltS k key||decide (k=key)).length
theorem BA (ks:List Str)(key:Str):vF ks key<=ks.length:=List.length_filter_le _ _
theorem J8 {a key:Str}{ks:List Str}(h:rising ltS (a::ks)=true):vF (a::ks) key=if ltS key a=true then 0 else vF ks key+1:=by
 rw[Nd.rising_cons]at h;by_cases f:ltS key a=true
 .rw[if_pos f,vF,List.length_eq_zero_iff,List.filter_eq_nil_iff];intro x m i;have j:ltS key x=true:=by
   rcases zO.1 m with rfl | m
   .exact f
   .exact wX f (h.1 x m)
  simp only[yZ,zQ]at i;rcases i with i | rfl
  .rw[gK i]at j;cases j
  .rw[xI]at j;cases j
 .rw[if_neg f,vF,List.filter_cons];have:(ltS a key||decide (a=key))=true:=by
   simp only[yZ,zQ];rcases not_lt f with e | e
   .exact .inr e
   .exact .inl e
  rw[this];rfl
theorem VC {key:Str} : ∀ {ks:List Str} {lo:Bd},rising ltS ks=true->zEj lo key->zEj (Q1 lo ks (vF ks key)) key
 | [],_,_,h=>h
 | a::ks,lo,hr,h=>by
  rw[J8 hr];by_cases f:ltS key a=true
  .rw[if_pos f];exact h
  .rw[if_neg f,JZ];rw[Nd.rising_cons]at hr;exact VC hr.2 (not_lt f)
theorem VD {key:Str} : ∀ {ks:List Str} {hi:Bd},rising ltS ks=true->hiB hi key->hiB (fU ks hi (vF ks key)) key
 | [],_,_,h=>h
 | a::ks,hi,hr,h=>by
  rw[J8 hr];by_cases f:ltS key a=true
  .rw[if_pos f];exact f
  .rw[if_neg f,K2];rw[Nd.rising_cons]at hr;exact VD hr.2 h
theorem zBs {lo hi:Bd}{key:Str}{ks:List Str}{ts:List (Tr k)}(q:Inn (WF k) lo hi (ks,ts)):
  (∀p∈(ts.take (vF ks key)).flatMap (con k),ltS p.1 key=true)/\ ∀p∈(ts.drop (vF ks key+1)).flatMap (con k),ltS key p.1=true:=by
 obtain⟨s,f,o⟩:=q;simp only at s f o;have u:=BA ks key;have z:=o.len;constructor
 .have hl:=VC (lo:=none) f (key:=key) trivial
  cases q:vF ks key with
  | zero=>intro p hp;simp at hp
  | succ w=>
   rw[q]at hl u;have m:w<ks.length:=by omega
   simp only[Q1,zK m]at hl;have i:=o.take (zK m);have hr:rising ltS (ks.take w)=true:=Nd.rising_take f w;intro p hp;have hm: ∀x∈ks.take w,ltS x ks[w]=true:=fun x a=>by
    obtain⟨j,y,rfl⟩:=List.mem_iff_getElem.1 a;simp only[qC]at y;rw[List.getElem_take];have hd:=Nd.rising_drop f j;rw[qN (by omega),Nd.rising_cons]at hd;refine hd.1 _ ?_;rw[List.mem_iff_getElem];exact⟨w - (j+1),by simp;omega,by rw[List.getElem_drop];congr 1;omega⟩
   have:=zAU (zAV k) i hr (fun x a=>⟨(s x (List.mem_of_mem_take a)).2.1,hm x a⟩) p hp;exact uY this.2 hl
 .have t:=VD (hi:=none) f (key:=key) trivial;intro p hp
  cases i:ks[vF ks key]? with
  | none=>
   have:ks.length<=vF ks key:=by simpa using i
   rw[qS (by omega)]at hp;simp at hp
  | some h=>
   simp only[fU,i]at t;obtain⟨m,rfl⟩:=qP.1 i;have v:=o.drop i;have hd:=Nd.rising_drop f (vF ks key);rw[qN m,Nd.rising_cons]at hd;have:=zAU (zAV k) v hd.2 (fun x a=>⟨hd.1 x a,(s x (List.mem_of_mem_drop a)).2.2⟩) p hp;exact uY t this.1
theorem zCq {α:Type}{ts:List α}{t:α}(h:ts[k]? =some t):ts=ts.take k++[t]++ts.drop (k+1):=by
 obtain⟨hi,rfl⟩:=qP.1 h;rw[qH,List.singleton_append,<-qN hi,qW]
theorem uR {a b:List Str} :rising ltS (a++b)=true↔rising ltS a=true/\rising ltS b=true/\ ∀x∈a,∀y∈b,ltS x y=true:=by
 induction a with
 | nil=>simp[rising]
 | cons c a ih=>
  rw[qF,Nd.rising_cons,Nd.rising_cons,ih];simp only[qB,zO];constructor
  .rintro⟨h1,h2,h3,h4⟩
   refine⟨⟨fun x f=>h1 x (.inl f),h2⟩,h3,fun x f y h=> ?_⟩;rcases f with rfl | f
   .exact h1 y (.inr h)
   .exact h4 x f y h
  .rintro⟨⟨h1,h2⟩,h3,h4⟩
   exact⟨fun x f=>f.elim (h1 x) (h4 c (.inl rfl) x),h2,h3,fun x f y h=>h4 x (.inr f) y h⟩
theorem Inn.splice {α:Type}{W:Bd->Bd->α->Prop}{lo hi:Bd}{ks F:List Str}{ts J:List α}{i m:Nat}(h:Inn W lo hi (ks,ts))(hm:i+m<ts.length)(hp:Inn W (Q1 lo ks i) (fU ks hi (i+m)) (F,J)):
  Inn W lo hi (ks.take i++F++ks.drop (i+m),ts.take i++J++ts.drop (i+m+1)):=by
 obtain⟨C,u,G⟩:=h;obtain⟨v,K,L⟩:=hp;simp only at C u G v K L;have T:=G.len;have M: ∀x∈ks.take i,∀y∈F,ltS x y=true:=fun x a y I=>by
  have t:=(v y I).2.1
  cases i with
  | zero=>simp at a
  | succ j=>
   have f:j<ks.length:=by omega
   simp only[Q1,zK f]at t;rw[qQ f,qB,yB]at a;rcases a with a | rfl
   .have:=Nd.rising_take u (j+1);rw[qQ f,uR]at this;exact wX (this.2.2 x a _ (List.mem_singleton_self _)) t
   .exact t
 have N: ∀y∈F,∀z∈ks.drop (i+m),ltS y z=true:=fun y I z o=>by
  have t:=(v y I).2.2;by_cases f:i+m<ks.length
  .simp only[fU,zK f]at t;have hd:=Nd.rising_drop u (i+m);rw[qN f]at o hd;rw[Nd.rising_cons]at hd;rcases zO.1 o with rfl | o
   .exact t
   .exact wX t (hd.1 z o)
  .rw[qS (by omega)]at o;simp at o
 have O: ∀x∈ks.take i,∀z∈ks.drop (i+m),ltS x z=true:=fun x a z o=>by
  have:ks=ks.take (i+m)++ks.drop (i+m):=(qW _ _).symm;rw[this,uR]at u;refine u.2.2 x ?_ z o;have:ks.take i=(ks.take (i+m)).take i:=by rw[List.take_take,Nat.min_eq_left (by omega)]
  rw[this]at a;exact List.mem_of_mem_take a
 have Q: ∀s,zBq (Q1 lo ks i) s->zBq lo s:=fun s q=>by
  cases i with
  | zero=>exact q
  | succ j=>
   have f:j<ks.length:=by omega
   simp only[Q1,zK f]at q;exact JX (C _ (yI f)).2.1 (.inr q)
 have S: ∀s,hiB (fU ks hi (i+m)) s->hiB hi s:=fun s q=>by
  by_cases f:i+m<ks.length
  .simp only[fU,zK f]at q;exact zCK (C _ (yI f)).2.2 (.inr q)
  .simp only[fU,List.getElem?_eq_none (show ks.length<=i+m by omega)]at q;exact q
 refine⟨fun k p=> ?_, ?_,KB.splice G hm L⟩
 .simp only[qB]at p;rcases p with(p | p) | p
  .exact C k (List.mem_of_mem_take p)
  .exact⟨(v k p).1,Q k (v k p).2.1,S k (v k p).2.2⟩
  .exact C k (List.mem_of_mem_drop p)
 .rw[uR,uR];refine⟨⟨Nd.rising_take u i,K,M⟩,Nd.rising_drop u _,fun x a z o=> ?_⟩;rcases qB.1 a with a | a
  .exact O x a z o
  .exact N x a z o
def Gen:(h:Nat)->Bd->Bd->Tr h->Prop
 | 0,lo,hi,l=>Lf lo hi l
 | h+1,lo,hi,t=>Inn (WF h) lo hi t
def Full:(h:Nat)->Tr h->Prop
 | 0,l=>l≠[]
 | _+1,t=>160<=wS t.1 t.2.length
theorem WF.gen: ∀ {h:Nat} {lo hi:Bd} {t:Tr h},WF h lo hi t->Gen h lo hi t
 | 0,_,_,_,w=>w.1
 | _+1,_,_,_,w=>w.1
theorem WX.gen: ∀ {h:Nat} {lo hi:Bd} {t:Tr h},WX h lo hi t->Gen h lo hi t
 | 0,_,_,_,w=>w.1
 | _+1,_,_,_,w=>w.1
theorem WF.full: ∀ {h:Nat} {lo hi:Bd} {t:Tr h},WF h lo hi t->Full h t
 | 0,_,_,_,w=>w.2.1
 | _+1,_,_,_,w=>w.2.2.1
theorem WF.sz: ∀ {h:Nat} {lo hi:Bd} {t:Tr h},WF h lo hi t->wB h t<=500
 | 0,_,_,_,w=>w.2.2
 | _+1,_,_,_,w=>w.2.2.2
theorem WX.sz: ∀ {h:Nat} {lo hi:Bd} {t:Tr h},WX h lo hi t->wB h t<=785
 | 0,_,_,_,w=>w.2
 | _+1,_,_,_,w=>w.2
theorem Gen.wx: ∀ {h:Nat} {lo hi:Bd} {t:Tr h},Gen h lo hi t->wB h t<=785->WX h lo hi t
 | 0,_,_,_,w,s=>⟨w,s⟩
 | _+1,_,_,_,w,s=>⟨w,s⟩
theorem Gen.wf: ∀ {h:Nat} {lo hi:Bd} {t:Tr h},Gen h lo hi t->Full h t->wB h t<=500->WF h lo hi t
 | 0,_,_,_,w,f,s=>⟨w,f,s⟩
 | h+1,_,_,t,w,f,s=>⟨w,fun e=>by
  have hl:=w.2.2.len;have a:160<=wS t.1 t.2.length:=f;rw[hl,e]at a;simp[wS,sumL]at a,f,s⟩
def ZH:(h:Nat)->Tr h->Str->Tr h->Tr h
 | 0,a,_,b=>List.append a b
 | _+1,a,s,b=>(a.1++([s]++b.1),a.2++b.2)
theorem zDb: ∀(h:Nat) (a:Tr h) (s:Str) (b:Tr h),con h (ZH h a s b)=con h a++con h b
 | 0,_,_,_=>rfl
 | h+1,a,s,b=>by simp[con,ZH]
theorem JW (a b:Kvs):wQ (a++b)+2=wQ a+wQ b:=by
 simp only[wQ,leafOf,Nd.size,List.map_append,Nd.sumL_append,yO];omega
theorem sumL_nil:sumL []=0:=rfl
theorem K1 (h:Nat)(a:Tr h)(s:Str)(b:Tr h)(f:s.length<=40):wB h (ZH h a s b)<=wB h a+wB h b+39/\wB h b<=wB h (ZH h a s b)/\wB h a<=wB h (ZH h a s b):=by
 cases h with
 | zero=>
  have key: ∀a b:Kvs,wQ (a++b)<=wQ a+wQ b+39/\wQ b<=wQ (a++b)/\wQ a<=wQ (a++b):=fun a b=>by
   have:=JW a b;have i:2<=wQ a:=by simp only[wQ,Nd.size];omega
   have j:2<=wQ b:=by simp only[wQ,Nd.size];omega
   omega
  exact key a b
 | succ h=>
  simp only[wB,ZH,wS,zV,Nd.sumL_append,Nd.sumL_cons,sumL_nil];omega
theorem zCJ {lo hi:Bd}{s:Str}{a b:Tr k}(u:Gen k lo (some s) a)(hb:Gen k (some s) hi b)(m:mayK s=true/\zBq lo s/\hiB hi s):Gen k lo hi (ZH k a s b):=by
 cases k with
 | zero=>
  obtain⟨i,j⟩:=u;obtain⟨b1,b2⟩:=hb;refine⟨zES i b1 fun p hp q v=>uY (j p hp).2.1 (b2 q v).1,fun p hp=> ?_⟩;rcases qB.1 hp with hp | hp
  .exact⟨(j p hp).1,zCK m.2.2 (.inr (j p hp).2.1),(j p hp).2.2⟩
  .exact⟨(JX m.2.1 (b2 p hp).1).low,(b2 p hp).2.1,(b2 p hp).2.2⟩
 | succ k=>
  obtain⟨i,j,z⟩:=u;obtain⟨b1,b2,C⟩:=hb;refine⟨fun h f=> ?_, ?_,KB.app C z⟩
  .simp only[ZH,qB,yB]at f;rcases f with f | rfl | f
   .exact⟨(i h f).1,(i h f).2.1,zCK m.2.2 (.inr (i h f).2.2)⟩
   .exact m
   .exact⟨(b1 h f).1,JX m.2.1 (.inr (b1 h f).2.1),(b1 h f).2.2⟩
  .simp only[ZH];rw[uR,List.singleton_append,Nd.rising_cons];refine⟨j,⟨fun x o=>(b1 x o).2.1,b2⟩,fun x o y t=> ?_⟩;rcases zO.1 t with rfl | t
   .exact(i x o).2.2
   .exact wX (i x o).2.2 (b1 y t).2.1
theorem cU {a b:Kvs} :Srt (a++b)↔Srt a/\Srt b/\ ∀p∈a,∀q∈b,ltS p.1 q.1=true:=by
 induction a with
 | nil=>simp[Srt]
 | cons c a ih=>
  obtain⟨c,w⟩:=c;rw[qF,Srt,Srt,ih];simp only[qB,zO];constructor
  .rintro⟨h1,h2,h3,h4⟩
   refine⟨⟨fun x f=>h1 x (.inl f),h2⟩,h3,fun x f y h=> ?_⟩;rcases f with rfl | f
   .exact h1 y (.inr h)
   .exact h4 x f y h
  .rintro⟨⟨h1,h2⟩,h3,h4⟩
   exact⟨fun x f=>f.elim (h1 x) (h4 _ (.inl rfl) x),h2,h3,fun x f y h=>h4 x (.inr f) y h⟩
def psz:(h:Nat)->Tr h->Nat->Nat
 | 0,l,k=>wQ (List.take (α:=Str×Str) k l)
 | _+1,t,k=>wS (t.1.take k) (k+1)
def WB:(h:Nat)->Tr h->Nat
 | 0,l=>List.length (α:=Str×Str) l
 | _+1,t=>t.1.length
def zOe (h:Nat)(t:Tr h)(k:Nat):Prop:=
 1<=k/\k+min (h+1) 2<=WB h t/\(k=1\/psz h t k<=(wB h t - 2) / 2+2)/\(k+min (h+1) 2=WB h t\/(wB h t - 2) / 2+2<psz h t (k+1))
def zMC:(h:Nat)->Tr h->Tr h->Str->Tr h->Prop
 | 0,l,a,s,b=> ∃k,zOe 0 l k/\a=List.take (α:=Str×Str) k l/\s=(List.map Prod.fst (l:Kvs)).getD k []/\b=List.drop (α:=Str×Str) k l
 | h+1,t,a,s,b=> ∃k,zOe (h+1) t k/\a=(t.1.take k,t.2.take (k+1))/\s=t.1.getD k []/\b=(t.1.drop (k+1),t.2.drop (k+1))
theorem xS (p:Str×Str)(l:Kvs):wQ (p::l)=wQ l+(2+p.1.length+p.2.length):=by
 simp only[wQ,leafOf,Nd.size,yE,Nd.sumL_cons,yO];omega
theorem hU:wQ []=2:=rfl
theorem zC0 {p:Str×Str}(h:mayK p.1=true/\p.2.length<=200):2+p.1.length+p.2.length<=242:=by
 obtain⟨a,f⟩:=h;simp only[mayK,zF,zQ]at a;omega
theorem zIR {lo hi:Bd}{l a b:Kvs}{s:Str}(z:Lf lo hi l)(I:wQ l<=785)(hb:500<wQ l)(C:zMC 0 l a s b):
  Lf lo (some s) a/\Lf (some s) hi b/\(mayK s=true/\zBq lo s/\hiB hi s)/\a++b=l/\a≠[]/\b≠[]/\wQ a<=500/\wQ b<=wQ l - (wQ l - 2) / 2+241:=by
 obtain⟨k,⟨k1,k2,k3,k4⟩,rfl,rfl,rfl⟩:=C;simp only[WB,psz,wB,j7,show min 1 2=1 from rfl]at k2 k3 k4;have h:k<l.length:=k2;have j:l.take k++l.drop k=l:=qW _ _;obtain⟨F,f⟩:=z;have q:=F;rw[<-j,cU]at q;obtain⟨G,m,t⟩:=q;have hd:l.drop k=l[k]::l.drop (k+1):=qN h;have x:(l.map Prod.fst).getD k []=(l[k]).1:=by
  rw[qG,jM,zK h];rfl
 rw[x];have hm:l[k]∈l:=yI h;have o:0<l.length:=by omega
 have i:l[0]∈l.take k:=by rw[List.mem_iff_getElem];exact⟨0,by simp;omega,by simp⟩
 have u:ltS (l[0]).1 (l[k]).1=true:=t _ i _ (by rw[hd];exact zJ ..);have v:=JW (l.take k) (l.drop k);rw[j]at v;have J:=zC0 (f _ hm).2.2;have y:wQ (l.take (k+1))=wQ (l.take k)+(2+(l[k]).1.length+(l[k]).2.length):=by
  rw[qQ h];have:=JW (l.take k) [l[k]];rw[xS,hU]at this;omega
 refine⟨⟨G,fun p hp=> ?_⟩,⟨m,fun p hp=> ?_⟩,⟨(f _ hm).2.2.1,zLb (f _ (yI o)).1 u,(f _ hm).2.1⟩,j, ?_, ?_, ?_, ?_⟩
 .exact⟨(f p (List.mem_of_mem_take hp)).1,t p hp _ (by rw[hd];exact zJ ..),(f p (List.mem_of_mem_take hp)).2.2⟩
 .refine⟨?_,(f p (List.mem_of_mem_drop hp)).2⟩;rw[hd]at hp m;rcases zO.1 hp with rfl | hp
  .exact .inl rfl
  .exact .inr (m.1 p hp)
 .intro e;rw[e]at i;simp at i
 .rw[hd];exact List.cons_ne_nil _ _
 .rcases k3 with rfl | k3
  .have K:wQ (l.take 1)<=244:=by
    have:=zC0 (f _ (yI o)).2.2
    match l,o with
    | p::l,_=>simp only[List.take_succ_cons,List.take_zero,xS,hU];simp only[List.getElem_cons_zero]at this;omega
   omega
  .omega
 .rcases k4 with k4 | k4
  .have:l.drop (k+1)=[]:=qS (by omega);rw[hd,this,xS,hU];omega
  .rw[y]at k4;omega
theorem BK (ks:List Str){k:Nat}(h:k<ks.length):sumL (ks.take (k+1))=sumL (ks.take k)+(1+(ks[k]).length):=by
 rw[qQ h,Nd.sumL_append,Nd.sumL_cons,sumL_nil];omega
theorem XB {s:Str}(h:mayK s=true):s.length<=40:=by
 simp only[mayK,zF,zQ]at h;omega
theorem zGP {lo hi:Bd}{t a b:Tr (w+1)}{s:Str}(K:Inn (WF w) lo hi t)(p:wS t.1 t.2.length<=785)(hb:500<wS t.1 t.2.length)(L:zMC (w+1) t a s b):
  Inn (WF w) lo (some s) a/\Inn (WF w) (some s) hi b/\(mayK s=true/\zBq lo s/\hiB hi s)/\con (w+1) a++con (w+1) b=con (w+1) t/\160<=wS a.1 a.2.length/\160<=wS b.1 b.2.length/\wS a.1 a.2.length<=500/\wS b.1 b.2.length<=500/\wS b.1 b.2.length<=wS t.1 t.2.length - (wS t.1 t.2.length - 2) / 2+57:=by
 obtain⟨k,⟨k1,k2,k3,k4⟩,rfl,rfl,rfl⟩:=L;obtain⟨ks,ts⟩:=t;obtain⟨f,v,m⟩:=K;have F:min (w+1+1) 2=2:=by omega
 simp only[WB,psz,wB,F]at k2 k3 k4 f v m p hb⊢;have j:k<ks.length:=by omega
 have C:=m.len;have G:ks.getD k []=ks[k]:=by rw[qG,zK j];rfl
 rw[G];have y:=zK j;have hm:ks[k]∈ks:=yI j;have z:ks.take k++ks[k]::ks.drop (k+1)=ks:=by rw[<-qN j,qW]
 have hr:=v;rw[<-z,uR,Nd.rising_cons]at hr;obtain⟨M,⟨N,I⟩,J⟩:=hr;have T:sumL ks=sumL (ks.take k)+(1+(ks[k]).length+sumL (ks.drop (k+1))):=by
  conv=>lhs;rw[<-z]
  rw[Nd.sumL_append,Nd.sumL_cons]
 have W:=XB (f _ hm).1;have O:=BK ks j;have Q:(ts.take (k+1)).length=k+1:=by rw[qC];omega
 have S:(ts.drop (k+1)).length=ks.length - k:=by rw[qI];omega
 rw[Q,S];have u:k+1<ks.length:=by omega
 have U:=XB (f _ (yI u)).1;have V:sumL (ks.drop (k+1))=1+(ks[k+1]).length+sumL (ks.drop (k+2)):=by rw[qN u,Nd.sumL_cons]
 have q:k=1->sumL (ks.take k)<=41:=fun e=>by
  subst e;have:=BK ks (k:=0) (by omega);have Y:=XB (f _ (yI (show 0<ks.length by omega))).1;rw[this];simp only[List.take_zero,sumL_nil];omega
 have o:k+2=ks.length->sumL (ks.drop (k+2))=0:=fun e=>by rw[e,List.drop_length];rfl
 simp only[wS]at k3 k4 p hb⊢;rw[O]at k4;rw[C]at p hb k3 k4;refine⟨⟨fun x i=>⟨(f x (List.mem_of_mem_take i)).1,(f x (List.mem_of_mem_take i)).2.1,J x i _ (zJ ..)⟩,M,m.take y⟩,⟨fun x i=>⟨(f x (List.mem_of_mem_drop i)).1,N x i,(f x (List.mem_of_mem_drop i)).2.2⟩,I,m.drop y⟩,f _ hm, ?_, ?_, ?_, ?_, ?_, ?_⟩
 .simp only[con,<-jJ,qW]
 .rcases k4 with k4 | k4
  .have:=o k4;omega
  .omega
 .rcases k3 with rfl | k3
  .have:=q rfl;omega
  .omega
 .rcases k3 with rfl | k3
  .have:=q rfl;omega
  .omega
 .rcases k4 with k4 | k4
  .have:=o k4;omega
  .omega
 .rcases k4 with k4 | k4
  .have:=o k4;omega
  .omega
inductive Cuts (h:Nat):Tr h->List (Tr h)->List Str->Prop
 | one {t:Tr h} :wB h t<=500->Cuts h t [t] []
 | more {t a b:Tr h} {s:Str} {ps:List (Tr h)} {ss:List Str} :500<wB h t->zMC h t a s b->Cuts h b ps ss->Cuts h t (a::ps) (s::ss)
theorem zGQ {lo hi:Bd}{t a b:Tr k}{s:Str}(f:WX k lo hi t)(hb:500<wB k t)(p:zMC k t a s b):
  WF k lo (some s) a/\WX k (some s) hi b/\Full k b/\(mayK s=true/\zBq lo s/\hiB hi s)/\con k a++con k b=con k t/\wB k b<=wB k t - (wB k t - 2) / 2+241:=by
 cases k with
 | zero=>
  obtain⟨i,b1,j,e,m,nb,o,q⟩:=zIR f.1 f.2 hb p;have u:=f.2;simp only[wB]at hb⊢;exact⟨⟨i,m,o⟩,⟨b1,by omega⟩,nb,j,e,q⟩
 | succ k=>
  obtain⟨i,b1,j,e,m,nb,o,_,q⟩:=zGP f.1 f.2 hb p;have u:=f.2;simp only[wB]at hb⊢;exact⟨Gen.wf (h:=k+1) i m o,⟨b1,by omega⟩,nb,j,e,by omega⟩
theorem UK {t:Tr k}{f:List (Tr k)}{q:List Str}(u:Cuts k t f q): ∀ {lo hi:Bd},WX k lo hi t->(Full k t\/500<wB k t)->
  Inn (WF k) lo hi (q,f)/\f.flatMap (con k)=con k t/\f.length<=6/\(wB k t<=635->f.length<=5)/\(wB k t<=560->f.length<=4)/\(wB k t<=522->f.length<=3)/\(wB k t<=503->f.length<=2)/\(wB k t<=500->f.length<=1):=by
 induction u with
 | one m=>
  intro lo hi o p;rcases p with p | p
  .refine⟨⟨by simp,rfl,o.gen.wf p m⟩,by simp,by simp, ?_⟩;simp
  .omega
 | @more t a b s f q hb u _ ih=>
  intro lo hi o _;obtain⟨C,F,G,m,e,z⟩:=zGQ o hb u;obtain⟨⟨i,v,y⟩,I,K⟩:=ih F (.inl G);have L:=o.sz;simp only at i v y;refine⟨⟨fun h j=> ?_, ?_,C,y⟩, ?_, ?_⟩
  .rcases zO.1 j with rfl | j
   .exact m
   .exact⟨(i h j).1,JX m.2.1 (.inr (i h j).2.1),(i h j).2.2⟩
  .rw[Nd.rising_cons];exact⟨fun x J=>(i x J).2.1,v⟩
  .rw[qM,I,e]
  .simp only[zY];omega
theorem Q7 {ks:List Str}(h: ∀k∈ks,mayK k=true):sumL ks<=41*ks.length:=by
 induction ks with
 | nil=>simp[sumL]
 | cons k ks ih=>
  have:=XB (h k (zJ ..));have:=ih fun x a=>h x (zE _ a)
  rw[Nd.sumL_cons,zY];omega
theorem zIg {lo hi:Bd}{ks a:List Str}{ts f:List (Tr k)}{x:Tr k}(j:Inn (WF k) lo hi (ks,ts))(hm:w+p<ts.length)(o:WX k (Q1 lo ks w) (fU ks hi (w+p)) x)(i:Full k x)(q:Cuts k x f a):
  Inn (WF k) lo hi (ks.take w++a++ks.drop (w+p),ts.take w++f++ts.drop (w+p+1))/\
  con (k+1) (ks.take w++a++ks.drop (w+p),ts.take w++f++ts.drop (w+p+1))=(ts.take w).flatMap (con k)++con k x++(ts.drop (w+p+1)).flatMap (con k)/\
  wS (ks.take w++a++ks.drop (w+p)) (ts.take w++f++ts.drop (w+p+1)).length<=wS ks ts.length+285/\ks.length<=(ks.take w++a++ks.drop (w+p)).length+p:=by
 obtain⟨c1,c2,c3,_⟩:=UK q o (.inl i);have s:=j.2.2.len;have t:=c1.2.2.len;simp only at s t;refine⟨j.splice hm c1, ?_, ?_, ?_⟩
 .simp only[con,jJ,c2]
 .have u:=Q7 fun h v=>(c1.1 h v).1
  simp only at u;have e:sumL (ks.take w)+sumL (ks.drop (w+p))<=sumL ks:=by
   have y:sumL ks=sumL (ks.take w)+sumL (ks.drop w):=by rw[<-Nd.sumL_append,qW]
   have z:sumL (ks.drop w)=sumL ((ks.drop w).take p)+sumL (ks.drop (w+p)):=by rw[<-List.drop_drop,<-Nd.sumL_append,qW]
   omega
  simp only[wS,zV,qC,qI,Nd.sumL_append];omega
 .simp only[zV,qC,qI];omega
theorem zAv {a b:Tr k}{s:Str}(i:s.length<=40)(f:Full k a\/Full k b):Full k (ZH k a s b):=by
 cases k with
 | zero=>
  intro e;have e:List.append (α:=Str×Str) a b=[]:=e;rcases f with f | f
  .exact f (List.append_eq_nil_iff.1 e).1
  .exact f (List.append_eq_nil_iff.1 e).2
 | succ k=>
  have:=K1 (k+1) a s b i;simp only[wB]at this;show 160<=wS _ _;rcases f with f | f
  .have f:160<=wS a.1 a.2.length:=f;omega
  .have f:160<=wS b.1 b.2.length:=f;omega
theorem ZA {lo hi:Bd}{t:Tr (k+1)}(a:WF (k+1) lo hi t):3<=t.1.length:=by
 obtain⟨⟨f,_,i⟩,_,j,_⟩:=a;have hl:=i.len;have:=Q7 fun h m=>(f h m).1
 simp only[wS]at j;omega
theorem zIt {lo hi:Bd}{l:Kvs}{k v:Str}(f:Lf lo hi l)(hl:zEj lo k)(j:hiB hi k)(h:mayK k=true)(i:v.length<=200):Lf lo hi (putP k v l)/\wQ (putP k v l)<=wQ l+242:=by
 refine⟨⟨Nd.srt_put _ _ f.1,fun p hp=> ?_⟩, ?_⟩
 .rcases Nd.mem_put hp with rfl | hp
  .exact⟨hl,j,h,i⟩
  .exact f.2 p hp
 .have m:=zC0 (p:=(k,v)) ⟨h,i⟩;simp only at m;clear f
  induction l with
  | nil=>simp only[putP,xS,hU];omega
  | cons a l ih=>
   obtain⟨a,b⟩:=a;simp only[putP];split
   .simp only[xS];omega
   .split
    .simp only[xS];omega
    .simp only[xS];omega
theorem zIu {lo hi:Bd}{l:Kvs}(k:Str)(f:Lf lo hi l):Lf lo hi (delP k l)/\wQ (delP k l)<=wQ l:=by
 refine⟨⟨Nd.srt_del _ f.1,fun p hp=>f.2 p (Nd.mem_del hp)⟩, ?_⟩;clear f
 induction l with
 | nil=>exact zP _
 | cons a l ih=>
  obtain⟨a,b⟩:=a;simp only[delP];split
  .simp only[xS];omega
  .simp only[xS];omega
end Go.Bt
end
section
namespace Go.Ex
open Go.Nd (Str)
def over (b:Str)(f:Nat)(s:Str):Str:=b.take f++s++b.drop (f+s.length)
end Go.Ex
namespace Go.Bk
open Go.Nd (Str be)
def zMP (u:Nat):Str->Nat
 | []=>u
 | b::l=>zMP (Nat.xor u b.toNat*1099511628211 % 18446744073709551616) l
theorem VK: ∀(s:Str) (u:Nat),u<18446744073709551616->zMP u s<18446744073709551616
 | [],_,h=>h
 | _::l,_,_=>VK l _ (Nat.mod_lt _ (by omega))
theorem BM: ∀(s:Str) (b:UInt8) (u:Nat),zMP u (s++[b])=Nat.xor (zMP u s) b.toNat*1099511628211 % 18446744073709551616
 | [],_,_=>rfl
 | _::l,b,_=>BM l b _
def WM (s:Str):Nat:=zMP 14695981039346656037 s
theorem zKx (s:Str):WM s<18446744073709551616:=VK _ _ (by omega)
def vY:Str:=[106,116,116,121]
def U9 (kind:UInt8)(birth:Nat)(n:Nat):Str:=vY++([kind,0]++(be 2 n++be 4 birth))
def sealB (kind:UInt8)(birth:Nat)(body:Str):Str:=U9 kind birth body.length++(body++List.replicate (500 - body.length) 0)
theorem K4 (kind:UInt8)(birth n:Nat):(U9 kind birth n).length=12:=by simp[U9,vY,Nd.be_length]
theorem sealB_len {kind:UInt8}{birth:Nat}{body:Str}(h:body.length<=500):(sealB kind birth body).length=512:=by
 simp[sealB,K4];omega
end Go.Bk
namespace Go.Eng
open Go.Nd (Str)
theorem zCk: ∀(n:Nat) (l:List AV),n<=l.length->takeN n l=some (l.take n)
 | 0,_,_=>rfl
 | n+1,[],h=>by simp at h
 | n+1,a::l,h=>by
  have f:=zCk n l (by simpa using h);simp only[takeN,f,List.take_succ_cons]
theorem zNU {off m cc:Nat}{b s:Str}(H:h.h.get k=some (.cells (jQ b) w 1 N))(a:h.ok)(hm:off+m<=b.length):
  ∃H',cpy 1 (.slice k off m cc) (S s) h=some (.int .i64 (min s.length m:Nat),H')/\H'.h.get k=some (.cells (jQ (Ex.over b off (s.take (min s.length m)))) w 1 N)/\Stp (fun B=>B=k) h H':=by
 obtain⟨n,j⟩: ∃n,n=min s.length m:=⟨_,rfl⟩;rw[<-j];have p:n<=s.length:=by omega
 have o:Nat.min s.length m=n:=j.symm;have t:takeN (n*1) (jQ s)=some (jQ (s.take n)):=by
  rw[Nat.mul_one,zCk _ _ (by rw[jW];exact p),jQ,jQ,List.map_take]
 have u:jS (jQ (s.take n))=true:=by
  rw[wJ];intro x v;obtain⟨b,_,rfl⟩:=qK.1 v;rfl
 have y:setAt (jQ b) off (jQ (s.take n))=some (jQ (Ex.over b off (s.take n))):=by
  have hl:(s.take n).length=n:=by rw[qC];omega
  rw[xH (by rw[jW,jW,hl];omega)];have q:(jQ (s.take n)).length=n:=by rw[jW,hl]
  rw[q,Ex.over,hl];simp only[jQ,List.map_append,List.map_drop];rw[List.map_take (f:=fun c:UInt8=>AV.int .u8 c.toNat) (l:=b) (i:=off)]
 refine⟨_, ?_, ?_,(zOp a).put (a.lt H) (.cells (jQ (Ex.over b off (s.take n))) w 1 N) (.inr rfl)⟩
 .simp only[cpy,zBx,o,t,u,zU,H,show Nat.blt 0 1=true from rfl,y,wM,kG];rfl
 .rw[zOl,if_pos rfl]
theorem zI1 {n A lo hi:Nat}(j:lo<=hi)(m:hi<=n)(s:lo<n)(κ a:IntKind):xK n 1 (.ptr A 0) (some (.int κ (lo:Nat))) (some (.int a (hi:Nat))) none=some (.slice A lo (hi - lo) (2*(n - lo))):=by
 have f:=kO κ (z:=(lo:Int)) (by omega);have i:=kO a (z:=(hi:Int)) (by omega);simp only[yD]at f i;have b1:Nat.ble lo hi=true:=by rw[qT];exact j
 have b2:Nat.ble hi n=true:=by rw[qT];exact m
 have o:Nat.beq n lo=false:=by rw[y7];intro h;have:=Nat.eq_of_beq_eq_true h;omega
 have p:((2*n) % 2).beq 0=true:=by rw[jB];rfl
 have q:2*n / 2=n:=yQ n (by omega);simp[xK,kU,f,i,YJ,b1,b2,p,o,q,kG,show Nat.blt 0 1=true from rfl]
theorem zB9 {a b:Nat}(f:a<18446744073709551616)(hb:b<256):wO .xor (.int .u64 a) (.int .u64 (b:Int))=some (.int .u64 (Nat.xor a b:Nat))/\Nat.xor a b<18446744073709551616:=by
 have h:Nat.blt a (YP .u64)=true:=by rw[qD];exact f
 have i:Nat.blt b (YP .u64)=true:=by rw[qD];exact Nat.lt_trans hb (by decide)
 have hl:Nat.xor a b<18446744073709551616:=Nat.xor_lt_two_pow (n:=64) f (Nat.lt_trans hb (by decide));have j:keq .u64 .u64=true:=rfl;have m:IntKind.wrap .u64 ((Nat.xor a b:Nat):Int)=((Nat.xor a b:Nat):Int):=by rw[wrap_u64];omega
 have o:aQ .xor .u64 (.ofNat a) (.ofNat b)=some (.int .u64 (Nat.xor a b:Nat)):=by
  simp only[aQ,IntKind.signed,Bool.not_false,h,i,qO,zU,vT,Int.ofNat_eq_natCast,m]
 have h6:wO .xor (.int .u64 (.ofNat a)) (.int .u64 (.ofNat b))=aQ .xor .u64 (.ofNat a) (.ofNat b):=by simp only[wO,bH,j,zU]
 exact⟨h6.trans o,hl⟩
theorem zNp (s:Str)(i:IntKind)(h:k<s.length):WD (S s) (.int i (k:Int))=some (.int .u8 ((s[k]).toNat:Nat)):=by
 have:=U7 s i (z:=(k:Int)) (by omega) (by simpa using h);simpa using this
theorem KQ: ∀(b:Str),uC (List.replicate b.length 7) (jQ b) (jQ b)=some true
 | []=>rfl
 | x::b=>by
  have h:=QU .u8 (x.toNat:Int) (x.toNat:Int);have e:aD .u8=7:=rfl;rw[e,decide_eq_true rfl]at h;simp only[zY,List.replicate_succ,jQ,yE,uC,h];exact KQ b
theorem zLN {b:Str}(h:b.length=k):eqA (List.replicate k 7) (.agg (jQ b)) (.agg (jQ b))=some true:=by
 subst h;have a:=zFK (jQ b);rw[jW]at a;have f:(List.replicate b.length 7).length=b.length:=List.length_replicate;simp only[eqA,a,f,Nat.add_zero,yK,qO,zU,KQ]
end Go.Eng
namespace Go.Eng.Sh
open Go.Nd (Ptr Str be)
open Go.Bk
theorem zO1 (H:AH){s:Str}(a:H.ok)(g:H.h.get k=some (.cells (jQ s) w 1 false))(hl:s.length=p):zE9 (.slice k 0 p (2*p)) H=some (S s):=
 YU (n:=p) ⟨by rw[jW,hl,Nat.mul_one], .inr (.inr ⟨_,_,_,_,_,_,_,rfl,g,a.lt g,by rw[jW,hl];omega,by
  rw[y9,zZ (by rw[jW,hl];omega)]⟩)⟩ (by simp)
theorem st1d (a:h.ok){o:Nat}{x:AV}(H:h.h.get k=some (.cells l w 1 false))(f:Eng.isCell x=true)(i:o<l.length): ∃H',stN 1 (.ptr k o) x h=some (jT,H')/\H'.h.get k=some (.cells (l.set o x) w 1 false)/\Stp (fun B=>B=k) h H':=
 ⟨_,cI H (by decide) f i,by rw[zOl,if_pos rfl],(zOp a).put (a.lt H) _ (.inr rfl)⟩
theorem zJA (x:AV): ∀n,rep n [x]=List.replicate n x
 | 0=>rfl
 | n+1=>by rw[rep,zJA x n,List.replicate_succ];rfl
theorem cV (n:Nat):rep n [AV.int .u8 (0:Nat)]=jQ (List.replicate n 0):=by
 rw[zJA];simp[jQ]
theorem bytesV_cells (b:Str):jS (jQ b)=true:=by
 rw[wJ];intro x a;obtain⟨b,_,rfl⟩:=qK.1 a;rfl
theorem xJ (A:h.h.get k=some (.cells l w 1 N))(hl:l.length=p):ldN p (.ptr k 0) h=some (.agg l):=by
 rw[jU A,kV _ _ _ (.inr (by omega)),y9,<-hl,jE];rfl
theorem stR (j:h.ok){b a:Str}(H:h.h.get k=some (.cells (jQ b) w 1 false))(f:b.length=p)(m:a.length=p):
  ∃H',stN p (.ptr k 0) (.agg (jQ a)) h=some (jT,H')/\H'.h.get k=some (.cells (jQ a) w 1 false)/\Stp (fun B=>B=k) h H':=by
 obtain⟨H',i,o,A,_⟩:=kD j H (l':=jQ a) (by rw[jW,jW,f,m]) (bytesV_cells a);rw[jW,f]at i;exact⟨H',i,o,A⟩
theorem ldR {b:Str}(H:h.h.get k=some (.cells (jQ b) w 1 N))(a:b.length=p):ldN p (.ptr k 0) h=some (.agg (jQ b)):=xJ H (by rw[jW,a])
theorem zLT{H:AH}(s:Str)(t:s.length<n)(u:s.length<=1000000000):f225 D n [S s] H=some (.int .u64 (WM s:Nat),H):=by
 have m:kL n (zAE D n) [.int .u64 (14695981039346656037:Nat),S s, .int .i64 s.length, .int .i64 (0:Nat)] H=some (.exit 0 [.int .u64 (WM s:Nat)],H):=by
  refine bK (fun i=>[.int .u64 (WM (s.take i):Nat),S s, .int .i64 s.length, .int .i64 ((i:Nat):Int)]) s.length (fun i hi=> ?_) (fun k=> ?_) n (by omega)
  .have hl:WM (s.take i)<18446744073709551616:=VK _ _ (by omega);have o:=zNp s .i64 hi;have v:=(s[i]).toNat_lt;obtain⟨f,q⟩:=zB9 (a:=WM (s.take i)) (b:=(s[i]).toNat) hl (by omega);have p:IntKind.wrap .u64 (((s[i]).toNat:Nat):Int)=(((s[i]).toNat:Nat):Int):=by rw[wrap_u64];omega
   have h:wO .mul (.int .u64 ((Nat.xor (WM (s.take i)) (s[i]).toNat:Nat):Int)) (.int .u64 (1099511628211:Nat))=some (.int .u64 ((WM (s.take (i+1)):Nat):Int)):=by
    rw[zDn,wrap_u64,qQ hi];have e:WM (s.take i++[s[i]])=Nat.xor (WM (s.take i)) (s[i]).toNat*1099511628211 % 18446744073709551616:=BM _ _ _;rw[e,Int.natCast_emod,Int.natCast_mul];rfl
   have j:((i:Nat):Int)< (s.length:Int):=by omega
   have hi1:((i:Nat):Int)+((1:Nat):Int)=((i+1:Nat):Int):=by omega
   simp(maxSteps:=999999)(disch:=omega) only[zAE,eZ,j,o,p,f,h,hi1]
  .refine jZ ?_;simp only[zAE,eZ,yS,jE]
 simp only[f225,f230,eZ,QJ,m,zJO]
theorem zH7(p:1000<=n){H:AH}(j:H.ok){b:Str}(hb:b.length=512): ∃H',f208 D n [.agg (jQ b)] H=some (.int .u64 (WM b:Nat),H')/\Prs H H':=by
 obtain⟨a,f,b1,h,m,q,s⟩:=box j (.cells (jQ b) 55 1 false);have o:xK 512 1 (.ptr f 0) none none none=some (.slice f 0 512 1024):=rfl;have i:zE9 (.slice f 0 512 1024) a=some (S b):=zO1 a h.ok m hb;have e:=zLT D n (H:=a) b (by omega) (by omega);refine⟨a, ?_,h⟩;simp(maxSteps:=999999)(disch:=omega) only[f208,eZ,b1,o,i,e]
theorem zF3(hn:1000<=n)(W:h.ok)(kind:UInt8)(hb:w<=2147483647){body:Str}(hl:body.length<=500):
  ∃H',zLF D n [.int .u8 kind.toNat, .int .i64 w,S body] h=some (.tuple [.agg (jQ (sealB kind w body)), .int .i64 (0:Nat)],H')/\Prs h H':=by
 obtain⟨Z,C⟩: ∃Z:Str,Z=List.replicate 512 0:=⟨_,rfl⟩;have Q:Z.length=512:=by rw[C];simp
 have T:rep 512 [AV.int .u8 (0:Nat)]=jQ Z:=by rw[cV,C]
 obtain⟨H1,A6,b1,q,g1,m1,n1⟩:=box W (.cells (jQ Z) 55 1 false);obtain⟨H2,a,b2,t,g2,m2,n2⟩:=box q.ok (.cells (jQ Z) 55 1 false);have N1:=q.next;have N2:=t.next
 have t1: ¬(w:Int)< ((0:Nat):Int):=by omega
 have t2: ¬((2147483647:Nat):Int)< (w:Int):=by omega
 have t3: ¬((500:Nat):Int)< (body.length:Int):=by omega
 have s0:xK 512 1 (.ptr a 0) none none none=some (.slice a 0 512 1024):=rfl;have s1:xK 512 1 (.ptr a 0) (some (.int .i64 (6:Nat))) (some (.int .i64 (8:Nat))) none=some (.slice a 6 2 1012):=rfl;have s2:xK 512 1 (.ptr a 0) (some (.int .i64 (8:Nat))) (some (.int .i64 (12:Nat))) none=some (.slice a 8 4 1008):=rfl;have s3:xK 512 1 (.ptr a 0) (some (.int .i64 (12:Nat))) none none=some (.slice a 12 500 1000):=rfl;have ix:bG 512 1 (.ptr a 0) (.int .i64 (4:Nat))=some (.ptr a 4):=rfl;have hm:(AV.str 4 2037675114)=S vY:=rfl;obtain⟨H3,u,F,st3⟩:=zNU (off:=0) (m:=512) (cc:=1024) (s:=vY) g2 t.ok (by omega);have O:min vY.length 512=4:=rfl;rw[O]at u F;have o3:Ex.over Z 0 (vY.take 4)=vY++(0::List.replicate 507 0):=by
  rw[C];rfl
 rw[o3]at F;obtain⟨H4,e4,I,st4⟩:=st1d st3.ok F (o:=4) (x:= .int .u8 kind.toNat) rfl (by rw[jW];simp[vY]);have o4:(jQ (vY++(0::List.replicate 507 0))).set 4 (.int .u8 kind.toNat)=jQ ((vY++[kind,0])++List.replicate 506 0):=by
  simp[jQ,vY,List.replicate_succ]
 rw[o4]at I;obtain⟨H5,e5,J,i,_⟩:=zFl D n st4.ok (off:=6) (k:=2) (cc:=1012) body.length I (by rw[jW];simp[vY]) (by omega) (by omega);have o5:(jQ ((vY++[kind,0])++List.replicate 506 0)).take 6++(jQ (be 2 body.length)++(jQ ((vY++[kind,0])++List.replicate 506 0)).drop (6+2))=jQ ((vY++([kind,0]++be 2 body.length))++List.replicate 504 0):=by
  simp[jQ,vY,List.replicate_succ]
 rw[o5]at J;obtain⟨H6,e6,K,j,_⟩:=zFl D n i.ok (off:=8) (k:=4) (cc:=1008) w J (by rw[jW];simp[vY,Nd.be_length]) (by omega) (by omega);have v:(vY++([kind,0]++be 2 body.length)).length=8:=by simp[vY,Nd.be_length]
 have o6:(jQ ((vY++([kind,0]++be 2 body.length))++List.replicate 504 0)).take 8++(jQ (be 4 w)++(jQ ((vY++([kind,0]++be 2 body.length))++List.replicate 504 0)).drop (8+4))=jQ (U9 kind w body.length++List.replicate 500 0):=by
  obtain⟨Y,L⟩: ∃Y,Y=vY++([kind,0]++be 2 body.length):=⟨_,rfl⟩;rw[<-L]at v⊢;have e1:(jQ (Y++List.replicate 504 0)).take 8=jQ Y:=by
   simp only[jQ,List.map_append];rw[jA (by rw[jD,v])]
  have e2:(jQ (Y++List.replicate 504 0)).drop 12=jQ (List.replicate 500 0):=by
   simp only[jQ,List.map_append];rw[show 12=8+4 from rfl,<-List.drop_drop,j6 (by rw[jD,v])];simp
  have u:U9 kind w body.length=Y++be 4 w:=by rw[L,U9];simp
  rw[e1,show 8+4=12 from rfl,e2,u];simp[jQ]
 rw[o6]at K;have y:=K4 kind w body.length;obtain⟨H7,M,G,p⟩:=zNU (off:=12) (m:=500) (cc:=1000) (s:=body) K j.ok (by simp[y]);have N:min body.length 500=body.length:=by omega
 rw[N]at M G;have o7:Ex.over (U9 kind w body.length++List.replicate 500 0) 12 (body.take body.length)=sealB kind w body:=by
  rw[jE,Ex.over,jA y,show 12+body.length=12+body.length from rfl,<-List.drop_drop,j6 y,List.drop_replicate,sealB,qH]
 rw[o7]at G;have M3:=st3.next;have M4:=st4.next;have M5:=i.next;have M6:=j.next;have M7:=p.next
 have z:=sealB_len (kind:=kind) (birth:=w) hl;have U:H7.h.get A6=some (.cells (jQ Z) 55 1 false):=by
  rw[p.keep _ (by omega) (by omega),j.keep _ (by omega) (by omega),i.keep _ (by omega) (by omega),st4.keep _ (by omega) (by omega),st3.keep _ (by omega) (by omega)];exact zOs t q.ok g1
 obtain⟨H8,e8,g8,V⟩:=stR p.ok U Q z;have r8:=ldR G z;have r6:=ldR g8 z;have w1:IntKind.wrap .u64 (body.length:Int)=(body.length:Int):=by rw[wrap_u64];omega
 have w2:IntKind.wrap .u64 (w:Int)=(w:Int):=by rw[wrap_u64];omega
 refine⟨H8, ?_,(((((((q.trans t).fresh st3 fun B f=>by omega).fresh st4 fun B f=>by omega).fresh i fun B f=>by omega).fresh j fun B f=>by omega).fresh p fun B f=>by omega).fresh V fun B f=>by omega)⟩;simp(maxSteps:=999999)(disch:=omega) only[zLF,eZ,T,b1,t1,t2,QJ,t3,b2,s0,hm,u,ix,e4,s1,zC2,w1,e5,s2,w2,e6,s3,M,r8,e8,r6]
end Go.Eng.Sh
end
section
namespace Go.Bk
open Go.Nd (Str be bee)
theorem seal_parts {kind:UInt8}{birth:Nat}{body:Str} :((sealB kind birth body).drop 6).take 2=be 2 body.length/\((sealB kind birth body).drop 8).take 4=be 4 birth/\((sealB kind birth body).drop 12).take body.length=body/\(sealB kind birth body)[4]? =some kind:=by
 have a:sealB kind birth body=(vY++[kind,0])++(be 2 body.length++(be 4 birth++(body++List.replicate (500 - body.length) 0))):=by simp[sealB,U9]
 have f:sealB kind birth body=(vY++[kind,0]++be 2 body.length)++(be 4 birth++(body++List.replicate (500 - body.length) 0)):=by simp[sealB,U9]
 refine⟨?_, ?_, ?_, ?_⟩
 .rw[a,j6 (by simp[vY]),jA (Nd.be_length _ _)]
 .rw[f,j6 (by simp[vY,Nd.be_length]),jA (Nd.be_length _ _)]
 .rw[sealB,j6 (K4 _ _ _),jA rfl]
 .rw[a];simp[vY]
theorem seal_inj {k':UInt8}{s a:Str}(o:s.length<=500)(m:a.length<=500)(e:sealB U k s=sealB k' k a):U=k'/\s=a:=by
 obtain⟨q1,_,q3,f⟩:=seal_parts (kind:=U) (birth:=k) (body:=s);obtain⟨h,_,i,j⟩:=seal_parts (kind:=k') (birth:=k) (body:=a);rw[e]at q1 q3 f;rw[h]at q1;have hl:=congrArg bee q1;rw[Nd.bee_be,Nd.bee_be,Nat.mod_eq_of_lt (by omega),Nat.mod_eq_of_lt (by omega)]at hl;rw[<-hl,i]at q3;rw[j]at f;exact⟨(y6 f).symm,q3.symm⟩
end Go.Bk
namespace Go.Eng.Sh
open Go.Nd (Ptr Str be bee)
open Go.Bk
theorem rowB (a:h.ok){lo k cc:Nat}{b:Str}(g:h.h.get w=some (.cells (jQ b) p 1 false))(H:lo+k<=b.length):Rw 1 h (.slice w lo k cc) k (jQ ((b.drop lo).take k)):=
 ⟨by rw[jW,qC,qI];omega, .inr (.inr ⟨_,_,_,_,_,_,_,rfl,g,a.lt g,by rw[jW];omega,by
  rw[Nat.mul_one];simp[jQ,List.map_take,List.map_drop]⟩)⟩
theorem zFv(T:1000<=n)(U:h.ok)(kind:UInt8)(hb:w<=2147483647){body:Str}(hl:body.length<=500):
  ∃H',f209 D n [.agg (jQ (sealB kind w body))] h=some (.tuple [.int .u8 kind.toNat, .int .i64 w,S body, .int .i64 (0:Nat)],H')/\Prs h H':=by
 obtain⟨B,q⟩: ∃B,B=sealB kind w body:=⟨_,rfl⟩;obtain⟨q1,q2,q3,s⟩:=seal_parts (kind:=kind) (birth:=w) (body:=body);have i:=sealB_len (kind:=kind) (birth:=w) hl;rw[<-q]at q1 q2 q3 s i⊢;obtain⟨m,a,b1,f,j,m1,n1⟩:=box U (.cells (jQ B) 55 1 false);have V:xK 512 1 (.ptr a 0) (some (.int .i64 (6:Nat))) (some (.int .i64 (8:Nat))) none=some (.slice a 6 2 1012):=rfl;have W:xK 512 1 (.ptr a 0) (some (.int .i64 (8:Nat))) (some (.int .i64 (12:Nat))) none=some (.slice a 8 4 1008):=rfl;have Y:xK 512 1 (.ptr a 0) (some (.int .i64 (12:Nat))) (some (.int .u64 (12+body.length:Nat))) none=some (.slice a 12 body.length 1000):=by
  have:=zI1 (n:=512) (A:=a) (lo:=12) (hi:=12+body.length) (by omega) (by omega) (by omega) .i64 .u64;rw[this,show 12+body.length - 12=body.length by omega]
 have ix:bG 512 1 (.ptr a 0) (.int .i64 (4:Nat))=some (.ptr a 4):=rfl;have t:=rowB (cc:=1012) f.ok j (lo:=6) (k:=2) (by omega);have u:=rowB (cc:=1008) f.ok j (lo:=8) (k:=4) (by omega);have v:=rowB (cc:=1000) f.ok j (lo:=12) (k:=body.length) (by omega);rw[q1]at t;rw[q2]at u;rw[q3]at v;have J:Rw 1 m (.slice a 6 2 1012) (be 2 body.length).length (jQ (be 2 body.length)):=by rw[Nd.be_length];exact t
 have K:Rw 1 m (.slice a 8 4 1008) (be 4 w).length (jQ (be 4 w)):=by rw[Nd.be_length];exact u
 have x:=zAu D n J (by rw[Nd.be_length];omega) (by omega);have y:=zAu D n K (by rw[Nd.be_length];omega) (by omega);rw[Nd.bee_be,Nat.mod_eq_of_lt (by omega)]at x;rw[Nd.bee_be,Nat.mod_eq_of_lt (by omega)]at y;have L:zE9 (.slice a 12 body.length 1000) m=some (S body):=YU v (by simp);have r4:Eng.ld1 (.ptr a 4) m=some (.int .u8 kind.toNat):=wN j (by
  rw[jQ,jM,s];rfl)
 obtain⟨H2,z,o⟩:=zF3 D n T f.ok kind hb hl;rw[<-q]at z;obtain⟨Z,C⟩: ∃Z:Str,Z=List.replicate 512 0:=⟨_,rfl⟩;have M:Z.length=512:=by rw[C];simp
 have N:rep 512 [AV.int .u8 (0:Nat)]=jQ Z:=by rw[cV,C]
 obtain⟨H3,A7,b3,p,g3,m3,n3⟩:=box o.ok (.cells (jQ Z) 55 1 false);obtain⟨F,e4,g4,G⟩:=stR p.ok g3 M i;have N2:=o.next;have N3:=p.next
 have O:F.h.get a=some (.cells (jQ B) 55 1 false):=by
  rw[G.keep _ (by omega) (by omega)];exact zOs (o.trans p) f.ok j
 have r7:=ldR g4 i;have r1:=ldR O i;have he:dJ .neq (eqA (List.replicate 512 7) (.agg (jQ B)) (.agg (jQ B)))=some (.bool false):=by rw[zLN i];rfl
 have t1: ¬((500:Nat):Int)< (body.length:Int):=by omega
 have wi:IntKind.wrap .i64 (w:Int)=(w:Int):=wrap_i64 (by omega) (by omega);have I:((12:Nat):Int)+(body.length:Int)=((12+body.length:Nat):Int):=by omega
 have wu:IntKind.wrap .u64 ((12+body.length:Nat):Int)=((12+body.length:Nat):Int):=by rw[wrap_u64];omega
 have Q: ¬(((0:Nat):Int)≠((0:Nat):Int)):=by omega
 refine⟨F, ?_,((f.trans o).trans p).fresh G fun B q=>by omega⟩;simp(maxSteps:=999999)(disch:=omega) only[f209,eZ,b1,V,x,t1,ix,r4,W,y,zC2,wi,I,wu,Y,L,z,jR,nth,N,b3,e4,Q,r7,r1,he]
def bT (at_:Nat)(birth:Nat)(b:Str):Ptr:=⟨(at_:Int),(birth:Int),((WM b:Nat):Int)⟩
theorem zIY(q:1000<=n)(L:h.ok)(kind:UInt8){at_:Nat}(Z:1<=at_)(hb:k<=2147483647){body:Str}(hl:body.length<=500):
  ∃H',f171 D n [.agg (jV (bT at_ k (sealB kind k body))), .agg (jQ (sealB kind k body))] h=some (.tuple [.int .u8 kind.toNat,S body, .int .i64 (0:Nat)],H')/\Prs h H':=by
 obtain⟨B,s⟩: ∃B,B=sealB kind k body:=⟨_,rfl⟩;have i:=sealB_len (kind:=kind) (birth:=k) hl;rw[<-s]at i;obtain⟨H1,j,b1,o,M,m1,n1⟩:=box L (.cells (jV (bT at_ k B)) 42 1 false);obtain⟨t,A3,b2,a,u,m2,n2⟩:=box o.ok (.cells (jQ B) 55 1 false);obtain⟨N,O,f⟩:=zH7 D n q a.ok i;obtain⟨v,x,y⟩:=zFv D n q f.ok kind hb hl;rw[<-s]at x⊢;have m:=zOs a o.ok M;have p:=zOs f a.ok m;have z:=zOs f a.ok u;have C:=zOs y f.ok p;have Q:Eng.ld1 (.ptr j 0) t=some (.int .i64 at_):=by rw[jP m];rfl
 have T:Eng.ld1 (.ptr j 2) t=some (.int .u64 (WM B:Nat)):=by rw[jP m];rfl
 have F:Eng.ld1 (.ptr j 2) N=some (.int .u64 (WM B:Nat)):=by rw[jP p];rfl
 have G:Eng.ld1 (.ptr j 1) v=some (.int .i64 k):=by rw[jP C];rfl
 have U:=ldR u i;have I:=ldR z i;have t0: ¬(at_:Int)=((0:Nat):Int):=by omega
 have J: ¬(((0:Nat):Int)≠((0:Nat):Int)):=by omega
 have V: ¬(((WM B:Nat):Int)≠((WM B:Nat):Int)):=fun H=>H rfl
 have W: ¬((k:Int)≠(k:Int)):=fun H=>H rfl
 have Y: ∀K:Rs,chk (some (.int .u64 (WM B:Nat))) (.int .u64 (WM B:Nat)) K=K:=fun K=>kY rfl (by simp[aveq,xU,xV])
 refine⟨v, ?_,((o.trans a).trans f).trans y⟩;simp(maxSteps:=999999)(disch:=omega) only[f171,eZ,b1,b2,Q,t0,U,T,O,F,Y,V,I,x,jR,nth,J,G,W]
end Go.Eng.Sh
end
section
namespace Go.Eng
theorem cq:(∀A o,dJ .eql (eqP (.ptr A o) .nP)=some (.bool false))/\dJ .eql (eqP .nP .nP)=some (.bool true)/\(∀M,dJ .eql (eqM (.map M) .nM)=some (.bool false))/\(∀A o,dJ .neq (eqP (.ptr A o) .nP)=some (.bool true))/\dJ .neq (eqP .nP .nP)=some (.bool false):=
 ⟨fun _ _=>rfl,rfl,fun _=>rfl,fun _ _=>rfl,rfl⟩
end Go.Eng
namespace Go.Bk
open Go.Nd (Str)
abbrev Ws:=List (Nat×Str)
def QM (n:Nat):Ws->Option Nat
 | []=>none
 | (a,_)::l=>match QM n l with
  | some i=>some (i+1)
  | none=>if a=n then some 0 else none
theorem QL (n a:Nat)(b:Str): ∀l:Ws,QM n (l++[(a,b)])=if a=n then some l.length else QM n l
 | []=>by simp[QM]
 | (c,d)::l=>by
  simp only[qF,QM,QL n a b l];by_cases e:a=n
  .simp[e]
  .simp[e]
theorem YO {n:Nat} : ∀ {l:Ws} {i:Nat},QM n l=some i-> ∃h:i<l.length,(l[i]).1=n
 | (a,b)::l,i,h=>by
  simp only[QM]at h
  cases hl:QM n l with
  | some j=>
   rw[hl]at h;simp only[zC]at h;subst h;obtain⟨f,m⟩:=YO hl;exact⟨by simpa using f,by simpa using m⟩
  | none=>
   rw[hl]at h;simp only at h;by_cases e:a=n
   .rw[if_pos e]at h;cases h;exact⟨by simp,e⟩
   .rw[if_neg e]at h;cases h
def blkAt (n:Nat)(l:Ws):Option Str:=(QM n l).bind fun i=>(l[i]?).map (·.2)
theorem QW (n a:Nat)(b:Str)(l:Ws):blkAt n (l++[(a,b)])=if a=n then some b else blkAt n l:=by
 rw[blkAt,QL];by_cases e:a=n
 .rw[if_pos e,if_pos e];simp
 .rw[if_neg e,if_neg e,blkAt]
  cases hl:QM n l with
  | none=>rfl
  | some i=>
   obtain⟨f,_⟩:=YO hl;simp[yW f]
end Go.Bk
namespace Go.Eng.Sh
open Go.Nd (Ptr Str)
open Go.Bk
def wV (w:Nat×Str):List AV:= .int .i64 (w.1:Nat)::jQ w.2
structure DkI (H:AH)(Ad nb:Nat)(ws:Ws)(On Nw:Nat)(wv:AV)(es:List (AV×AV)):Prop where
 gD:H.h.get Ad=some (.cells [.int .i64 nb, .map On,wv, .map Nw, .int .i64 (0:Nat), .nS, .bool false] 151 1 false)
 gO:H.h.get On=some (.map [6] [])
 gN:H.h.get Nw=some (.map [6] es)
 ow:Own 513 153 H wv ws.length (ws.flatMap wV)
 nw: ∀n:Nat,v6 (.int .i64 n) es=(QM n ws).map fun i=> .int .i64 ((i:Nat):Int)
 ln: ∀w∈ws,w.2.length=512
 few:ws.length<=1000000
 ne:On≠Nw
theorem zCe {w:Nat×Str}(h:w.2.length=512):(wV w).length=513:=by simp[wV,jW,h]
theorem zG8: ∀(l:Ws) (i:Nat) (h:i<l.length),(∀w∈l,w.2.length=512)->((l.flatMap wV).drop (i*513)).take 513=wV l[i]
 | p::l,0,_,hl=>by
  rw[Nat.zero_mul,y9,qM,jA (zCe (hl p zJ))];rfl
 | p::l,i+1,h,hl=>by
  rw[qM,show(i+1)*513=513+i*513 by omega,<-List.drop_drop,j6 (zCe (hl p zJ))];exact zG8 l i (by simpa using h) fun w a=>hl w (zE _ a)
def zH9 (n:Nat)(a:Ws):Str:=(blkAt n a).getD (List.replicate 512 0)
theorem zJ3 {a:Ws}(h: ∀w∈a,w.2.length=512):(zH9 k a).length=512:=by
 rw[zH9,blkAt]
 cases hl:QM k a with
 | none=>simp
 | some i=>
  obtain⟨f,_⟩:=YO hl;simp only[yJ,zK f,qA,yL];exact h _ (yI f)
theorem keyI (z:Int):xM [6] (.int .i64 z)=true:=rfl
theorem zKg{i:Ws}(d:DkI h k w i p q A H)(s:F<w):f74 D n [.ptr k 0, .int .i64 F] h=some (.int .i64 (0:Nat),h):=by
 have nb:Eng.ld1 (.ptr k 6) h=some (.bool false):=by rw[jP d.gD];rfl
 have j:Eng.ld1 (.ptr k 0) h=some (.int .i64 w):=by rw[jP d.gD];rfl
 have a:f120 D n [.ptr k 0] h=some (.int .i64 (0:Nat),h):=by
  simp(maxSteps:=999999)(disch:=omega) only[f120,eZ,cq,nb]
 have f: ¬(((0:Nat):Int)≠((0:Nat):Int)):=by omega
 have t1: ¬(F:Int)< ((0:Nat):Int):=by omega
 have t2: ¬(w:Int)<=(F:Int):=by omega
 simp(maxSteps:=999999)(disch:=omega) only[f74,eZ,a,f,t1,j,t2]
theorem zGK(s:h.ok){a:Ws}(d:DkI h k w a p q A H)(N:F<w):
  ∃H',f25 D n [.ptr k 0, .int .i64 F] h=some (.tuple [.agg (jQ (zH9 F a)), .int .i64 (0:Nat)],H')/\Prs h H':=by
 obtain⟨Z,y⟩: ∃Z:Str,Z=List.replicate 512 0:=⟨_,rfl⟩;have O:Z.length=512:=by rw[y];simp
 have G:rep 512 [AV.int .u8 (0:Nat)]=jQ Z:=by rw[cV,y]
 obtain⟨f,A4,b1,m,U,m1,n1⟩:=box s (.cells (jQ Z) 55 1 false);have j:DkI f k w a p q A H:=⟨zOs m s d.gD,zOs m s d.gO,zOs m s d.gN,d.ow.mono m fun _ _ x=>x,d.nw,d.ln,d.few,d.ne⟩;have K:=zKg D n j N;have I: ¬(((0:Nat):Int)≠((0:Nat):Int)):=by omega
 have L:Eng.ld1 (.ptr k 3) f=some (.map q):=by rw[jP j.gD];rfl
 have V:Eng.ld1 (.ptr k 1) f=some (.map p):=by rw[jP j.gD];rfl
 have W:Eng.ld1 (.ptr k 2) f=some A:=by rw[jP j.gD];rfl
 have J:(zH9 F a).length=512:=zJ3 d.ln;obtain⟨Y,z,g2,s2⟩:=stR m.ok U O J;have C:=ldR g2 J;refine⟨Y, ?_,m.fresh s2 fun B hB=>by omega⟩
 cases hl:QM F a with
 | none=>
  have nb:=d.nw F;rw[hl]at nb;have u:lkM [6] (.int .i64 (0:Nat)) true (.map q) (.int .i64 F) f=some (.tuple [.int .i64 (0:Nat), .bool false]):=by
   simp only[lkM,keyI,zU,j.gN,show YI [6] [6]=true from rfl,nb,Option.map_none];rfl
  have Q:lkM [6] (.agg (jQ Z)) false (.map p) (.int .i64 F) f=some (.agg (jQ Z)):=by
   simp only[lkM,keyI,zU,j.gO,show YI [6] [6]=true from rfl,v6];rfl
  have v:zH9 F a=Z:=by rw[zH9,blkAt,hl,y];rfl
  rw[v]at z C⊢;simp(maxSteps:=999999)(disch:=omega) only[f25,eZ,G,b1,K,I,L,u,jR,nth,V,Q,z,C]
 | some i=>
  obtain⟨hi,_⟩:=YO hl;have nb:=d.nw F;rw[hl]at nb;have u:lkM [6] (.int .i64 (0:Nat)) true (.map q) (.int .i64 F) f=some (.tuple [.int .i64 i, .bool true]):=by
   simp only[lkM,keyI,zU,j.gN,show YI [6] [6]=true from rfl,nb,qA];rfl
  have v:zH9 F a=a[i].2:=by rw[zH9,blkAt,hl];simp[zK hi]
  obtain⟨t,o,c,e,sz,g,q1,q2,q3,q4,M⟩:=Rw.at j.ow.row hi;rw[zG8 a i hi d.ln]at M;have S:=q1 .i64 (i:Int) rfl;have T:ldN 512 (.ptr t (o+1)) f=some (.agg (jQ (zH9 F a))):=by
   rw[QK q2 (by omega),v];have h2:(c.drop (o+1)).take 512=((c.drop o).take 513).drop 1:=by
    rw[List.drop_take,List.drop_drop]
   rw[h2,M];rfl
  simp(maxSteps:=999999)(disch:=omega) only[f25,eZ,G,b1,K,I,L,u,jR,nth,W,S,T,z,C]
end Go.Eng.Sh
end
section
namespace Go.Eng
theorem zJb (s t:Nat):aveq (.int .u64 (s:Nat)) (.int .u64 (t:Nat))=decide (s=t):=by
 have:keq .u64 .u64=true:=by rw[xU];simp
 simp only[aveq,this,Bool.true_and,xV];rw[yG];simp only[zQ,beq_iff_eq];exact Int.ofNat_inj
theorem zNi (s:Nat):xM [10] (.int .u64 (s:Nat))=true:=rfl
end Go.Eng
namespace Go.Eng.Sh
open Go.Nd (Ptr sumL)
abbrev PN:=List (Nat×Nd.Node)
def jX (s:Nat):PN->Option Nd.Node
 | []=>none
 | (a,n)::l=>if a=s then some n else jX s l
def zAS (s:Nat):PN->PN
 | []=>[]
 | (a,n)::l=>if a=s then l else(a,n)::zAS s l
def uB (H:AH):List (AV×AV)->PN->Prop
 | [],[]=>True
 | (k,v)::es,(s,nd)::q=>(k= .int .u64 (s:Nat)/\kJ H v nd)/\uB H es q
 | _,_=>False
theorem uB.len {H:AH} : ∀ {es:List (AV×AV)} {q:PN},uB H es q->es.length=q.length
 | [],[],_=>rfl
 | _::es,_::q,h=>by simp[uB.len h.2]
 | [],_::_,h=>h.elim
 | _::_,[],h=>h.elim
theorem uB.find {H:AH}(s:Nat): ∀ {es:List (AV×AV)} {q:PN},uB H es q->(∀a,jX s q=some a-> ∃v,v6 (.int .u64 (s:Nat)) es=some v/\kJ H v a/\ ∃k,(k,v)∈es)/\(jX s q=none->v6 (.int .u64 (s:Nat)) es=none)
 | [],[],_=>⟨fun a h=>(by cases h),fun _=>rfl⟩
 | (k,v)::es,(t,a)::q,h=>by
  obtain⟨⟨rfl,j⟩,m⟩:=h;obtain⟨o,p⟩:=uB.find s m;simp only[jX,v6,zJb];by_cases e:t=s
  .subst e;refine⟨fun f h=> ?_,fun h=>by simp at h⟩;simp only[if_true,zC]at h;subst h;exact⟨v,by simp,j,_,zJ ..⟩
  .have i: ¬s=t:=fun h=>e h.symm
   refine⟨fun f h=> ?_,fun h=> ?_⟩
   .rw[if_neg e]at h;obtain⟨u,x,y,k,z⟩:=o f h;exact⟨u,by simp[i,x],y,k,zE _ z⟩
   .rw[if_neg e]at h;simp[i,p h]
 | [],_::_,h=>h.elim
 | _::_,[],h=>h.elim
theorem uB.frame {H H':AH} : ∀ {es:List (AV×AV)} {q:PN},uB H es q->(∀kv∈es,∀a,kJ H kv.2 a->kJ H' kv.2 a)->uB H' es q
 | [],[],_,_=>trivial
 | (k,v)::es,(s,a)::q,h,hf=>⟨⟨h.1.1,hf (k,v) (zJ ..) a h.1.2⟩,uB.frame h.2 fun kv f=>hf kv (zE _ f)⟩
 | [],_::_,h,_=>h.elim
 | _::_,[],h,_=>h.elim
theorem uB.snoc {H:AH}{v:AV}{s:Nat}{a:Nd.Node}(f:kJ H v a): ∀ {es:List (AV×AV)} {q:PN},uB H es q->uB H (es++[(.int .u64 (s:Nat),v)]) (q++[(s,a)])
 | [],[],_=>⟨⟨rfl,f⟩,trivial⟩
 | _::es,_::q,h=>⟨h.1,uB.snoc f h.2⟩
 | [],_::_,h=>h.elim
 | _::_,[],h=>h.elim
theorem xZ (s:Nat): ∀(a b:PN),jX s (a++b)=match jX s a with | some n=>some n | none=>jX s b
 | [],_=>rfl
 | (t,n)::a,b=>by
  simp only[qF,jX];split
  .rfl
  .exact xZ s a b
theorem setA_none {k v:AV} : ∀ {es:List (AV×AV)},v6 k es=none->B0 k v es=none
 | [],_=>rfl
 | (a,b)::es,h=>by
  simp only[v6]at h;simp only[B0]
  cases e:aveq k a with
  | true=>rw[e]at h;cases h
  | false=>rw[e]at h;simp only[yH]at h⊢;rw[setA_none h]
theorem uB.del {H:AH}(s:Nat): ∀ {es:List (AV×AV)} {q:PN},uB H es q->(∀f,jX s q=some f-> ∃es',zGM (.int .u64 (s:Nat)) es=some es'/\uB H es' (zAS s q)/\ ∀kv∈es',kv∈es)
 | [],[],_=>fun f h=>by cases h
 | (k,v)::es,(t,f)::q,h=>by
  obtain⟨⟨rfl,m⟩,j⟩:=h;have o:=uB.del s j;simp only[jX,zGM,zJb,zAS];by_cases e:t=s
  .subst e;intro i _;exact⟨es,by simp,by simpa using j,fun kv a=>zE _ a⟩
  .have p: ¬s=t:=fun h=>e h.symm
   intro i h;rw[if_neg e]at h;obtain⟨es',u,x,y⟩:=o i h;refine⟨(.int .u64 (t:Nat),v)::es',by simp[p,u], ?_,fun kv a=> ?_⟩
   .rw[if_neg e];exact⟨⟨rfl,m⟩,x⟩
   .rcases zO.1 a with rfl | a
    .exact zJ ..
    .exact zE _ (y kv a)
 | [],_::_,h=>h.elim
 | _::_,[],h=>h.elim
def zOd (o:AObj):Prop:=(∃x r e g,o= .cells (x::r) e 1 g/\ ∀l b,x≠ .str l b)\/(∃ks es,o= .map ks es)\/ ∃l e k g,o= .cells l e k g/\k≠1/\k≠3
theorem wF.nsep {k e n:Nat}{H:AH}{v:AV}{l:List AV}(h:wF k e H v n l){A:Nat}{o:AObj}(a:H.h.get A=some o)(i: ∀j g,o≠ .cells l j k g): ¬Blk v A:=by
 intro hb;rcases h with⟨_,⟨rfl,_⟩ | ⟨B,rfl,_,f⟩⟩ | ⟨_,B,j,g,rfl,_,f,_⟩
 .exact zOt.1 hb
 .rw[zOm.1 hb]at a;rw[f]at a;exact i _ _ (y6 a).symm
 .rw[zOm.1 hb]at a;rw[f]at a;exact i _ _ (y6 a).symm
def zOu:=@wF.nsep
theorem kJ.nblk (H:kJ h A i)(f:h.h.get k=some R)(j:zOd R): ¬vU A k:=by
 obtain⟨ks,vs,F,rfl,p,q,s⟩:=H;have m: ∀(l:List Str),∀a g,R≠ .cells (l.map S) a 1 g:=fun l a g e=>by
  rcases j with⟨x,r,t,u,rfl,z⟩ | ⟨_,_,rfl⟩ | ⟨_,_,_,_,rfl,k1,k3⟩
  .simp only[AObj.cells.injEq]at e
   cases l with
   | nil=>simp at e
   | cons y l=>
    simp only[yE,qU]at e;exact z _ _ e.1.1
  .cases e
  .simp only[AObj.cells.injEq]at e;omega
 have C: ∀a g,R≠ .cells (i.kids.flatMap jV) a 3 g:=fun a g e=>by
  rcases j with⟨x,r,t,u,rfl,_⟩ | ⟨_,_,rfl⟩ | ⟨_,_,_,_,rfl,k1,k3⟩
  .simp only[AObj.cells.injEq]at e;omega
  .cases e
  .simp only[AObj.cells.injEq]at e;omega
 intro hb;rcases wU.1 hb with H | H | H
 .exact zOu p f (m _) H
 .exact zOu q f (m _) H
 .exact zOu s f C H
theorem kJ.stp (S:kJ h A i)(s:Stp I h C)(f: ∀H,vU A H-> ¬I H):kJ C A i:=by
 obtain⟨ks,vs,j,rfl,m,o,p⟩:=S;exact⟨ks,vs,j,rfl,m.mono s (fun H a=>f H (wU.2 (.inl a))),o.mono s (fun H a=>f H (wU.2 (.inr (.inl a)))),p.mono s (fun H a=>f H (wU.2 (.inr (.inr a))))⟩
theorem kJ.lt {H:AH}{v:AV}{a:Nd.Node}(h:kJ H v a){B:Nat}(f:vU v B):B<H.next:=by
 obtain⟨ks,vs,o,rfl,i,j,m⟩:=h;rcases wU.1 f with h | h | h
 .exact i.lt h
 .exact j.lt h
 .exact m.lt h
theorem Stp.thr {T:Nat->Prop}(S:Stp I h C)(k:Stp T C P)(f: ∀A,T A->h.next<=A\/I A):Stp I h P:=
 ⟨k.ok,qR S.next k.next,fun A i j=>by
  rw[k.keep A (qJ i S.next) (fun x=>by rcases f A x with y | y;omega;exact j y),S.keep A i j]⟩
def xE (d c:AV)(root:Ptr)(M a:Nat)(f:AV):List AV:=[d,c, .int .i64 root.at_, .int .i64 root.birth, .int .u64 root.sum, .map M, .int .u64 (a:Nat),f]
structure Ev where
 nb:Nat
 ws:Bk.Ws
 dl:List Ptr
 x:Nat->Prop
def XE (E:Ev)(a:AV)(B:Nat):Prop:=Blk a B\/E.x B
def OnD (E:Ev)(p:Ptr)(f:Nd.Node):Prop:= ∃(a birth:Nat) (kind:UInt8) (body:Str),p=bT a birth (Bk.sealB kind birth body)/\2<=a/\a<E.nb/\(a<8192/\ ∀k∈f.kids,k.at_≠1)/\birth<=2147483647/\body.length<=500/\Bk.blkAt a E.ws=some (Bk.sealB kind birth body)/\(kind=1\/kind=2)/\Nd.decN ltS (decide (kind=1)) body=some f
theorem zL2 {E:Ev}(h:OnD E B i)(q:OnD E B G):i=G:=by
 obtain⟨a,b,k,s,rfl,_,_,_,hb,t,u,_,v⟩:=h;obtain⟨x,y,k',J,e,_,_,_,I,o,p,_,j⟩:=q;simp only[bT,Ptr.mk.injEq]at e;have z:a=x:=by omega
 have C:b=y:=by omega
 subst z;subst C;rw[u]at p;obtain⟨F,m⟩:=Bk.seal_inj t o (y6 p);subst F;subst m;rw[v]at j;exact y6 j
open Classical in
noncomputable def Ev.K (E:Ev)(p:Ptr):Option Nd.Node:=if h: ∃nd,OnD E p nd then some (Classical.choose h)else none
theorem Ev.K_iff {E:Ev}{p:Ptr}{a:Nd.Node} :E.K p=some a↔OnD E p a:=by
 rw[Ev.K];constructor
 .intro h;split at h
  .rename_i f;rw[<-y6 h];exact Classical.choose_spec f
  .cases h
 .intro h;rw[dif_pos ⟨a,h⟩];exact congrArg some (zL2 (Classical.choose_spec (⟨a,h⟩: ∃a,OnD E p a)) h)
def zOo:=@Ev.K_iff
def pp (s:Nat):Ptr:=⟨1,0,(s:Nat)⟩
noncomputable def Qf (E:Ev)(q f:PN)(p:Ptr):Option Nd.Node:=if p=pp p.sum.toNat then(match jX p.sum.toNat f with | some n=>some n | none=>jX p.sum.toNat q)else E.K p
theorem UW (E:Ev)(q f:PN)(s:Nat):Qf E q f (pp s)=match jX s f with | some n=>some n | none=>jX s q:=by simp[Qf,pp]
theorem vV {E:Ev}{q f:PN}(h:Qf E q f B=some i):(∃s,B=pp s/\(jX s f=some i\/(jX s f=none/\jX s q=some i)))\/((∀s,B≠pp s)/\E.K B=some i):=by
 simp only[Qf]at h;split at h
 .rename_i e;refine .inl ⟨_,e, ?_⟩;split at h
  .rename_i n p;exact .inl (p.trans h)
  .rename_i p;exact .inr ⟨p,h⟩
 .rename_i e;exact .inr ⟨fun s es=>e (by rw[es];simp[pp]),h⟩
theorem Y0 {E:Ev}{q f:PN}(h: ∀s,B≠pp s):Qf E q f B=E.K B:=by rw[Qf,if_neg (h _)]
structure TI (E:Ev)(H:AH)(At M:Nat)(d c:AV)(root:Ptr)(es:List (AV×AV))(q:PN)(last:Nat)(dr:AV):Prop where
 ok:H.ok
 gT:H.h.get At=some (.cells (xE d c root M last dr) 140 1 false)
 gM:H.h.get M=some (.map [10] es)
 pq:uB H es q
 dk: ∃Ad On Nw wv ds,d= .ptr Ad 0/\DkI H Ad E.nb E.ws On Nw wv ds
 cn:c= .nP\/ ∀p,E.K p=none
 dg:wF 3 42 H dr E.dl.length (E.dl.flatMap jV)
 ds: ∀kv∈es,∀B,vU kv.2 B-> ¬XE E dr B
 few:q.length<=1000000000
 xl: ∀B,E.x B->B<H.next
theorem TI.hd {E:Ev}{q:PN}(f:TI E h k w A t B H q p J): ∃M o,A= .ptr M o:=by
 obtain⟨M,_,_,_,_,e,_⟩:=f.dk;exact⟨M,0,e⟩
theorem DkI.stp {m:Bk.Ws}(d:DkI h k w m p q A H)(j:h.ok)(s:Stp I h C)(o: ¬I k)(S: ¬I p)(H': ¬I q)(t: ∀B,Blk A B-> ¬I B):DkI C k w m p q A H:=
 ⟨by rw[s.keep _ (j.lt d.gD) o];exact d.gD,by rw[s.keep _ (j.lt d.gO) S];exact d.gO,by rw[s.keep _ (j.lt d.gN) H'];exact d.gN,d.ow.mono s t,d.nw,d.ln,d.few,d.ne⟩
theorem DkI.prs {f:Bk.Ws}(d:DkI h k w f p q A H)(m:h.ok)(s:Prs h C):DkI C k w f p q A H:=d.stp m s (fun x=>x) (fun x=>x) (fun x=>x) fun _ _ x=>x
theorem TI.prs {E:Ev}{H H':AH}{f M a:Nat}{d c i:AV}{root:Ptr}{es:List (AV×AV)}{q:PN}(h:TI E H f M d c root es q a i)(s:Prs H H'):TI E H' f M d c root es q a i:=
 ⟨s.ok,zOs s h.ok h.gT,zOs s h.ok h.gM,h.pq.frame fun kv _ y j=>j.prs s,by
  obtain⟨m,o,p,t,u,e,hd⟩:=h.dk;exact⟨m,o,p,t,u,e,hd.prs h.ok s⟩,h.cn,h.dg.mono s fun _ _ x=>x,h.ds,h.few,fun B v=>qJ (h.xl B v) s.next⟩
theorem QG{E:Ev}{q:PN}(a:TI E h k w A t B H q p J):f73 D n [.ptr k 0] h=some (.bool false,h):=by
 obtain⟨M,o,rfl⟩:=a.hd;simp only[f73,eZ,cq,jP a.gT,xE]
theorem zFE{E:Ev}{q:PN}(a:TI E h k w A t B H q p J):f76 D n [.ptr k 0] h=some (.int .i64 (8192+q.length:Nat),h):=by
 have m:=a.few;have i:K0 (.map w) h=some (.int .i64 q.length):=by
  simp only[K0,a.gM,kG,a.pq.len];rfl
 have e:((8192:Nat):Int)+(q.length:Int)=((8192+q.length:Nat):Int):=by omega
 simp(disch:=omega) only[f76,eZ,jP a.gT,xE,i,e]
theorem zA3{E:Ev}{O:PN}(y:TI E h k w A t B H O p J)(Z:jX q O=some i):
  ∃v H',f77 D n [.ptr k 0, .agg (jV (pp q))] h=some (.tuple [v, .int .i64 (0:Nat)],H')/\Prs h H'/\kJ H' v i/\ ∃M,(M,v)∈H:=by
 obtain⟨v,f1,z,hm⟩:=(y.pq.find q).1 i Z;obtain⟨H1,C,b1,f,F,m1,n1⟩:=box y.ok (.cells [.int .i64 (1:Nat), .int .i64 (0:Nat), .int .u64 (q:Nat)] 42 1 false);obtain⟨G,A4,b2,Y,g2,m2,n2⟩:=box f.ok (.cells [.bool false, .nS, .nS, .nS] 119 1 false);have a:Prs h G:=f.trans Y;obtain⟨I,A6,b3,j,g3,m3,n3⟩:=box a.ok (.cells [.bool false, .nS, .nS, .nS] 119 1 false);have d:=a.trans j;obtain⟨l,rfl,o,K⟩:=z.cells;obtain⟨m,e4,g4,s,n4⟩:=kD d.ok g3 (l':=l) o K;have Q:stN 4 (.ptr A6 0) (.agg l) I=some (jT,m):=e4;have L:Prs h m:=d.fresh s (fun c hB=>by have:=a.next;omega)
 obtain⟨u,e5,g5,s5,n5⟩:=kD L.ok (show m.h.get A4=some (.cells [.bool false, .nS, .nS, .nS] 119 1 false)by rw[s.keep _ (by have:=j.next;omega) (by omega)];exact zOs j a.ok g2) (l':=l) o K
 have S:stN 4 (.ptr A4 0) (.agg l) m=some (jT,u):=e5;have N:Prs h u:=L.fresh s5 (fun c hB=>by have:=f.next;omega)
 have x:I.h.get C=some (.cells [.int .i64 (1:Nat), .int .i64 (0:Nat), .int .u64 (q:Nat)] 42 1 false):=zOs j a.ok (zOs Y f.ok F);have T:=zOs Y f.ok F;have U:m.h.get C=some (.cells [.int .i64 (1:Nat), .int .i64 (0:Nat), .int .u64 (q:Nat)] 42 1 false):=by rw[s.keep _ (by have:=Y.next;have:=j.next;omega) (by have:=Y.next;omega)];exact x
 have V:lkM [10] (.agg [.bool false, .nS, .nS, .nS]) true (.map w) (.int .u64 (q:Nat)) G=some (.tuple [.agg l, .bool true]):=by
  simp only[lkM,zNi,zU,zOs a y.ok y.gM,show YI [10] [10]=true from rfl,f1];rfl
 refine⟨.agg l,u, ?_,N,z.prs N,hm⟩;have W: ¬(((0:Nat):Int)≠((0:Nat):Int)):=by omega
 have hp:jV (pp q)=[.int .i64 (1:Nat), .int .i64 (0:Nat), .int .u64 (q:Nat)]:=rfl;rw[hp];simp(maxSteps:=999999)(disch:=omega) only[f77,eZ,b1,b2,jP T,jP x,jP U,jP (zOs a y.ok y.gT),xE,V,jR,nth,b3,Q,W,bF g4 o,S,bF g5 o]
theorem Q0.free (H0:Q0 h C A i):vQ h.next C A i:=by
 obtain⟨ks,vs,f,rfl,H,j,m,o,_⟩:=H0;exact⟨⟨ks,vs,f,rfl, .inl H, .inl j, .inl m⟩,fun B p=>o B (wU.1 p)⟩
theorem zM5(Y:1000<=n){E:Ev}{dr:PN}(j:TI E h k w A .nP B H dr p t){body:Str}(ha:2<=q)(L:q<E.nb)(hb:F<=2147483647)(hl:body.length<=500)(K:Bk.blkAt q E.ws=some (Bk.sealB U F body)):
  ∃H',f122 D n [.ptr k 0, .agg (jV (bT q F (Bk.sealB U F body)))] h=some (.tuple [.int .u8 U.toNat,S body, .int .i64 (0:Nat)],H')/\Prs h H':=by
 obtain⟨d,o⟩: ∃d,d=Bk.sealB U F body:=⟨_,rfl⟩;have M:=Bk.sealB_len (kind:=U) (birth:=F) hl;obtain⟨s,J,b1,f,x,m1,n1⟩:=box j.ok (.cells (jV (bT q F d)) 42 1 false);obtain⟨Z,y⟩: ∃Z:Str,Z=List.replicate 512 0:=⟨_,rfl⟩;have N:Z.length=512:=by rw[y];exact List.length_replicate
 have O:rep 512 [AV.int .u8 (0:Nat)]=jQ Z:=by rw[cV,y]
 obtain⟨H2,a0,b2,i,g2,m2,n2⟩:=box f.ok (.cells (jQ Z) 55 1 false);have N1:=f.next;have N2:=i.next
 have h2:=(j.prs f).prs i;obtain⟨Ad,On,Nw,wv,ds,rfl,hd⟩:=h2.dk;obtain⟨H3,z,m⟩:=zGK D n i.ok hd L;have Q:zH9 q E.ws=d:=by rw[zH9,K,o];rfl
 rw[Q]at z;rw[<-o]at M;obtain⟨u,e4,g4,C⟩:=stR m.ok (zOs m i.ok g2) N M;have N3:=m.next
 have v:Prs h u:=((f.trans i).trans m).fresh C fun d o=>by omega
 have T:u.h.get J=some (.cells (jV (bT q F d)) 42 1 false):=by
  rw[C.keep _ (by omega) (by omega)];exact zOs (i.trans m) f.ok x
 obtain⟨root,G,I⟩:=zIY D n Y v.ok U (at_:=q) (by omega) hb hl;rw[<-o]at G⊢;have h5:=(j.prs v).prs I;have c1:Eng.ld1 (.ptr k 1) s=some .nP:=by rw[jP (j.prs f).gT];rfl
 have es:Eng.ld1 (.ptr k 0) s=some (.ptr Ad 0):=by rw[jP (j.prs f).gT];rfl
 have c5:Eng.ld1 (.ptr k 1) root=some .nP:=by rw[jP h5.gT];rfl
 have r1:Eng.ld1 (.ptr J 0) s=some (.int .i64 q):=by rw[jP x];rfl
 have V:ldN 3 (.ptr J 0) u=some (.agg (jV (bT q F d))):=by rw[jU T];rfl
 have r4:=ldR g4 M;have W: ¬(((0:Nat):Int)≠((0:Nat):Int)):=by omega
 refine⟨root, ?_,v.trans I⟩;simp(maxSteps:=999999)(disch:=omega) only[f122,zK3,zK2,eZ,b1,c1,cq,es,r1,O,b2,z,jR,nth,e4,W,V,r4,G,c5]
theorem zFa (m n:Nat)(hn:200000000<=n){E:Ev}{M:Ptr}{q:PN}(L:TI E h k w A t B H q p J)(y:E.K M=some i):
  ∃v H',f77 (dy (m+1)) n [.ptr k 0, .agg (jV M)] h=some (.tuple [v, .int .i64 (0:Nat)],H')/\Prs h H'/\kJ H' v i/\ ∀c,vU v c->h.next<=c:=by
 have hc:t= .nP:=by
  rcases L.cn with e | e
  .exact e
  .rw[e]at y;cases y
 subst hc;obtain⟨a,birth,kind,body,rfl,ha,a3,_,hb,hl,a2,a0,G⟩:=zOo.1 y;obtain⟨c,f⟩: ∃c,c=Bk.sealB kind birth body:=⟨_,rfl⟩;obtain⟨H1,N,b1,dr,O,m1,n1⟩:=box L.ok (.cells (jV (bT a birth c)) 42 1 false);obtain⟨Q,A4,b2,j,g2,m2,n2⟩:=box dr.ok (.cells [.bool false, .nS, .nS, .nS] 119 1 false);have N1:=dr.next;have N2:=j.next
 have T:=dr.trans j;obtain⟨H3,o,a1⟩:=zM5 (dy (m+1)) n (by omega) (L.prs T) ha a3 hb hl a2;rw[<-f]at o⊢;obtain⟨v,U,V,u,hO,l,rfl,z,lc⟩:=zGN m n hn a1.ok (decide (kind=1)) body;rw[G]at V;have C:=(hO i G).free;have N3:=a1.next;have N4:=u.next
 have P4:=(T.trans a1).trans u;obtain⟨W,e5,Y,Z,n5⟩:=kD u.ok (zOs (a1.trans u) j.ok g2) (l':=l) z lc;have I:stN 4 (.ptr A4 0) (.agg l) U=some (jT,W):=e5;have s:f123 (dy (m+1)) n [.bool (decide (kind=1)),S body] H3=some (.tuple [.agg l, .int .i64 (0:Nat)],U):=V;have r1:Eng.ld1 (.ptr N 0) Q=some (.int .i64 a):=by rw[jP (zOs j dr.ok O)];rfl
 have r3:ldN 3 (.ptr N 0) Q=some (.agg (jV (bT a birth c))):=by rw[jU (zOs j dr.ok O)];rfl
 have t1: ¬(a:Int)=((1:Nat):Int):=by omega
 have d: ¬(((0:Nat):Int)≠((0:Nat):Int)):=by omega
 refine⟨.agg l,W, ?_,P4.fresh Z fun c f=>by omega,C.1.stp Z fun c f e=> ?_,fun c f=> ?_⟩
 .rcases a0 with rfl | rfl
  .have k1:(((1:UInt8).toNat:Nat):Int)=((1:Nat):Int):=rfl;have F:decide ((1:UInt8)=1)=true:=rfl;have t11: ¬(((1:Nat):Int)≠((1:Nat):Int)):=by omega
   rw[k1]at o;rw[F]at s;simp(maxSteps:=999999)(disch:=omega) only[f77,eZ,b1,b2,r1,t1,r3,o,jR,nth,d,t11,s,I,bF Y z]
  .have k1:(((2:UInt8).toNat:Nat):Int)=((2:Nat):Int):=rfl;have F:decide ((2:UInt8)=1)=false:=rfl;have t21:((2:Nat):Int)≠((1:Nat):Int):=by omega
   have t22: ¬(((2:Nat):Int)≠((2:Nat):Int)):=by omega
   have t23: ¬((2:Nat):Int)=((1:Nat):Int):=by omega
   rw[k1]at o;rw[F]at s;simp(maxSteps:=999999)(disch:=omega) only[f77,eZ,b1,b2,r1,t1,r3,o,jR,nth,d,ne_eq,t23,jH,t22,s,I,bF Y z]
 .have:=C.2 c f;omega
 .have:=C.2 c f;omega
theorem VU (m n:Nat)(o:200000000<=n){E:Ev}{j:Ptr}{q:PN}(f:TI E h k w A t B H q p J)(u:Qf E q [] j=some i):
  ∃v H',f77 (dy (m+1)) n [.ptr k 0, .agg (jV j)] h=some (.tuple [v, .int .i64 (0:Nat)],H')/\Prs h H'/\kJ H' v i/\((∃M,(M,v)∈H)\/ ∀d,vU v d->h.next<=d):=by
 rcases vV u with⟨s,rfl,a | ⟨_,a⟩⟩ | ⟨_,a⟩
 .simp[jX]at a
 .obtain⟨v,H',e,j,g,M⟩:=zA3 (dy (m+1)) n f a;exact⟨v,H',e,j,g, .inl M⟩
 .obtain⟨v,H',e,j,g,M⟩:=zFa m n o f a;exact⟨v,H',e,j,g, .inr M⟩
variable {X:Nat->Prop}
structure Ch (X:Nat->Prop)(H0 H:AH)(At Ac F:Nat)(fes:List (AV×AV))(f:PN)(g:AV)(gl:List Ptr)(last0 last:Nat):Prop where
 prs:Prs H0 H
 gC:H.h.get Ac=some (.cells [.ptr At 0, .int .u64 (last:Nat), .map F,g] 242 1 false)
 gF:H.h.get F=some (.map [10] fes)
 pf:uB H fes f
 gg:Own 3 42 H g gl.length (gl.flatMap jV)
 gN: ∀B,Blk g B->H0.next<=B
 gf: ∀kv∈fes,∀B,vU kv.2 B-> ¬Blk g B
 dC:H0.next<=Ac
 dF:H0.next<=F
 ne:Ac≠F
 fs: ∀s nd,jX s f=some nd->last0<s/\s<=last
 le:last0<=last
 few:gl.length<=last+1000
 fd:(f.map Prod.fst).Nodup
 fl:f.length+last0<=last
 gx: ∀kv∈fes,∀B,vU kv.2 B-> ¬X B
 xo: ∀B,X B->B<H0.next
theorem gL {s:Nat} : ∀ {q:PN},s∈q.map Prod.fst-> ∃a,jX s q=some a
 | [],h=>by simp at h
 | (t,n)::q,h=>by
  simp only[jX];by_cases e:t=s
  .exact⟨n,if_pos e⟩
  .rw[if_neg e];simp only[yE,zO]at h;exact gL (h.resolve_left fun f=>e f.symm)
def chg (a F:Nat)(g:AV)(B:Nat):Prop:=B=a\/B=F\/Blk g B
def Adv (a F:Nat)(H:AH)(g:AV)(H':AH)(f:AV):Prop:=Stp (chg a F g) H H'/\ ∀B,Blk f B->Blk g B\/H.next<=B
def xO (X:Nat->Prop)(H:AH)(g v:AV)(a:Nd.Node):Prop:=kJ H v a/\ ∀B,vU v B-> ¬Blk g B/\ ¬X B
theorem Adv.prs (g:AV)(s:Prs h C):Adv k w h g C g:=⟨s.mono (fun _ _ x=>x.elim),fun _ a=> .inl a⟩
theorem Adv.trans (i:k<h.next)(j:w<h.next)(F:Adv k w h A C t)(a:Adv k w C t P J):Adv k w h A P J:=by
 refine⟨⟨a.1.ok,qR F.1.next a.1.next,fun H i f=> ?_⟩,fun B q=> ?_⟩
 .rw[a.1.keep H (qJ i F.1.next) (fun s=> ?_),F.1.keep H i f]
  rcases s with e | e | e
  .exact f (.inl e)
  .exact f (.inr (.inl e))
  .rcases F.2 H e with e | e
   .exact f (.inr (.inr e))
   .omega
 .have:=F.1.next
  rcases a.2 B q with e | e
  .exact F.2 B e
  .exact .inr (by omega)
theorem Ch.ltC {f:PN}(H0:Ch X h C k w p H f A v q F):w<C.next:=H0.prs.ok.lt H0.gC
theorem Ch.ltF {f:PN}(H0:Ch X h C k w p H f A v q F):p<C.next:=H0.prs.ok.lt H0.gF
theorem Ch.keep {f:PN}(H0:Ch X h C k w p H f t v q F)(a:xO X C t J i)(s:Stp (chg w p t) C P):kJ P J i:=
 a.1.stp s fun A H' u=>by
  rcases u with rfl | rfl | e
  .exact a.1.nblk H0.gC (.inl ⟨_,_,_,_,rfl,fun _ _ e=>by cases e⟩) H'
  .exact a.1.nblk H0.gF (.inr (.inl ⟨_,_,rfl⟩)) H'
  .exact(a.2 A H').1 e
theorem Ch.next {f:PN}(H0:Ch X h C k w p H f A v q F)(a:xO X C A J i)(s:Adv w p C A P t):xO X P t J i:=
 ⟨H0.keep a s.1,fun B H'=>⟨fun x=>by
  rcases s.2 B x with e | e
  .exact(a.2 B H').1 e
  .have:=a.1.lt H';omega,(a.2 B H').2⟩⟩
theorem Ch.step {f:PN}(H0:Ch X h C k w p H f A v q F)(s:Prs C P):Ch X h P k w p H f A v q F:=
 ⟨H0.prs.trans s,zOs s H0.prs.ok H0.gC,zOs s H0.prs.ok H0.gF,H0.pf.frame fun kv _ m H'=>H'.prs s,H0.gg.mono s (fun _ _ x=>x),H0.gN,H0.gf,H0.dC,H0.dF,H0.ne,H0.fs,H0.le,H0.few,H0.fd,H0.fl,H0.gx,H0.xo⟩
theorem xO.prs {H H':AH}{g v:AV}{a:Nd.Node}(h:xO X H g v a)(s:Prs H H'):xO X H' g v a:=⟨h.1.prs s,h.2⟩
theorem vQ.hand {f:PN}(H0:Ch X h C k w p H f A v q F)(x:C.next<=W)(a:vQ W P t i):xO X P A t i:=
 ⟨a.1,fun B j=>⟨fun H'=>by have:=a.2 B j;have:=zOx H0.gg.row H';omega,fun u=>by have:=a.2 B j;have:=H0.xo B u;have:=H0.prs.next;omega⟩⟩
theorem kJ.hand {f:PN}(H0:Ch X h C k w p H f A v q F)(s:kJ P t i)(H': ∀B,vU t B->B<h.next)(u: ∀B,vU t B-> ¬X B):xO X P A t i:=
 ⟨s,fun B o=>⟨fun x=>by have:=H' B o;have:=H0.gN B x;omega,u B o⟩⟩
theorem bldQ (e:TypeId)(p:Ptr)(z:List AV)(a:z.length=3):Q2 e 3 1 z [(0, .agg (jV p))]=some (.cells (jV p) e 3 false,fun A=> .slice A 0 1 2):=by
 match z,a with
 | [_,_,_],_=>rfl
theorem zKz (p:Ptr):uP (jV p) 0 3=some (jV p):=rfl
theorem zG1{f:PN}(H0:Ch X h C k w p H f A v q F)(m:Ptr)(hl:v.length+1<=F+1000)(hb:F<=900000000):
  ∃s H',f130 D n [.ptr w 0, .agg (jV m)] C=some (.tuple [],H')/\Ch X h H' k w p H f s (v++[m]) q F/\Adv w p C A H' s:=by
 obtain⟨H1,A3,b1,N,g1,m1,n1⟩:=box H0.prs.ok (.cells (jV m) 42 1 false);obtain⟨Y,A4,b2,p2,g2,m2,n2⟩:=box N.ok (.cells (jV m) 42 3 false);have G:=N.trans p2;have j:=H0.step G;have a0:srcOf 3 (.slice A4 0 1 2) Y=some (1,jV m):=by
  simp only[srcOf,g2];rfl
 obtain⟨s,O,e3,Q,z,w3,I⟩:=zM9 (bytes:=24) j.prs.ok (by decide) j.gg a0 rfl rfl (by omega) (by decide);have Z: ¬Blk A w:=fun a=>by
  obtain⟨_,⟨rfl,_⟩ | ⟨L,rfl,_,u⟩⟩:=j.gg
  .exact zOt.1 a
  .rw[<-zOm.1 a,j.gC]at u;simp at u
 have nF: ¬Blk A p:=fun a=>by
  obtain⟨_,⟨rfl,_⟩ | ⟨L,rfl,_,u⟩⟩:=j.gg
  .exact zOt.1 a
  .rw[<-zOm.1 a,j.gF]at u;simp at u
 have a2:O.h.get w=some (.cells [.ptr k 0, .int .u64 (F:Nat), .map p,A] 242 1 false):=by rw[z.keep _ j.ltC Z];exact j.gC
 have a3:O.h.get p=some (.map [10] H):=by rw[z.keep _ j.ltF nF];exact j.gF
 obtain⟨J,e4,g4,T,n4⟩:=xT z.ok a2 (o:=3) (x:=s) Q.row.isCell (by simp);have a6: ∀B,Blk s B->B<O.next:=fun B a=>zOx Q.row a
 have a4: ¬Blk s w:=fun a=>by
  rcases I w a with e | e
  .exact Z e
  .have:=j.ltC;omega
 have S2:Stp (chg w p A) Y J:=(z.mono (fun _ _ x=> .inr (.inr x))).trans (T.mono (fun _ _ x=> .inl x));have S:Stp (chg w p A) C J:=(G.mono (fun _ _ x=>x.elim)).trans S2;have a1:Adv w p C A J s:=⟨S,fun B a=>by
  rcases I B a with e | e
  .exact .inl e
  .have:=G.next;exact .inr (by omega)⟩
 have a5:(v++[m]).flatMap jV=v.flatMap jV++jV m:=by simp
 refine⟨s,J, ?_,⟨?_, ?_, ?_, ?_, ?_, ?_, ?_,H0.dC,H0.dF,H0.ne,H0.fs,H0.le,by simpa using hl,H0.fd,H0.fl,H0.gx,H0.xo⟩,a1⟩
 .have e1:=bldQ 42 m [.int .i64 (0:Nat), .int .i64 (0:Nat), .int .u64 (0:Nat)] rfl;simp(disch:=omega) only[f130,eZ,b1,jP (zOs N H0.prs.ok H0.gC),jU g1,zKz,qA,e1,b2,e3,e4]
 .exact H0.prs.fresh S (fun B a=>by
   have:=H0.dC;have:=H0.dF;rcases a with e | e | e
   .omega
   .omega
   .exact H0.gN B e)
 .exact g4
 .rw[T.keep _ (by have:=z.next;have:=j.ltF;omega) (fun e=>H0.ne e.symm)];exact a3
 .exact H0.pf.frame fun kv g M U=>H0.keep ⟨U,fun B a=>⟨H0.gf kv g B a,H0.gx kv g B a⟩⟩ S
 .rw[a5];have:=Q.mono T (fun B a e=>a4 (e▸a));simpa using this
 .intro B a;rcases I B a with e | e
  .exact H0.gN B e
  .have:=j.prs.next;omega
 .intro kv g B a u;obtain⟨i,hi⟩:=List.mem_iff_getElem.1 g;have a7:B<C.next:=by
   have hp: ∀ {es:List (AV×AV)} {gl:PN},uB C es gl-> ∀kv∈es,∃M,kJ C kv.2 M:=by
    intro es
    induction es with
    | nil=>intro gl _ kv H0;simp at H0
    | cons e es ih=>
     intro gl K kv V
     match gl,K with
     | (t,M)::gl,K=>
      rcases zO.1 V with rfl | V
      .exact⟨M,K.1.2⟩
      .exact ih K.2 kv V
   obtain⟨M,U⟩:=hp H0.pf kv g;exact U.lt a
  rcases I B u with e | e
  .exact H0.gf kv g B a e
  .have:=G.next;omega
theorem zHp{f:PN}(H0:Ch X h C k w p H f A v q F)(M:xO X C A t i)(hb:F<=900000000):
  ∃H',f127 D n [.ptr w 0,t] C=some (.agg (jV (pp (F+1))),H')/\Ch X h H' k w p (H++[(.int .u64 (F+1:Nat),t)]) (f++[(F+1,i)]) A v q (F+1)/\Adv w p C A H' A:=by
 obtain⟨l,rfl,ll,lc⟩:=M.1.cells;obtain⟨H1,A3,b1,N,g1,m1,n1⟩:=box H0.prs.ok (.cells l 119 1 false);obtain⟨H2,A4,b2,T,g2,m2,n2⟩:=box N.ok (.cells [.int .i64 (0:Nat), .int .i64 (0:Nat), .int .u64 (0:Nat)] 42 1 false);have Z:=N.trans T;have y:=H0.step Z;obtain⟨gl,e3,G,u,n3⟩:=xT y.prs.ok y.gC (o:=1) (x:= .int .u64 (F+1:Nat)) rfl (by simp);have G:gl.h.get w=some (.cells [.ptr k 0, .int .u64 (F+1:Nat), .map p,A] 242 1 false):=G;have V:gl.h.get p=some (.map [10] H):=by rw[u.keep _ y.ltF (fun e=>H0.ne e.symm)];exact y.gF
 have a1:v6 (.int .u64 (F+1:Nat)) H=none:=(H0.pf.find (F+1)).2 (by
  cases O:jX (F+1) f with
  | none=>rfl
  | some a2=>have:=H0.fs _ _ O;omega)
 have e4:upM [10] (.map p) (.int .u64 (F+1:Nat)) (.agg l) gl=some (jT,gl.put p (.map [10] (H++[(.int .u64 (F+1:Nat), .agg l)]))):=by
  simp only[upM,zNi,zU,V,show YI [10] [10]=true from rfl,setA_none a1,wM]
 have W:(gl.put p (.map [10] (H++[(.int .u64 (F+1:Nat), .agg l)]))).h.get p=some (.map [10] (H++[(.int .u64 (F+1:Nat), .agg l)])):=by rw[zOl,if_pos rfl]
 have z:Stp (fun B=>B=p) gl (gl.put p (.map [10] (H++[(.int .u64 (F+1:Nat), .agg l)]))):=(zOp u.ok).put (u.ok.lt V) _ (.inr rfl);generalize gl.put p (.map [10] (H++[(.int .u64 (F+1:Nat), .agg l)]))=H4 at e4 W z;have Y:H4.h.get w=some (.cells [.ptr k 0, .int .u64 (F+1:Nat), .map p,A] 242 1 false):=by rw[z.keep _ (u.ok.lt G) H0.ne];exact G
 have a9:=H0.ltC;have b0:=H0.ltF;have N1:=N.next;have N2:=T.next;have N3:=u.next;have N4:=z.next
 have a3:H4.h.get A4=some (.cells [.int .i64 (0:Nat), .int .i64 (0:Nat), .int .u64 (0:Nat)] 42 1 false):=by
  rw[z.keep _ (by omega) (by omega),u.keep _ n2 (by omega)];exact g2
 have a4:ldN 4 (.ptr A3 0) gl=some (.agg l):=bF (e:=119) (by rw[u.keep _ (by omega) (by omega)];exact zOs T N.ok g1) ll;obtain⟨I,e5,g5,L,n5⟩:=kD z.ok a3 (l':=jV (pp (F+1))) rfl rfl;have a5:stN 3 (.ptr A4 0) (.agg (jV (pp (F+1)))) H4=some (jT,I):=e5;have S4:Stp (chg w p A) C H4:=((Z.mono (fun _ _ x=>x.elim)).trans (u.mono (fun _ _ x=> .inl x))).trans (z.mono (fun _ _ x=> .inr (.inl x)));have Q:Stp (chg w p A) C I:=⟨L.ok,qR S4.next L.next,fun g hA hS=>by rw[L.keep g (by omega) (by omega),S4.keep g hA hS]⟩
 have a0:Adv w p C A I A:=⟨Q,fun B j=> .inl j⟩;have a6:IntKind.wrap .u64 ((F:Int)+((1:Nat):Int))=((F+1:Nat):Int):=by rw[wrap_u64];omega
 have bs:uD [(0,1),(1,1),(2,1)] [.int .i64 (0:Nat), .int .i64 (0:Nat), .int .u64 (0:Nat)] [(0, .int .i64 (1:Nat)),(2, .int .u64 (F+1:Nat))]=some (.agg (jV (pp (F+1)))):=rfl;have r5:ldN 3 (.ptr A4 0) I=some (.agg (jV (pp (F+1)))):=by rw[jU g5];rfl
 have a7:=H0.keep M Q;refine⟨I, ?_,⟨?_, ?_, ?_, ?_, ?_,H0.gN, ?_,H0.dC,H0.dF,H0.ne, ?_,by have:=H0.le;omega,by have:=H0.few;omega, ?_,by have:=H0.fl;simp;omega,fun kv m B j=> ?_,H0.xo⟩,a0⟩
 .simp(maxSteps:=999999)(disch:=omega) only[f127,eZ,b1,b2,jP y.gC,a6,e3,jP G,a4,e4,jP Y,bs,a5,r5]
 .exact H0.prs.fresh Q (fun B j=>by
   have:=H0.dC;have:=H0.dF;rcases j with e | e | e
   .omega
   .omega
   .exact H0.gN B e)
 .rw[L.keep _ (by omega) (by omega)];exact Y
 .rw[L.keep _ (by omega) (by omega)];exact W
 .exact uB.snoc a7 (H0.pf.frame fun kv m i hn=>H0.keep ⟨hn,fun B j=>⟨H0.gf kv m B j,H0.gx kv m B j⟩⟩ Q)
 .have nC: ∀B,Blk A B-> ¬B=w:=fun B j e=>by
   subst e;obtain⟨_,⟨rfl,_⟩ | ⟨g,rfl,_,J⟩⟩:=H0.gg
   .exact zOt.1 j
   .rw[<-zOm.1 j,H0.gC]at J;simp at J
  have nF: ∀B,Blk A B-> ¬B=p:=fun B j e=>by
   subst e;obtain⟨_,⟨rfl,_⟩ | ⟨g,rfl,_,J⟩⟩:=H0.gg
   .exact zOt.1 j
   .rw[<-zOm.1 j,H0.gF]at J;simp at J
  exact(((y.gg.mono u nC).mono z nF).mono L (fun B j e=>by have:=zOx H0.gg.row j;omega))
 .intro kv m B j;rcases qB.1 m with m | m
  .exact H0.gf kv m B j
  .simp only[yB]at m;subst m;exact(M.2 B j).1
 .intro s a2 K;rw[xZ]at K
  cases O:jX s f with
  | some a8=>have:=H0.fs _ _ O;omega
  | none=>
   rw[O]at K;simp only[jX]at K;split at K
   .have:=H0.le;omega
   .cases K
 .rw[List.map_append,List.nodup_append];refine⟨H0.fd,by simp,fun a ha b hb e=> ?_⟩;simp only[yE,List.map_nil,yB]at hb;subst hb;subst e;obtain⟨a8,y⟩:=gL ha;have:=H0.fs _ _ y;omega
 .rcases qB.1 m with m | m
  .exact H0.gx kv m B j
  .simp only[yB]at m;subst m;exact(M.2 B j).2
open Go.Nd (cutOk cutA aI)
inductive CutsN:Nd.Node->List Nd.Node->List Str->Prop
 | one {nd:Nd.Node} :Nd.size nd<=500->CutsN nd [nd] []
 | more {nd:Nd.Node} {k:Nat} {ps:List Nd.Node} {ss:List Str} :500<Nd.size nd->cutOk nd k->hbnd nd k->CutsN (aI nd k) ps ss->CutsN nd (cutA nd k::ps) (nd.keys.getD k []::ss)
def Par (H:AH):List (List AV)->List Nd.Node->Prop
 | [],[]=>True
 | l::vs,nd::nds=>(l.length=4/\jS l=true/\kJ H (.agg l) nd)/\Par H vs nds
 | _,_=>False
theorem Par.len {H:AH} : ∀ {vs:List (List AV)} {i:List Nd.Node},Par H vs i->vs.length=i.length/\vs.flatten.length=i.length*4/\jS vs.flatten=true
 | [],[],_=>⟨rfl,rfl,rfl⟩
 | l::vs,_::i,h=>by
  obtain⟨a,b,c⟩:=Par.len h.2;refine⟨by simp[a], ?_, ?_⟩
  .rw[List.flatten_cons,zV,b,h.1.1,zY];omega
  .rw[List.flatten_cons,wJ];intro x f;rcases qB.1 f with f | f
   .exact wJ.1 h.1.2.1 x f
   .exact wJ.1 c x f
 | [],_::_,h=>h.elim
 | _::_,[],h=>h.elim
theorem Par.frame {H H':AH} : ∀ {vs:List (List AV)} {f:List Nd.Node},Par H vs f->(∀l∈vs,∀a,kJ H (.agg l) a->kJ H' (.agg l) a)->Par H' vs f
 | [],[],_,_=>trivial
 | l::vs,a::f,h,hf=>⟨⟨h.1.1,h.1.2.1,hf l (zJ ..) a h.1.2.2⟩,Par.frame h.2 fun l hl=>hf l (zE _ hl)⟩
 | [],_::_,h,_=>h.elim
 | _::_,[],h,_=>h.elim
theorem Par.snoc {H:AH}{l:List AV}{f:Nd.Node}(i:l.length=4/\jS l=true/\kJ H (.agg l) f): ∀ {vs:List (List AV)} {a:List Nd.Node},Par H vs a->Par H (vs++[l]) (a++[f])
 | [],[],_=>⟨i,trivial⟩
 | _::vs,_::a,h=>⟨h.1,Par.snoc i h.2⟩
 | [],_::_,h=>h.elim
 | _::_,[],h=>h.elim
theorem Par.mem {H:AH} : ∀ {vs:List (List AV)} {f:List Nd.Node} {l:List AV},Par H vs f->l∈vs-> ∃a,kJ H (.agg l) a
 | [],[],_,_,hl=>by simp at hl
 | k::vs,a::f,l,h,hl=>by
  rcases zO.1 hl with rfl | hl
  .exact⟨a,h.1.2.2⟩
  .exact Par.mem h.2 hl
 | [],_::_,_,h,_=>h.elim
 | _::_,[],_,h,_=>h.elim
theorem zO5 (e:TypeId)(l:List AV)(hl:l.length=4)(z:List AV)(a:z.length=4):Q2 e 4 1 z [(0, .agg l)]=some (.cells l e 4 false,fun A=> .slice A 0 1 2):=by
 match z,a with
 | [_,_,_,_],_=>match l,hl with
  | [_,_,_,_],_=>rfl
theorem src4 (H:h.h.get k=some (.cells l w 4 N))(hl:l.length=4)(cc:Nat):srcOf 4 (.slice k 0 1 cc) h=some (1,l):=by
 simp only[srcOf,H,kV _ _ _ (.inr (show 0+1*4<=l.length by omega)),y9,zZ (show l.length<=1*4 by omega)]
theorem JK (h:Nd.shaped ltS i=true)(j:500<Nd.size i):bO i:=by
 have f: ∀k∈i.keys,k.length<=40:=fun k f=>by
  simp only[Nd.shaped,zF,y8]at h;have:=h.1.1 k f;simp only[Nd.mayK,zF,zQ]at this;omega
 have b1: ∀(c:Nat) (l:List Str),(∀k∈l,k.length<=c)->sumL l<=(c+1)*l.length:=by
  intro c l
  induction l with
  | nil=>simp[sumL]
  | cons a l ih=>
   intro h;have:=ih fun k f=>h k (zE _ f)
   have:=h a (zJ ..);rw[Nd.sumL_cons,zY,Nat.mul_succ];omega
 have k1:=b1 40 i.keys f;simp only[Nd.size]at j
 cases hl:i.leaf with
 | true=>
  simp only[Nd.shaped,hl,if_true,zF,zQ,y8]at h;have k2:=b1 200 i.vals fun v m=>h.2.2 v m
  rw[h.2.1.2,yO]at j;rw[h.2.1.1]at k2;exact⟨by omega, .inl hl⟩
 | false=>
  simp only[Nd.shaped,hl,zM,qE,zF,zQ]at h;rw[h.2.1.1.2]at j;have:sumL []=0:=rfl;rw[h.2.1.2]at j;exact⟨by omega, .inr (by omega)⟩
theorem xQ (h:Nd.size i<=10000):small i:=by
 simp only[Nd.size]at h;exact⟨by omega,by omega,by omega⟩
theorem zAT(hn:200000000<=n)(hk:h.ok)(H:kJ h A i)(f4:Nd.shaped ltS i=true)(hz:Nd.size i<=10000):
  ∃q v H' vs p s,f177 D n [A] h=some (.tuple [q,v, .int .i64 (0:Nat)],H')/\Prs h H'/\CutsN i p s/\Own 4 119 H' q p.length vs.flatten/\Par H' vs p/\Own 1 9 H' v s.length (s.map S)/\
   (∀B,Blk q B->h.next<=B)/\(∀B,Blk v B->h.next<=B)/\ ∀l∈vs,∀B,vU (.agg l) B->vU A B\/h.next<=B:=by
 obtain⟨l0,rfl,f5,f6⟩:=H.cells;obtain⟨H1,F,b1,p1,g1,m1,n1⟩:=box hk (.cells l0 119 1 false);have lp:Fin (kL n (zAG D n) [.ptr F 0, .nS, .nS] H1) fun x H'=> ∃l j vs p s q v,x= .exit 0 [.ptr F 0,q,v]/\Prs h H'/\H'.h.get F=some (.cells l 119 1 false)/\l.length=4/\jS l=true/\kJ H' (.agg l) j/\Nd.size j<=500/\
   (∀a0 a3,CutsN j a0 a3->CutsN i (p++a0) (s++a3))/\Own 4 119 H' q p.length vs.flatten/\Par H' vs p/\Own 1 9 H' v s.length (s.map S)/\(∀B,Blk q B->h.next<=B)/\(∀B,Blk v B->h.next<=B)/\
   (∀B,vU (.agg l) B->vU (.agg l0) B\/h.next<=B)/\(∀l∈vs,∀B,vU (.agg l) B->vU (.agg l0) B\/h.next<=B)/\p.length<=10000:=by
  refine Fin.loop (fun k us H'=> ∃l j vs p s q v,us=[.ptr F 0,q,v]/\Prs h H'/\H'.h.get F=some (.cells l 119 1 false)/\l.length=4/\jS l=true/\kJ H' (.agg l) j/\Nd.shaped ltS j=true/\
   (∀a0 a3,CutsN j a0 a3->CutsN i (p++a0) (s++a3))/\Own 4 119 H' q p.length vs.flatten/\Par H' vs p/\Own 1 9 H' v s.length (s.map S)/\(∀B,Blk q B->h.next<=B)/\(∀B,Blk v B->h.next<=B)/\
   (∀B,vU (.agg l) B->vU (.agg l0) B\/h.next<=B)/\(∀l∈vs,∀B,vU (.agg l) B->vU (.agg l0) B\/h.next<=B)/\(∀B,vU (.agg l) B-> ¬Blk v B)/\(∀l∈vs,∀B,vU (.agg l) B-> ¬Blk v B)/\s.length=p.length/\p.length+Nd.size j<=10000/\k=Nd.size j) ?_ n (Nd.size i) _ H1
   ⟨l0,i,[],[],[], .nS, .nS,rfl,p1,g1,f5,f6,H.prs p1,f4,fun _ _ H=>H,zOv ..,trivial,zOv ..,fun B f=>(zOt.1 f).elim,fun B f=>(zOt.1 f).elim,fun B f=> .inl f,by simp,fun B _ f=>(zOt.1 f).elim,by simp,rfl,by simpa using hz,rfl⟩ (by omega)
  rintro k us H' ⟨l,j,vs,p,s,q,v,rfl,P,Q,M,lc,hG,a9,b0,N,a7,T,bP,bS,bl,b2,al,f7,d8,i3,rfl⟩
  have d1:small j:=xQ (by omega);obtain⟨z,H2,e2,rfl,J⟩:=JJ D n P.ok hG.node d1 hn;have P2:=P.trans J;have g2:=zOs J P.ok Q;by_cases c8:500<Nd.size j
  case neg=>
   have c0: ¬((500:Nat):Int)< ((Nd.size j:Nat):Int):=by omega
   refine⟨.exit 0 [.ptr F 0,q,v],H2, ?_,l,j,vs,p,s,q,v,rfl,P2,g2,M,lc,hG.prs J,by omega,b0,N.mono J (fun _ _ x=>x),a7.frame (fun l hl i hn=>hn.prs J),T.mono J (fun _ _ x=>x),bP,bS,bl,b2,by omega⟩;simp(disch:=omega) only[zAG,eZ,bF Q M,e2,c0]
  case pos=>
  have c0:((500:Nat):Int)< ((Nd.size j:Nat):Int):=by omega
  have f8:=JK a9 c8;obtain⟨va,sep,vb,e,H3,e3,L,hc⟩:=zNT D n hn P2.ok (hG.prs J) d1;rcases hc with⟨rfl,k,_,c1,hb,rfl,ga,gb⟩ | ⟨_,_,f9,_⟩
  case inr=>exact absurd ⟨a9,f8⟩ f9
  have P3:=P2.trans L;have d2:Prs H' H3:=J.trans L;obtain⟨U,rfl,a8,c2⟩:=ga.1.cells;obtain⟨V,rfl,c3,c4⟩:=gb.1.cells;obtain⟨H4,A7,b4,p4,g4,m4,n4⟩:=box P3.ok (.cells [.bool false, .nS, .nS, .nS] 119 1 false);obtain⟨H5,A9,b5,p5,g5,m5,n5⟩:=box p4.ok (.cells [.bool false, .nS, .nS, .nS] 119 1 false);obtain⟨H6,e6,g6,s6,n6⟩:=kD p5.ok (zOs p5 p4.ok g4) (l':=U) a8 c2;have g0:stN 4 (.ptr A7 0) (.agg U) H5=some (jT,H6):=e6;obtain⟨H7,e7,g7,s7,n7⟩:=kD s6.ok (show H6.h.get A9=some (.cells [.bool false, .nS, .nS, .nS] 119 1 false)by rw[s6.keep _ n5 (by omega)];exact g5) (l':=V) c3 c4;have g9:stN 4 (.ptr A9 0) (.agg V) H6=some (jT,H7):=e7;have N3:=d2.next;have N4:=p4.next;have N5:=p5.next
  have d3:Prs H3 H7:=((p4.trans p5).fresh s6 (fun B f=>by omega)).fresh s7 (fun B f=>by omega);have h0:H7.h.get A7=some (.cells U 119 1 false):=by rw[s7.keep _ (by omega) (by omega)];exact g6
  obtain⟨W,i5,b8,p8,g8,m8,n8⟩:=box d3.ok (.cells U 119 4 false);have a4:Prs H3 W:=d3.trans p8;have Y:Prs H' W:=d2.trans a4;obtain⟨H9,e9,o9,K,n9⟩:=bD (bytes:=80) a4.ok (by decide) (N.mono Y (fun _ _ x=>x)) (src4 g8 a8 2) (by omega) c2 (by omega) (by omega) (by decide);have N8:=a4.next
  have nP: ∀(l:List AV) (i:Nd.Node),kJ W (.agg l) i-> ∀B,vU (.agg l) B-> ¬Blk q B:=fun l i t B f hp=>by
   obtain⟨_,⟨rfl,_⟩ | ⟨C,rfl,_,y⟩⟩:=N.mono Y (fun _ _ x=>x)
   .exact zOt.1 hp
   .rw[zOm.1 hp]at f;exact t.nblk y (.inr (.inr ⟨_,_,_,_,rfl,by decide,by decide⟩)) f
  have d4:=T.mono Y (fun _ _ x=>x);have c5: ∀B,Blk v B-> ¬Blk q B:=fun B f hp=>by
   obtain⟨_,⟨rfl,_⟩ | ⟨C,rfl,_,y⟩⟩:=N.mono Y (fun _ _ x=>x)
   .exact zOt.1 hp
   .obtain⟨_,⟨rfl,_⟩ | ⟨E,rfl,_,c6⟩⟩:=d4
    .exact zOt.1 f
    .rw[<-zOm.1 hp,zOm.1 f,c6]at y;simp at y
  obtain⟨b6,h1,h2,G,h3,i6,i7⟩:=box K.ok (.cells [S (j.keys.getD k [])] 9 1 false);have d9:=(d4.mono K c5).mono G (fun _ _ x=>x);have e0:srcOf 1 (.slice h1 0 1 2) b6=some (1,[S (j.keys.getD k [])]):=by
   have:=Rw.srcOf (Rw.lit (cc:=2) G.ok h3);exact this
  obtain⟨a5,h4,h5,Z,i8⟩:=bD (bytes:=16) G.ok (by decide) d9 e0 rfl rfl (by omega) (by omega) (by decide);have i4:F<H'.next:=P.ok.lt Q
  have fr: ∀(l:List AV) (i:Nd.Node),kJ W (.agg l) i->(∀B,vU (.agg l) B-> ¬Blk v B)->kJ a5 (.agg l) i:=fun l i t ha=>
   ((t.stp K (nP l i t)).prs G).stp Z ha
  have c9: ∀B,Blk v B->B<H3.next:=fun B f=>by have:=zOx T.row f;omega
  have d5:=ga.1.prs a4;have d6:=gb.1.prs a4;have fA: ∀B,vU (.agg U) B-> ¬Blk v B:=fun B f O=>by have:=ga.2 B f;have:=zOx T.row O;have:=J.next;omega
  have fB: ∀B,vU (.agg V) B-> ¬Blk v B:=fun B f O=>by have:=gb.2 B f;have:=zOx T.row O;have:=J.next;omega
  have e1:=fr U _ d5 fA;have e5:=fr V _ d6 fB;have c7: ∀(l:List AV) (i:Nd.Node),kJ W (.agg l) i-> ∀B,vU (.agg l) B->B<b6.next:=fun l i t B f=>by have:=t.lt f;have:=K.next;have:=G.next;omega
  have d0:a5.h.get F=some (.cells l 119 1 false):=by
   have e8:W.h.get F=some (.cells l 119 1 false):=zOs Y P.ok Q;have np: ¬Blk q F:=fun hp=>by
    obtain⟨_,⟨rfl,_⟩ | ⟨C,rfl,_,y⟩⟩:=N
    .exact zOt.1 hp
    .rw[<-zOm.1 hp,Q]at y;simp at y
   have ns: ¬Blk v F:=fun hp=>by
    obtain⟨_,⟨rfl,_⟩ | ⟨C,rfl,_,y⟩⟩:=T
    .exact zOt.1 hp
    .rw[<-zOm.1 hp,Q]at y;simp at y
   rw[Z.keep _ (by have:=K.next;have:=G.next;omega) ns,G.keep _ (by have:=K.next;omega) (fun x=>x),K.keep _ (by omega) np];exact e8
  obtain⟨b7,d7,h6,b9,i9⟩:=kD Z.ok d0 (l':=V) (by omega) c4;have f1:stN 4 (.ptr F 0) (.agg V) a5=some (jT,b7):=by rw[M]at d7;exact d7
  have r9:ldN 4 (.ptr A9 0) a5=some (.agg V):=bF (e:=119) (by
   have np: ¬Blk q A9:=fun hp=>by have:=zOx N.row hp;omega
   have ns: ¬Blk v A9:=fun hp=>by have:=c9 _ hp;omega
   rw[Z.keep _ (by have:=K.next;have:=G.next;have:=p8.next;omega) ns,G.keep _ (by have:=K.next;have:=p8.next;omega) (fun x=>x),K.keep _ (by have:=p8.next;omega) np,p8.keep _ (by omega) (fun x=>x)];exact g7) c3
  have a6: ∀(u:List AV) (I:Nd.Node),kJ a5 (.agg u) I->kJ b7 (.agg u) I:=fun u I t=>t.stp b9 (fun B f e=>by
   subst e;have: ∃x r,l=x::r/\ ∀a b,x≠ .str a b:=by
    obtain⟨ks,vs',ps,ee,_⟩:=hG;simp only[AV.agg.injEq]at ee;exact⟨_,_,ee,fun _ _ e=>by cases e⟩
   obtain⟨x,r,rfl,hx⟩:=this;exact t.nblk d0 (.inl ⟨x,r,_,_,rfl,hx⟩) f)
  have Pn:Prs h b7:=by
   have a1:Prs h H9:=(P3.trans a4).fresh K bP;have a2:Prs h a5:=(a1.trans G).fresh Z bS;exact a2.fresh b9 (fun B f=>by omega)
  have f2:=Nd.cut_size a9 c1;have h7:=Nd.cut_shaped a9 c1;have N9:=K.next;have j0:=G.next;have j1:=Z.next
  have PN:=P.next
  refine⟨.norm [.ptr F 0, .slice W.next 0 (p.length+1) 1, .slice b6.next 0 (s.length+1) 1],b7, ?_,Nd.size (aI j k),f2.2,V,aI j k,vs++[U],p++[cutA j k],s++[j.keys.getD k []], .slice W.next 0 (p.length+1) 1, .slice b6.next 0 (s.length+1) 1,rfl,Pn,h6,c3,c4,a6 _ _ e5,h7.2,fun a0 a3 h8=> ?_, ?_, ?_, ?_,fun B f=> ?_,fun B f=> ?_,fun B f=> ?_,fun u m B f=> ?_,fun B f O=> ?_,fun u m B f O=> ?_,by simp[d8], ?_,rfl⟩
  .simp(maxSteps:=999999)(disch:=omega) only[zAG,eZ,bF Q M,e2,c0,bF g2 M,e3,jR,nth,b4,b5,g0,g9,ne_eq,not_true_eq_false,bF h0 a8,zO5 119 U a8 [.bool false, .nS, .nS, .nS] rfl,zY,yO,b8,e9,zKP 9 (.str 0 0) (YE (j.keys.getD k [])),h2,h4,r9,f1]
  .rw[qH,qH];exact b0 _ _ (.more c8 c1 hb h8)
  .have h9:=((o9.mono G (fun _ _ x=>x)).mono Z (fun B f O=>by rw[zOm.1 f]at O;have:=c9 _ O;omega)).mono b9 (fun B f e=>by rw[zOm.1 f]at e;omega);simpa using h9
  .refine Par.snoc ⟨a8,c2,a6 _ _ e1⟩ (a7.frame fun u m I t=>a6 _ _ (fr u I (t.prs Y) (f7 u m)))
  .have f3:=h5.mono b9 (fun B f e=>by rw[zOm.1 f]at e;omega);simpa using f3
  .rw[zOm.1 f];omega
  .rw[zOm.1 f];omega
  .exact .inr (by have:=gb.2 B f;have:=J.next;omega)
  .rcases qB.1 m with m | m
   .exact b2 u m B f
   .simp only[yB]at m;subst m;exact .inr (by have:=ga.2 B f;have:=J.next;omega)
  .rw[zOm.1 O]at f;have:=c7 _ _ d6 _ f;omega
  .rw[zOm.1 O]at f;rcases qB.1 m with m | m
   .obtain⟨I,i0⟩:=a7.mem m;have:=c7 _ _ (i0.prs Y) _ f;omega
   .simp only[yB]at m;subst m;have:=c7 _ _ d5 _ f;omega
  .simp only[zV,zY,yO];omega
 obtain⟨x,H2,e2,l,j,vs,p,s,q,v,rfl,P,Q,M,lc,hG,i1,b0,N,a7,T,bP,bS,bl,b2,i2⟩:=lp;obtain⟨H3,A3,b3,L,g3,m3,n3⟩:=box P.ok (.cells l 119 4 false);obtain⟨H4,e4,o4,s4,n4⟩:=bD (bytes:=80) L.ok (by decide) (N.mono L (fun _ _ x=>x)) (src4 g3 M 2) (by omega) lc (by omega) (by omega) (by decide);have nP: ∀(l:List AV) (i:Nd.Node),kJ H3 (.agg l) i-> ∀B,vU (.agg l) B-> ¬Blk q B:=fun l i t B f hp=>by
  obtain⟨_,⟨rfl,_⟩ | ⟨C,rfl,_,y⟩⟩:=N.mono L (fun _ _ x=>x)
  .exact zOt.1 hp
  .rw[zOm.1 hp]at f;exact t.nblk y (.inr (.inr ⟨_,_,_,_,rfl,by decide,by decide⟩)) f
 have c5: ∀B,Blk v B-> ¬Blk q B:=fun B f hp=>by
  obtain⟨_,⟨rfl,_⟩ | ⟨C,rfl,_,y⟩⟩:=N
  .exact zOt.1 hp
  .obtain⟨_,⟨rfl,_⟩ | ⟨E,rfl,_,c6⟩⟩:=T
   .exact zOt.1 f
   .rw[<-zOm.1 hp,zOm.1 f,c6]at y;simp at y
 have a6: ∀(u:List AV) (I:Nd.Node),kJ H2 (.agg u) I->kJ H4 (.agg u) I:=fun u I t=>(t.prs L).stp s4 (nP u I (t.prs L))
 have N3:=L.next;have PN:=P.next
 refine⟨.slice H3.next 0 (p.length+1) 1,v,H4,vs++[l],p++[j],s, ?_,(P.trans L).fresh s4 bP, ?_, ?_,Par.snoc ⟨M,lc,a6 _ _ hG⟩ (a7.frame fun u m I t=>a6 _ _ t),(T.mono L (fun _ _ x=>x)).mono s4 c5,fun B f=> ?_,bS,fun u m B f=> ?_⟩
 .simp(maxSteps:=999999)(disch:=omega) only[f177,eZ,b1,e2,zJU,bF Q M,zO5 119 l M [.bool false, .nS, .nS, .nS] rfl,zY,yO,b3,e4]
 .have:=b0 [j] [] (.one i1);rwa[yC]at this
 .simpa using o4
 .rw[zOm.1 f];omega
 .rcases qB.1 m with m | m
  .exact b2 u m B f
  .simp only[yB]at m;subst m;exact bl B f
end Go.Eng.Sh
end
section
namespace Go.Eng
theorem Own.ne (e:Own k w h A p l)(a:h.h.get q=some R)(i: ∀l w g,R≠ .cells l w k g): ¬Blk A q:=fun f=>by
 obtain⟨_,⟨rfl,_⟩ | ⟨B,rfl,_,j⟩⟩:=e
 .exact zOt.1 f
 .rw[zOm.1 f]at a;rw[j]at a;exact i _ _ _ (y6 a).symm
theorem Own.get {k e n:Nat}{H:AH}{v:AV}{l:List AV}(h:Own k e H v n l){B:Nat}(a:Blk v B):H.h.get B=some (.cells l e k true):=by
 obtain⟨_,⟨rfl,_⟩ | ⟨C,rfl,_,f⟩⟩:=h
 .exact(zOt.1 a).elim
 .rw[zOm.1 a];exact f
def zOw:=@Own.get
end Go.Eng
namespace Go.Eng.Sh
open Go.Nd (Ptr sumL)
variable {X:Nat->Prop}
def v7 (a:Nat):List Nd.Node->PN
 | []=>[]
 | nd::nds=>(a+1,nd)::v7 (a+1) nds
def W5 (a:Nat):List (List AV)->List (AV×AV)
 | []=>[]
 | l::vs=>(.int .u64 (a+1:Nat), .agg l)::W5 (a+1) vs
def pps (a:Nat):Nat->List Ptr
 | 0=>[]
 | n+1=>pp (a+1)::pps (a+1) n
theorem V6 (x:Nd.Node): ∀(l:List Nd.Node) (f:Nat),v7 f (l++[x])=v7 f l++[(f+l.length+1,x)]
 | [],f=>rfl
 | a::l,f=>by
  simp only[qF,v7,V6 x l,zY];rw[show f+1+l.length+1=f+(l.length+1)+1 from by omega]
theorem V7 (x:List AV): ∀(l:List (List AV)) (f:Nat),W5 f (l++[x])=W5 f l++[(.int .u64 (f+l.length+1:Nat), .agg x)]
 | [],f=>rfl
 | a::l,f=>by
  simp only[qF,W5,V7 x l,zY];rw[show f+1+l.length+1=f+(l.length+1)+1 from by omega]
theorem zCv: ∀(n a:Nat),pps a (n+1)=pps a n++[pp (a+n+1)]
 | 0,a=>rfl
 | n+1,a=>by
  rw[pps,zCv n (a+1),pps,qF,show a+1+n+1=a+(n+1)+1 from by omega]
theorem fZ: ∀(n a:Nat),(pps a n).length=n
 | 0,_=>rfl
 | n+1,a=>by simp[pps,fZ n (a+1)]
theorem zAh: ∀ {vs:List (List AV)} {a:Nat} {kv:AV×AV},kv∈W5 a vs-> ∃l∈vs,kv.2= .agg l
 | [],_,_,h=>by simp[W5]at h
 | l::vs,a,kv,h=>by
  rcases zO.1 h with rfl | h
  .exact⟨l,zJ ..,rfl⟩
  .obtain⟨l',f,i⟩:=zAh h;exact⟨l',zE _ f,i⟩
theorem Ch.other {f:PN}(H0:Ch X h C k w p H f A v q F)(s:Stp I C P)(t: ¬I w)(u: ¬I p)(o: ∀B,Blk A B-> ¬I B)(x: ∀kv∈H,∀B,vU kv.2 B-> ¬I B)(y: ∀B,I B->h.next<=B):Ch X h P k w p H f A v q F:=
 ⟨H0.prs.fresh s y,by rw[s.keep _ H0.ltC t];exact H0.gC,by rw[s.keep _ H0.ltF u];exact H0.gF,H0.pf.frame fun kv H' z i=>i.stp s (x kv H'),H0.gg.mono s o,H0.gN,H0.gf,H0.dC,H0.dF,H0.ne,H0.fs,H0.le,H0.few,H0.fd,H0.fl,H0.gx,H0.xo⟩
theorem uB.mem {H:AH} : ∀ {es:List (AV×AV)} {q:PN},uB H es q-> ∀kv∈es,∃f,kJ H kv.2 f
 | [],[],_,_,a=>by simp at a
 | e::es,(t,f)::q,hq,kv,a=>by
  rcases zO.1 a with rfl | a
  .exact⟨f,hq.1.2⟩
  .exact uB.mem hq.2 kv a
 | [],_::_,h,_,_=>h.elim
 | _::_,[],h,_,_=>h.elim
theorem zJF {H:AH} : ∀ {vs:List (List AV)} {a:List Nd.Node} {i:Nat} (_:Par H vs a) (hi:i<a.length),∃l f,vs[i]? =some l/\a[i]? =some f/\l.length=4/\jS l=true/\kJ H (.agg l) f/\(vs.flatten.drop (i*4)).take 4=l/\vs.take (i+1)=vs.take i++[l]/\a.take (i+1)=a.take i++[f]
 | [],[],_,_,hi=>by simp at hi
 | l::vs,f::a,0,h,_=>⟨l,f,rfl,rfl,h.1.1,h.1.2.1,h.1.2.2,by simp[List.take_append_of_le_length,h.1.1,zZ],rfl,rfl⟩
 | k::vs,m::a,i+1,h,hi=>by
  obtain⟨l,f,j,o,p,q,s,h6,t,u⟩:=zJF h.2 (by simpa using hi);refine⟨l,f,j,o,p,q,s, ?_,by simp[t],by simp[u]⟩;rw[List.flatten_cons,List.drop_append,show(i+1)*4 - k.length=i*4 from by rw[h.1.1];omega,qS (by rw[h.1.1];omega),yA];exact h6
 | [],_::_,_,h,_=>h.elim
 | _::_,[],_,h,_=>h.elim
theorem zBi(hn:200000000<=n){f:PN}(H0:Ch X h C k w p H f A v q F)
  (hp:Own 4 119 C t M.length Q.flatten) (T:Par C Q M) (hg: ∀l∈Q,∀B,vU (.agg l) B-> ¬Blk A B/\ ¬X B) (hb:F+M.length<=900000000) (hm:M.length<=10000):
  ∃kv H',f179 D n [.ptr w 0,t] C=some (kv,H')/\Ch X h H' k w p (H++W5 F Q) (f++v7 F M) A v q (F+M.length)/\Adv w p C A H' A/\Own 3 42 H' kv M.length ((pps F M.length).flatMap jV)/\ ∀B,Blk kv B->C.next<=B:=by
 have Y:=T.len.1;have lp:=fC (b:=XJ D n) M.length (fun i U H'=> ∃kv,U=[.ptr w 0,kv,t, .int .i64 (M.length:Nat), .int .i64 (i:Nat)]/\Ch X h H' k w p (H++W5 F (Q.take i)) (f++v7 F (M.take i)) A v q (F+i)/\Adv w p C A H' A/\
   Own 3 42 H' kv i ((pps F i).flatMap jV)/\ ∀B,Blk kv B->C.next<=B) (fun i U H' hi ⟨kv,hus,z,S,V,o⟩=>by
  subst hus;obtain⟨l,nd,v1,v2,ll,lc,hG,a4,a5,a6⟩:=zJF T hi;have b9:i<Q.length:=by omega
  have a7:l∈Q:=List.mem_of_getElem? v1;have hA:=H0.next ⟨hG,hg l a7⟩ S
  have a8:Own 4 119 H' t M.length Q.flatten:=hp.mono S.1 (fun B o N=>by
   have u:=hp.get o;rcases N with rfl | rfl | e
   .rw[H0.gC]at u;simp at u
   .rw[H0.gF]at u;simp at u
   .rw[H0.gg.get e]at u;simp at u)
  obtain⟨y,i1,i2⟩:=Rw.ldN a8.row hi;rw[a4]at i2;obtain⟨H1,A7,b1,p1,g1,m1,n1⟩:=box z.prs.ok (.cells [.bool false, .nS, .nS, .nS] 119 1 false);obtain⟨H2,W,g2,s2,n2⟩:=kD p1.ok g1 (l':=l) ll lc;have a9:stN 4 (.ptr A7 0) (.agg l) H1=some (jT,H2):=W;have G:Prs H' H2:=p1.fresh s2 (fun B o=>by omega);have b0:=z.step G;obtain⟨H3,e3,Z,O⟩:=zHp D n b0 (hA.prs G) (by omega);obtain⟨J,A8,b4,K,g4,m4,n4⟩:=box Z.prs.ok (.cells (jV (pp (F+i+1))) 42 3 false);have a0:=Z.step K;have a2:srcOf 3 (.slice A8 0 1 2) J=some (1,jV (pp (F+i+1))):=by
   simp only[srcOf,g4];rfl
  have NH:=S.1.next;have N2:=G.next;have N3:=O.1.next;have N4:=K.next
  have a1: ∀B,Blk kv B-> ¬Blk A B:=fun B s u=>by have:=o B s;have:=zOx H0.gg.row u;omega
  have b2:Own 3 42 J kv i ((pps F i).flatMap jV):=((V.mono G (fun _ _ x=>x)).mono O.1 (fun B s N=>by
   rcases N with rfl | rfl | e
   .have:=o _ s;have:=H0.ltC;omega
   .have:=o _ s;have:=H0.ltF;omega
   .exact a1 B s e)).mono K (fun _ _ x=>x)
  obtain⟨H5,e5,o5,L,n5⟩:=bD (bytes:=24) a0.prs.ok (by decide) b2 a2 rfl rfl (by omega) (by omega) (by decide);have b3:=a0.other L (fun N=>by have:=o _ N;have:=H0.ltC;omega) (fun N=>by have:=o _ N;have:=H0.ltF;omega) (fun B u N=>a1 B N u) (fun e g B I N=>by
   have c0:B<C.next:=by
    rcases qB.1 g with g | g
    .rcases qB.1 g with g | g
     .obtain⟨b5,gl⟩:=H0.pf.mem e g;exact gl.lt I
     .obtain⟨l2,b6,W⟩:=zAh g;obtain⟨b5,gl⟩:=T.mem (List.mem_of_mem_take b6);rw[W]at I;exact gl.lt I
    .simp only[yB]at g;subst g;exact hG.lt I
   have:=o B N;omega) (fun B N=>by have:=o B N;have:=H0.prs.next;omega)
  have b7:Adv w p C A H5 A:=by
   have a3:Adv w p C A J A:=((S.trans H0.ltC H0.ltF (Adv.prs A G)).trans H0.ltC H0.ltF O).trans H0.ltC H0.ltF (Adv.prs A K);refine⟨⟨L.ok,by have:=L.next;omega,fun B s hS=> ?_⟩,fun B s=> .inl s⟩
   rw[L.keep B (by omega) (fun N=>by have:=o B N;omega)];exact a3.1.keep B s hS
  refine⟨_,H5, ?_, .slice J.next 0 (i+1) 1,rfl, ?_,b7, ?_,fun B s=>by rw[zOm.1 s];omega⟩
  .have b8:((i:Nat):Int)< (M.length:Int):=by omega
   have e1:=bldQ 42 (pp (F+i+1)) [.int .i64 (0:Nat), .int .i64 (0:Nat), .int .u64 (0:Nat)] rfl;simp(maxSteps:=999999)(disch:=omega) only[XJ,eZ,b8,i1,i2,b1,a9,bF g2 ll,e3,e1,b4,e5,yF]
  .rw[a5,a6,V7,V6,qC,qC,Nat.min_eq_left (by omega),Nat.min_eq_left (by omega),<-qH,<-qH];exact b3
  .rw[zCv];simpa using o5) n [.ptr w 0, .nS,t, .int .i64 (M.length:Nat), .int .i64 (0:Nat)] C ⟨.nS,rfl,by simpa[W5,v7]using H0,Adv.prs A (Prs.refl H0.prs.ok),zOv ..,fun B o=>(zOt.1 o).elim⟩ (by omega)
 obtain⟨m,U,H',e,kv,rfl,z,S,V,o⟩:=lp;rw[jE]at z;rw[<-Y,jE,Y]at z;refine⟨kv,H', ?_,z,S,V,o⟩;have F:kL (m+1) (XJ D n) [.ptr w 0,kv,t, .int .i64 (M.length:Nat), .int .i64 (M.length:Nat)] H'=some (.exit 0 [kv],H'):=jZ (by simp only[XJ,eZ,yS]);simp only[f179,eZ,hp.row.lnSl,e,F,zJS]
end Go.Eng.Sh
end
section
namespace Go.Bt
open Go.Nd (Str Kvs Ptr lookP putP delP Srt leafOf mayK rising sumL cutA aI d8 shaped)
open Go.Eng (ltS)
def vB {α:Type}(Q:Ptr->Option Nd.Node)(R:Nd.Node->α->List Ptr->Prop):List Ptr->List α->List Ptr->Prop
 | [],[],S=>S=[]
 | p::ps,t::ts,S=> ∃a f h,Q p=some a/\R a t f/\vB Q R ps ts h/\S=p::(f++h)
 | _,_,_=>False
def wE (Q:Ptr->Option Nd.Node):(h:Nat)->Nd.Node->Tr h->List Ptr->Prop
 | 0,nd,l,S=>nd=leafOf l/\S=[]
 | h+1,nd,t,S=>nd.leaf=false/\nd.keys=t.1/\nd.vals=[]/\vB Q (wE Q h) nd.kids t.2 S
theorem vB.len {α:Type}{Q:Ptr->Option Nd.Node}{R:Nd.Node->α->List Ptr->Prop} : ∀ {a:List Ptr} {ts:List α} {S:List Ptr},vB Q R a ts S->a.length=ts.length
 | [],[],_,_=>rfl
 | _::a,_::ts,_,⟨_,_,_,_,_,h,_⟩=>by simp[vB.len h]
 | [],_::_,_,h=>h.elim
 | _::_,[],_,h=>h.elim
theorem vB.app {α:Type}{Q:Ptr->Option Nd.Node}{R:Nd.Node->α->List Ptr->Prop}{j:List Ptr}{m:List α}{f:List Ptr}(o:vB Q R j m f): ∀ {i:List Ptr} {ts:List α} {S:List Ptr},vB Q R i ts S->vB Q R (i++j) (ts++m) (S++f)
 | [],[],_,h=>by subst h;exact o
 | p::i,t::ts,_,⟨nd,S1,S2,a,b,c,e⟩=>⟨nd,S1,S2++f,a,b,vB.app o c,by rw[e];simp⟩
 | [],_::_,_,h=>h.elim
 | _::_,[],_,h=>h.elim
theorem vB.split {α:Type}{Q:Ptr->Option Nd.Node}{R:Nd.Node->α->List Ptr->Prop} : ∀(k:Nat) {f:List Ptr} {ts:List α} {S:List Ptr},vB Q R f ts S-> ∃i j,vB Q R (f.take k) (ts.take k) i/\vB Q R (f.drop k) (ts.drop k) j/\S=i++j
 | 0,f,ts,S,h=>⟨[],S,by simp[vB],h,rfl⟩
 | k+1,[],[],_,h=>⟨[],[],by simp[vB],by simp[vB],by subst h;rfl⟩
 | k+1,p::f,t::ts,_,⟨nd,i,j,a,b,c,e⟩=>by
  obtain⟨m,o,q,s,rfl⟩:=vB.split k c;exact⟨p::(i++m),o,⟨nd,i,m,a,b,q,rfl⟩,s,by rw[e];simp⟩
 | _+1,[],_::_,_,h=>h.elim
 | _+1,_::_,[],_,h=>h.elim
theorem vB.at {α:Type}{Q:Ptr->Option Nd.Node}{R:Nd.Node->α->List Ptr->Prop}{i:Nat}{f:List Ptr}{ts:List α}{S:List Ptr}(h:vB Q R f ts S){t:α}(u:ts[i]? =some t):
  ∃p j m o q,f[i]? =some p/\Q p=some j/\R j t o/\vB Q R (f.take i) (ts.take i) m/\vB Q R (f.drop (i+1)) (ts.drop (i+1)) q/\S=m++(p::o++q):=by
 obtain⟨m,x,v,s,rfl⟩:=h.split i;obtain⟨hi,rfl⟩:=qP.1 u;have hl:=h.len;rw[qN hi,qN (show i<f.length by omega)]at s;obtain⟨j,o,q,a,b,c,rfl⟩:=s;exact⟨_,j,m,o,q,zK (by omega),a,b,v,c,by simp⟩
theorem vB.mono {α:Type}{Q m:Ptr->Option Nd.Node}{R o:Nd.Node->α->List Ptr->Prop} : ∀ {j:List Ptr} {ts:List α} {S:List Ptr},vB Q R j ts S->(∀p∈S,∀f,Q p=some f->m p=some f)->(∀f t i,(∀p∈i,p∈S)->R f t i->o f t i)->vB m o j ts S
 | [],[],_,h,_,_=>h
 | p::j,t::ts,_,⟨f,i,S2,a,b,c,e⟩,hq,hr=>by
  subst e;refine⟨f,i,S2,hq p (zJ ..) f a,hr f t i (fun p hp=>zE _ (qX _ hp)) b,vB.mono c (fun p hp=>hq p (zE _ (qY _ hp))) (fun f t i q=>hr f t i fun p hp=>zE _ (qY _ (q p hp))),rfl⟩
 | [],_::_,_,h,_,_=>h.elim
 | _::_,[],_,h,_,_=>h.elim
theorem wE.mono {Q f:Ptr->Option Nd.Node} : ∀ {h:Nat} {a:Nd.Node} {t:Tr h} {S:List Ptr},wE Q h a t S->(∀p∈S,∀a,Q p=some a->f p=some a)->wE f h a t S
 | 0,_,_,_,w,_=>w
 | h+1,_,_,_,w,hq=>⟨w.1,w.2.1,w.2.2.1,w.2.2.2.mono hq fun a t j i hr=>wE.mono hr fun p hp=>hq p (i p hp)⟩
theorem vB.kids {α:Type}{Q:Ptr->Option Nd.Node}{R:Nd.Node->α->List Ptr->Prop} : ∀ {a:List Ptr} {ts:List α} {S:List Ptr},vB Q R a ts S-> ∀p∈a,p∈S
 | [],[],_,_=>by simp
 | q::a,_::ts,_,⟨nd,S1,S2,_,_,c,e⟩=>fun p hp=>by
  subst e;rcases zO.1 hp with rfl | hp
  .exact zJ ..
  .exact zE _ (qY _ (vB.kids c p hp))
 | [],_::_,_,h=>h.elim
 | _::_,[],_,h=>h.elim
theorem wE.size {Q:Ptr->Option Nd.Node}{h:Nat}{a:Nd.Node}{t:Tr h}{S:List Ptr}(w:wE Q h a t S):Nd.size a=wB h t:=by
 cases h with
 | zero=>obtain⟨rfl,_⟩:=w;rfl
 | succ h=>
  obtain⟨_,f,i,j⟩:=w;simp only[Nd.size,wB,wS,f,i,j.len,sumL_nil];omega
theorem wE.leaf {Q:Ptr->Option Nd.Node}{h:Nat}{a:Nd.Node}{t:Tr h}{S:List Ptr}(w:wE Q h a t S):a.leaf=decide (h=0):=by
 cases h with
 | zero=>obtain⟨rfl,_⟩:=w;rfl
 | succ h=>rw[w.1];simp
theorem wE.shaped {Q:Ptr->Option Nd.Node}{h:Nat}{f:Nd.Node}{t:Tr h}{S:List Ptr}{lo hi:Bd}(w:wE Q h f t S)(g:Gen h lo hi t)(m:0<h->f.keys≠[])(a: ∀p∈S,Nd.kidOk p=true):shaped ltS f=true:=by
 cases h with
 | zero=>
  obtain⟨rfl,_⟩:=w;exact Nd.leaf_shaped g.1 fun p hp=>(g.2 p hp).2.2
 | succ h=>
  obtain⟨o,i,q,j⟩:=w;obtain⟨s,u,v⟩:=g;have hl:=v.len;simp only[Nd.shaped,o,zM,qE,zF,zQ,y8];refine⟨⟨fun k a=> ?_,by rw[i];exact u⟩,⟨⟨m (by omega),q⟩,by rw[j.len,hl,i]⟩,fun p hp=>a p (j.kids p hp)⟩;rw[i]at a;exact(s k a).1
def zDx (Q:Ptr->Option Nd.Node)(h:Nat):List Nd.Node->List (Tr h)->List Ptr->Prop
 | [],[],S=>S=[]
 | nd::nds,t::ts,S=> ∃a f,wE Q h nd t a/\zDx Q h nds ts f/\S=a++f
 | _,_,_=>False
theorem zDx.len {Q:Ptr->Option Nd.Node}{h:Nat} : ∀ {a:List Nd.Node} {ts:List (Tr h)} {S:List Ptr},zDx Q h a ts S->a.length=ts.length
 | [],[],_,_=>rfl
 | _::a,_::ts,_,⟨_,_,_,h,_⟩=>by simp[zDx.len h]
 | [],_::_,_,h=>h.elim
 | _::_,[],_,h=>h.elim
theorem zDW (l:Kvs)(k:Nat):Nd.size (cutA (leafOf l) k)=wQ (l.take k):=by
 simp[cutA,leafOf,wQ,Nd.size]
theorem zIv {l:Kvs}(a:Nd.cutOk (leafOf l) k)(hb:Go.Eng.Sh.hbnd (leafOf l) k):zMC 0 l (l.take k) ((leafOf l).keys.getD k []) (l.drop k)/\cutA (leafOf l) k=leafOf (l.take k)/\aI (leafOf l) k=leafOf (l.drop k):=by
 obtain⟨k1,k2⟩:=a;obtain⟨b1,b2⟩:=hb;have f:(leafOf l).keys=l.map Prod.fst:=rfl;simp only[show(leafOf l).leaf=true from rfl,if_true,f,jD]at k2 b2;rw[zDW]at b1 b2;refine⟨⟨k,⟨k1,k2,b1,b2⟩,rfl,rfl,rfl⟩, ?_, ?_⟩
 .simp[cutA,leafOf]
 .simp[aI,leafOf]
theorem wE.cut {t:Tr k}{lo hi:Bd}(S:wE s k i t v)(g:Gen k lo hi t)(y:Nd.cutOk i w)(hb:Go.Eng.Sh.hbnd i w):
  ∃q Q h m,zMC k t q (i.keys.getD w []) Q/\wE s k (cutA i w) q h/\wE s k (aI i w) Q m/\v=h++m:=by
 obtain⟨k1,k2⟩:=y;obtain⟨b1,b2⟩:=hb;have u:=S.size
 cases k with
 | zero=>
  obtain⟨rfl,rfl⟩:=S;obtain⟨c1,c2,c3⟩:=zIv ⟨k1,k2⟩ ⟨b1,b2⟩;exact⟨_,_,[],[],c1,⟨c2,rfl⟩,⟨c3,rfl⟩,rfl⟩
 | succ k=>
  obtain⟨o,f,F,a⟩:=S;obtain⟨h,m,z,C,rfl⟩:=a.split (w+1);have hl:=g.2.2.len;have x:=a.len;simp only[o,zM,qE,f]at k2 b2;have sz: ∀j,j<=t.1.length->Nd.size (cutA i j)=wS (t.1.take j) (j+1):=fun j G=>by
   simp only[cutA,o,zM,qE,Nd.size,wS,f,qC,sumL_nil];rw[x,hl,Nat.min_eq_left (by omega)];omega
  have p:min (k+1+1) 2=2:=by omega
  refine⟨(t.1.take w,t.2.take (w+1)),(t.1.drop (w+1),t.2.drop (w+1)),h,m,⟨w,⟨k1, ?_, ?_, ?_⟩,rfl,by rw[f],rfl⟩, ?_, ?_,rfl⟩
  .simp only[WB,p];exact k2
  .rcases b1 with b1 | b1
   .exact .inl b1
   .rw[sz w (by omega),u]at b1;exact .inr b1
  .rcases b2 with b2 | b2
   .exact .inl (by simp only[WB,p];exact b2)
   .rw[sz (w+1) (by omega),u]at b2;exact .inr b2
  .simp only[wE,cutA,o,zM,qE,f,true_and];exact z
  .simp only[wE,aI,o,zM,qE,f,true_and];exact C
theorem UM {f:List Str}(o:Go.Eng.Sh.CutsN i M f): ∀ {t:Tr k} {S:List Ptr} {lo hi:Bd},wE s k i t S->WX k lo hi t-> ∃ts,Cuts k t ts f/\zDx s k M ts S:=by
 induction o with
 | one hz=>
  intro t S lo hi w _;exact⟨[t], .one (by rw[<-w.size];exact hz),S,[],w,rfl,by simp⟩
 | @more i h ps f hz hk hb _ ih=>
  intro t S lo hi w m;have j:500<wB k t:=by rw[<-w.size];exact hz
  obtain⟨p,y,q,Q,c1,c2,c3,rfl⟩:=w.cut m.gen hk hb;obtain⟨_,u,_⟩:=zGQ m j c1;obtain⟨ts,v,x⟩:=ih c3 u;exact⟨p::ts, .more j c1 v,q,Q,c2,x,rfl⟩
theorem zDx.kids {Q:Ptr->Option Nd.Node}{h:Nat} : ∀ {f:List Nd.Node} {ts:List (Tr h)} {S:List Ptr} (a:Nat),zDx Q h f ts S->(∀i nd,f[i]? =some nd->Q (Go.Eng.Sh.pp (a+1+i))=some nd)->
  ∃j,vB Q (wE Q h) (Go.Eng.Sh.pps a f.length) ts j/\j.Perm (Go.Eng.Sh.pps a f.length++S)
 | [],[],S,a,h,_=>⟨[],rfl,by subst h;exact List.Perm.refl _⟩
 | nd::f,t::ts,_,a,⟨S1,S2,w,hp,e⟩,hq=>by
  subst e;obtain⟨j,r,m⟩:=zDx.kids (a+1) hp fun i n hi=>by
   have:=hq (i+1) n (by simpa using hi);rwa[show a+1+(i+1)=a+1+1+i from by omega]at this
  refine⟨Go.Eng.Sh.pp (a+1)::(S1++j),⟨nd,S1,j,hq 0 nd rfl,w,r,rfl⟩, ?_⟩;simp only[zY,Go.Eng.Sh.pps,qF];refine List.Perm.cons _ ?_;have:(S1++j).Perm (S1++(Go.Eng.Sh.pps (a+1) f.length++S2)):=List.Perm.append_left _ m;refine this.trans ?_;rw[<-qH,<-qH];exact List.Perm.append_right _ List.perm_append_comm
 | [],_::_,_,_,h,_=>h.elim
 | _::_,[],_,_,h,_=>h.elim
theorem wE.join {f h:Tr k}(o:wE s k i f v)(p:wE s k G h L)(Q:Str):wE s k (d8 i Q G) (ZH k f Q h) (v++L):=by
 cases k with
 | zero=>
  obtain⟨rfl,rfl⟩:=o;obtain⟨rfl,rfl⟩:=p;have key: ∀i G:Kvs,d8 (leafOf i) Q (leafOf G)=leafOf (i++G):=fun i G=>by simp[d8,leafOf]
  exact⟨key f h,rfl⟩
 | succ k=>
  obtain⟨q,t,x,u⟩:=o;obtain⟨b1,b2,y,a⟩:=p;simp only[wE,d8,q,zM,qE,ZH,t,b2,true_and];exact vB.app a u
theorem zCI {j m:Tr k}{lo hi:Bd}{Q:Str}(f:wE s k i j v)(h:wE s k G m L)(o:Gen k lo (some Q) j)(q:Gen k (some Q) hi m)(z:mayK Q=true)(x:0<k->i.keys≠[])(nb:0<k->G.keys≠[])
  (C: ∀p∈v,Nd.kidOk p=true) (F: ∀p∈L,Nd.kidOk p=true):Go.Eng.Sh.joinOk i Q G=true:=by
 have a:=f.shaped o x C;have I:=h.shaped q nb F;simp only[Go.Eng.Sh.joinOk,a,I,Bool.true_and,Nd.partedN,z,f.leaf,h.leaf,beq_self_eq_true];have gl: ∀(l:List Str),l.length≠0->l.getD (l.length - 1) []∈l:=fun l hl=>by
  rw[qG,zK (by omega)];exact yI _
 have y: ∀(l:List Str),l.length≠0->l.getD 0 []∈l:=fun l hl=>by
  rw[qG,zK (by omega)];exact yI _
 cases k with
 | zero=>
  obtain⟨rfl,_⟩:=f;obtain⟨rfl,_⟩:=h;simp only[zF,yZ,zQ];refine⟨?_, ?_⟩
  .by_cases e:(leafOf (j:Kvs)).keys.length=0
   .exact .inl e
   .refine .inr ?_;have:=gl _ e;obtain⟨p,hp,t⟩:=qK.1 this;rw[<-t];exact(o.2 p hp).2.1
  .by_cases e:(leafOf (m:Kvs)).keys.length=0
   .exact .inl (.inl e)
   .have:=y _ e;obtain⟨p,hp,t⟩:=qK.1 this;rw[<-t];rcases(q.2 p hp).1 with e | e
    .exact .inr ⟨trivial,e⟩
    .exact .inl (.inr e)
 | succ k=>
  simp only[zF,yZ,zQ];refine⟨.inr ?_, .inl (.inr ?_)⟩
  .have hm:=gl i.keys (fun e=>x (by omega) (zR e));rw[f.2.1]at hm⊢;exact(o.1 _ hm).2.2
  .have hm:=y G.keys (fun e=>nb (by omega) (zR e));rw[h.2.1]at hm⊢;exact(q.1 _ hm).2.1
end Go.Bt
end
section
namespace Go.Eng
theorem zJh {lo hi f:Option Nat}(h:YJ k w p q F W lo hi f=some A): ∀B,Blk A B->B=k:=by
 intro B a;unfold YJ at h;simp only[kG]at h;split at h
 .split at h
  .rw[zG]at h;split at h
   .simp only[zC]at h;subst h;exact zOm.1 a
   .cases h
  .cases h
 .rw[zG]at h;split at h
  .rw[zG]at h;split at h
   .simp only[zC]at h;subst h;exact zOm.1 a
   .rw[zG]at h;split at h
    .simp only[zC]at h;subst h;exact zOm.1 a
    .rw[zG]at h;split at h
     .simp only[zC]at h;subst h;exact zOm.1 a
     .simp only[zC]at h;subst h;obtain⟨_,_,_,a⟩:=a;cases a
  .cases h
theorem YN {lo hi f:Option AV}(sz:vD k A lo hi f h=some t): ∀B,Blk t B->Blk A B:=by
 intro B a;unfold vD at sz;split at sz
 .split at sz
  .rw[zG]at sz;split at sz
   .simp only[zC]at sz;subst sz;exact a
   .cases sz
  .split at sz
   .rw[zG]at sz;split at sz
    .rw[zJh sz B a];exact⟨_,_,_,rfl⟩
    .cases sz
   .cases sz
  .split at sz
   .rw[zG]at sz;split at sz
    .simp only[zC]at sz;subst sz;obtain⟨_,_,_,a⟩:=a;cases a
    .cases sz
   .cases sz
  .cases sz
 .cases sz
end Go.Eng
namespace Go.Eng.Sh
open Go.Nd (Ptr sumL)
variable {X:Nat->Prop}
theorem hi3 (H:wF 3 42 h A v.length (v.flatMap jV)){i:Nat}(hi:i<=v.length):
  ∃r,vD 3 A none (some (.int .i64 (i:Nat))) (some (.int .i64 (i:Nat))) h=some r/\bI h r (v.take i):=by
 obtain⟨r,f,w,_⟩:=VM H (by decide) hi .i64 .i64;rw[K6]at w;have a:(v.take i).length=i:=by rw[qC];omega
 exact⟨r,f,by rw[bI,a];exact w⟩
theorem lo3 (H:wF 3 42 h A v.length (v.flatMap jV)){i:Nat}(hi:i<=v.length)(m:0<v.length):
  ∃r,vD 3 A (some (.int .i64 (i:Nat))) none none h=some r/\bI h r (v.drop i):=by
 by_cases j:i<v.length
 .obtain⟨r,a,w,_⟩:=QA H (by decide) j .i64;rw[K7]at w;have f:(v.drop i).length=v.length - i:=by rw[qI]
  exact⟨r,a,by rw[bI,f];exact w⟩
 .obtain rfl:i=v.length:=by omega
  obtain⟨r,a,w⟩:=YM H (by decide) m .i64;exact⟨r,a,by rw[List.drop_length];exact w⟩
theorem conP3{cc:Nat}{m H:List Ptr}(i:h.ok)(j:h.h.get k=some (.cells [A,t,J] 50 1 false))(q:bI h A L)(s:bI h t m)(x:bI h J H)(hb:L.length+m.length+H.length<=1000000000)(C:100<=n):
  ∃w H',f178 D n [.slice k 0 3 cc] h=some (w,H')/\Prs h H'/\Own 3 42 H' w (L++(m++H)).length ((L++(m++H)).flatMap jV)/\ ∀B,Blk w B->h.next<=B:=by
 obtain⟨w,H',e,p,o,f⟩:=zH5 D n i (v:= .slice k 0 3 cc) (vs:=[A,t,J]) (rs:=[(L.length,L.flatMap jV),(m.length,m.flatMap jV),(H.length,H.flatMap jV)]) (Rw.lit i j) ⟨⟨q,uT _⟩,⟨s,uT _⟩,⟨x,uT _⟩,trivial⟩ (by simp[gG];omega) (by simp) (by simp;omega)
  (fun B a=>by rw[zOm.1 a];exact i.lt j) (fun J u B a=>by
   simp only[zO,List.not_mem_nil,or_false]at u;rcases u with rfl | rfl | rfl
   .exact zOx q a
   .exact zOx s a
   .exact zOx x a)
 exact⟨w,H',e,p,by simpa[gG,zEb]using o,f⟩
theorem zL0(hn:200000000<=n){i m:Nat}{f:PN}{a2 A7:Nat}{U:Nd.Node}
  (H0:Ch X h C k w p H f A v a2 A7) (M:C.h.get q=some (.cells l 119 1 false)) (g7:C.h.get F=some (.cells V 119 1 false)) (N:C.h.get W=some (.cells [.bool false, .nS, .nS, .nS] 119 1 false))
  (f5:h.next<=q) (f7:h.next<=F) (f8:h.next<=W) (f9:q≠W) (c5:q≠w) (b0:W≠w)
  (hv:xO X C A (.agg l) G) (a5:xO X C A (.agg V) U) (c6:Nd.shaped ltS U=true) (hz:Nd.size U<=10000) (hs:small G) (g0:G.kids.length=G.keys.length+1) (c7:G.keys≠[]) (g1:i+m<G.kids.length)
  (c0: ∀o t,CutsN U o t->o.length<=1000/\t.length<=1000) (hb:A7<=800000000):
  ∃u H' o t vs,zAH D n [.ptr w 0, .ptr q 0, .ptr F 0, .ptr W 0, .int .i64 (i:Nat), .int .i64 (i+m+1:Nat)] C=some (.ret (.tuple [u, .int .i64 (0:Nat)]),H')/\CutsN U o t/\
   Ch X h H' k w p (H++W5 A7 vs) (f++v7 A7 o) A v a2 (A7+o.length)/\Stp (fun B=>chg w p A B\/B=W) C H'/\
   xO X H' A u ⟨false,G.keys.take i++(t++G.keys.drop (i+m)),[],G.kids.take i++(pps A7 o.length++G.kids.drop (i+m+1))⟩/\ ∀B,vU u B->C.next<=B:=by
 obtain⟨ks,a6,g,b1,k1,k2,k3⟩:=id hv.1;simp only[AV.agg.injEq]at b1;subst b1;have c8:V.length=4:=by obtain⟨_,_,_,e,_⟩:=a5.1;simp only[AV.agg.injEq]at e;rw[e];rfl
 have b9:0<G.keys.length:=by
  rcases Nat.eq_zero_or_pos G.keys.length with e | e
  .exact absurd (zR e) c7
  .exact e
 obtain⟨s1,s2,s3⟩:=hs;have f2:=Nd.sumL_ge G.keys;obtain⟨pv,sv,H1,vs,o,t,e1,I,a9,oP,c3,oS,bP,bS,c9⟩:=zAT D n hn H0.prs.ok a5.1 c6 hz;obtain⟨c1,c2⟩:=c0 o t a9;have h1:=H0.step I;have G5 {J:AH} (s:Prs C J):=zOs s H0.prs.ok M;have q1 {J:AH} (s:Prs C J):wF 1 9 J ks G.keys.length (G.keys.map S):=k1.mono s (fun _ _ x=>x);have q3 {J:AH} (s:Prs C J):wF 3 42 J g G.kids.length (G.kids.flatMap jV):=k3.mono s (fun _ _ x=>x);obtain⟨r1,d0,x1⟩:=hi1 (q1 I) (i:=i) (by omega);obtain⟨r2,d1,x2⟩:=lo1 (q1 I) (i:=i+m) (by omega) b9;obtain⟨H2,A2,b2,At,g2,m2,n2⟩:=box I.ok (.cells [r1,sv,r2] 117 1 false);have O:=I.trans At;obtain⟨r3,b3,x3⟩:=hi3 (q3 O) (i:=i) (by omega);obtain⟨r4,b4,x4⟩:=lo3 (q3 O) (i:=i+m+1) (by omega) (by omega);have d2:Strs H2 sv t:=(oS.mono At (fun _ _ x=>x)).row;obtain⟨z,H3,e3,Q,o3,Y⟩:=zNW D n (cc:=6) At.ok g2 (x1.prs At) d2 (x2.prs At) (by simp only[qC,qI];omega) (by omega);have K:=O.trans Q;have h3:=H0.step K;have N1:=I.next;have N2:=At.next;have N3:=Q.next
 obtain⟨kv,Z,e4,h4,gl,o4,f4⟩:=zBi D n hn h3 (oP.mono (At.trans Q) (fun _ _ x=>x)) (c3.frame fun a3 hl G hg=>hg.prs (At.trans Q)) (fun a3 hl B j=>by
  rcases c9 a3 hl B j with e | e
  .exact a5.2 B e
  .exact⟨fun a7=>by have:=zOx H0.gg.row a7;omega,fun hx=>by have:=H0.xo B hx;have:=H0.prs.next;omega⟩) (by omega) (by omega)
 have a0:xO X H3 A (.agg [.bool G.leaf,ks,a6,g]) G:=hv.prs K;have d3:=h3.next a0 gl
 obtain⟨g3,vs',g4,ee,j1,j2,j3⟩:=id d3.1;simp only[AV.agg.injEq,qU,and_true,true_and]at ee;obtain⟨rfl,rfl,rfl⟩:=ee;have b6: ∀B,Blk g B-> ¬chg w p A B:=fun B j L=>by
  have a8:vU (.agg [.bool G.leaf,ks,a6,g]) B:=wU.2 (.inr (.inr j));rcases L with rfl | rfl | e
  .exact a0.1.nblk h3.gC (.inl ⟨_,_,_,_,rfl,fun _ _ e=>by cases e⟩) a8
  .exact a0.1.nblk h3.gF (.inr (.inl ⟨_,_,rfl⟩)) a8
  .exact(a0.2 B a8).1 e
 have y3:bI Z r3 (G.kids.take i):=Rw.stp (x3.prs Q) gl.1 (fun B j=>b6 B (YN b3 B j));have y4:bI Z r4 (G.kids.drop (i+m+1)):=Rw.stp (x4.prs Q) gl.1 (fun B j=>b6 B (YN b4 B j));obtain⟨H5,A9,b5,y,d4,m5,n5⟩:=box h4.prs.ok (.cells [r3,kv,r4] 50 1 false);have d5:bI H5 kv (pps A7 o.length):=by
  have:=(o4.mono y (fun _ _ x=>x)).row;rw[bI,fZ];exact this
 obtain⟨w6,H6,e6,p6,o6,f6⟩:=conP3 D n (cc:=6) y.ok d4 (y3.prs y) d5 (y4.prs y) (by rw[fZ];simp only[qC,qI];omega) (by omega);have T:Prs Z H6:=y.trans p6;have h6:=h4.step T;have N4:=gl.1.next;have N6:=T.next;have N0:=H0.prs.next
 have g6:W<C.next:=H0.prs.ok.lt N
 have g9:q<C.next:=H0.prs.ok.lt M
 have n8: ¬chg w p A W:=fun L=>by
  rcases L with e | e | e
  .exact b0 e
  .rw[e,H0.gF]at N;cases N
  .rw[H0.gg.get e]at N;simp at N
 have d6: ¬chg w p A q:=fun L=>by
  rcases L with e | e | e
  .exact c5 e
  .rw[e,H0.gF]at M;cases M
  .rw[H0.gg.get e]at M;simp at M
 have b7:H6.h.get W=some (.cells [.bool false, .nS, .nS, .nS] 119 1 false):=by
  rw[T.keep _ (by omega) (fun x=>x),gl.1.keep _ (by omega) n8];exact zOs K H0.prs.ok N
 have d7:Z.h.get q=some (.cells [.bool G.leaf,ks,a6,g] 119 1 false):=by rw[gl.1.keep _ (by omega) d6];exact G5 K
 have b8:Own 1 9 H6 z (G.keys.take i++(t++G.keys.drop (i+m))).length ((G.keys.take i++(t++G.keys.drop (i+m))).map S):=(o3.mono gl.1 (fun B j L=>by
  have:=Y B j;rcases L with e | e | e
  .have:=H0.ltC;omega
  .have:=H0.ltF;omega
  .have:=zOx H0.gg.row e;omega)).mono T (fun _ _ x=>x)
 obtain⟨H7,e7,d8,s7,n7⟩:=kD h6.prs.ok b7 (l':=[.bool false,z, .nS,w6]) rfl (by simp only[jS,b8.row.isCell,o6.row.isCell];rfl);have d9:stN 4 (.ptr W 0) (.agg [.bool false,z, .nS,w6]) H6=some (jT,H7):=e7;have e0: ∀B,Blk A B-> ¬B=W:=fun B j e=>n8 (.inr (.inr (e▸j)))
 have h7:Ch X h H7 k w p (H++W5 A7 vs) (f++v7 A7 o) A v a2 (A7+o.length):=h6.other s7 (fun e=>b0 e.symm) (fun e=>n8 (.inr (.inl e.symm))) e0 (fun e2 e5 B j e=>by
  subst e;obtain⟨h0,e8⟩:=h6.pf.mem e2 e5;exact e8.nblk b7 (.inl ⟨_,_,_,_,rfl,fun _ _ e=>by cases e⟩) j) (fun B j=>by omega)
 have e9:vD 1 ks (some (.int .i64 (i+m:Nat))) none none H1=some r2:=d1;have c4:((i+m+1:Nat):Int) - ((1:Nat):Int)=((i+m:Nat):Int):=by omega
 refine⟨.agg [.bool false,z, .nS,w6],H7,o,t,vs, ?_,a9,h7, ?_,⟨⟨z, .nS,w6,rfl, .inl (b8.mono s7 (fun B j e=>by have:=Y B j;omega)), .inl (zOv ..), .inl (o6.mono s7 (fun B j e=>by have:=f6 B j;have:=y.next;omega))⟩,fun B j=>⟨fun a7=> ?_,fun hx=> ?_⟩⟩,fun B j=> ?_⟩
 .have f1: ¬(((0:Nat):Int)≠((0:Nat):Int)):=by omega
  simp(config:= { maxSteps:=2000000}) (disch:=omega) only[zAH,eZ,bF g7 c8,e1,jR,nth,f1,jP (G5 I),d0,c4,e9,row3 117 .nS x1.isCell oS.row.isCell x2.isCell,b2,jP (G5 O),b3,b4,e3,kY (jP (G5 K) 3) (kK k3.row),u5 (q3 O) (q3 K) (by decide),kY rfl (kK x3),kY rfl (kK x4),e4,kY (jP d7 3) (kK k3.row),u5 (q3 O) j3 (by decide),
   row3 50 .nS x3.isCell o4.row.isCell x4.isCell,b5,e6,zM6 o3.row.isCell o6.row.isCell,d9,bF d8 rfl]
 .have a1:Stp (fun B=>chg w p A B\/B=W) C Z:=(K.mono (fun _ _ x=>x.elim)).trans (gl.1.mono (fun _ _ x=> .inl x));exact(a1.trans (T.mono (fun _ _ x=>x.elim))).trans (s7.mono (fun _ _ x=> .inr x))
 .have:=zOx H0.gg.row a7;rcases wU.1 j with e | e | e
  .have:=Y B e;omega
  .exact(zOt.1 e).elim
  .have:=f6 B e;have:=y.next;omega
 .have:=H0.xo B hx;have:=H0.prs.next
  rcases wU.1 j with e | e | e
  .have:=Y B e;omega
  .exact(zOt.1 e).elim
  .have:=f6 B e;have:=y.next;omega
 .rcases wU.1 j with e | e | e
  .have:=Y B e;omega
  .exact(zOt.1 e).elim
  .have:=f6 B e;have:=y.next;omega
open Go.Nd (d8)
open Go.Bt
variable {E:Ev}
theorem Y3 (h:pp k=pp w):k=w:=by simp only[pp,Ptr.mk.injEq]at h;omega
theorem zIz (s:Nat):Nd.kidOk (pp s)=true:=by simp[Nd.kidOk,pp]
theorem QI: ∀ {j:List Nd.Node} {f i:Nat} {m:Nd.Node},j[i]? =some m->jX (f+1+i) (v7 f j)=some m
 | [],_,_,_,h=>by simp at h
 | a::j,f,0,m,h=>by simp at h;subst h;simp[v7,jX]
 | a::j,f,i+1,m,h=>by
  simp only[yV]at h;rw[v7,jX,if_neg (by omega),show f+1+(i+1)=f+1+1+i from by omega];exact QI h
theorem W3: ∀ {i:List Nd.Node} {f s:Nat} {j:Nd.Node},jX s (v7 f i)=some j->f<s/\s<=f+i.length
 | [],_,_,_,h=>by simp[v7,jX]at h
 | a::i,f,s,j,h=>by
  rw[v7,jX]at h;split at h
  .simp only[zY];omega
  .have:=W3 h;simp only[zY];omega
theorem UX {q f new:PN}(o: ∀s i,jX s q=some i->s<=k)(t: ∀s i,jX s new=some i->k<s)(h:Qf E q f B=some i):Qf E q (f++new) B=some i:=by
 obtain⟨s,rfl,m | ⟨m,j⟩⟩ | ⟨m,j⟩:=vV h
 .rw[UW,xZ,m]
 .rw[UW,xZ,m];simp only
  cases u:jX s new with
  | none=>exact j
  | some n2=>have:=o _ _ j;have:=t _ _ u;omega
 .rw[Y0 m];exact j
theorem bX (h:E.K B=some i):Nd.kidOk B=true/\2<=B.at_:=by
 obtain⟨a,birth,kind,body,rfl,p,j,⟨m,_⟩,o,_⟩:=zOo.1 h;simp only[Nd.kidOk,zF,zQ];simp only[bT];omega
theorem zDy {q f:PN}(h:Qf E q f B=some i):Nd.kidOk B=true:=by
 obtain⟨s,rfl,_⟩ | ⟨_,p⟩:=vV h
 .exact zIz s
 .exact(bX p).1
theorem zMk {q f:PN}(h:Qf E q f B=some i):1<=B.at_:=by
 have:=zDy h;simp only[Nd.kidOk,zF,zQ]at this;omega
theorem vB.kidOk {α:Type}{q f:PN}{R:Nd.Node->α->List Ptr->Prop}(hr: ∀j t S,R j t S-> ∀p∈S,Nd.kidOk p=true): ∀ {m:List Ptr} {ts:List α} {S:List Ptr},vB (Qf E q f) R m ts S-> ∀p∈S,Nd.kidOk p=true
 | [],[],_,h=>by subst h;simp
 | p::m,t::ts,_,⟨j,S1,S2,a,b,c,e⟩=>fun x i=>by
  subst e;rcases zO.1 i with rfl | i
  .exact zDy a
  .rcases qB.1 i with i | i
   .exact hr _ _ _ b x i
   .exact vB.kidOk hr c x i
 | [],_::_,_,h=>h.elim
 | _::_,[],_,h=>h.elim
theorem wE.kidOk {q f:PN} : ∀ {h:Nat} {a:Nd.Node} {t:Bt.Tr h} {S:List Ptr},wE (Qf E q f) h a t S-> ∀p∈S,Nd.kidOk p=true
 | 0,_,_,_,w=>by obtain⟨_,rfl⟩:=w;simp
 | h+1,_,_,_,w=>vB.kidOk (fun _ _ _ hr=>wE.kidOk hr) w.2.2.2
theorem zA5(hn:200000000<=n){H0 H:AH}{At J F N W K i m h:Nat}{q:PN}{b1:List (AV×AV)}{f:PN}{g:AV}{gl:List Ptr}{U v:Nat}{ln lk:List AV}{o O:Nd.Node}{t:Bt.Tr (h+1)}{x:Bt.Tr h}{Y Z Sx:List Ptr}{lo hi:Bd}
  (ch:Ch X H0 H At J F b1 f g gl U v) (g5:H.h.get N=some (.cells ln 119 1 false)) (g7:H.h.get W=some (.cells lk 119 1 false)) (g8:H.h.get K=some (.cells [.bool false, .nS, .nS, .nS] 119 1 false))
  (b2:H0.next<=N) (b3:H0.next<=W) (b4:H0.next<=K) (b5:N≠K) (b6:N≠J) (b7:K≠J)
  (hv:xO X H g (.agg ln) o) (b8:xO X H g (.agg lk) O) (hq: ∀s o,jX s q=some o->s<=U)
  (n1:o.leaf=false) (Q:o.keys=t.1) (n3:o.vals=[]) (n4:o.kids.length=t.2.length) (wi:Inn (WF h) lo hi t) (b9:t.1≠[]) (hz:wS t.1 t.2.length<=500) (a6:i+m<t.2.length)
  (ra:vB (Qf E q f) (wE (Qf E q f) h) (o.kids.take i) (t.2.take i) Y) (rb:vB (Qf E q f) (wE (Qf E q f) h) (o.kids.drop (i+m+1)) (t.2.drop (i+m+1)) Z)
  (T:wE (Qf E q f) h O x Sx) (wx:WX h (Q1 lo t.1 i) (fU t.1 hi (i+m)) x) (fx:Full h x) (c0:0<h->O.keys≠[]) (hb:v<=800000000):
  ∃u H' a9 f' V I L G,zAH D n [.ptr J 0, .ptr N 0, .ptr W 0, .ptr K 0, .int .i64 (i:Nat), .int .i64 (i+m+1:Nat)] H=some (.ret (.tuple [u, .int .i64 (0:Nat)]),H')/\
   Ch X H0 H' At J F a9 f' g gl U V/\Stp (fun B=>chg J F g B\/B=K) H H'/\xO X H' g u I/\(∀B,vU u B->H.next<=B)/\wE (Qf E q f') (h+1) I L G/\Inn (WF h) lo hi L/\
   con (h+1) L=(t.2.take i).flatMap (con h)++con h x++(t.2.drop (i+m+1)).flatMap (con h)/\wS L.1 L.2.length<=wS t.1 t.2.length+285/\t.1.length<=L.1.length+m/\v<=V/\V<=v+6/\
   G.Perm (pps v (V - v)++(Y++Z++Sx))/\ ∀p o,Qf E q f p=some o->Qf E q f' p=some o:=by
 have hl:=wi.2.2.len;have c3:small o:=by
  have:Nd.size o<=10000:=by
   simp only[Nd.size,Q,n3,n4,Bt.sumL_nil];simp only[wS]at hz;omega
  exact xQ this
 have c4:=T.shaped wx.gen c0 (wE.kidOk T);have c5:Nd.size O<=10000:=by rw[T.size];have:=wx.sz;omega
 have a4: ∀y z,CutsN O y z->y.length<=6/\z.length<=6:=fun y z hc=>by
  obtain⟨ts,c1,c2⟩:=UM hc T wx;obtain⟨d1,_,d3,_⟩:=UK c1 wx (.inl fx);have l1:=c2.len;have l2:=d1.2.2.len;simp only at l2;omega
 obtain⟨u,H',y,z,vs,e1,a5,c6,st,hu,c7⟩:=zL0 D n hn (i:=i) (m:=m) ch g5 g7 g8 b2 b3 b4 b5 b6 b7 hv b8 c4 c5 c3 (by rw[n4,hl,Q]) (by rw[Q];exact b9) (by rw[n4];exact a6) (fun y z hc=>by have:=a4 y z hc;omega) hb;obtain⟨ts,c1,c2⟩:=UM a5 T wx;obtain⟨p1,p2,p3,p4⟩:=zIg (ks:=t.1) (ts:=t.2) wi a6 wx fx c1;have b0: ∀s I,jX s (v7 v y)=some I->U<s:=fun s I hs=>by have:=W3 hs;have:=ch.le;omega
 have more: ∀p o,Qf E q f p=some o->Qf E q (f++v7 v y) p=some o:=fun p o hp=>UX hq b0 hp
 have a0: ∀ {ps:List Ptr} {ts:List (Bt.Tr h)} {S:List Ptr},vB (Qf E q f) (wE (Qf E q f) h) ps ts S->vB (Qf E q (f++v7 v y)) (wE (Qf E q (f++v7 v y)) h) ps ts S:=fun r=>r.mono (fun p _ o hp=>more p o hp) (fun o t S1 _ hr=>hr.mono fun p _ o hp=>more p o hp)
 have c8:zDx (Qf E q (f++v7 v y)) h y ts Sx:=by
  have mono: ∀ {M:List Nd.Node} {C:List (Bt.Tr h)} {G:List Ptr},zDx (Qf E q f) h M C G->zDx (Qf E q (f++v7 v y)) h M C G:=by
   intro M
   induction M with
   | nil=>intro C G hp;cases C with
    | nil=>exact hp
    | cons=>exact hp.elim
   | cons a M ih=>intro C G hp;cases C with
    | nil=>exact hp.elim
    | cons b C=>
     obtain⟨S1,S2,a1,a2,a3⟩:=hp;exact⟨S1,S2,a1.mono fun p _ o hp=>more p o hp,ih a2,a3⟩
  exact mono c2
 have a8: ∀j,jX (v+1+j) f=none:=fun j=>by
  cases hk:jX (v+1+j) f with
  | none=>rfl
  | some Q=>have:=ch.fs _ _ hk;omega
 obtain⟨S2,r2,a7⟩:=c8.kids v (fun j I hj=>by rw[UW,xZ,a8];simp only[QI hj]);have rl:=vB.app (vB.app (a0 rb) r2) (a0 ra);have c9:=a4 y z a5;refine⟨u,H',_,_,v+y.length,_,(t.1.take i++z++t.1.drop (i+m),t.2.take i++ts++t.2.drop (i+m+1)),Y++(S2++Z),e1,c6,st,hu,c7,⟨rfl,by simp[Q],rfl, ?_⟩,p1,p2,p3,p4,by omega,by omega, ?_,more⟩
 .simp only[qH];exact rl
 .rw[show v+y.length - v=y.length by omega];rw[List.perm_iff_count]at a7⊢;intro a;have:=a7 a;simp only[List.count_append]at this⊢;omega
end Go.Eng.Sh
end



