/- A checked evaluator for the program, and what it tells, part 5: no condition. -/
import Derived.Test.YtnnimbgajljgaaaGreatOQ4
set_option linter.all false
set_option linter.unusedVariables false
set_option linter.unusedSimpArgs false
set_option maxHeartbeats 8000000
set_option maxRecDepth 20000
section
namespace Go.Eng.Sh
open Go.Nd (Ptr yH cutOk)
def vH (nd:Nd.Node):Prop:=2<=nd.keys.length/\(nd.leaf=true\/3<=nd.keys.length)
def hbnd (nd:Nd.Node)(k:Nat):Prop:=
 (k=1\/Nd.size (Nd.cutA nd k)<=(Nd.size nd - 2) / 2+2)/\(k+(if nd.leaf then 1 else 2)=nd.keys.length\/(Nd.size nd - 2) / 2+2<Nd.size (Nd.cutA nd (k+1)))
theorem Q1 (l:List Str){i:Nat}(h:i<l.length):yH (l.take (i+1))=yH (l.take i)+(1+(l[i]).length):=by
 rw[zJ h,Nd.sumL_append,Nd.sumL_cons];rfl
theorem size_leaf {nd:Nd.Node}(hl:nd.leaf=true)(hv:nd.vals.length=nd.keys.length){i:Nat}(h:i<nd.keys.length):Nd.size (Nd.cutA nd (i+1))=Nd.size (Nd.cutA nd i)+(1+(nd.keys[i]).length)+(1+(nd.vals[i]'(by omega)).length):=by
 simp only[Nd.cutA,hl,if_true,Nd.size,Q1 nd.keys h,Q1 nd.vals (i:=i) (by omega)];omega
theorem size_inner {nd:Nd.Node}(hl:nd.leaf=false)(hv:nd.kids.length=nd.keys.length+1){i:Nat}(h:i<nd.keys.length):Nd.size (Nd.cutA nd (i+1))=Nd.size (Nd.cutA nd i)+(1+(nd.keys[i]).length)+16:=by
 simp only[Nd.cutA,hl,Bool.false_eq_true,if_false,Nd.size,Q1 nd.keys h,zG];omega
theorem KX (nd:Nd.Node):2<=Nd.size nd:=by simp only[Nd.size];omega
theorem zBw (D:Dyn)(n:Nat){H:AH}{ks vs ps:AV}{nd:Nd.Node}(h1:Strs H ks nd.keys)(h2:Strs H vs nd.vals)(hv:nd.leaf=true->nd.vals.length=nd.keys.length)(hp:nd.leaf=false->nd.kids.length=nd.keys.length+1){A:Nat}{e:TypeId}(hA:H.h.get A=some (.cells [.bool nd.leaf,ks,vs,ps] e 1 false))
  (most:Nat) (L:Nat) (hL:L<=nd.keys.length) (hb:nd.keys.length<=1000000000) (hz:Nd.size nd<=1000000000) (n':Nat) (hn:L<n'):
  Fin (qT n' (Y5 D n) [.ptr A 0, .int .i64 (most:Nat), .int .i64 (L:Nat), .int .i64 ((Nd.size (Nd.cutA nd 0) - 2:Nat):Int), .int .i64 (L:Nat), .int .i64 (0:Nat)] H) fun x H'=>H'=H/\((∃j:Nat,0<j/\j<L/\x= .ret (.int .i64 (j:Nat))/\(j=1\/Nd.size (Nd.cutA nd j)<=most+2)/\most+2<Nd.size (Nd.cutA nd (j+1)))\/(x= .exit 0 [.int .i64 (L:Nat)]/\(L<=1\/Nd.size (Nd.cutA nd L)<=most+2))):=by
 refine Fin.loop (fun k us H'=>H'=H/\ ∃(i:Nat),us=[.ptr A 0, .int .i64 (most:Nat), .int .i64 (L:Nat), .int .i64 ((Nd.size (Nd.cutA nd i) - 2:Nat):Int), .int .i64 (L:Nat), .int .i64 (i:Nat)]/\i<=L/\k=L - i/\(i<=1\/Nd.size (Nd.cutA nd i)<=most+2)) ?_ n' L _ H ⟨rfl,0,rfl,by omega,by omega, .inl (by omega)⟩ hn
 rintro k us H' ⟨rfl,i,rfl,hi,rfl,hpre⟩
 by_cases hlt:i<L
 ·have hik:i<nd.keys.length:=by omega
  obtain⟨p,p1,p2⟩:=h1.at hik;have hiI:((i:Nat):Int)< ((L:Nat):Int):=by omega
  have z2:=KX (Nd.cutA nd i);have z2':=KX (Nd.cutA nd (i+1));have tail:Fin (aY D n [.ptr A 0, .int .i64 (most:Nat), .int .i64 (L:Nat), .int .i64 ((Nd.size (Nd.cutA nd (i+1)) - 2:Nat):Int), .int .i64 (i:Nat), .int .i64 (L:Nat), .int .i64 (i:Nat)] H')
    (orN (fun us' H''=> ∃k',k'<L - i/\H''=H'/\ ∃(i:Nat),us'=[.ptr A 0, .int .i64 (most:Nat), .int .i64 (L:Nat), .int .i64 ((Nd.size (Nd.cutA nd i) - 2:Nat):Int), .int .i64 (L:Nat), .int .i64 (i:Nat)]/\i<=L/\k'=L - i/\(i<=1\/Nd.size (Nd.cutA nd i)<=most+2))
     (fun x H''=>H''=H'/\((∃j:Nat,0<j/\j<L/\x= .ret (.int .i64 (j:Nat))/\(j=1\/Nd.size (Nd.cutA nd j)<=most+2)/\most+2<Nd.size (Nd.cutA nd (j+1)))\/(x= .exit 0 [.int .i64 (L:Nat)]/\(L<=1\/Nd.size (Nd.cutA nd L)<=most+2))))):=by
   by_cases hc:0<i/\most<Nd.size (Nd.cutA nd (i+1)) - 2
   ·have c1:((0:Nat):Int)< (i:Int):=by omega
    have c2:((most:Nat):Int)< ((Nd.size (Nd.cutA nd (i+1)) - 2:Nat):Int):=by omega
    have:aY D n [.ptr A 0, .int .i64 (most:Nat), .int .i64 (L:Nat), .int .i64 ((Nd.size (Nd.cutA nd (i+1)) - 2:Nat):Int), .int .i64 (i:Nat), .int .i64 (L:Nat), .int .i64 (i:Nat)] H'=some (.ret (.int .i64 (i:Nat)),H'):=by
     simp(disch:=omega) only[aY,eZ,c1,c2]
    rw[this];exact⟨_,_,rfl,rfl, .inl ⟨i,hc.1,hlt,rfl,by omega,by omega⟩⟩
   ·have hcb:(decide (((0:Nat):Int)< (i:Int))&&decide (((most:Nat):Int)< ((Nd.size (Nd.cutA nd (i+1)) - 2:Nat):Int)))=false:=by
     rw[Bool.eq_false_iff];intro hh;simp only[z8,zE]at hh;exact hc ⟨by omega,by omega⟩
    have:aY D n [.ptr A 0, .int .i64 (most:Nat), .int .i64 (L:Nat), .int .i64 ((Nd.size (Nd.cutA nd (i+1)) - 2:Nat):Int), .int .i64 (i:Nat), .int .i64 (L:Nat), .int .i64 (i:Nat)] H'=some (.norm [.ptr A 0, .int .i64 (most:Nat), .int .i64 (L:Nat), .int .i64 ((Nd.size (Nd.cutA nd (i+1)) - 2:Nat):Int), .int .i64 (L:Nat), .int .i64 ((i+1:Nat):Int)],H'):=by
     simp(disch:=omega) only[aY,eZ,hcb,Int.natCast_add]
    rw[this];exact⟨_,_,rfl,L - (i+1),by omega,rfl,i+1,rfl,by omega,rfl,by omega⟩
  have hsz:Nd.size (Nd.cutA nd i)<=1000000002:=by
   have t1:=Nd.sumL_take_le nd.keys i;have t2:=Nd.sumL_take_le nd.vals i;have:Nd.size nd=2+16*nd.kids.length+yH nd.keys+yH nd.vals:=rfl;have z0:yH []=0:=rfl;simp only[Nd.cutA];split<;>simp only[Nd.size,zV,zG,z0]<;>omega
  have hkl:(nd.keys[i]).length<=1000000000:=by
   have:=Nd.sumL_drop_le nd.keys i;rw[zN hik,Nd.sumL_cons]at this;have:Nd.size nd=2+16*nd.kids.length+yH nd.keys+yH nd.vals:=rfl;omega
  cases hl:nd.leaf with
  | true=>
   rw[hl]at hA;obtain⟨q,q1,q2⟩:=h2.at (i:=i) (by rw[hv hl];exact hik);have hs:=size_leaf hl (hv hl) hik;have hvl:(nd.vals[i]'(by rw[hv hl];exact hik)).length<=1000000000:=by
    have:=Nd.sumL_drop_le nd.vals i;rw[zN (by rw[hv hl];exact hik),Nd.sumL_cons]at this;have:Nd.size nd=2+16*nd.kids.length+yH nd.keys+yH nd.vals:=rfl;omega
   have hz:((Nd.size (Nd.cutA nd (i+1)) - 2:Nat):Int)=((Nd.size (Nd.cutA nd i) - 2:Nat):Int)+(((1:Nat):Int)+(((nd.keys[i]).length:Nat):Int))+(((1:Nat):Int)+(((nd.vals[i]'(by rw[hv hl];exact hik)).length:Nat):Int)):=by omega
   have:Y5 D n [.ptr A 0, .int .i64 (most:Nat), .int .i64 (L:Nat), .int .i64 ((Nd.size (Nd.cutA nd i) - 2:Nat):Int), .int .i64 (L:Nat), .int .i64 (i:Nat)] H'=jn (some (.norm [.ptr A 0, .int .i64 (most:Nat), .int .i64 (L:Nat), .int .i64 ((Nd.size (Nd.cutA nd (i+1)) - 2:Nat):Int), .int .i64 (i:Nat), .int .i64 (L:Nat), .int .i64 (i:Nat)],H')) (aY D n):=by
    rw[hz];simp(disch:=omega) only[Y5,eZ,hiI,qM hA,p1,p2,q1,q2]
   rw[this,WP];exact tail
  | false=>
   rw[hl]at hA;have hs:=size_inner hl (hp hl) hik;have hz:((Nd.size (Nd.cutA nd (i+1)) - 2:Nat):Int)=((Nd.size (Nd.cutA nd i) - 2:Nat):Int)+(((1:Nat):Int)+(((nd.keys[i]).length:Nat):Int))+((16:Nat):Int):=by omega
   have:Y5 D n [.ptr A 0, .int .i64 (most:Nat), .int .i64 (L:Nat), .int .i64 ((Nd.size (Nd.cutA nd i) - 2:Nat):Int), .int .i64 (L:Nat), .int .i64 (i:Nat)] H'=jn (some (.norm [.ptr A 0, .int .i64 (most:Nat), .int .i64 (L:Nat), .int .i64 ((Nd.size (Nd.cutA nd (i+1)) - 2:Nat):Int), .int .i64 (i:Nat), .int .i64 (L:Nat), .int .i64 (i:Nat)],H')) (aY D n):=by
    rw[hz];simp(disch:=omega) only[Y5,eZ,hiI,qM hA,p1,p2]
   rw[this,WP];exact tail
 ·have hiI: ¬((i:Nat):Int)< ((L:Nat):Int):=by omega
  have hiL:i=L:=by omega
  subst hiL;refine⟨.exit 0 [.int .i64 (i:Nat)],H', ?_,rfl, .inr ⟨rfl,hpre⟩⟩;simp only[Y5,eZ,hiI]
theorem zEY (D:Dyn)(n:Nat)(hn:200000000<=n){H:AH}(hk:H.ok){v:AV}{nd:Nd.Node}(h:cK H v nd)(hs:small nd)(hsh:Nd.shaped ltS nd=true)(hc:vH nd):
  ∃(k:Nat) (H':AH),f127 D n [v] H=some (.int .i64 (k:Nat),H')/\Prs H H'/\cutOk nd k/\hbnd nd k:=by
 have h0:=h;obtain⟨ks,vs,ps,rfl,h1,h2,h3⟩:=h;have hkl:=Nd.sumL_ge nd.keys;obtain⟨s1,s2,s3⟩:=id hs;obtain⟨c1,c2⟩:=hc;have hv:nd.leaf=true->nd.vals.length=nd.keys.length:=by
  intro hl;simp only[Nd.shaped,hl,if_true,z8,zE]at hsh;exact hsh.2.1.1
 have hp:nd.leaf=false->nd.kids.length=nd.keys.length+1:=by
  intro hl;simp only[Nd.shaped,hl,Bool.false_eq_true,if_false,z8,zE]at hsh;exact hsh.2.1.2
 have p1:Prs H (H.push (.cells [.bool nd.leaf,ks,vs,ps] 111 1 false)):=(Stp.refl hk).push _;have g1:(H.push (.cells [.bool nd.leaf,ks,vs,ps] 111 1 false)).h.get H.next=some (.cells [.bool nd.leaf,ks,vs,ps] 111 1 false):=AH.push_get_eq _ _
 generalize hH1:H.push (.cells [.bool nd.leaf,ks,vs,ps] 111 1 false)=H1 at p1 g1;obtain⟨z,H2,e2,rfl,p2⟩:=zA1 D n p1.ok (h0.prs p1) hs hn;have g2:=p2.get p1.ok g1;have P:Prs H H2:=p1.trans p2;have hq:=zC8 .i64 (((Nd.size nd:Nat):Int) - ((2:Nat):Int)) ((2:Nat):Int) (by omega);have hsz:Nd.size nd<=1000000000:=by simp only[Nd.size];omega
 have hz2:=KX nd;have hmost:IntKind.wrap .i64 ((((Nd.size nd:Nat):Int) - ((2:Nat):Int)).tdiv ((2:Nat):Int))=(((Nd.size nd - 2) / 2:Nat):Int):=by
  rw[show((Nd.size nd:Nat):Int) - ((2:Nat):Int)=((Nd.size nd - 2:Nat):Int)by omega,Int.tdiv_eq_ediv_of_nonneg (by omega)];rw[wrap_i64 (by omega) (by omega)];omega
 rw[hmost]at hq
 cases hl:nd.leaf with
 | true=>
  obtain⟨x,H3,e3,rfl,hx⟩:=zBw D n (h1.prs P) (h2.prs P) hv hp g2 ((Nd.size nd - 2) / 2) (nd.keys.length - 1) (by omega) (by omega) hsz n (by omega);have hL:((nd.keys.length:Nat):Int) - ((1:Nat):Int)=((nd.keys.length - 1:Nat):Int):=by omega
  rw[hl]at g2 hH1 e2;rw[show Nd.size (Nd.cutA nd 0) - 2=0 by simp[Nd.cutA,hl,Nd.size,yH]]at e3;rcases hx with⟨j,j1,j2,rfl,j3,j4⟩ | ⟨rfl,j3⟩
  ·refine⟨j,H3, ?_,P,⟨j1,by rw[hl];simp only[if_true];omega⟩,j3, .inr j4⟩;simp(disch:=omega) only[f127,eZ,uG hk,hH1,cT,Option.map_some,hl,e2,hq,qM g2,h1.lnSl,hL,UQ,e3]
  ·refine⟨nd.keys.length - 1,H3, ?_,P,⟨by omega,by rw[hl];simp only[if_true];omega⟩,by omega, .inl (by rw[hl];simp only[if_true];omega)⟩;simp(disch:=omega) only[f127,eZ,uG hk,hH1,cT,Option.map_some,hl,e2,hq,qM g2,h1.lnSl,hL,UQ,e3,zFJ]
 | false=>
  have c3:3<=nd.keys.length:=by rcases c2 with h | h;rw[hl]at h;cases h;exact h
  obtain⟨x,H3,e3,rfl,hx⟩:=zBw D n (h1.prs P) (h2.prs P) hv hp g2 ((Nd.size nd - 2) / 2) (nd.keys.length - 2) (by omega) (by omega) hsz n (by omega);have hL:((nd.keys.length:Nat):Int) - ((1:Nat):Int) - ((1:Nat):Int)=((nd.keys.length - 2:Nat):Int):=by omega
  rw[hl]at g2 hH1 e2;rw[show Nd.size (Nd.cutA nd 0) - 2=16 by have hpl:=hp hl;simp only[Nd.cutA,hl,Bool.false_eq_true,if_false,Nd.size,List.take_zero,zG,Nat.zero_add,show yH []=0 from rfl];omega]at e3;rcases hx with⟨j,j1,j2,rfl,j3,j4⟩ | ⟨rfl,j3⟩
  ·refine⟨j,H3, ?_,P,⟨j1,by rw[hl];simp only[Bool.false_eq_true,if_false];omega⟩,j3, .inr j4⟩;simp(disch:=omega) only[f127,eZ,uG hk,hH1,cT,Option.map_some,hl,e2,hq,qM g2,h1.lnSl,hL,UQ,e3]
  ·refine⟨nd.keys.length - 2,H3, ?_,P,⟨by omega,by rw[hl];simp only[Bool.false_eq_true,if_false];omega⟩,by omega, .inl (by rw[hl];simp only[Bool.false_eq_true,if_false];omega)⟩;simp(disch:=omega) only[f127,eZ,uG hk,hH1,cT,Option.map_some,hl,e2,hq,qM g2,h1.lnSl,hL,UQ,e3,zFJ]
open Go.Nd (cutA fQ)
theorem slSl_same {k e n:Nat}{H H':AH}{v:AV}{l l':List AV}(h:yN k e H v n l)(h':yN k e H' v n l')(hpos:0<k)(lo hi mx:Option AV):j0 k v lo hi mx H'=j0 k v lo hi mx H:=by
 have room1: ∀l:List AV,l.length=n*k->yK l true k 0 1 k=n:=fun l h0=>by
  simp only[yK,show((1 % 2).beq 0)=false from rfl,cond_false,Nat.beq_refl,show Nat.beq 0 (1 / 2*k)=true from by simp,Bool.and_self,cond_true,y9,h0,Nat.sub_zero];exact Nat.mul_div_cancel _ hpos
 have room2: ∀(l:List AV) (g:Bool),yK l g k 0 (2*n) k=n:=fun l g=>by
  simp only[yK,show((2*n) % 2).beq 0=true by rw[Nat.mul_mod_right];rfl,cond_true,Nat.mul_div_cancel_left n (show 0<2 by omega)]
 rcases h with⟨h0,⟨rfl,_⟩ | ⟨A,rfl,hA,hg⟩⟩ | ⟨h0,A,e',g,rfl,hA,hg⟩
 ·rfl
 ·rcases h' with⟨h0',⟨hv,_⟩ | ⟨A',hv,hA',hg'⟩⟩ | ⟨h0',A',e'',g',hv,hA',hg'⟩
  ·cases hv
  ·simp only[AV.slice.injEq]at hv;obtain⟨rfl,_⟩:=hv;simp only[j0,hg,hg',room1 l h0,room1 l' h0']
  ·simp only[AV.slice.injEq]at hv;omega
 ·rcases h' with⟨h0',⟨hv,_⟩ | ⟨A',hv,hA',hg'⟩⟩ | ⟨h0',A',e'',g',hv,hA',hg'⟩
  ·cases hv
  ·simp only[AV.slice.injEq]at hv;omega
  ·simp only[AV.slice.injEq]at hv;obtain⟨rfl,_⟩:=hv;simp only[j0,hg,hg',room2]
theorem Q6 {H:AH}(hk:H.ok){A o:Nat}{l:List AV}{e:TypeId}{x:AV}(h:H.h.get A=some (.cells l e 1 false))(hx:isCell x=true)(ho:o<l.length):
  ∃H',stN 1 (.ptr A o) x H=some (qN,H')/\H'.h.get A=some (.cells (l.set o x) e 1 false)/\Stp (fun B=>B=A) H H'/\H'.next=H.next:=
 ⟨_,Q7 h (by decide) hx ho,by rw[AH.put_get,if_pos rfl],(Stp.refl hk).put (hk.lt h) _ (.inr rfl),rfl⟩
theorem map_take (l:List Str)(k:Nat):(l.map S).take (k*1)=(l.take k).map S:=by simp
theorem map_drop (l:List Str)(k:Nat):(l.map S).drop (k*1)=(l.drop k).map S:=by simp
theorem Y0: ∀(l:List Ptr) (k:Nat),(l.flatMap y5).take (k*3)=(l.take k).flatMap y5
 | _,0=>by simp
 | [],k+1=>by simp
 | p::l,k+1=>by
  have ih:=Y0 l k;rw[show(k+1)*3=k*3+3 from by omega];show((y5 p)++l.flatMap y5).take (k*3+3)=y5 p++(l.take k).flatMap y5;rw[<-ih];rfl
theorem Y1: ∀(l:List Ptr) (k:Nat),(l.flatMap y5).drop (k*3)=(l.drop k).flatMap y5
 | _,0=>by simp
 | [],k+1=>by simp
 | p::l,k+1=>by
  have ih:=Y1 l k;rw[show(k+1)*3=k*3+3 from by omega];show((y5 p)++l.flatMap y5).drop (k*3+3)=(l.drop k).flatMap y5;rw[<-ih];rfl
structure CutI (H0:AH)(A1 A2 A4:Nat)(H:AH)(l1 l2 l4:List AV):Prop where
 prs:Prs H0 H
 a1:H.h.get A1=some (.cells l1 111 1 false)
 a2:H.h.get A2=some (.cells l2 111 1 false)
 a4:H.h.get A4=some (.cells l4 111 1 false)
 o1:H0.next<=A1
 o2:A1<A2
 o4:A2<A4
theorem CutI.lt {H0 H:AH}{A1 A2 A4:Nat}{l1 l2 l4:List AV}(h:CutI H0 A1 A2 A4 H l1 l2 l4):A4<H.next:=h.prs.ok.lt h.a4
theorem CutI.step {H0 H H':AH}{A1 A2 A4:Nat}{l1 l2 l4:List AV}(h:CutI H0 A1 A2 A4 H l1 l2 l4)(s:Prs H H'):CutI H0 A1 A2 A4 H' l1 l2 l4:=
 ⟨h.prs.trans s,s.get h.prs.ok h.a1,s.get h.prs.ok h.a2,s.get h.prs.ok h.a4,h.o1,h.o2,h.o4⟩
theorem CutI.st2 {H0 H:AH}{A1 A2 A4:Nat}{l1 l2 l4:List AV}(h:CutI H0 A1 A2 A4 H l1 l2 l4){o:Nat}{x:AV}(hx:isCell x=true)(ho:o<l2.length):
  ∃H',stN 1 (.ptr A2 o) x H=some (qN,H')/\CutI H0 A1 A2 A4 H' l1 (l2.set o x) l4/\Stp (fun B=>B=A2) H H':=by
 obtain⟨H',e,g,s,n⟩:=Q6 h.prs.ok h.a2 hx ho;have:=h.o1;have:=h.o2;have:=h.o4;have l4:=h.lt;exact⟨H',e,⟨h.prs.fresh s (fun B hB=>by omega),by rw[s.keep _ (by omega) (by omega)];exact h.a1,g,by rw[s.keep _ l4 (by omega)];exact h.a4,h.o1,h.o2,h.o4⟩,s⟩
theorem CutI.st4 {H0 H:AH}{A1 A2 A4:Nat}{l1 l2 l4:List AV}(h:CutI H0 A1 A2 A4 H l1 l2 l4){o:Nat}{x:AV}(hx:isCell x=true)(ho:o<l4.length):
  ∃H',stN 1 (.ptr A4 o) x H=some (qN,H')/\CutI H0 A1 A2 A4 H' l1 l2 (l4.set o x)/\Stp (fun B=>B=A4) H H':=by
 obtain⟨H',e,g,s,n⟩:=Q6 h.prs.ok h.a4 hx ho;have:=h.o1;have:=h.o2;have:=h.o4;have l4:=h.lt;exact⟨H',e,⟨h.prs.fresh s (fun B hB=>by omega),by rw[s.keep _ (by omega) (by omega)];exact h.a1,by rw[s.keep _ (by omega) (by omega)];exact h.a2,g,h.o1,h.o2,h.o4⟩,s⟩
theorem CutI.all2 {H0 H:AH}{A1 A2 A4:Nat}{l1 l2 l4 l':List AV}(h:CutI H0 A1 A2 A4 H l1 l2 l4)(hl:l'.length=l2.length)(hc:qP l'=true):
  ∃H',stN l2.length (.ptr A2 0) (.agg l') H=some (qN,H')/\CutI H0 A1 A2 A4 H' l1 l' l4/\Stp (fun B=>B=A2) H H':=by
 obtain⟨H',e,g,s,n⟩:=qX h.prs.ok h.a2 hl hc;have:=h.o1;have:=h.o2;have:=h.o4;have l4:=h.lt;exact⟨H',e,⟨h.prs.fresh s (fun B hB=>by omega),by rw[s.keep _ (by omega) (by omega)];exact h.a1,g,by rw[s.keep _ l4 (by omega)];exact h.a4,h.o1,h.o2,h.o4⟩,s⟩
theorem CutI.all4 {H0 H:AH}{A1 A2 A4:Nat}{l1 l2 l4 l':List AV}(h:CutI H0 A1 A2 A4 H l1 l2 l4)(hl:l'.length=l4.length)(hc:qP l'=true):
  ∃H',stN l4.length (.ptr A4 0) (.agg l') H=some (qN,H')/\CutI H0 A1 A2 A4 H' l1 l2 l'/\Stp (fun B=>B=A4) H H':=by
 obtain⟨H',e,g,s,n⟩:=qX h.prs.ok h.a4 hl hc;have:=h.o1;have:=h.o2;have:=h.o4;have l4:=h.lt;exact⟨H',e,⟨h.prs.fresh s (fun B hB=>by omega),by rw[s.keep _ (by omega) (by omega)];exact h.a1,by rw[s.keep _ (by omega) (by omega)];exact h.a2,g,h.o1,h.o2,h.o4⟩,s⟩
def xZ (u:AV)(B:Nat):Prop:= ∃x ks vs ps,u= .agg [x,ks,vs,ps]/\(Blk ks B\/Blk vs B\/Blk ps B)
theorem kD {x ks vs ps:AV}{B:Nat} :xZ (.agg [x,ks,vs,ps]) B↔(Blk ks B\/Blk vs B\/Blk ps B):=
 ⟨fun⟨_,_,_,_,e,h⟩=>by simp only[AV.agg.injEq,List.cons.injEq,and_true]at e;obtain⟨rfl,rfl,rfl,rfl⟩:=e;exact h,fun h=>⟨_,_,_,_,rfl,h⟩⟩
def wD (N:Nat)(H:AH)(v:AV)(nd:Nd.Node):Prop:=yC H v nd/\ ∀B,xZ v B->N<=B
structure FrG (A k e:Nat)(H:AH)(v:AV)(n:Nat)(l:List AV):Prop where
 g:yN k e H v n l
 f: ∀B,Blk v B->A<B
theorem FrG.prs {A k e n:Nat}{H H':AH}{v:AV}{l:List AV}(h:FrG A k e H v n l)(s:Prs H H'):FrG A k e H' v n l:=⟨h.g.mono s (fun _ _ x=>x),h.f⟩
theorem FrG.stp {A A' k e n:Nat}{H H':AH}{v:AV}{l:List AV}(h:FrG A k e H v n l)(s:Stp (fun B=>B=A') H H')(hA:A'<=A):FrG A k e H' v n l:=
 ⟨h.g.mono s (fun B hB e=>by have:=h.f B hB;omega),h.f⟩
theorem zO1 (l:Str):aveq (S l) (S l)=true:=by simp[S,aveq]
theorem FrG.nil (A k e:Nat)(H:AH):FrG A k e H .nilSlice 0 []:=⟨.inl ⟨by simp, .inl ⟨rfl,rfl⟩⟩,fun B hB=>(Blk.nil.1 hB).elim⟩
theorem FrG.isCell {A k e n:Nat}{H:AH}{v:AV}{l:List AV}(h:FrG A k e H v n l):isCell v=true:=h.g.isCell
theorem FrG.aveq {A k e n:Nat}{H:AH}{v:AV}{l:List AV}(h:FrG A k e H v n l):aveq v v=true:=yJ h.g.row
structure FrN (A:Nat)(H:AH)(a b c:AV)(nd:Nd.Node):Prop where
 k:FrG A 1 9 H a nd.keys.length (nd.keys.map S)
 v:FrG A 1 9 H b nd.vals.length (nd.vals.map S)
 p:FrG A 3 65 H c nd.kids.length (nd.kids.flatMap y5)
theorem FrN.stp {A A':Nat}{H H':AH}{a b c:AV}{nd:Nd.Node}(h:FrN A H a b c nd)(s:Stp (fun B=>B=A') H H')(hA:A'<=A):FrN A H' a b c nd:=⟨h.k.stp s hA,h.v.stp s hA,h.p.stp s hA⟩
theorem FrN.fresh {A N:Nat}{H:AH}{x a b c:AV}{nd:Nd.Node}(h:FrN A H a b c nd)(hN:N<=A): ∀B,xZ (.agg [x,a,b,c]) B->N<=B:=fun B hB=>by
 rcases kD.1 hB with k | k | k
 ·have:=h.k.f B k;omega
 ·have:=h.v.f B k;omega
 ·have:=h.p.f B k;omega
theorem zGe (D:Dyn)(n:Nat){H0 H:AH}{A1 A2 A4 k:Nat}{b:Bool}{ks vs ps k2 v2 p2 k4 v4 p4:AV}{keys:List Str}{na nb:Nd.Node}
  (h:CutI H0 A1 A2 A4 H [.bool b,ks,vs,ps] [.bool b,k2,v2,p2] [.bool b,k4,v4,p4]) (hks:Strs H ks keys) (hR: ∀B,Blk ks B->B<H0.next) (hk:k<keys.length) (ha:FrN A4 H k2 v2 p2 na) (hb:FrN A4 H k4 v4 p4 nb):
  ∃H',zFP D n [.ptr A1 0, .ptr A2 0, .ptr A4 0, .int .i64 (k:Nat)] H=some (.ret (.tuple [.agg [.bool b,k2,v2,p2],S (keys.getD k []), .agg [.bool b,k4,v4,p4], .int .i64 ((0:Nat):Int)]),H')/\Prs H0 H'/\FrN A4 H' k2 v2 p2 na/\FrN A4 H' k4 v4 p4 nb:=by
 have o1:=h.o1;have o2:=h.o2;have o4:=h.o4;obtain⟨q,q1,q2⟩:=hks.at hk;obtain⟨H1,e1,h1,s1⟩:=h.all2 (l':=[.bool b,k2,v2,p2]) rfl (cI _ _ _ _ ha.k.isCell ha.v.isCell ha.p.isCell);have hks1:Strs H1 ks keys:=Rw.stp hks s1 (fun B hB e=>by have:=hR B hB;omega);obtain⟨q',q1',q2'⟩:=hks1.at hk;obtain rfl:q=q':=by have:=q1 .i64 k rfl;rw[q1' .i64 k rfl]at this;cases this;rfl
 obtain⟨H2,e2,h2,s2⟩:=h1.all4 (l':=[.bool b,k4,v4,p4]) rfl (cI _ _ _ _ hb.k.isCell hb.v.isCell hb.p.isCell);have e1':stN 4 (.ptr A2 0) (.agg [.bool b,k2,v2,p2]) H=some (qN,H1):=e1;have e2':stN 4 (.ptr A4 0) (.agg [.bool b,k4,v4,p4]) H1=some (qN,H2):=e2;have hagg:aveq (.agg [.bool b,k4,v4,p4]) (.agg [.bool b,k4,v4,p4])=true:=by simp[Eng.aveq,aR,hb.k.aveq,hb.v.aveq,hb.p.aveq]
 have hg:keys.getD k []=keys[k]:=by rw[zM,zC hk];rfl
 have l4:ldN 4 (.ptr A4 0) H1=some (.agg [.bool b,k4,v4,p4]):=by rw[qR h1.a4];rfl
 refine⟨H2, ?_,h2.prs,(ha.stp s1 (by omega)).stp s2 (by omega),(hb.stp s1 (by omega)).stp s2 (by omega)⟩;rw[hg];simp(disch:=omega) only[zFP,eZ,qR h.a2,qR h.a4,qM h.a1,q1,q2,e1',e2',j9 (qM h1.a1 1) (yJ hks),j9 q2' (zO1 _),j9 l4 hagg,qR h2.a2,qR h2.a4,cT,Option.map_some]
theorem zEV (D:Dyn)(n:Nat){H:AH}(hk:H.ok){v:AV}{l:List Str}(h:yN 1 9 H v l.length (l.map S))(hl:l.length<=1000000000){i:Nat}(h0:0<i)(hi:i<=l.length)(A:Nat)(hA:A<H.next):
  ∃r v' H',j0 1 v none (some (.int .i64 (i:Nat))) (some (.int .i64 (i:Nat))) H=some r/\f79 D n [r] H=some (v',H')/\Prs H H'/\FrG A 1 9 H' v' (l.take i).length ((l.take i).map S):=by
 obtain⟨r,e1,w,hz⟩:=KU h (by decide) hi .i64 .i64;rw[map_take]at w;have hlen:(l.take i).length=i:=by rw[zG];omega
 have w':Strs H r (l.take i):=by rw[Strs,hlen];exact w
 obtain⟨v',H',e2,p,g,f⟩:=dV D n hk w' (hz h0).1 (hz h0).2 (by omega);exact⟨r,v',H',e1,e2,p,g,fun B hB=>by have:=f B hB;omega⟩
theorem zEG (D:Dyn)(n:Nat){H:AH}(hk:H.ok){v:AV}{l:List Str}(h:yN 1 9 H v l.length (l.map S))(hl:l.length<=1000000000){i:Nat}(hi:i<l.length)(A:Nat)(hA:A<H.next):
  ∃r v' H',aveq r r=true/\j0 1 v (some (.int .i64 (i:Nat))) none none H=some r/\f79 D n [r] H=some (v',H')/\Prs H H'/\FrG A 1 9 H' v' (l.drop i).length ((l.drop i).map S):=by
 obtain⟨r,e1,w,z1,z2⟩:=slSl_lo h (by decide) hi .i64;rw[map_drop]at w;have hlen:(l.drop i).length=l.length - i:=by rw[zO]
 have w':Strs H r (l.drop i):=by rw[Strs,hlen];exact w
 obtain⟨v',H',e2,p,g,f⟩:=dV D n hk w' z1 z2 (by omega);exact⟨r,v',H',yJ w,e1,e2,p,g,fun B hB=>by have:=f B hB;omega⟩
theorem zN0 (D:Dyn)(n:Nat){H:AH}(hk:H.ok){v:AV}{l:List Ptr}(h:yN 3 65 H v l.length (l.flatMap y5))(hl:l.length<=1000000000){i:Nat}(h0:0<i)(hi:i<=l.length)(A:Nat)(hA:A<H.next):
  ∃r v' H',j0 3 v none (some (.int .i64 (i:Nat))) (some (.int .i64 (i:Nat))) H=some r/\f118 D n [r] H=some (v',H')/\Prs H H'/\FrG A 3 65 H' v' (l.take i).length ((l.take i).flatMap y5):=by
 obtain⟨r,e1,w,hz⟩:=KU h (by decide) hi .i64 .i64;rw[Y0]at w;have hlen:(l.take i).length=i:=by rw[zG];omega
 have w':uO H r (l.take i):=by rw[uO,hlen];exact w
 obtain⟨v',H',e2,p,g,f⟩:=YB D n hk w' (hz h0).1 (hz h0).2 (by omega);exact⟨r,v',H',e1,e2,p,g,fun B hB=>by have:=f B hB;omega⟩
theorem zMH (D:Dyn)(n:Nat){H:AH}(hk:H.ok){v:AV}{l:List Ptr}(h:yN 3 65 H v l.length (l.flatMap y5))(hl:l.length<=1000000000){i:Nat}(hi:i<l.length)(A:Nat)(hA:A<H.next):
  ∃r v' H',aveq r r=true/\j0 3 v (some (.int .i64 (i:Nat))) none none H=some r/\f118 D n [r] H=some (v',H')/\Prs H H'/\FrG A 3 65 H' v' (l.drop i).length ((l.drop i).flatMap y5):=by
 obtain⟨r,e1,w,z1,z2⟩:=slSl_lo h (by decide) hi .i64;rw[Y1]at w;have hlen:(l.drop i).length=l.length - i:=by rw[zO]
 have w':uO H r (l.drop i):=by rw[uO,hlen];exact w
 obtain⟨v',H',e2,p,g,f⟩:=YB D n hk w' z1 z2 (by omega);exact⟨r,v',H',yJ w,e1,e2,p,g,fun B hB=>by have:=f B hB;omega⟩
theorem zAA (D:Dyn)(n:Nat)(hn:200000000<=n){H:AH}(hk:H.ok){b:Bool}{ks vs ps:AV}{nd:Nd.Node}(hb:nd.leaf=b)(h:cK H (.agg [.bool b,ks,vs,ps]) nd)(hs:small nd):
  ∃H1 H2 H3 H4 A1 A2 A4,(∀K,bA (some (AObj.cells [.bool b,ks,vs,ps] 111 1 false,fun A=>AV.ptr A 0)) H K=K (.ptr A1 0) H1)/\(∀K,bA (some (AObj.cells [.bool false, .nilSlice, .nilSlice, .nilSlice] 111 1 false,fun A=>AV.ptr A 0)) H1 K=K (.ptr A2 0) H2)/\
   (∀K,bA (some (AObj.cells [.bool false, .nilSlice, .nilSlice, .nilSlice] 111 1 false,fun A=>AV.ptr A 0)) H2 K=K (.ptr A4 0) H3)/\f77 D n [.agg [.bool b,ks,vs,ps]] H3=some (.bool (Nd.shaped ltS nd),H4)/\
   CutI H A1 A2 A4 H3 [.bool b,ks,vs,ps] [.bool false, .nilSlice, .nilSlice, .nilSlice] [.bool false, .nilSlice, .nilSlice, .nilSlice]/\CutI H A1 A2 A4 H4 [.bool b,ks,vs,ps] [.bool false, .nilSlice, .nilSlice, .nilSlice] [.bool false, .nilSlice, .nilSlice, .nilSlice]:=by
 have p1:Prs H (H.push (.cells [.bool b,ks,vs,ps] 111 1 false)):=(Stp.refl hk).push _;have g1:(H.push (.cells [.bool b,ks,vs,ps] 111 1 false)).h.get H.next=some (.cells [.bool b,ks,vs,ps] 111 1 false):=AH.push_get_eq _ _
 have n1:(H.push (.cells [.bool b,ks,vs,ps] 111 1 false)).next=H.next+1:=rfl
 generalize hH1:H.push (.cells [.bool b,ks,vs,ps] 111 1 false)=H1 at p1 g1 n1;have p2:Prs H1 (H1.push (.cells [.bool false, .nilSlice, .nilSlice, .nilSlice] 111 1 false)):=(Stp.refl p1.ok).push _;have g2:(H1.push (.cells [.bool false, .nilSlice, .nilSlice, .nilSlice] 111 1 false)).h.get H1.next=some (.cells [.bool false, .nilSlice, .nilSlice, .nilSlice] 111 1 false):=AH.push_get_eq _ _
 have n2:(H1.push (.cells [.bool false, .nilSlice, .nilSlice, .nilSlice] 111 1 false)).next=H1.next+1:=rfl
 have g12:=p2.get p1.ok g1;generalize hH2:H1.push (.cells [.bool false, .nilSlice, .nilSlice, .nilSlice] 111 1 false)=H2 at p2 g2 n2 g12;have p3:Prs H2 (H2.push (.cells [.bool false, .nilSlice, .nilSlice, .nilSlice] 111 1 false)):=(Stp.refl p2.ok).push _;have g3:(H2.push (.cells [.bool false, .nilSlice, .nilSlice, .nilSlice] 111 1 false)).h.get H2.next=some (.cells [.bool false, .nilSlice, .nilSlice, .nilSlice] 111 1 false):=AH.push_get_eq _ _
 have g13:=p3.get p2.ok g12;have g23:=p3.get p2.ok g2;generalize hH3:H2.push (.cells [.bool false, .nilSlice, .nilSlice, .nilSlice] 111 1 false)=H3 at p3 g3 g13 g23;have P3:Prs H H3:=(p1.trans p2).trans p3;obtain⟨H4,e4,p4⟩:=uV D n p3.ok (h.prs P3) hs hn;have c3:CutI H H.next H1.next H2.next H3 [.bool b,ks,vs,ps] [.bool false, .nilSlice, .nilSlice, .nilSlice] [.bool false, .nilSlice, .nilSlice, .nilSlice]:=⟨P3,g13,g23,g3,by omega,by omega,by omega⟩
 refine⟨H1,H2,H3,H4,H.next,H1.next,H2.next,fun K=> ?_,fun K=> ?_,fun K=> ?_,e4,c3,c3.step p4⟩
 ·simp only[eZ,uG hk,hH1]
 ·simp only[eZ,uG p1.ok,hH2]
 ·simp only[eZ,uG p2.ok,hH3]
theorem zLt (D:Dyn)(n:Nat)(hn:200000000<=n){H:AH}(hk:H.ok){v:AV}{nd:Nd.Node}(h:yC H v nd)(hs:small nd)(hsh:Nd.shaped ltS nd=true)(hc:vH nd)(hl:nd.leaf=true):
  ∃k va vb H',f115 D n [v] H=some (.tuple [va,S (nd.keys.getD k []),vb, .int .i64 ((0:Nat):Int)],H')/\Prs H H'/\wD H.next H' va (cutA nd k)/\wD H.next H' vb (fQ nd k)/\cutOk nd k/\hbnd nd k:=by
 have h0:=h.node;obtain⟨ks,vs,ps,rfl,h1,h2,h3⟩:=h;rw[hl]at h0;have hkl:=Nd.sumL_ge nd.keys;have hvl:nd.vals.length=nd.keys.length:=by
  simp only[Nd.shaped,hl,if_true,z8,zE]at hsh;exact hsh.2.1.1
 obtain⟨s1,s2,s3⟩:=id hs;obtain⟨c1,c2⟩:=id hc;obtain⟨H1,H2,H3,H4,A1,A2,A4,b1,b2,b3,e4,i3,i4⟩:=zAA D n hn hk hl h0 hs;obtain⟨k,H5,e5,p5,⟨k1,k2⟩,kb⟩:=zEY D n hn i4.prs.ok (h0.prs i4.prs) hs hsh hc;simp only[hl,if_true]at k2;have i5:=i4.step p5;obtain⟨H6,e6,i6,t6⟩:=i5.st2 (o:=0) (x:= .bool true) rfl (by simp);obtain⟨H7,e7,i7,t7⟩:=i6.st4 (o:=0) (x:= .bool true) rfl (by simp);have m {H':AH} (p:Prs H H'):=h1.mono p (fun _ _ x=>x);have m2 {H':AH} (p:Prs H H'):=h2.mono p (fun _ _ x=>x);obtain⟨r8,k8,H8,c8,e8,p8,f8⟩:=zEV D n i7.prs.ok (m i7.prs) (by omega) k1 (by omega) A4 i7.lt;have i8:=i7.step p8;obtain⟨H9,e9,i9,t9⟩:=i8.st2 (o:=1) (x:=k8) f8.isCell (by simp);have f9:=f8.stp t9 (by have:=i8.o4;omega);obtain⟨r10,k10,H10,_,c10,e10,p10,f10⟩:=zEG D n i9.prs.ok (m i9.prs) (by omega) (show k< _ by omega) A4 i9.lt;have i10:=i9.step p10;obtain⟨H11,e11,i11,t11⟩:=i10.st4 (o:=1) (x:=k10) f10.isCell (by simp);have f11:=f10.stp t11 (by omega);obtain⟨r12,k12,H12,c12,e12,p12,f12⟩:=zEV D n i11.prs.ok (m2 i11.prs) (by omega) k1 (by omega) A4 i11.lt;have i12:=i11.step p12;obtain⟨r13,k13,H13,q13,c13,e13,p13,f13⟩:=zEG D n i12.prs.ok (m2 i12.prs) (by omega) (show k< _ by omega) A4 i12.lt;have c13':j0 1 vs (some (.int .i64 (k:Nat))) none none H11=some r13:=by rw[slSl_same (m2 i12.prs) (m2 i11.prs) (by decide)];exact c13
 have i13:=i12.step p13;obtain⟨H14,e14,i14,t14⟩:=i13.st2 (o:=2) (x:=k12) f12.isCell (by simp);obtain⟨H15,e15,i15,t15⟩:=i14.st4 (o:=2) (x:=k13) f13.isCell (by simp);have o4:=i15.o4;have h24:=i15.o1;have h12:=i15.o2;have F8:FrG A4 1 9 H15 k8 _ _:=(((((f9.prs p10).stp t11 (by omega)).prs p12).prs p13).stp t14 (by omega)).stp t15 (by omega);have F10:FrG A4 1 9 H15 k10 _ _:=(((f11.prs p12).prs p13).stp t14 (by omega)).stp t15 (by omega);have F12:FrG A4 1 9 H15 k12 _ _:=((f12.prs p13).stp t14 (by omega)).stp t15 (by omega);have F13:FrG A4 1 9 H15 k13 _ _:=(f13.stp t14 (by omega)).stp t15 (by omega);have na:FrN A4 H15 k8 k12 .nilSlice (cutA nd k):=by
  simp only[cutA,hl,if_true];exact⟨F8,F12,FrG.nil ..⟩
 have nb:FrN A4 H15 k10 k13 .nilSlice (fQ nd k):=by
  simp only[fQ,hl,if_true];exact⟨F10,F13,FrG.nil ..⟩
 obtain⟨H16,e16,P,fa,fb⟩:=zGe D n i15 ((m i15.prs).row) (fun B hB=>h1.lt hB) (show k<nd.keys.length by omega) na nb;refine⟨k, .agg [.bool true,k8,k12, .nilSlice], .agg [.bool true,k10,k13, .nilSlice],H16, ?_,P, ?_, ?_,⟨k1,by rw[hl];simp only[if_true];omega⟩,kb⟩
 ·have t2: ¬((nd.keys.length:Nat):Int)< ((2:Nat):Int):=by omega
  simp(maxSteps:=999999)(disch:=omega) only[f115,eZ,hl,b1,b2,b3,qR i3.a1,qR i4.a1,cT,Option.map_some,e4,hsh,qM i4.a1,h1.row.lnSl,t2,e5,qM i5.a1,e6,j9 (qM i6.a1 0) (BH _),e7,qM i7.a1,c8,e8,e9,qM i9.a1,c10,e10,e11,qM i11.a1,c12,c13',e12,j9 (qM i12.a1 2) (yJ h2.row),j9 c13 q13,e13,e14,e15,e16]
 ·exact⟨⟨k8,k12, .nilSlice,by simp only[cutA,hl,if_true],fa.k.g,fa.v.g,fa.p.g⟩,fa.fresh (by omega)⟩
 ·exact⟨⟨k10,k13, .nilSlice,by simp only[fQ,hl,if_true],fb.k.g,fb.v.g,fb.p.g⟩,fb.fresh (by omega)⟩
theorem zIt (D:Dyn)(n:Nat)(hn:200000000<=n){H:AH}(hk:H.ok){v:AV}{nd:Nd.Node}(h:yC H v nd)(hs:small nd)(hsh:Nd.shaped ltS nd=true)(hc:vH nd)(hl:nd.leaf=false):
  ∃k va vb H',f115 D n [v] H=some (.tuple [va,S (nd.keys.getD k []),vb, .int .i64 ((0:Nat):Int)],H')/\Prs H H'/\wD H.next H' va (cutA nd k)/\wD H.next H' vb (fQ nd k)/\cutOk nd k/\hbnd nd k:=by
 have h0:=h.node;obtain⟨ks,vs,ps,rfl,h1,h2,h3⟩:=h;rw[hl]at h0;have hkl:=Nd.sumL_ge nd.keys;have hpl:nd.kids.length=nd.keys.length+1:=by
  simp only[Nd.shaped,hl,Bool.false_eq_true,if_false,z8,zE]at hsh;exact hsh.2.1.2
 obtain⟨s1,s2,s3⟩:=id hs;obtain⟨c1,c2⟩:=id hc;obtain⟨H1,H2,H3,H4,A1,A2,A4,b1,b2,b3,e4,i3,i4⟩:=zAA D n hn hk hl h0 hs;obtain⟨k,H5,e5,p5,⟨k1,k2⟩,kb⟩:=zEY D n hn i4.prs.ok (h0.prs i4.prs) hs hsh hc;simp only[hl,Bool.false_eq_true,if_false]at k2;have i5:=i4.step p5;obtain⟨H6,e6,i6,t6⟩:=i5.st2 (o:=0) (x:= .bool false) rfl (by simp);obtain⟨H7,e7,i7,t7⟩:=i6.st4 (o:=0) (x:= .bool false) rfl (by simp);have m {H':AH} (p:Prs H H'):=h1.mono p (fun _ _ x=>x);have m2 {H':AH} (p:Prs H H'):=h3.mono p (fun _ _ x=>x);obtain⟨r8,k8,H8,c8,e8,p8,f8⟩:=zEV D n i7.prs.ok (m i7.prs) (by omega) k1 (by omega) A4 i7.lt;have i8:=i7.step p8;obtain⟨H9,e9,i9,t9⟩:=i8.st2 (o:=1) (x:=k8) f8.isCell (by simp);have f9:=f8.stp t9 (by have:=i8.o4;omega);obtain⟨r10,k10,H10,_,c10,e10,p10,f10⟩:=zEG D n i9.prs.ok (m i9.prs) (by omega) (show k+1< _ by omega) A4 i9.lt;have i10:=i9.step p10;obtain⟨H11,e11,i11,t11⟩:=i10.st4 (o:=1) (x:=k10) f10.isCell (by simp);have f11:=f10.stp t11 (by omega);obtain⟨r12,k12,H12,c12,e12,p12,f12⟩:=zN0 D n i11.prs.ok (m2 i11.prs) (by omega) (show 0<k+1 by omega) (by omega) A4 i11.lt;have i12:=i11.step p12;obtain⟨r13,k13,H13,q13,c13,e13,p13,f13⟩:=zMH D n i12.prs.ok (m2 i12.prs) (by omega) (show k+1< _ by omega) A4 i12.lt;have c13':j0 3 ps (some (.int .i64 ((k+1:Nat):Int))) none none H11=some r13:=by rw[slSl_same (m2 i12.prs) (m2 i11.prs) (by decide)];exact c13
 have i13:=i12.step p13;obtain⟨H14,e14,i14,t14⟩:=i13.st2 (o:=3) (x:=k12) f12.isCell (by simp);obtain⟨H15,e15,i15,t15⟩:=i14.st4 (o:=3) (x:=k13) f13.isCell (by simp);simp only[Int.natCast_add]at c10 c12 c13 c13';have o4:=i15.o4;have h24:=i15.o1;have h12:=i15.o2;have F8:FrG A4 1 9 H15 k8 _ _:=(((((f9.prs p10).stp t11 (by omega)).prs p12).prs p13).stp t14 (by omega)).stp t15 (by omega);have F10:FrG A4 1 9 H15 k10 _ _:=(((f11.prs p12).prs p13).stp t14 (by omega)).stp t15 (by omega);have F12:FrG A4 3 65 H15 k12 _ _:=((f12.prs p13).stp t14 (by omega)).stp t15 (by omega);have F13:FrG A4 3 65 H15 k13 _ _:=(f13.stp t14 (by omega)).stp t15 (by omega);have na:FrN A4 H15 k8 .nilSlice k12 (cutA nd k):=by
  simp only[cutA,hl,Bool.false_eq_true,if_false];exact⟨F8,FrG.nil ..,F12⟩
 have nb:FrN A4 H15 k10 .nilSlice k13 (fQ nd k):=by
  simp only[fQ,hl,Bool.false_eq_true,if_false];exact⟨F10,FrG.nil ..,F13⟩
 obtain⟨H16,e16,P,fa,fb⟩:=zGe D n i15 ((m i15.prs).row) (fun B hB=>h1.lt hB) (show k<nd.keys.length by omega) na nb;refine⟨k, .agg [.bool false,k8, .nilSlice,k12], .agg [.bool false,k10, .nilSlice,k13],H16, ?_,P, ?_, ?_,⟨k1,by rw[hl];simp only[Bool.false_eq_true,if_false];omega⟩,kb⟩
 ·have t2: ¬((nd.keys.length:Nat):Int)< ((2:Nat):Int):=by omega
  have t3: ¬((nd.keys.length:Nat):Int)< ((3:Nat):Int):=by omega
  simp(maxSteps:=999999)(disch:=omega) only[f115,eZ,hl,b1,b2,b3,qR i3.a1,qR i4.a1,cT,Option.map_some,e4,hsh,qM i4.a1,h1.row.lnSl,t2,t3,e5,qM i5.a1,e6,j9 (qM i6.a1 0) (BH _),e7,qM i7.a1,c8,e8,e9,qM i9.a1,c10,e10,e11,qM i11.a1,c12,c13',e12,j9 (qM i12.a1 3) (yJ h3.row),j9 c13 q13,e13,e14,e15,e16]
 ·exact⟨⟨k8, .nilSlice,k12,by simp only[cutA,hl,Bool.false_eq_true,if_false],fa.k.g,fa.v.g,fa.p.g⟩,fa.fresh (by omega)⟩
 ·exact⟨⟨k10, .nilSlice,k13,by simp only[fQ,hl,Bool.false_eq_true,if_false],fb.k.g,fb.v.g,fb.p.g⟩,fb.fresh (by omega)⟩
end Go.Eng.Sh
end
section
namespace Go.Eng
namespace T
variable {α:Type}
noncomputable def st (t:T α)(n:Nat)(a:α):T α:=(T.set 40 t n a).getD .leaf
end T
theorem Stp.ld1 {S:Nat->Prop}{H H':AH}(s:Stp S H H'){A:Nat}(o:Nat)(h:A<H.next)(hS: ¬S A):Eng.ld1 (.ptr A o) H'=Eng.ld1 (.ptr A o) H:=by simp only[Eng.ld1,s.keep A h hS]
theorem Prs.refl {H:AH}(h:H.ok):Prs H H:=Stp.refl h
def Rws (k:Nat)(H:AH):List AV->List (Nat×List AV)->Prop
 | [],[]=>True
 | v::vs,r::rs=>(Rw k H v r.1 r.2/\qP r.2=true)/\Rws k H vs rs
 | _,_=>False
theorem Rws.len {k:Nat}{H:AH} : ∀ {vs:List AV} {rs:List (Nat×List AV)},Rws k H vs rs->vs.length=rs.length
 | [],[],_=>rfl
 | _::vs,_::rs,h=>by simp only[zF,Rws.len h.2]
 | [],_::_,h=>h.elim
 | _::_,[],h=>h.elim
theorem Rws.at {k:Nat}{H:AH} : ∀ {vs:List AV} {rs:List (Nat×List AV)} {i:Nat} {x:AV},Rws k H vs rs->vs[i]? =some x-> ∃r,rs[i]? =some r/\Rw k H x r.1 r.2/\qP r.2=true
 | [],[],_,_,_,h=>by simp at h
 | _::vs,r::rs,0,x,h,hx=>by simp only[List.getElem?_cons_zero,z7]at hx;subst hx;exact⟨r,rfl,h.1⟩
 | _::vs,_::rs,i+1,x,h,hx=>by simp only[List.getElem?_cons_succ]at hx⊢;exact Rws.at h.2 hx
 | [],_::_,_,_,h,_=>h.elim
 | _::_,[],_,_,h,_=>h.elim
theorem Rws.prs {k:Nat}{H H':AH}(s:Prs H H'): ∀ {vs:List AV} {rs:List (Nat×List AV)},Rws k H vs rs->Rws k H' vs rs
 | [],[],_=>trivial
 | _::vs,_::rs,h=>⟨⟨h.1.1.prs s,h.1.2⟩,Rws.prs s h.2⟩
 | [],_::_,h=>h.elim
 | _::_,[],h=>h.elim
def vP (rs:List (Nat×List AV)):Nat:=(rs.map Prod.fst).sum
def zCW (rs:List (Nat×List AV)):List AV:=rs.flatMap Prod.snd
theorem fY {rs:List (Nat×List AV)}{i:Nat}{r:Nat×List AV}(h:rs[i]? =some r):vP (rs.take (i+1))=vP (rs.take i)+r.1:=by
 obtain⟨hi,rfl⟩:=List.getElem?_eq_some_iff.1 h;rw[zJ hi];simp only[vP,List.map_append,List.sum_append,List.map_cons,List.map_nil,List.sum_cons,List.sum_nil,Nat.add_zero]
theorem BG {rs:List (Nat×List AV)}{i:Nat}{r:Nat×List AV}(h:rs[i]? =some r):zCW (rs.take (i+1))=zCW (rs.take i)++r.2:=by
 obtain⟨hi,rfl⟩:=List.getElem?_eq_some_iff.1 h;rw[zJ hi];simp only[zCW,qD,zP,List.flatMap_nil,List.append_nil]
theorem cQ (rs:List (Nat×List AV))(i:Nat):vP (rs.take i)<=vP rs:=by
 have:rs=rs.take i++rs.drop i:=(List.take_append_drop i rs).symm
 conv=>rhs;rw[this]
 simp only[vP,List.map_append,List.sum_append];omega
def Part (k e:Nat)(H:AH)(v:AV)(n:Nat)(l:List AV)(tot:Nat):Prop:=
 (tot=0/\v= .nilSlice/\n=0/\l=[])\/ ∃A rest,v= .slice A 0 n 1/\A<H.next/\H.h.get A=some (.cells (l++rest) e k true)/\l.length=n*k/\rest.length=(tot - n)*k/\n<=tot
theorem Part.own {k e:Nat}{H:AH}{v:AV}{n:Nat}{l:List AV}(h:Part k e H v n l n):Own k e H v n l:=by
 rcases h with⟨rfl,rfl,_,rfl⟩ | ⟨A,rest,rfl,hA,hg,hl,hr,_⟩
 ·exact Own.nil _ _ _
 ·have:rest=[]:=zH (by rw[hr,Nat.sub_self,Nat.zero_mul]);subst this;rw[List.append_nil]at hg;exact⟨hl, .inr ⟨A,rfl,hA,hg⟩⟩
theorem Part.app {k e bytes:Nat}{H:AH}{v s:AV}{n m tot:Nat}{l new:List AV}(hk:H.ok)(hpos:0<k)(h:Part k e H v n l tot)(hs:srcOf k s H=some (m,new))(hm:new.length=m*k)(hc:qP new=true)(hle:n+m<=tot):
  ∃v' H',apP e k bytes v s H=some (v',H')/\Part k e H' v' (n+m) (l++new) tot/\Stp (Blk v) H H'/\H'.next=H.next/\ ∀B,Blk v' B->Blk v B:=by
 rcases h with⟨rfl,rfl,rfl,rfl⟩ | ⟨A,rest,rfl,hA,hg,hl,hr,hn⟩
 ·obtain rfl:m=0:=by omega
  have:new=[]:=zH (by simpa using hm);subst this;exact⟨.nilSlice,H,by simp[apP,hs,hc,app1], .inl ⟨rfl,rfl,rfl,rfl⟩,Stp.refl hk,rfl,fun _ x=>x⟩
 ·have hlen:(l++rest).length=tot*k:=by rw[zI,hl,hr,<-Nat.add_mul];congr 1;omega
  have hroom:yK (l++rest) true k 0 1 k=tot:=by
   simp only[yK,show((1 % 2).beq 0)=false from rfl,cond_false,Nat.beq_refl,show Nat.beq 0 (1 / 2*k)=true from by simp,Bool.and_self,cond_true,y9,hlen,Nat.sub_zero];exact Nat.mul_div_cancel _ hpos
  have b1:Nat.ble (n+m) tot=true:=by rw[zT];exact hle
  have hz:Nat.blt 0 k=true:=by rw[zL];exact hpos
  have hmr:m*k<=rest.length:=by rw[hr];exact zW _ (by omega)
  have hset:setAt (l++rest) (0+n*k) new=some (l++new++rest.drop (m*k)):=by
   rw[bN (by rw[hlen,hm,Nat.zero_add,<-Nat.add_mul];exact zW _ hle),Nat.zero_add,hm];congr 1;rw[List.take_append_of_le_length (by omega),zK (by omega),List.drop_append,<-hl,List.drop_of_length_le (by omega),List.nil_append];congr 2;omega
  refine⟨.slice A 0 (n+m) 1,H.put A (.cells (l++new++rest.drop (m*k)) e k true), ?_, .inr ⟨A,rest.drop (m*k),rfl,hA,by rw[AH.put_get,if_pos rfl],by rw[zI,hl,hm,Nat.add_mul],by rw[zO,hr,<-Nat.sub_mul];congr 1;omega,hle⟩,(Stp.refl hk).put hA _ (.inr (Blk.slice.2 rfl)),rfl,fun B hB=>Blk.slice.2 (Blk.slice.1 hB)⟩;simp only[apP,hs,hc,cond_true,app1,hg,zJS,hroom,b1,hz,hset,zCZ,jW,yE]
theorem zE3 (z:AV): ∀m:Nat,(rep m [z]).length=m
 | 0=>rfl
 | m+1=>by simp[rep,zE3 z m]
theorem zB9 (a b c:AV): ∀m:Nat,(rep m [a,b,c]).length=m*3
 | 0=>rfl
 | m+1=>by simp only[rep,zI,zB9 a b c m,zF,zV];omega
theorem zJj {k e bytes m:Nat}{H:AH}{z:List AV}(hk:H.ok)(hpos:0<k)(hz:(rep m z).length=m*k)(hm0:0<m)(hm:m<=1000000000)(hb:bytes<=1000):
  apZ e k bytes z .nilSlice (.int .i64 ((m:Nat):Int)) H=some (.slice H.next 0 m 1,H.push (.cells (rep m z) e k true))/\
  j0 k (.slice H.next 0 m 1) none (some (.int .i64 ((0:Nat):Int))) none (H.push (.cells (rep m z) e k true))=some (.slice H.next 0 0 1)/\
  Part k e (H.push (.cells (rep m z) e k true)) (.slice H.next 0 0 1) 0 [] m:=by
 have b1:Nat.ble (m*bytes) 281474976710656=true:=by
  rw[zT];exact Nat.le_trans (Nat.mul_le_mul hm hb) (by decide)
 have b2:Nat.blt m 4611686018427387904=true:=by rw[zL];omega
 have b3:Nat.beq m 0=false:=by rw[Bool.eq_false_iff];intro h;have:=Nat.eq_of_beq_eq_true h;omega
 have hroom:yK (rep m z) true k 0 1 k=m:=by
  simp only[yK,show((1 % 2).beq 0)=false from rfl,cond_false,Nat.beq_refl,show Nat.beq 0 (1 / 2*k)=true from by simp,Bool.and_self,cond_true,y9,hz,Nat.sub_zero];exact Nat.mul_div_cancel _ hpos
 have hb':Nat.blt 0 k=true:=by rw[zL];exact hpos
 refine⟨?_, ?_, .inr ⟨H.next,rep m z,rfl,Nat.lt_succ_self _,AH.push_get_eq _ _,by simp,by simpa using hz,by omega⟩⟩
 ·show apZ e k bytes z .nilSlice (.int .i64 (Int.ofNat m)) H=_;simp only[apZ,b1,b2,Bool.and_self,cond_true,app1,show m.beq 0=false from b3,cond_false,wU,ZE hm hb,cJ,List.nil_append,QM hk,yE]
 ·have n0:=yQ .i64 (z:=((0:Nat):Int)) (by omega);simp only[j0,yR,n0,AH.push_get_eq,hb',cond_true];simp[ZS,hroom,yE,show Nat.ble 0 m=true from by rw[zT];omega,show Nat.ble 0 0=true from rfl,show Nat.beq 1 0=false from rfl]
end Go.Eng
namespace Go.Eng.Sh
open Go.Nd (Ptr yH cutOk cutA fQ)
theorem zHN (D:Dyn)(n m:Nat)(hm:m<=1000000000){H:AH}(hk:H.ok):
  ∃v H',f99 D n [.nilSlice, .int .i64 (m:Nat)] H=some (v,H')/\Prs H H'/\Part 1 9 H' v 0 [] m/\ ∀B,Blk v B->H.next<=B:=by
 have hcap:zD7 X 56 .nilSlice=some (.int .i64 ((0:Nat):Int)):=rfl;have hln:lnSl .nilSlice=some (.int .i64 ((0:Nat):Int)):=rfl;have hs:j0 1 .nilSlice none (some (.int .i64 ((0:Nat):Int))) none H=some .nilSlice:=rfl;have h0: ¬((m:Nat):Int)< ((0:Nat):Int):=by omega
 by_cases hp:m=0
 ·subst hp;refine⟨.nilSlice,H, ?_,Stp.refl hk, .inl ⟨rfl,rfl,rfl,rfl⟩,fun B hB=>(Blk.nil.1 hB).elim⟩;simp(disch:=omega) only[f99,zL3,zL4,eZ,h0,hcap,hln,Int.sub_zero,zS,Int.sub_self]
 ·obtain⟨e1,e2,p⟩:=zJj (k:=1) (e:=9) (bytes:=16) (m:=m) (z:=[.str 0 0]) hk (by decide) (by rw[zE3];omega) (by omega) hm (by decide);have hsub:((m:Nat):Int) - (((0:Nat):Int) - ((0:Nat):Int))=((m:Nat):Int):=by omega
  have hpI:((0:Nat):Int)< ((m:Nat):Int):=by omega
  refine⟨_,_, ?_,(Stp.refl hk).push _,p,fun B hB=>by rw[Blk.slice.1 hB];exact Nat.le_refl _⟩;simp(disch:=omega) only[f99,zL3,zL4,eZ,h0,hcap,hln,hs,hsub,hpI,e1,e2]
theorem zHO (D:Dyn)(n m:Nat)(hm:m<=1000000000){H:AH}(hk:H.ok):
  ∃v H',f116 D n [.nilSlice, .int .i64 (m:Nat)] H=some (v,H')/\Prs H H'/\Part 3 65 H' v 0 [] m/\ ∀B,Blk v B->H.next<=B:=by
 have hcap:zD7 X 105 .nilSlice=some (.int .i64 ((0:Nat):Int)):=rfl;have hln:lnSl .nilSlice=some (.int .i64 ((0:Nat):Int)):=rfl;have hs:j0 3 .nilSlice none (some (.int .i64 ((0:Nat):Int))) none H=some .nilSlice:=rfl;have h0: ¬((m:Nat):Int)< ((0:Nat):Int):=by omega
 by_cases hp:m=0
 ·subst hp;refine⟨.nilSlice,H, ?_,Stp.refl hk, .inl ⟨rfl,rfl,rfl,rfl⟩,fun B hB=>(Blk.nil.1 hB).elim⟩;simp(disch:=omega) only[f116,zFM,zFN,eZ,h0,hcap,hln,Int.sub_zero,zS,Int.sub_self]
 ·obtain⟨e1,e2,p⟩:=zJj (k:=3) (e:=65) (bytes:=24) (m:=m) (z:=[.int .i64 (.ofNat 0), .int .i64 (.ofNat 0), .int .u64 (.ofNat 0)]) hk (by decide) (by rw[zB9]) (by omega) hm (by decide);have hsub:((m:Nat):Int) - (((0:Nat):Int) - ((0:Nat):Int))=((m:Nat):Int):=by omega
  have hpI:((0:Nat):Int)< ((m:Nat):Int):=by omega
  refine⟨_,_, ?_,(Stp.refl hk).push _,p,fun B hB=>by rw[Blk.slice.1 hB];exact Nat.le_refl _⟩;simp only[Int.ofNat_eq_natCast]at e1 e2;simp(disch:=omega) only[f116,zFM,zFN,eZ,h0,hcap,hln,hs,hsub,hpI,e1,e2]
theorem catS1 (D:Dyn)(n:Nat){H:AH}{v:AV}{vs:List AV}{rs:List (Nat×List AV)}(hv:Rw 1 H v vs.length vs)(h:Rws 1 H vs rs)(hb:vP rs<=1000000000)(hl:vs.length<=1000000000)(n':Nat)(hn:vs.length<n'):
  qT n' (zI0 D n) [v, .int .i64 ((0:Nat):Int),v, .int .i64 (vs.length:Nat), .int .i64 ((0:Nat):Int)] H=some (.exit 0 [v, .int .i64 (vP rs:Nat)],H):=by
 have hlen:=h.len;refine j8 (fun i=>[v, .int .i64 (vP (rs.take i):Nat),v, .int .i64 (vs.length:Nat), .int .i64 (i:Nat)]) vs.length ?_ ?_ n' hn
 ·intro i hi;obtain⟨p,x,p1,p2,p3⟩:=hv.ld1 hi;obtain⟨r,r1,r2,r3⟩:=h.at p3;have hiI:((i:Nat):Int)< ((vs.length:Nat):Int):=by omega
  have hs:=fY r1;have hs2:=cQ rs i;have hs3:=cQ rs (i+1);have hneg: ¬((vP (rs.take i):Nat):Int)+((r.1:Nat):Int)< ((0:Nat):Int):=by omega
  have hc:((vP (rs.take (i+1)):Nat):Int)=((vP (rs.take i):Nat):Int)+((r.1:Nat):Int):=by omega
  rw[hc];simp(disch:=omega) only[zI0,zNe,eZ,hiI,p1,p2,r2.lnSl,hneg,Int.natCast_add]
 ·intro m;refine qU ?_;have:rs.take vs.length=rs:=by rw[hlen];exact zY
  simp only[zI0,eZ,zS,this]
theorem catS2 (D:Dyn)(n:Nat){H:AH}(hk:H.ok){v:AV}{vs:List AV}{rs:List (Nat×List AV)}(hv:Rw 1 H v vs.length vs)(h:Rws 1 H vs rs)(hl:vs.length<=1000000000)
  {w:AV} (hw:Part 1 9 H w 0 [] (vP rs)) (hd1: ∀B,Blk w B-> ¬Blk v B) (hd2: ∀B,Blk w B-> ∀x∈vs,¬Blk x B) (n':Nat) (hn:vs.length<n'):
  ∃w' H',qT n' (zFf D n) [w,v, .int .i64 (vs.length:Nat), .int .i64 ((0:Nat):Int)] H=some (.exit 2 [w'],H')/\Stp (Blk w) H H'/\Part 1 9 H' w' (vP rs) (zCW rs) (vP rs)/\ ∀B,Blk w' B->Blk w B:=by
 have hlen:=h.len;obtain⟨m,us,H',k1,w',rfl,k3,k4,k5⟩:=kI (b:=zFf D n) vs.length (fun i us H'=> ∃w',us=[w',v, .int .i64 (vs.length:Nat), .int .i64 (i:Nat)]/\Stp (Blk w) H H'/\Part 1 9 H' w' (vP (rs.take i)) (zCW (rs.take i)) (vP rs)/\ ∀B,Blk w' B->Blk w B) (fun i us H1 hi ⟨w1,hus,hs,hp,hB⟩=>by
  subst hus;obtain⟨p,x,p1,p2,p3⟩:=(hv.stp hs (fun A hA hh=>hd1 A hh hA)).ld1 hi;obtain⟨r,r1,r2,r3⟩:=h.at p3;have hx:x∈vs:=List.mem_of_getElem? p3;have r2':=r2.stp hs (fun A hA hh=>hd2 A hh x hx hA);have hiI:((i:Nat):Int)< ((vs.length:Nat):Int):=by omega
  have hs3:=cQ rs (i+1);have hst:=fY r1;obtain⟨w2,H2,e2,q2,s2,n2,b2⟩:=hp.app (bytes:=16) hs.ok (by decide) r2'.srcOf r2.1 r3 (by omega);rw[<-hst,<-BG r1]at q2;refine⟨_,H2, ?_,w2,rfl,hs.trans (s2.mono fun A _ hA=>hB A hA),q2,fun B hb=>hB B (b2 B hb)⟩;simp(disch:=omega) only[zFf,eZ,hiI,p1,p2,e2,Int.natCast_add]) n' _ H ⟨w,rfl,Stp.refl hk,hw,fun _ x=>x⟩ hn
 rw[hlen,zY]at k4;exact⟨w',H',k1.trans (qU (by simp only[zFf,eZ,zS])),k3,k4,k5⟩
theorem zGj (D:Dyn)(n:Nat){H:AH}(hk:H.ok){v:AV}{vs:List AV}{rs:List (Nat×List AV)}(hv:Rw 1 H v vs.length vs)(h:Rws 1 H vs rs)(hb:vP rs<=1000000000)(hl:vs.length<=1000000000)(hn:vs.length<n)
  (hv0: ∀B,Blk v B->B<H.next) (hx0: ∀x∈vs,∀B,Blk x B->B<H.next):
  ∃w H',f81 D n [v] H=some (w,H')/\Prs H H'/\Own 1 9 H' w (vP rs) (zCW rs)/\ ∀B,Blk w B->H.next<=B:=by
 obtain⟨w1,H1,e1,p1,q1,f1⟩:=zHN D n (vP rs) hb hk;obtain⟨w2,H2,e2,s2,q2,f2⟩:=catS2 D n p1.ok (hv.prs p1) (h.prs p1) hl q1 (fun B hB hh=>by have:=f1 B hB;have:=hv0 B hh;omega) (fun B hB x hx hh=>by have:=f1 B hB;have:=hx0 x hx B hh;omega) n hn;have l1:=catS1 D n hv h hb hl n hn;refine⟨w2,H2, ?_,p1.fresh s2 f1,q2.own,fun B hB=>f1 B (f2 B hB)⟩;simp only[f81,eZ,hv.lnSl,l1,zNf,e1,e2,zNg]
theorem catP1 (D:Dyn)(n:Nat){H:AH}{v:AV}{vs:List AV}{rs:List (Nat×List AV)}(hv:Rw 1 H v vs.length vs)(h:Rws 3 H vs rs)(hb:vP rs<=1000000000)(hl:vs.length<=1000000000)(n':Nat)(hn:vs.length<n'):
  qT n' (zHV D n) [v, .int .i64 ((0:Nat):Int),v, .int .i64 (vs.length:Nat), .int .i64 ((0:Nat):Int)] H=some (.exit 0 [v, .int .i64 (vP rs:Nat)],H):=by
 have hlen:=h.len;refine j8 (fun i=>[v, .int .i64 (vP (rs.take i):Nat),v, .int .i64 (vs.length:Nat), .int .i64 (i:Nat)]) vs.length ?_ ?_ n' hn
 ·intro i hi;obtain⟨p,x,p1,p2,p3⟩:=hv.ld1 hi;obtain⟨r,r1,r2,r3⟩:=h.at p3;have hiI:((i:Nat):Int)< ((vs.length:Nat):Int):=by omega
  have hs:=fY r1;have hs2:=cQ rs i;have hs3:=cQ rs (i+1);have hneg: ¬((vP (rs.take i):Nat):Int)+((r.1:Nat):Int)< ((0:Nat):Int):=by omega
  have hc:((vP (rs.take (i+1)):Nat):Int)=((vP (rs.take i):Nat):Int)+((r.1:Nat):Int):=by omega
  rw[hc];simp(disch:=omega) only[zHV,zN6,eZ,hiI,p1,p2,r2.lnSl,hneg,Int.natCast_add]
 ·intro m;refine qU ?_;have:rs.take vs.length=rs:=by rw[hlen];exact zY
  simp only[zHV,eZ,zS,this]
theorem catP2 (D:Dyn)(n:Nat){H:AH}(hk:H.ok){v:AV}{vs:List AV}{rs:List (Nat×List AV)}(hv:Rw 1 H v vs.length vs)(h:Rws 3 H vs rs)(hl:vs.length<=1000000000)
  {w:AV} (hw:Part 3 65 H w 0 [] (vP rs)) (hd1: ∀B,Blk w B-> ¬Blk v B) (hd2: ∀B,Blk w B-> ∀x∈vs,¬Blk x B) (n':Nat) (hn:vs.length<n'):
  ∃w' H',qT n' (zF9 D n) [w,v, .int .i64 (vs.length:Nat), .int .i64 ((0:Nat):Int)] H=some (.exit 2 [w'],H')/\Stp (Blk w) H H'/\Part 3 65 H' w' (vP rs) (zCW rs) (vP rs)/\ ∀B,Blk w' B->Blk w B:=by
 have hlen:=h.len;obtain⟨m,us,H',k1,w',rfl,k3,k4,k5⟩:=kI (b:=zF9 D n) vs.length (fun i us H'=> ∃w',us=[w',v, .int .i64 (vs.length:Nat), .int .i64 (i:Nat)]/\Stp (Blk w) H H'/\Part 3 65 H' w' (vP (rs.take i)) (zCW (rs.take i)) (vP rs)/\ ∀B,Blk w' B->Blk w B) (fun i us H1 hi ⟨w1,hus,hs,hp,hB⟩=>by
  subst hus;obtain⟨p,x,p1,p2,p3⟩:=(hv.stp hs (fun A hA hh=>hd1 A hh hA)).ld1 hi;obtain⟨r,r1,r2,r3⟩:=h.at p3;have hx:x∈vs:=List.mem_of_getElem? p3;have r2':=r2.stp hs (fun A hA hh=>hd2 A hh x hx hA);have hiI:((i:Nat):Int)< ((vs.length:Nat):Int):=by omega
  have hs3:=cQ rs (i+1);have hst:=fY r1;obtain⟨w2,H2,e2,q2,s2,n2,b2⟩:=hp.app (bytes:=24) hs.ok (by decide) r2'.srcOf r2.1 r3 (by omega);rw[<-hst,<-BG r1]at q2;refine⟨_,H2, ?_,w2,rfl,hs.trans (s2.mono fun A _ hA=>hB A hA),q2,fun B hb=>hB B (b2 B hb)⟩;simp(disch:=omega) only[zF9,eZ,hiI,p1,p2,e2,Int.natCast_add]) n' _ H ⟨w,rfl,Stp.refl hk,hw,fun _ x=>x⟩ hn
 rw[hlen,zY]at k4;exact⟨w',H',k1.trans (qU (by simp only[zF9,eZ,zS])),k3,k4,k5⟩
theorem zGk (D:Dyn)(n:Nat){H:AH}(hk:H.ok){v:AV}{vs:List AV}{rs:List (Nat×List AV)}(hv:Rw 1 H v vs.length vs)(h:Rws 3 H vs rs)(hb:vP rs<=1000000000)(hl:vs.length<=1000000000)(hn:vs.length<n)
  (hv0: ∀B,Blk v B->B<H.next) (hx0: ∀x∈vs,∀B,Blk x B->B<H.next):
  ∃w H',f95 D n [v] H=some (w,H')/\Prs H H'/\Own 3 65 H' w (vP rs) (zCW rs)/\ ∀B,Blk w B->H.next<=B:=by
 obtain⟨w1,H1,e1,p1,q1,f1⟩:=zHO D n (vP rs) hb hk;obtain⟨w2,H2,e2,s2,q2,f2⟩:=catP2 D n p1.ok (hv.prs p1) (h.prs p1) hl q1 (fun B hB hh=>by have:=f1 B hB;have:=hv0 B hh;omega) (fun B hB x hx hh=>by have:=f1 B hB;have:=hx0 x hx B hh;omega) n hn;have l1:=catP1 D n hv h hb hl n hn;refine⟨w2,H2, ?_,p1.fresh s2 f1,q2.own,fun B hB=>f1 B (f2 B hB)⟩;simp only[f95,eZ,hv.lnSl,l1,zN7,e1,e2,zN8]
end Go.Eng.Sh
end
section
namespace Go.Eng
theorem hp:(∀(o:AObj) (mk:Nat->AV) (H:AH) (K:AV->AH->Rs),H.ok->bA (some (o,mk)) H K=K (mk H.next) (H.push o))/\
  (∀(H:AH) (A o:Nat) (x:AObj),A<H.next->ld1 (.ptr A o) (H.push x)=ld1 (.ptr A o) H)/\
  (∀(H:AH) (A o n:Nat) (x:AObj),A<H.next->ldN n (.ptr A o) (H.push x)=ldN n (.ptr A o) H)/\
  (∀(l:List AV) (o n:Nat) (a:AV),o=0->n=l.length->(u5 l o n).map AV.agg=some (.agg l))/\
  (∀(a b c d:AV),u5 [a,b,c,d] 0 4=some [a,b,c,d])/\
  (∀(l:List AV),(some l).map AV.agg=some (.agg l))/\
  (∀(vs:List AV) (i:Nat),qL (.tuple vs) i=vs[i]?):=
 ⟨fun o mk H K h=>uG h o mk K,fun H A o x h=>zEI o x h,fun H A o n x h=>zKN o n x h,fun l o n _ h1 h2=>by subst h1;subst h2;rw[jP _ _ _ (.inr (by omega)),List.drop_zero,zY];rfl,fun _ _ _ _=>rfl,fun _=>rfl,fun vs i=>by simp only[qL,dD]⟩
end Go.Eng
end
section
namespace Go.Nd
def partedN (lt:Str->Str->Bool)(a:Node)(sep:Str)(b:Node):Bool:=
 mayK sep&&(a.leaf==b.leaf)&&(decide (a.keys.length=0)||lt (a.keys.getD (a.keys.length - 1) []) sep)&&(decide (b.keys.length=0)||lt sep (b.keys.getD 0 [])||(a.leaf&&decide (sep=b.keys.getD 0 [])))
end Go.Nd
namespace Go.Eng.Sh
open Go.Nd (Ptr yH cutOk cutA fQ partedN)
theorem zEj (D:Dyn)(n:Nat){H:AH}(hk:H.ok){v w:AV}{a b:Nd.Node}{sep:Str}(h:cK H v a)(h':cK H w b)(hs:small a)(hs':small b):
  ∃H',f114 D n [v,S sep,w] H=some (.bool (partedN ltS a sep b),H')/\Prs H H':=by
 obtain⟨ks,vs,ps,rfl,h1,h2,h3⟩:=h;obtain⟨ks',vs',ps',rfl,k1,k2,k3⟩:=h';have hkl:=Nd.sumL_ge a.keys;have hkl':=Nd.sumL_ge b.keys;obtain⟨s1,s2,s3⟩:=hs;obtain⟨s1',s2',s3'⟩:=hs';have P:Prs H ((H.push (.cells [.bool a.leaf,ks,vs,ps] 111 1 false)).push (.cells [.bool b.leaf,ks',vs',ps'] 111 1 false)):=((Stp.refl hk).push _).push _;have l1:=h1.lnSl;have l2:=k1.lnSl;have q1:=h1.prs P;have q2:=k1.prs P;generalize hH2:(H.push (.cells [.bool a.leaf,ks,vs,ps] 111 1 false)).push (.cells [.bool b.leaf,ks',vs',ps'] 111 1 false)=H2 at P q1 q2;have r1: ∀o,ld1 (.ptr H.next o) H2=[.bool a.leaf,ks,vs,ps][o]? :=fun o=>by rw[<-hH2,zEI _ _ (by rw[AH.push_next];omega),WL]
 have r2: ∀o,ld1 (.ptr (H.push (.cells [.bool a.leaf,ks,vs,ps] 111 1 false)).next o) H2=[.bool b.leaf,ks',vs',ps'][o]? :=fun o=>by rw[<-hH2,WL]
 refine⟨H2, ?_,P⟩;have hne: ∀x y:Bool,(!(x==y))=false->x=y:=fun x y=>by cases x<;>cases y<;>simp
 cases hm:Nd.mayK sep with
 | false=>simp(disch:=first | assumption | omega | (simp only[AH.push_next,AH.put_next];omega) | (repeat(first | assumption | apply AH.ok.push))) only[f114,eZ,hp,hH2,yV,hm,partedN]
 | true=>
  cases hl:(a.leaf==b.leaf)with
  | false=>simp(disch:=first | assumption | omega | (simp only[AH.push_next,AH.put_next];omega) | (repeat(first | assumption | apply AH.ok.push))) only[f114,eZ,hp,hH2,yV,hm,partedN,r1,r2,hl]
  | true=>
   have e:b.leaf=a.leaf:=by revert hl;cases a.leaf<;>cases b.leaf<;>simp
   rw[e]at r2 hH2;simp only[partedN,hm,hl,Bool.true_and];rw[e];clear hl e hne;generalize a.leaf=la at*
   have hll:(la==la)=true:=by simp
   have tail:
     (∃q0,b.keys.length≠0->(∀κ (z:Int),z=((0:Nat):Int)->jB 1 ks' (.int κ z)=some q0)/\Eng.ld1 q0 H2=some (S (b.keys.getD 0 []))):=by
    by_cases h0:b.keys.length=0
    ·exact⟨.nilPtr,fun h=>absurd h0 h⟩
    ·obtain⟨q,i1,i2⟩:=q2.at (i:=0) (by omega);refine⟨q,fun _=>⟨i1, ?_⟩⟩;rw[kW (by omega)];exact i2
   obtain⟨q0,hq0⟩:=tail;by_cases ha:a.keys.length=0
   ·have ga: ¬((0:Nat):Int)< ((a.keys.length:Nat):Int):=by omega
    simp only[ha,decide_true,Bool.true_or,Bool.true_and];by_cases hb:b.keys.length=0
    ·have gb:((b.keys.length:Nat):Int)=((0:Nat):Int):=by omega
     simp only[hb,decide_true,Bool.true_or];simp(disch:=first | assumption | omega | (simp only[AH.push_next,AH.put_next];omega) | (repeat(first | assumption | apply AH.ok.push))) only[f114,eZ,hp,hH2,yV,hm,r1,r2,hll,l1,l2,ga,gb]
    ·have gb: ¬((b.keys.length:Nat):Int)=((0:Nat):Int):=by omega
     obtain⟨i1,i2⟩:=hq0 hb;simp only[hb,decide_false,Bool.false_or]
     cases h1':ltS sep (b.keys.getD 0 [])<;>cases la<;>simp(disch:=first | assumption | omega | (simp only[AH.push_next,AH.put_next];omega) | (repeat(first | assumption | apply AH.ok.push))) only[f114,eZ,hp,hH2,yV,hm,r1,r2,hll,l1,l2,ga,gb,i1,i2,h1']
   ·have ga:((0:Nat):Int)< ((a.keys.length:Nat):Int):=by omega
    obtain⟨q,j1,j2⟩:=q1.at (i:=a.keys.length - 1) (by omega);rw[<-kW (d:=[])]at j2;have hsub:((a.keys.length:Nat):Int) - ((1:Nat):Int)=((a.keys.length - 1:Nat):Int):=by omega
    simp only[ha,decide_false,Bool.false_or]
    cases h0':ltS (a.keys.getD (a.keys.length - 1) []) sep with
    | false=>simp(disch:=first | assumption | omega | (simp only[AH.push_next,AH.put_next];omega) | (repeat(first | assumption | apply AH.ok.push))) only[f114,eZ,hp,hH2,yV,hm,r1,r2,hll,l1,l2,ga,hsub,j1,j2,h0']
    | true=>
     by_cases hb:b.keys.length=0
     ·have gb:((b.keys.length:Nat):Int)=((0:Nat):Int):=by omega
      simp only[hb,decide_true,Bool.true_or];simp(disch:=first | assumption | omega | (simp only[AH.push_next,AH.put_next];omega) | (repeat(first | assumption | apply AH.ok.push))) only[f114,eZ,hp,hH2,yV,hm,r1,r2,hll,l1,l2,ga,gb,hsub,j1,j2,h0']
     ·have gb: ¬((b.keys.length:Nat):Int)=((0:Nat):Int):=by omega
      obtain⟨i1,i2⟩:=hq0 hb;simp only[hb,decide_false,Bool.false_or]
      cases h1':ltS sep (b.keys.getD 0 [])<;>cases la<;>simp(disch:=first | assumption | omega | (simp only[AH.push_next,AH.put_next];omega) | (repeat(first | assumption | apply AH.ok.push))) only[f114,eZ,hp,hH2,yV,hm,r1,r2,hll,l1,l2,ga,gb,hsub,j1,j2,h0',i1,i2,h1']
end Go.Eng.Sh
end
section
namespace Go.Eng
theorem box {H:AH}(hk:H.ok)(o:AObj): ∃H' A,(∀(mk:Nat->AV) (K:AV->AH->Rs),bA (some (o,mk)) H K=K (mk A) H')/\Prs H H'/\H'.h.get A=some o/\H.next<=A/\A<H'.next:=
 ⟨H.push o,H.next,fun mk K=>uG hk o mk K,(Stp.refl hk).push o,AH.push_get_eq _ _,Nat.le_refl _,by rw[AH.push_next];omega⟩
theorem zMi {x y:AV}(e:TypeId)(z:AV)(hx:isCell x=true)(hy:isCell y=true)(hz:isCell z=true):wK e 1 2 [z] [(0,x),(1,y)]=some (.cells [x,y] e 1 false,fun A=> .slice A 0 2 4):=by
 simp only[wK,uN,rep,yM hx,yM hy];rfl
theorem row3 {x y w:AV}(e:TypeId)(z:AV)(hx:isCell x=true)(hy:isCell y=true)(hw:isCell w=true):wK e 1 3 [z] [(0,x),(1,y),(2,w)]=some (.cells [x,y,w] e 1 false,fun A=> .slice A 0 3 6):=by
 simp only[wK,uN,rep,yM hx,yM hy,yM hw];rfl
theorem zLP {x:AV}(e:TypeId)(z:AV)(hx:isCell x=true):wK e 1 1 [z] [(0,x)]=some (.cells [x] e 1 false,fun A=> .slice A 0 1 2):=by
 simp only[wK,uN,rep,yM hx];rfl
theorem Rw.lit {H:AH}{A e:Nat}{l:List AV}{cc:Nat}(hk:H.ok)(h:H.h.get A=some (.cells l e 1 false)):Rw 1 H (.slice A 0 l.length cc) l.length l:=
 ⟨by simp, .inr (.inr ⟨A,0,cc,l,e,1,false,rfl,h,hk.lt h,by simp,by simp⟩)⟩
end Go.Eng
namespace Go.Eng.Sh
open Go.Nd (Ptr yH cutOk cutA fQ partedN bE)
theorem vL {A:Nat}{H:AH}{l:List AV}{e:TypeId}(h:H.h.get A=some (.cells l e 1 false))(hl:l.length=4):ldN 4 (.ptr A 0) H=some (.agg l):=by
 rw[qR h,jP _ _ _ (.inr (by omega)),List.drop_zero,zK (by omega)];rfl
def nd0:Nd.Node:=⟨false,[],[],[]⟩
theorem XQ.zero (H0 H:AH):XQ H0 H (.agg [.bool false, .nilSlice, .nilSlice, .nilSlice]) nd0:=
 ⟨_,_,_,rfl,Own.nil ..,Own.nil ..,Own.nil ..,fun B hB=>by rcases hB with h | h | h<;>exact(Blk.nil.1 h).elim,fun B hB=>(Blk.nil.1 hB).elim,fun B hB=>(Blk.nil.1 hB).elim⟩
def joinOk (a:Nd.Node)(sep:Str)(b:Nd.Node):Bool:=Nd.shaped ltS a&&Nd.shaped ltS b&&partedN ltS a sep b
theorem zIv (D:Dyn)(n:Nat){H:AH}{A cc:Nat}{x y:AV}{l m:List Str}(hk:H.ok)(hg:H.h.get A=some (.cells [x,y] 56 1 false))(h1:Strs H x l)(h2:Strs H y m)(hb:l.length+m.length<=1000000000)(hn:100<=n):
  ∃w H',f81 D n [.slice A 0 2 cc] H=some (w,H')/\Prs H H'/\Own 1 9 H' w (l++m).length ((l++m).map S)/\ ∀B,Blk w B->H.next<=B:=by
 obtain⟨w,H',e,p,o,f⟩:=zGj D n hk (v:= .slice A 0 2 cc) (vs:=[x,y]) (rs:=[(l.length,l.map S),(m.length,m.map S)]) (Rw.lit hk hg) ⟨⟨h1,kT _⟩,⟨h2,kT _⟩,trivial⟩ (by simpa[vP]using hb) (by simp) (by simp;omega)
  (fun B hB=>by rw[Blk.slice.1 hB];exact hk.lt hg) (fun z hz B hB=>by
   simp only[List.mem_cons,List.not_mem_nil,or_false]at hz;rcases hz with rfl | rfl
   ·exact Rw.blk h1 hB
   ·exact Rw.blk h2 hB)
 exact⟨w,H',e,p,by simpa[vP,zCW]using o,f⟩
theorem zNV (D:Dyn)(n:Nat){H:AH}{A cc:Nat}{x y z:AV}{l m k:List Str}(hk:H.ok)(hg:H.h.get A=some (.cells [x,y,z] 56 1 false))(h1:Strs H x l)(h2:Strs H y m)(h3:Strs H z k)(hb:l.length+m.length+k.length<=1000000000)(hn:100<=n):
  ∃w H',f81 D n [.slice A 0 3 cc] H=some (w,H')/\Prs H H'/\Own 1 9 H' w (l++(m++k)).length ((l++(m++k)).map S)/\ ∀B,Blk w B->H.next<=B:=by
 obtain⟨w,H',e,p,o,f⟩:=zGj D n hk (v:= .slice A 0 3 cc) (vs:=[x,y,z]) (rs:=[(l.length,l.map S),(m.length,m.map S),(k.length,k.map S)]) (Rw.lit hk hg) ⟨⟨h1,kT _⟩,⟨h2,kT _⟩,⟨h3,kT _⟩,trivial⟩ (by simp[vP];omega) (by simp) (by simp;omega)
  (fun B hB=>by rw[Blk.slice.1 hB];exact hk.lt hg) (fun z hz B hB=>by
   simp only[List.mem_cons,List.not_mem_nil,or_false]at hz;rcases hz with rfl | rfl | rfl
   ·exact Rw.blk h1 hB
   ·exact Rw.blk h2 hB
   ·exact Rw.blk h3 hB)
 exact⟨w,H',e,p,by simpa[vP,zCW]using o,f⟩
theorem conP2 (D:Dyn)(n:Nat){H:AH}{A cc:Nat}{x y:AV}{l m:List Ptr}(hk:H.ok)(hg:H.h.get A=some (.cells [x,y] 105 1 false))(h1:uO H x l)(h2:uO H y m)(hb:l.length+m.length<=1000000000)(hn:100<=n):
  ∃w H',f95 D n [.slice A 0 2 cc] H=some (w,H')/\Prs H H'/\Own 3 65 H' w (l++m).length ((l++m).flatMap y5)/\ ∀B,Blk w B->H.next<=B:=by
 obtain⟨w,H',e,p,o,f⟩:=zGk D n hk (v:= .slice A 0 2 cc) (vs:=[x,y]) (rs:=[(l.length,l.flatMap y5),(m.length,m.flatMap y5)]) (Rw.lit hk hg) ⟨⟨h1,xM _⟩,⟨h2,xM _⟩,trivial⟩ (by simpa[vP]using hb) (by simp) (by simp;omega)
  (fun B hB=>by rw[Blk.slice.1 hB];exact hk.lt hg) (fun z hz B hB=>by
   simp only[List.mem_cons,List.not_mem_nil,or_false]at hz;rcases hz with rfl | rfl
   ·exact Rw.blk h1 hB
   ·exact Rw.blk h2 hB)
 exact⟨w,H',e,p,by simpa[vP,zCW]using o,f⟩
theorem fJ:jT [(0,1),(1,1),(2,1),(3,1)] [.bool false, .nilSlice, .nilSlice, .nilSlice] []=some (.agg [.bool false, .nilSlice, .nilSlice, .nilSlice]):=rfl
theorem zGs {a b:AV}(x:Bool)(ha:isCell a=true)(hb:isCell b=true):jT [(0,1),(1,1),(2,1),(3,1)] [.bool false, .nilSlice, .nilSlice, .nilSlice] [(0, .bool x),(1,a),(2,b)]=some (.agg [.bool x,a,b, .nilSlice]):=by
 simp only[jT,uN,zHy,yM ha,yM hb];rfl
theorem zLy {a b:AV}(ha:isCell a=true)(hb:isCell b=true):jT [(0,1),(1,1),(2,1),(3,1)] [.bool false, .nilSlice, .nilSlice, .nilSlice] [(1,a),(3,b)]=some (.agg [.bool false,a, .nilSlice,b]):=by
 simp only[jT,uN,zHy,yM ha,yM hb];rfl
theorem zEK (D:Dyn)(n:Nat)(hn:200000000<=n){H:AH}(hk:H.ok){v w:AV}{a b:Nd.Node}{sep:Str}(h:cK H v a)(h':cK H w b)(hs:small a)(hs':small b):
  ∃u H',f93 D n [v,S sep,w] H=some (.tuple [u, .int .i64 ((if joinOk a sep b then 0 else 1:Nat):Int)],H')/\Prs H H'/\XQ H H' u (if joinOk a sep b then bE a sep b else nd0):=by
 have i0:=h;have i0':=h';obtain⟨ks,vs,ps,rfl,h1,h2,h3⟩:=h;obtain⟨la,hla⟩: ∃la,la=a.leaf:=⟨_,rfl⟩;rw[<-hla]at i0⊢;obtain⟨ks',vs',ps',rfl,k1,k2,k3⟩:=h';have hkl:=Nd.sumL_ge a.keys;have hkl':=Nd.sumL_ge b.keys;have hvl:=Nd.sumL_ge a.vals;have hvl':=Nd.sumL_ge b.vals;have s0:=hs;have s0':=hs';obtain⟨s1,s2,s3⟩:=hs;obtain⟨s1',s2',s3'⟩:=hs';obtain⟨H1,A1,b1,p1,g1,m1,n1⟩:=box hk (.cells [.bool la,ks,vs,ps] 111 1 false);obtain⟨H2,A2,b2,p2,g2,m2,n2⟩:=box p1.ok (.cells [.bool b.leaf,ks',vs',ps'] 111 1 false);obtain⟨H3,A3,b3,p3,g3,m3,n3⟩:=box p2.ok (.cells [.bool false, .nilSlice, .nilSlice, .nilSlice] 111 1 false);have P3:Prs H H3:=(p1.trans p2).trans p3;have g13:=p3.get p2.ok (p2.get p1.ok g1);have g23:=p3.get p2.ok g2;obtain⟨H4,e4,p4⟩:=uV D n P3.ok (i0.prs P3) s0 hn;have P4:=P3.trans p4;have g14:=p4.get P3.ok g13;have g24:=p4.get P3.ok g23;have g34:=p4.get P3.ok g3;have fin: ∀ {Hx:AH} {l:List AV},Prs H Hx->Hx.h.get A3=some (.cells [.bool false, .nilSlice, .nilSlice, .nilSlice] 111 1 false)->l.length=4->qP l=true-> ∃Hy,stN 4 (.ptr A3 0) (.agg l) Hx=some (qN,Hy)/\Prs H Hy/\Stp (fun B=>B=A3) Hx Hy/\ldN 4 (.ptr A3 0) Hy=some (.agg l):=fun {Hx l} px hg hl hc=>by
  obtain⟨Hy,e,g,s,_⟩:=qX px.ok hg hl hc;have e':stN 4 (.ptr A3 0) (.agg l) Hx=some (qN,Hy):=e;exact⟨Hy,e',px.fresh s (fun B hB=>by omega),s,by rw[qR g,jP _ _ _ (.inr (by omega)),List.drop_zero,zK (by omega)];rfl⟩
 cases c1:Nd.shaped ltS a with
 | false=>
  obtain⟨Hy,ey,py,_,ly⟩:=fin (l:=[.bool false, .nilSlice, .nilSlice, .nilSlice]) P4 g34 rfl rfl;refine⟨.agg [.bool false, .nilSlice, .nilSlice, .nilSlice],Hy, ?_,py, ?_⟩
  rotate_left
  ·simp only[joinOk,c1,Bool.false_and,Bool.false_eq_true,if_false];exact XQ.zero _ _
  ·simp only[joinOk,c1,Bool.false_and,Bool.false_eq_true,if_false];simp(disch:=omega) only[f93,eZ,b1,b2,b3,qR g13,cT,Option.map_some,e4,c1,fJ,ey,ly]
 | true=>
 obtain⟨H5,e5,p5⟩:=uV D n P4.ok (i0'.prs P4) s0' hn;have P5:=P4.trans p5;have g15:=p5.get P4.ok g14;have g25:=p5.get P4.ok g24;have g35:=p5.get P4.ok g34
 cases c2:Nd.shaped ltS b with
 | false=>
  obtain⟨Hy,ey,py,_,ly⟩:=fin (l:=[.bool false, .nilSlice, .nilSlice, .nilSlice]) P5 g35 rfl rfl;refine⟨.agg [.bool false, .nilSlice, .nilSlice, .nilSlice],Hy, ?_,py, ?_⟩
  rotate_left
  ·simp only[joinOk,c2,Bool.false_and,Bool.and_false,Bool.false_eq_true,if_false];exact XQ.zero _ _
  ·simp only[joinOk,c2,Bool.false_and,Bool.and_false,Bool.false_eq_true,if_false];simp(disch:=omega) only[f93,eZ,b1,b2,b3,qR g13,qR g24,cT,Option.map_some,e4,e5,c1,c2,fJ,ey,ly]
 | true=>
 obtain⟨H6,e6,p6⟩:=zEj D n P5.ok (sep:=sep) (i0.prs P5) (i0'.prs P5) s0 s0';have P6:=P5.trans p6;have g16:=p6.get P5.ok g15;have g26:=p6.get P5.ok g25;have g36:=p6.get P5.ok g35
 cases c3:partedN ltS a sep b with
 | false=>
  obtain⟨Hy,ey,py,_,ly⟩:=fin (l:=[.bool false, .nilSlice, .nilSlice, .nilSlice]) P6 g36 rfl rfl;refine⟨.agg [.bool false, .nilSlice, .nilSlice, .nilSlice],Hy, ?_,py, ?_⟩
  rotate_left
  ·simp only[joinOk,c3,Bool.false_and,Bool.and_false,Bool.false_eq_true,if_false];exact XQ.zero _ _
  ·simp only[joinOk,c3,Bool.false_and,Bool.and_false,Bool.false_eq_true,if_false];simp(disch:=omega) only[f93,eZ,b1,b2,b3,qR g13,qR g24,qR g15,qR g25,cT,Option.map_some,e4,e5,e6,c1,c2,c3,fJ,ey,ly]
 | true=>
 have hj:joinOk a sep b=true:=by simp only[joinOk,c1,c2,c3,Bool.and_self]
 simp only[hj,if_true]
 cases la with
 | true=>
  obtain⟨H7,A7,b7,p7,g7,m7,n7⟩:=box P6.ok (.cells [ks,ks'] 56 1 false);have P7:=P6.trans p7;obtain⟨H8,A8,b8,p8,g8,m8,n8⟩:=box P7.ok (.cells [vs,vs'] 56 1 false);have P8:=P7.trans p8;obtain⟨w9,H9,e9,p9,o9,f9⟩:=zIv D n (cc:=4) P8.ok (p8.get P7.ok g7) (h1.prs P8) (k1.prs P8) (by omega) (by omega);have P9:=P8.trans p9;obtain⟨w10,H10,e10,p10,o10,f10⟩:=zIv D n (cc:=4) P9.ok (p9.get P8.ok g8) (h2.prs P9) (k2.prs P9) (by omega) (by omega);have P10:=P9.trans p10;have up {Hx:AH} {o:AObj} {A:Nat} (g:H6.h.get A=some o) (p:Prs H6 Hx):=p.get P6.ok g;have p69:Prs H6 H9:=(p7.trans p8).trans p9;obtain⟨Hy,ey,py,sy,ly⟩:=fin (l:=[.bool true,w9,w10, .nilSlice]) P10 (up g36 (p69.trans p10)) rfl (by simp only[qP,o9.row.isCell,o10.row.isCell];rfl);have n3':A3<H8.next:=by have:=p4.next;have:=p5.next;have:=p6.next;have:=p7.next;have:=p8.next;omega
  have n9:=p9.next
  refine⟨.agg [.bool true,w9,w10, .nilSlice],Hy, ?_,py, ?_⟩
  rotate_left
  ·have:bE a sep b=⟨true,a.keys++b.keys,a.vals++b.vals,[]⟩:=by simp only[bE,<-hla,if_true]
   rw[this];refine⟨w9,w10, .nilSlice,rfl,(o9.mono p10 (fun _ _ x=>x)).mono sy (fun B hB e=>by have:=f9 B hB;omega),o10.mono sy (fun B hB e=>by have:=f10 B hB;omega),Own.nil ..,fun B hB=> ?_,fun B hB=>⟨fun h=> ?_,fun h=>(Blk.nil.1 h).elim⟩,fun B hB h=>(Blk.nil.1 h).elim⟩
   ·have:=P8.next
    rcases hB with h | h | h
    ·have:=f9 B h;omega
    ·have:=f10 B h;omega
    ·exact(Blk.nil.1 h).elim
   ·have:=f10 B h;have:=Rw.blk o9.row hB;omega
  ·simp(disch:=omega) only[f93,eZ,b1,b2,b3,qR g13,qR g24,qR g15,qR g25,cT,Option.map_some,e4,e5,e6,c1,c2,c3,qM g16,qM g26,qM (up g16 p7),qM (up g26 p7),zMi 56 .nilSlice h1.isCell k1.isCell rfl,zMi 56 .nilSlice h2.isCell k2.isCell rfl,b7,b8,e9,
    j9 (qM (up g16 p69) 2) (yJ h2),j9 (qM (up g26 p69) 2) (yJ k2),e10,zGs _ o9.row.isCell o10.row.isCell,ey,ly]
 | false=>
  obtain⟨H7,A7,b7,p7,g7,m7,n7⟩:=box P6.ok (.cells [S sep] 9 1 false);have P7:=P6.trans p7;obtain⟨H8,A8,b8,p8,g8,m8,n8⟩:=box P7.ok (.cells [ks, .slice A7 0 1 2,ks'] 56 1 false);have P8:=P7.trans p8;obtain⟨H9,A9,b9,p9,g9,m9,n9⟩:=box P8.ok (.cells [ps,ps'] 105 1 false);have P9:=P8.trans p9;have hsep:Strs H9 (.slice A7 0 1 2) [sep]:=Rw.lit (cc:=2) P9.ok (Prs.get (p8.trans p9) P7.ok g7);obtain⟨w10,H10,e10,p10,o10,f10⟩:=zNV D n (cc:=6) P9.ok (p9.get P8.ok g8) (h1.prs P9) hsep (k1.prs P9) (by simp only[zF,zV];omega) (by omega);have P10:=P9.trans p10;obtain⟨w11,H11,e11,p11,o11,f11⟩:=conP2 D n (cc:=4) P10.ok (p10.get P9.ok g9) (h3.prs P10) (k3.prs P10) (by omega) (by omega);have P11:=P10.trans p11;have up {Hx:AH} {o:AObj} {A:Nat} (g:H6.h.get A=some o) (p:Prs H6 Hx):=p.get P6.ok g;have p610:Prs H6 H10:=((p7.trans p8).trans p9).trans p10;obtain⟨Hy,ey,py,sy,ly⟩:=fin (l:=[.bool false,w10, .nilSlice,w11]) P11 (up g36 (p610.trans p11)) rfl (by simp only[qP,o10.row.isCell,o11.row.isCell];rfl);have n3':A3<H9.next:=by have:=p4.next;have:=p5.next;have:=p6.next;have:=p7.next;have:=p8.next;have:=p9.next;omega
  have n10:=p10.next
  refine⟨.agg [.bool false,w10, .nilSlice,w11],Hy, ?_,py, ?_⟩
  rotate_left
  ·have:bE a sep b=⟨false,a.keys++([sep]++b.keys),[],a.kids++b.kids⟩:=by simp only[bE,<-hla,Bool.false_eq_true,if_false]
   rw[this];refine⟨w10, .nilSlice,w11,rfl,(o10.mono p11 (fun _ _ x=>x)).mono sy (fun B hB e=>by have:=f10 B hB;omega),Own.nil ..,o11.mono sy (fun B hB e=>by have:=f11 B hB;omega),fun B hB=> ?_,fun B hB=>⟨fun h=>(Blk.nil.1 h).elim,fun h=> ?_⟩,fun B hB=>(Blk.nil.1 hB).elim⟩
   ·have:=P9.next
    rcases hB with h | h | h
    ·have:=f10 B h;omega
    ·exact(Blk.nil.1 h).elim
    ·have:=f11 B h;omega
   ·have:=f11 B h;have:=Rw.blk o10.row hB;omega
  ·simp(disch:=omega) only[f93,eZ,b1,b2,b3,qR g13,qR g24,qR g15,qR g25,cT,Option.map_some,e4,e5,e6,c1,c2,c3,qM g16,qM g26,qM (up g26 p7),qM (up g16 (p7.trans p8)),qM (up g26 (p7.trans p8)),zLP 9 (.str 0 0) (Z5 sep),b7,
    row3 56 .nilSlice h1.isCell (show isCell (.slice A7 0 1 2)=true from rfl) k1.isCell,zMi 105 .nilSlice h3.isCell k3.isCell rfl,b8,b9,e10,
    j9 (qM (up g16 p610) 3) (yJ h3),j9 (qM (up g26 p610) 3) (yJ k3),e11,zLy o10.row.isCell o11.row.isCell,ey,ly]
end Go.Eng.Sh
end
section
namespace Go.Nd
end Go.Nd
namespace Go.Eng.Sh
open Go.Nd (Ptr yH cutOk cutA fQ)
theorem yC.cells {H:AH}{v:AV}{nd:Nd.Node}(h:yC H v nd): ∃l,v= .agg l/\l.length=4/\qP l=true:=by
 obtain⟨ks,vs,ps,rfl,h1,h2,h3⟩:=h;exact⟨_,rfl,rfl,cI _ _ _ _ h1.row.isCell h2.row.isCell h3.row.isCell⟩
theorem yC.zero (H:AH):yC H (.agg [.bool false, .nilSlice, .nilSlice, .nilSlice]) nd0:=
 ⟨_,_,_,rfl, .inl (Own.nil ..), .inl (Own.nil ..), .inl (Own.nil ..)⟩
theorem wD.zero (N:Nat)(H:AH):wD N H (.agg [.bool false, .nilSlice, .nilSlice, .nilSlice]) nd0:=
 ⟨yC.zero H,fun B hB=>by rcases kD.1 hB with h | h | h<;>exact(Blk.nil.1 h).elim⟩
theorem cutNo (D:Dyn)(n:Nat)(hn:200000000<=n){H:AH}(hk:H.ok){v:AV}{nd:Nd.Node}(h:cK H v nd)(hs:small nd)(hc: ¬(Nd.shaped ltS nd=true/\vH nd)):
  ∃H',f115 D n [v] H=some (.tuple [.agg [.bool false, .nilSlice, .nilSlice, .nilSlice],S [], .agg [.bool false, .nilSlice, .nilSlice, .nilSlice], .int .i64 ((1:Nat):Int)],H')/\Prs H H':=by
 have i0:=h;obtain⟨ks,vs,ps,rfl,h1,h2,h3⟩:=h;obtain⟨la,hla⟩: ∃la,la=nd.leaf:=⟨_,rfl⟩;rw[<-hla]at i0⊢;obtain⟨H1,H2,H3,H4,A1,A2,A4,b1,b2,b3,e4,i3,i4⟩:=zAA D n hn hk hla.symm i0 hs;have o1:=i4.o1;have o2:=i4.o2;have o4:=i4.o4;have l4:=i4.lt;obtain⟨H5,e5,i5,s5⟩:=i4.all2 (l':=[.bool false, .nilSlice, .nilSlice, .nilSlice]) rfl rfl;obtain⟨H6,e6,i6,s6⟩:=i5.all4 (l':=[.bool false, .nilSlice, .nilSlice, .nilSlice]) rfl rfl;have e5':stN 4 (.ptr A2 0) (.agg [.bool false, .nilSlice, .nilSlice, .nilSlice]) H4=some (qN,H5):=e5;have e6':stN 4 (.ptr A4 0) (.agg [.bool false, .nilSlice, .nilSlice, .nilSlice]) H5=some (qN,H6):=e6;have hln:=h1.lnSl;refine⟨H6, ?_,i6.prs⟩;have hS:(AV.str 0 0)=S []:=rfl
 cases c1:Nd.shaped ltS nd with
 | false=>
  simp(maxSteps:=999999)(disch:=omega) only[f115,eZ,b1,b2,b3,qR i3.a1,qR i4.a1,cT,Option.map_some,e4,c1,fJ,e5',e6',qR i6.a2,qR i6.a4,hS]
 | true=>
  have hc: ¬vH nd:=fun hh=>hc ⟨c1,hh⟩
  by_cases t2:nd.keys.length<2
  ·have t2':((nd.keys.length:Nat):Int)< ((2:Nat):Int):=by omega
   simp(maxSteps:=999999)(disch:=omega) only[f115,eZ,b1,b2,b3,qR i3.a1,qR i4.a1,cT,Option.map_some,e4,c1,qM i4.a1,hln,t2',fJ,e5',e6',qR i6.a2,qR i6.a4,hS]
  ·have t2': ¬((nd.keys.length:Nat):Int)< ((2:Nat):Int):=by omega
   have hf:la=false:=by
    cases la with
    | false=>rfl
    | true=>exact absurd ⟨by omega, .inl hla.symm⟩ hc
   have t3:nd.keys.length<3:=by
    rcases Nat.lt_or_ge nd.keys.length 3 with h | h
    ·exact h
    ·exact absurd ⟨by omega, .inr h⟩ hc
   have t3':((nd.keys.length:Nat):Int)< ((3:Nat):Int):=by omega
   subst hf;simp(maxSteps:=999999)(disch:=omega) only[f115,eZ,b1,b2,b3,qR i3.a1,qR i4.a1,cT,Option.map_some,e4,c1,qM i4.a1,hln,t2',t3',fJ,e5',e6',qR i6.a2,qR i6.a4,hS]
theorem zNU (D:Dyn)(n:Nat)(hn:200000000<=n){H:AH}(hk:H.ok){v:AV}{nd:Nd.Node}(h:yC H v nd)(hs:small nd):
  ∃va sep vb e H',f115 D n [v] H=some (.tuple [va,S sep,vb, .int .i64 ((e:Nat):Int)],H')/\Prs H H'/\
   ((e=0/\ ∃k,Nd.shaped ltS nd=true/\cutOk nd k/\hbnd nd k/\sep=nd.keys.getD k []/\wD H.next H' va (cutA nd k)/\wD H.next H' vb (fQ nd k))\/
    (e=1/\sep=[]/\ ¬(Nd.shaped ltS nd=true/\vH nd)/\va= .agg [.bool false, .nilSlice, .nilSlice, .nilSlice]/\vb= .agg [.bool false, .nilSlice, .nilSlice, .nilSlice])):=by
 by_cases hc:Nd.shaped ltS nd=true/\vH nd
 ·cases hl:nd.leaf with
  | true=>
   obtain⟨k,va,vb,H',e,p,ga,gb,ok,kb⟩:=zLt D n hn hk h hs hc.1 hc.2 hl;exact⟨va,_,vb,0,H',e,p, .inl ⟨rfl,k,hc.1,ok,kb,rfl,ga,gb⟩⟩
  | false=>
   obtain⟨k,va,vb,H',e,p,ga,gb,ok,kb⟩:=zIt D n hn hk h hs hc.1 hc.2 hl;exact⟨va,_,vb,0,H',e,p, .inl ⟨rfl,k,hc.1,ok,kb,rfl,ga,gb⟩⟩
 ·obtain⟨H',e,p⟩:=cutNo D n hn hk h.node hs hc;exact⟨_,[],_,1,H',e,p, .inr ⟨rfl,rfl,hc,rfl,rfl⟩⟩
end Go.Eng.Sh
end
section
namespace Go.Nd
open Go.Eng (ltS qY y8 xT kU wY)
abbrev Kvs:=List (Str×Str)
def lookP (k:Str):Kvs->Option Str
 | []=>none
 | (a,b)::l=>if a=k then some b else lookP k l
def putP (k v:Str):Kvs->Kvs
 | []=>[(k,v)]
 | (a,b)::l=>if a=k then(k,v)::l else if ltS a k then(a,b)::putP k v l else(k,v)::(a,b)::l
def delP (k:Str):Kvs->Kvs
 | []=>[]
 | (a,b)::l=>if a=k then l else(a,b)::delP k l
def Srt:Kvs->Prop
 | []=>True
 | (a,_)::l=>(∀p∈l,ltS a p.1=true)/\Srt l
theorem rising_cons {a:Str}{l:List Str} :rising ltS (a::l)=true↔(∀x∈l,ltS a x=true)/\rising ltS l=true:=by
 induction l generalizing a with
 | nil=>simp[rising]
 | cons b l ih=>
  rw[rising,z8];constructor
  ·rintro⟨h1,h2⟩
   refine⟨fun x hx=> ?_,h2⟩;rcases List.mem_cons.1 hx with rfl | hx
   ·exact h1
   ·exact y8 h1 ((ih.1 h2).1 x hx)
  ·rintro⟨h1,h2⟩
   exact⟨h1 b (zB ..),h2⟩
theorem JA: ∀l:Kvs,Srt l↔rising ltS (l.map Prod.fst)=true
 | []=>by simp[Srt,rising]
 | (a,b)::l=>by
  rw[List.map_cons,rising_cons,Srt,JA l];simp only[List.mem_map,forall_exists_index,and_imp];constructor
  ·rintro⟨h1,h2⟩;exact⟨fun x p hp e=>e▸h1 p hp,h2⟩
  ·rintro⟨h1,h2⟩;exact⟨fun p hp=>h1 _ p hp rfl,h2⟩
theorem look_none {k:Str} : ∀ {l:Kvs},(∀p∈l,p.1≠k)->lookP k l=none
 | [],_=>rfl
 | (a,b)::l,h=>by
  rw[lookP,if_neg (h (a,b) (zB ..))];exact look_none fun p hp=>h p (zA _ hp)
theorem mem_put {k v:Str}{p:Str×Str} : ∀ {l:Kvs},p∈putP k v l->p=(k,v)\/p∈l
 | [],h=>by simpa[putP]using h
 | (a,b)::l,h=>by
  simp only[putP]at h;split at h
  ·rcases List.mem_cons.1 h with h | h
   ·exact .inl h
   ·exact .inr (zA _ h)
  ·split at h
   ·rcases List.mem_cons.1 h with h | h
    ·exact .inr (h▸zB ..)
    ·rcases mem_put h with h | h
     ·exact .inl h
     ·exact .inr (zA _ h)
   ·rcases List.mem_cons.1 h with h | h
    ·exact .inl h
    ·exact .inr h
theorem srt_put (k v:Str): ∀ {l:Kvs},Srt l->Srt (putP k v l)
 | [],_=>⟨by simp,trivial⟩
 | (a,b)::l,h=>by
  simp only[putP];split
  ·rename_i e;subst e;exact h
  ·rename_i hak;split
   ·rename_i hlt;refine⟨fun p hp=> ?_,srt_put k v h.2⟩;rcases mem_put hp with rfl | hp
    ·exact hlt
    ·exact h.1 p hp
   ·rename_i hlt;have hka:ltS k a=true:=by
     cases hk:ltS k a with
     | true=>rfl
     | false=>exact absurd (xT (by simpa using hlt) hk) hak
    refine⟨fun p hp=> ?_,h⟩;rcases List.mem_cons.1 hp with rfl | hp
    ·exact hka
    ·exact y8 hka (h.1 p hp)
theorem mem_del {k:Str}{p:Str×Str} : ∀ {l:Kvs},p∈delP k l->p∈l
 | [],h=>h
 | (a,b)::l,h=>by
  simp only[delP]at h;split at h
  ·exact zA _ h
  ·rcases List.mem_cons.1 h with h | h
   ·exact h▸zB ..
   ·exact zA _ (mem_del h)
theorem srt_del (k:Str): ∀ {l:Kvs},Srt l->Srt (delP k l)
 | [],_=>trivial
 | (a,b)::l,h=>by
  simp only[delP];split
  ·exact h.2
  ·exact⟨fun p hp=>h.1 p (mem_del hp),srt_del k h.2⟩
theorem len_put (k v:Str): ∀ {l:Kvs},Srt l->(putP k v l).length=if(lookP k l).isSome then l.length else l.length+1
 | [],_=>rfl
 | (a,b)::l,h=>by
  have ih:=len_put k v h.2;simp only[putP,lookP];split
  ·simp
  ·rename_i hak;split
   ·simp only[zF,ih];split<;>omega
   ·rename_i hlt;have:lookP k l=none:=look_none fun p hp e=>hlt (by
     have:=h.1 p hp;rw[e]at this;exact this)
    rw[this];rfl
def whereN (n:Node)(key:Str):Nat:=(n.keys.filter fun k=>ltS k key||(!n.leaf&&decide (k=key))).length
theorem whereN_le (n:Node)(key:Str):whereN n key<=n.keys.length:=List.length_filter_le _ _
def qQ (l:Kvs):Node:=⟨true,l.map Prod.fst,l.map Prod.snd,[]⟩
theorem where_cons {a b key:Str}{l:Kvs}(h:Srt ((a,b)::l)):whereN (qQ ((a,b)::l)) key=if ltS a key then whereN (qQ l) key+1 else 0:=by
 simp only[whereN,qQ,List.map_cons,Bool.not_true,Bool.false_and,Bool.or_false]
 cases hl:ltS a key with
 | true=>simp[hl]
 | false=>
  rw[List.filter_cons,hl];simp only[Bool.false_eq_true,if_false];rw[List.length_eq_zero_iff,List.filter_eq_nil_iff];intro x hx hlt;obtain⟨p,hp,rfl⟩:=List.mem_map.1 hx;have:=y8 (h.1 p hp) hlt;rw[hl]at this;cases this
def vN (n:Node)(key:Str):Bool:=decide (whereN n key<n.keys.length)&&decide (n.keys.getD (whereN n key) []=key)
theorem here_look (key:Str): ∀ {l:Kvs},Srt l->vN (qQ l) key=(lookP key l).isSome
 | [],_=>by simp[vN,qQ,lookP]
 | (a,b)::l,h=>by
  have ih:=here_look key h.2;have e1:(qQ ((a,b)::l)).keys=a::(qQ l).keys:=rfl;simp only[vN,where_cons h,lookP,e1]at ih⊢
  cases hl:ltS a key with
  | true=>
   have hne:a≠key:=wY hl;simp only[if_true,if_neg hne,zF,Nat.add_lt_add_iff_right,List.getD_cons_succ];exact ih
  | false=>
   simp only[Bool.false_eq_true,if_false,zF,List.getD_cons_zero,Nat.zero_lt_succ,decide_true,Bool.true_and];by_cases e:a=key
   ·simp[e]
   ·rw[if_neg e,look_none]
    ·simp[e]
    ·intro p hp e2;have:=h.1 p hp;rw[e2,hl]at this;cases this
def zHn (n:Node)(key value:Str):Node:=
 if vN n key then⟨true,n.keys,n.vals.set (whereN n key) value,[]⟩
 else⟨true,n.keys.take (whereN n key)++[key]++n.keys.drop (whereN n key),n.vals.take (whereN n key)++[value]++n.vals.drop (whereN n key),[]⟩
def zLV (n:Node)(key:Str):Node:=⟨true,n.keys.take (whereN n key)++n.keys.drop (whereN n key+1),n.vals.take (whereN n key)++n.vals.drop (whereN n key+1),[]⟩
theorem put_leaf (key value:Str): ∀ {l:Kvs},Srt l->zHn (qQ l) key value=qQ (putP key value l)
 | [],_=>by simp[zHn,vN,qQ,putP,whereN]
 | (a,b)::l,h=>by
  have ih:=put_leaf key value h.2;have hh:=here_look key h;have hh':=here_look key h.2;simp only[zHn,hh,hh',where_cons h,lookP,putP]at ih⊢;by_cases e:a=key
  ·subst e;simp[qY,qQ]
  ·rw[if_neg e,if_neg e]
   cases hl:ltS a key with
   | true=>
    simp only[if_true];have g: ∀(q:Kvs),qQ ((a,b)::q)=⟨true,a::(qQ q).keys,b::(qQ q).vals,[]⟩:=fun q=>rfl
    rw[g (putP key value l),<-ih,g l];split
    ·simp
    ·simp
   | false=>
    have:lookP key l=none:=look_none fun p hp e2=>by have:=h.1 p hp;rw[e2,hl]at this;cases this
    rw[this];simp[qQ]
theorem del_leaf (key:Str): ∀ {l:Kvs},Srt l->vN (qQ l) key=true->zLV (qQ l) key=qQ (delP key l)
 | [],_,h=>by simp[vN,qQ]at h
 | (a,b)::l,h,hr=>by
  have hh:=here_look key h;have hh':=here_look key h.2;rw[hh]at hr;simp only[zLV,where_cons h,delP];by_cases e:a=key
  ·subst e;simp[qY,qQ]
  ·simp only[lookP,if_neg e]at hr;rw[if_neg e];have hl:ltS a key=true:=by
    cases hl:ltS a key with
    | true=>rfl
    | false=>
     have:lookP key l=none:=look_none fun p hp e2=>by have:=h.1 p hp;rw[e2,hl]at this;cases this
     rw[this]at hr;cases hr
   have ih:=del_leaf key h.2 (hh'.trans hr);simp only[hl,if_true];have g: ∀(q:Kvs),qQ ((a,b)::q)=⟨true,a::(qQ q).keys,b::(qQ q).vals,[]⟩:=fun q=>rfl
   rw[g (delP key l),<-ih,g l];simp[zLV]
def getN (n:Node)(key:Str):Option Str:=if n.leaf then lookP key (n.keys.zip n.vals)else none
theorem get_leaf (key:Str)(l:Kvs):getN (qQ l) key=lookP key l:=by
 simp only[getN,qQ,if_true];congr 1
 induction l with
 | nil=>rfl
 | cons p l ih=>simp[ih]
theorem leaf_shaped {l:Kvs}(h:Srt l)(h1: ∀p∈l,mayK p.1=true/\p.2.length<=200):shaped ltS (qQ l)=true:=by
 simp only[shaped,qQ,if_true,z8,zE,List.all_eq_true,List.mem_map,forall_exists_index,and_imp,qA,true_and];exact⟨⟨fun x p hp e=>e▸(h1 p hp).1,(JA l).1 h⟩,fun x p hp e=>e▸(h1 p hp).2⟩
end Go.Nd
namespace Go.Eng.Sh
open Go.Nd (Ptr yH cutOk cutA fQ whereN getN lookP)
theorem zAk {f:Str->Bool}(l:List Str){i:Nat}(h:i<l.length):((l.take (i+1)).filter f).length=((l.take i).filter f).length+if f (l.getD i [])then 1 else 0:=by
 rw[zJ h,List.filter_append,zI,kW h];congr 1
 cases hf:f l[i]<;>simp[hf]
theorem fS (D:Dyn)(n:Nat)(hn:200000000<=n){H:AH}(hk:H.ok){v:AV}{nd:Nd.Node}{key:Str}(h:cK H v nd)(hs:small nd):
  ∃H',f62 D n [v,S key] H=some (.int .i64 (whereN nd key:Nat),H')/\Prs H H':=by
 obtain⟨ks,vs,ps,rfl,h1,h2,h3⟩:=h;obtain⟨la,hla⟩: ∃la,la=nd.leaf:=⟨_,rfl⟩;rw[<-hla];have hkl:=Nd.sumL_ge nd.keys;obtain⟨s1,s2,s3⟩:=hs;obtain⟨H1,A1,b1,p1,g1,m1,n1⟩:=box hk (.cells [.bool la,ks,vs,ps] 111 1 false);have r1:=h1.prs p1;have lp:qT n (zAn D n) [S key, .ptr A1 0, .int .i64 ((0:Nat):Int),ks, .int .i64 (nd.keys.length:Nat), .int .i64 ((0:Nat):Int)] H1=some (.exit 0 [.int .i64 (whereN nd key:Nat)],H1):=by
  refine j8 (fun i=>[S key, .ptr A1 0, .int .i64 ((((nd.keys.take i).filter fun k=>ltS k key||(!nd.leaf&&decide (k=key))).length:Nat):Int),ks, .int .i64 (nd.keys.length:Nat), .int .i64 (i:Nat)]) nd.keys.length ?_ ?_ n (by omega)
  ·intro i hi;obtain⟨p,i1,i2⟩:=r1.at hi;rw[<-kW (d:=[])]at i2;have hiI:((i:Nat):Int)< ((nd.keys.length:Nat):Int):=by omega
   rw[zAk nd.keys hi,<-hla];have hle:((nd.keys.take i).filter fun k=>ltS k key||(!la&&decide (k=key))).length<=nd.keys.length:=Nat.le_trans (List.length_filter_le _ _) (by rw[zG];omega);generalize((nd.keys.take i).filter fun k=>ltS k key||(!la&&decide (k=key))).length=c at hle;generalize nd.keys.getD i []=x at i2
   cases hx:ltS x key with
   | true=>simp(disch:=omega) only[zAn,zFp,eZ,hiI,i1,i2,hx,Int.natCast_add]
   | false=>
    cases la with
    | true=>simp(disch:=omega) only[zAn,zFp,eZ,hiI,i1,i2,hx,qM g1,Int.natCast_add,Nat.add_zero]
    | false=>
     by_cases he:x=key
     ·subst he;simp(disch:=omega) only[zAn,zFp,eZ,hiI,i1,i2,hx,qM g1,Int.natCast_add]
     ·simp(disch:=omega) only[zAn,zFp,eZ,hiI,i1,i2,hx,qM g1,he,Int.natCast_add,Nat.add_zero]
  ·intro m;refine qU ?_;rw[zY];simp only[zAn,eZ,zS,whereN]
 refine⟨H1, ?_,p1⟩;simp only[f62,eZ,b1,qM g1,h1.lnSl,lp,zNq]
end Go.Eng.Sh
end
section
namespace Go.Eng
theorem ZD {k e n:Nat}{H:AH}{v:AV}{l:List AV}(h:yN k e H v n l)(hpos:0<k)(h0:0<n)(κ:IntKind):
  ∃r,j0 k v (some (.int κ (n:Nat))) none none H=some r/\Rw k H r 0 []:=by
 have n1:=yQ κ (z:=((n:Nat):Int)) (by omega);simp only[zX]at n1;have hb:Nat.blt 0 k=true:=by rw[zL];exact hpos
 have b1:Nat.ble n n=true:=by rw[zT];exact Nat.le_refl _
 have b2:Nat.blt n n=false:=by rw[Bool.eq_false_iff];intro h;rw[zL]at h;omega
 have b3:Nat.beq n 0=false:=by rw[Bool.eq_false_iff];intro h;have:=Nat.eq_of_beq_eq_true h;omega
 rcases h with⟨h1,⟨rfl,rfl⟩ | ⟨A,rfl,hA,hg⟩⟩ | ⟨h1,A,e',g,rfl,hA,hg⟩
 ·omega
 ·have hroom:yK l true k 0 1 k=n:=by
   simp only[yK,show((1 % 2).beq 0)=false from rfl,cond_false,Nat.beq_refl,show Nat.beq 0 (1 / 2*k)=true from by simp,Bool.and_self,cond_true,y9,h1,Nat.sub_zero];exact Nat.mul_div_cancel _ hpos
  refine⟨.emptySl, ?_,⟨by simp, .inr (.inl ⟨rfl,rfl⟩)⟩⟩;simp only[j0,yR,n1,hg,hb,cond_true];simp[ZS,hroom,b1,b2,b3,show Nat.beq 1 0=false from rfl]
 ·have hroom:yK l g k 0 (2*n) k=n:=by
   simp only[yK,show((2*n) % 2).beq 0=true by rw[Nat.mul_mod_right];rfl,cond_true,Nat.mul_div_cancel_left n (show 0<2 by omega)]
  have b4:Nat.beq (2*n / 2) n=true:=by rw[Nat.mul_div_cancel_left n (show 0<2 by omega),Nat.beq_refl]
  refine⟨.slice A 0 0 (2*(2*n / 2 - n)), ?_,⟨by simp, .inr (.inr ⟨A,0,_,l,e',k,g,rfl,hg,hA,by omega,by simp⟩)⟩⟩;simp only[j0,yR,n1,hg,hb,cond_true];simp[ZS,hroom,b1,b4,yE]
end Go.Eng
namespace Go.Eng.Sh
open Go.Nd (Ptr yH)
theorem UZ (D:Dyn)(n:Nat){H:AH}(hk:H.ok){v:AV}{l:List Str}(h:yN 1 9 H v l.length (l.map S))(hl:l.length<=1000000000):
  ∃v' H',f79 D n [v] H=some (v',H')/\Prs H H'/\yN 1 9 H' v' l.length (l.map S)/\(∀B,Blk v' B->H.next<=B)/\(0<l.length->Own 1 9 H' v' l.length (l.map S)):=by
 have hr:=h.row;by_cases hv:v= .nilSlice
 ·subst hv;have hl0:l=[]:=by
   rcases h with⟨_,⟨_,h0⟩ | ⟨A,h0,_⟩⟩ | ⟨_,A,_,_,h0,_⟩
   ·exact zH h0
   ·cases h0
   ·cases h0
  subst hl0;refine⟨.nilSlice,H, ?_,Stp.refl hk, .inl (Own.nil ..),fun B hB=>(Blk.nil.1 hB).elim,fun h=>absurd h (by simp)⟩;have heq:vI .eql (eqS .nilSlice .nilSlice)=some (.bool true):=rfl;simp only[f79,eZ,heq]
 ·have hne:v≠ .emptySl:=by
   rcases h with⟨_,⟨rfl,_⟩ | ⟨A,rfl,_⟩⟩ | ⟨_,A,_,_,rfl,_⟩<;>simp
  by_cases h0:l.length=0
  ·obtain⟨v',H',e,p,g,f⟩:=dV D n hk hr hv hne hl;exact⟨v',H',e,p,g,f,fun h=>absurd h (by omega)⟩
  ·have p1:Prs H (H.push (.cells [] 9 1 false)):=(Stp.refl hk).push _;have g1:(H.push (.cells [] 9 1 false)).h.get H.next=some (.cells [] 9 1 false):=AH.push_get_eq _ _
   have n1:(H.push (.cells [] 9 1 false)).next=H.next+1:=rfl
   generalize hH1:H.push (.cells [] 9 1 false)=H1 at p1 g1 n1;have e2:=BN (k:=1) (e:=9) (bytes:=16) (n:=0) (m:=l.length) (off:=0) (new:=l.map S) p1.ok g1 (by simp) (by omega) (by omega) (by decide);have e3:apP 9 1 16 (.slice H.next 0 0 0) v H1=some (.slice H1.next 0 (0+l.length) 1,H1.push (.cells (([]:List AV).drop 0 |>.take (0*1) |> (· ++l.map S)) 9 1 true)):=by
    simp only[apP,(hr.prs p1).srcOf,kT,cond_true];exact e2
   have hz1:wK 9 1 0 [.str 0 0] []=some (.cells [] 9 1 false,fun A=> .slice A 0 0 0):=rfl;have heq:vI .eql (eqS v .nilSlice)=some (.bool false):=by
    rcases h with⟨_,⟨rfl,_⟩ | ⟨A,rfl,_⟩⟩ | ⟨_,A,_,_,rfl,_⟩
    ·exact absurd rfl hv
    ·rfl
    ·rfl
   simp only[List.drop_nil,List.take_nil,List.nil_append,Nat.zero_add]at e3;have hO:Own 1 9 (H1.push (.cells (l.map S) 9 1 true)) (.slice H1.next 0 l.length 1) l.length (l.map S):=⟨by simp, .inr ⟨_,rfl,Nat.lt_succ_self _,AH.push_get_eq _ _⟩⟩
   refine⟨.slice H1.next 0 l.length 1,H1.push (.cells (l.map S) 9 1 true), ?_,p1.push _, .inl hO,fun B hB=>by rw[Blk.slice.1 hB];omega,fun _=>hO⟩
   simp only[f79,eZ,heq,hz1,uG hk,hH1,e3]
theorem UC (D:Dyn)(n:Nat){H:AH}(hk:H.ok){v:AV}{l:List Str}{i B:Nat}{x:Str}(h:yN 1 9 H v l.length (l.map S))(ho:0<l.length->Own 1 9 H v l.length (l.map S))(hi:i<=l.length)(hl:l.length<=200000000)(hB:H.h.get B=some (.cells [S x] 9 1 false)):
  ∃v' H',m80 D n [v, .int .i64 (i:Nat), .slice B 0 1 2] H=some (v',H')/\Stp (Blk v) H H'/\yN 1 9 H' v' (l.take i++[x]++l.drop i).length ((l.take i++[x]++l.drop i).map S)/\ ∀C,Blk v' C->Blk v C\/H.next<=C:=by
 have hx:Strs H (.slice B 0 1 2) [x]:=Rw.lit (cc:=2) hk hB;have l1:lnSl (.slice B 0 1 2)=some (.int .i64 ((1:Nat):Int)):=rfl;have t10: ¬((1:Nat):Int)=((0:Nat):Int):=by omega
 by_cases hil:i=l.length
 ·subst hil;have hs: ∃r,j0 1 v (some (.int .i64 (l.length:Nat))) none none H=some r:=by
   by_cases h0:0<l.length
   ·obtain⟨r,e,_⟩:=ZD h (by decide) h0 .i64;exact⟨r,e⟩
   ·have hz:l.length=0:=by omega
    rw[hz];rcases h with⟨_,⟨rfl,_⟩ | ⟨A,rfl,_,hg⟩⟩ | ⟨_,A,e',g,rfl,_,hg⟩
    ·exact⟨.nilSlice,rfl⟩
    ·rw[hz];have:l=[]:=zH hz;subst this;exact⟨.slice A 0 0 1,by simp[j0,yR,yQ,hg,ZS,yE,yK,show Nat.blt 0 1=true from rfl,show Nat.ble 0 0=true from rfl,show Nat.beq 1 0=false from rfl,show Nat.beq 0 0=true from rfl,aC,show Nat.beq 1 1=true from rfl,cL,bne]⟩
    ·rw[hz];have:l=[]:=zH hz;subst this;exact⟨.slice A 0 0 0,by simp[j0,yR,yQ,hg,ZS,yE,yK,show Nat.blt 0 1=true from rfl,show Nat.ble 0 0=true from rfl,show Nat.beq 0 0=true from rfl,aC]⟩
  obtain⟨r,hr⟩:=hs;obtain⟨v',H',e2,w2,s2,f2⟩:=h.app (bytes:=16) hk (by decide) hx.srcOf (by simp) (kT _) (by simp;omega) (by decide);refine⟨v',H', ?_,s2,by simpa using w2,f2⟩;have:f80 D n [v, .int .i64 (l.length:Nat), .slice B 0 1 2] H=some (v',H'):=by
   simp only[f80,eZ,hr,l1,t10,h.row.lnSl,e2]
  show zKW (f80 D n) _ H=_;simp only[zKW,this]
 ·have hlt:i<l.length:=by omega
  have hO:=ho (by omega);obtain⟨_,⟨_,h0⟩ | ⟨A,rfl,hA,hg⟩⟩:=id hO
  ·omega
  ·obtain⟨r,hr,_⟩:=slSl_lo h (by decide) hlt .i64;have hil': ¬((i:Nat):Int)=((l.length:Nat):Int):=by omega
   have hcap:zD7 X 56 (.slice A 0 l.length 1)=none:=rfl;have hno:f80 D n [.slice A 0 l.length 1, .int .i64 (i:Nat), .slice B 0 1 2] H=none:=by
    simp(disch:=omega) only[f80,eZ,hr,l1,t10,h.row.lnSl,hil',hcap];rfl
   have b1:Nat.blt i l.length=true:=by rw[zL];exact hlt
   have b2:Nat.ble ((l.length+1)*16) 140737488355328=true:=by rw[zT];omega
   have hpd:(H.put A .dead).ok:=hk.put hA _;refine⟨.slice (H.put A .dead).next 0 (l.length+1) 1,(H.put A .dead).push (.cells ((l.map S).take i++[S x]++(l.map S).drop i) 9 1 true), ?_,((Stp.refl hk).put hA _ (.inr (Blk.slice.2 rfl))).push _, ?_,fun C hC=> .inr (by rw[Blk.slice.1 hC];exact Nat.le_refl _)⟩
   ·show zKW (f80 D n) _ H=_;simp only[zKW,hno];show zLS 9 [.slice A 0 l.length 1, .int .i64 (.ofNat i), .slice B 0 1 2] H=_;simp only[zLS,hg,hB,b1,b2,kT,y9,qA,Nat.beq_refl,show Nat.blt 0 1=true from rfl,show Nat.beq 1 1=true from rfl,show Nat.beq 0 0=true from rfl,show Nat.beq 9 9=true from rfl,Bool.and_self,Bool.not_false,cond_true,u5,takeN,qP,Z5,jW,cJ,QM hpd,yE]
   ·have hlen:(l.take i++[x]++l.drop i).length=l.length+1:=by simp;omega
    have hmap:(l.take i++[x]++l.drop i).map S=(l.map S).take i++[S x]++(l.map S).drop i:=by simp
    rw[hlen,hmap];exact .inl ⟨by simp;omega, .inr ⟨_,rfl,Nat.lt_succ_self _,AH.push_get_eq _ _⟩⟩
end Go.Eng.Sh
end
section
namespace Go.Eng
theorem Own.set1 {e:Nat}{H:AH}{v:AV}{l:List Str}(hk:H.ok)(h:Own 1 e H v l.length (l.map S)){i:Nat}(hi:i<l.length)(x:Str):
  ∃p H',(∀κ (z:Int),z=(i:Int)->jB 1 v (.int κ z)=some p)/\stN 1 p (S x) H=some (qN,H')/\Own 1 e H' v (l.set i x).length ((l.set i x).map S)/\Stp (Blk v) H H':=by
 obtain⟨h0,⟨_,h1⟩ | ⟨A,rfl,hA,hg⟩⟩:=h
 ·omega
 ·have hb:Nat.blt i l.length=true:=by rw[zL];exact hi
  refine⟨.ptr A (0+i*1),_,fun κ z hz=> ?_,Q7 hg (by decide) (Z5 x) (by simpa using hi),⟨by simp, .inr ⟨A,by simp,hA,by rw[AH.put_get,if_pos rfl];simp[List.map_set]⟩⟩,(Stp.refl hk).put hA _ (.inr (Blk.slice.2 rfl))⟩;subst hz;simp only[jB,yQ κ (show(0:Int)<=(i:Int)by omega),zX,hb,cond_true,yE]
end Go.Eng
namespace Go.Eng.Sh
open Go.Nd (Ptr yH whereN vN zHn)
def zCy (nd:Nd.Node)(key value:Str):Bool:=Nd.shaped ltS nd&&nd.leaf&&Nd.mayK key&&decide (value.length<=200)
theorem zHm (D:Dyn)(n:Nat)(hn:200000000<=n){H:AH}(hk:H.ok){v:AV}{nd:Nd.Node}{key value:Str}(h:yC H v nd)(hs:small nd):
  ∃u H',f54 D n [v,S key,S value] H=some (.tuple [u, .int .i64 ((if zCy nd key value then 0 else 1:Nat):Int)],H')/\Prs H H'/\wD H.next H' u (if zCy nd key value then zHn nd key value else nd0):=by
 have i0:=h.node;obtain⟨ks,vs,ps,rfl,h1,h2,h3⟩:=h;have hkl:=Nd.sumL_ge nd.keys;have hvl:=Nd.sumL_ge nd.vals;have s0:=hs;obtain⟨s1,s2,s3⟩:=hs;obtain⟨la,hla⟩: ∃la,la=nd.leaf:=⟨_,rfl⟩;obtain⟨po,hpo⟩: ∃po,po=zCy nd key value:=⟨_,rfl⟩;rw[<-hpo,<-hla];rw[<-hla]at i0;simp only[zCy,<-hla]at hpo;obtain⟨H1,A1,b1,p1,g1,m1,n1⟩:=box hk (.cells [.bool la,ks,vs,ps] 111 1 false);obtain⟨H2,A2,b2,p2,g2,m2,n2⟩:=box p1.ok (.cells [.bool false, .nilSlice, .nilSlice, .nilSlice] 111 1 false);have P2:Prs H H2:=p1.trans p2;have g12:=p2.get p1.ok g1;obtain⟨H4,e4,p4⟩:=uV D n P2.ok (i0.prs P2) s0 hn;have P4:=P2.trans p4;have g14:=p4.get P2.ok g12;have g24:=p4.get P2.ok g2;obtain⟨Hr,er,gr,sr,nr⟩:=qX P4.ok g24 (l':=[.bool false, .nilSlice, .nilSlice, .nilSlice]) rfl rfl;have er':stN 4 (.ptr A2 0) (.agg [.bool false, .nilSlice, .nilSlice, .nilSlice]) H4=some (qN,Hr):=er;have Pr:Prs H Hr:=P4.fresh sr (fun B hB=>by omega);have lr:=vL gr rfl
 cases c1:Nd.shaped ltS nd with
 | false=>
  simp only[c1,Bool.false_and,Bool.and_false]at hpo;subst hpo;refine⟨.agg [.bool false, .nilSlice, .nilSlice, .nilSlice],Hr, ?_,Pr,wD.zero _ _⟩;simp only[Bool.false_eq_true,if_false];simp(maxSteps:=999999)(disch:=omega) only[f54,eZ,b1,b2,qR g12,cT,Option.map_some,e4,c1,fJ,er',lr]
 | true=>
 cases la with
 | false=>
  simp only[Bool.false_and,Bool.and_false]at hpo;subst hpo;refine⟨.agg [.bool false, .nilSlice, .nilSlice, .nilSlice],Hr, ?_,Pr,wD.zero _ _⟩;simp only[Bool.false_eq_true,if_false];simp(maxSteps:=999999)(disch:=omega) only[f54,eZ,b1,b2,qR g12,cT,Option.map_some,e4,c1,qM g14,fJ,er',lr]
 | true=>
 cases c2:Nd.mayK key with
 | false=>
  simp only[c2,Bool.false_and,Bool.and_false]at hpo;subst hpo;refine⟨.agg [.bool false, .nilSlice, .nilSlice, .nilSlice],Hr, ?_,Pr,wD.zero _ _⟩;simp only[Bool.false_eq_true,if_false];simp(maxSteps:=999999)(disch:=omega) only[f54,eZ,b1,b2,qR g12,cT,Option.map_some,e4,c1,qM g14,yV,c2,fJ,er',lr]
 | true=>
 by_cases c3:value.length<=200
 case neg=>
  have c3':((200:Nat):Int)< ((value.length:Nat):Int):=by omega
  simp only[c3,decide_false,Bool.and_false]at hpo;subst hpo;refine⟨.agg [.bool false, .nilSlice, .nilSlice, .nilSlice],Hr, ?_,Pr,wD.zero _ _⟩
  ·simp only[Bool.false_eq_true,if_false];simp(maxSteps:=999999)(disch:=omega) only[f54,eZ,b1,b2,qR g12,cT,Option.map_some,e4,c1,qM g14,yV,c2,c3',fJ,er',lr]
 case pos=>
 have c3': ¬((200:Nat):Int)< ((value.length:Nat):Int):=by omega
 simp only[c1,c2,c3,decide_true,Bool.and_self]at hpo;subst hpo;simp only[if_true];have hvk:nd.vals.length=nd.keys.length:=by
  simp only[Nd.shaped,<-hla,if_true,z8,zE]at c1;exact c1.2.1.1
 obtain⟨H5,A3,b5,p5,g5,m5,n5⟩:=box P4.ok (.cells [.bool false, .nilSlice, .nilSlice, .nilSlice] 111 1 false);have P5:=P4.trans p5;have up1 {Hx:AH} (p:Prs H4 Hx):=Prs.get p P4.ok g14;have up2 {Hx:AH} (p:Prs H4 Hx):=Prs.get p P4.ok g24;have q1 {Hx:AH} (p:Prs H Hx):yN 1 9 Hx ks nd.keys.length (nd.keys.map S):=h1.mono p (fun _ _ x=>x);have q2 {Hx:AH} (p:Prs H Hx):yN 1 9 Hx vs nd.vals.length (nd.vals.map S):=h2.mono p (fun _ _ x=>x);obtain⟨w1,H6,e6,p6,o6,f6,t6⟩:=UZ D n P5.ok (q1 P5) (by omega);have P6:=P5.trans p6;obtain⟨w2,H7,e7,p7,o7,f7,t7⟩:=UZ D n P6.ok (q2 P6) (by omega);have P7:=P6.trans p7;obtain⟨H8,e8,g8,s8,n8⟩:=qX P7.ok (Prs.get (p6.trans p7) P5.ok g5) (l':=[.bool true,w1,w2, .nilSlice]) rfl (by simp only[qP,o6.row.isCell,o7.row.isCell];rfl);have e8':stN 4 (.ptr A3 0) (.agg [.bool true,w1,w2, .nilSlice]) H7=some (qN,H8):=e8;have N6:=p6.next
 have N7:=p7.next
 have p47:Prs H4 H7:=(p5.trans p6).trans p7;have p48:Prs H4 H8:=p47.fresh s8 (fun B hB=>by omega);have P8:=P4.trans p48;have k1:yN 1 9 H8 w1 nd.keys.length (nd.keys.map S):=(o6.mono p7 (fun _ _ x=>x)).mono s8 (fun B hB e=>by have:=f6 B hB;omega);have k2:yN 1 9 H8 w2 nd.vals.length (nd.vals.map S):=o7.mono s8 (fun B hB e=>by have:=f7 B hB;omega);have b1k: ∀B,Blk w1 B->A3<B/\B<H6.next:=fun B hB=>⟨by have:=f6 B hB;omega,o6.lt hB⟩
 have b2k: ∀B,Blk w2 B->H6.next<=B/\B<H8.next:=fun B hB=>⟨f7 B hB,k2.lt hB⟩
 obtain⟨H9,e9,p9⟩:=fS D n hn P8.ok (key:=key) (i0.prs P8) s0;have P9:=P8.trans p9;have p49:Prs H4 H9:=p48.trans p9;have g39:=p9.get P8.ok g8;have hle:=Nd.whereN_le nd key;have hln:=h1.row.lnSl;have N9:=p9.next
 have N5:=p5.next
 have N4:=p4.next
 have fin: ∀ {Hx:AH} {l:List AV},Prs H Hx->Hx.h.get A2=some (.cells [.bool false, .nilSlice, .nilSlice, .nilSlice] 111 1 false)->l.length=4->qP l=true-> ∃Hy,stN 4 (.ptr A2 0) (.agg l) Hx=some (qN,Hy)/\Prs H Hy/\Stp (fun B=>B=A2) Hx Hy/\ldN 4 (.ptr A2 0) Hy=some (.agg l):=fun {Hx l} px hg hl hc=>by
  obtain⟨Hy,e,g,s,_⟩:=qX px.ok hg hl hc;have e':stN 4 (.ptr A2 0) (.agg l) Hx=some (qN,Hy):=e;exact⟨Hy,e',px.fresh s (fun B hB=>by omega),s,vL g hl⟩
 obtain⟨H10,B1,b10,p10,g10,m10,n10⟩:=box P9.ok (.cells [S key] 9 1 false);have Q10:Prs H4 H10:=p49.trans p10;have ow1:0<nd.keys.length->Own 1 9 H10 w1 nd.keys.length (nd.keys.map S):=fun h=>(((t6 h).mono p7 (fun _ _ x=>x)).mono s8 (fun B hB e=>by have:=f6 B hB;omega)).mono (p9.trans p10) (fun _ _ x=>x)
 obtain⟨w1',H11,e11,s11,o11,f11⟩:=UC D n p10.ok (k1.mono (p9.trans p10) (fun _ _ x=>x)) ow1 hle (by omega) (x:=key) g10;have g3a:H11.h.get A3=some (.cells [.bool true,w1,w2, .nilSlice] 111 1 false):=by rw[s11.keep _ (by have:=p10.next;omega) (fun hB=>by have:=b1k _ hB;omega)];exact p10.get P9.ok g39
 have Q11:Prs H4 H11:=Q10.fresh s11 (fun B hB=>by have:=b1k B hB;omega);obtain⟨H12,e12,g12',s12,n12⟩:=Q6 Q11.ok g3a (o:=1) (x:=w1') o11.row.isCell (by simp);have g12':H12.h.get A3=some (.cells [.bool true,w1',w2, .nilSlice] 111 1 false):=g12';have Q12:Prs H4 H12:=Q11.fresh s12 (fun B hB=>by omega);obtain⟨H13,B2,b13,p13,g13,m13,n13⟩:=box Q12.ok (.cells [S value] 9 1 false);have Q13:Prs H4 H13:=Q12.trans p13;have d12: ∀B,Blk w2 B-> ¬Blk w1 B:=fun B hB hB'=>by have:=b1k B hB';have:=b2k B hB;omega
 have kw2:yN 1 9 H13 w2 nd.vals.length (nd.vals.map S):=(((k2.mono (p9.trans p10) (fun _ _ x=>x)).mono s11 d12).mono s12 (fun B hB e=>by have:=b2k B hB;omega)).mono p13 (fun _ _ x=>x);have ow2:0<nd.vals.length->Own 1 9 H13 w2 nd.vals.length (nd.vals.map S):=fun h=>(((((t7 h).mono s8 (fun B hB e=>by have:=f7 B hB;omega)).mono (p9.trans p10) (fun _ _ x=>x)).mono s11 d12).mono s12 (fun B hB e=>by have:=b2k B hB;omega)).mono p13 (fun _ _ x=>x)
 obtain⟨w2',H14,e14,s14,o14,f14⟩:=UC D n p13.ok kw2 ow2 (i:=whereN nd key) (by omega) (by omega) (x:=value) g13;have N10:=p10.next
 have N11:=s11.next
 have N12:=s12.next
 have N13:=p13.next
 have g3b:H14.h.get A3=some (.cells [.bool true,w1',w2, .nilSlice] 111 1 false):=by rw[s14.keep _ (by omega) (fun hB=>by have:=b2k _ hB;omega)];exact p13.get Q12.ok g12'
 have Q14:Prs H4 H14:=Q13.fresh s14 (fun B hB=>by have:=b2k B hB;omega);obtain⟨H15,e15,g15,s15,n15⟩:=Q6 Q14.ok g3b (o:=2) (x:=w2') o14.row.isCell (by simp);have g15:H15.h.get A3=some (.cells [.bool true,w1',w2', .nilSlice] 111 1 false):=g15;have Q15:Prs H4 H15:=Q14.fresh s15 (fun B hB=>by omega);have c15:qP [.bool true,w1',w2', .nilSlice]=true:=by simp only[qP,o11.row.isCell,o14.row.isCell];rfl
 obtain⟨Hz,ez,Pz,sz,lz⟩:=fin (l:=[.bool true,w1',w2', .nilSlice]) (P4.trans Q15) (up2 Q15) rfl c15;have bw1: ∀B,Blk w1' B->A3<B/\(B<H6.next\/H10.next<=B):=fun B hB=>by
  rcases f11 B hB with h | h
  ·have:=b1k B h;omega
  ·omega
 have bw2: ∀B,Blk w2' B->A3<B:=fun B hB=>by
  rcases f14 B hB with h | h
  ·have:=b2k B h;omega
  ·omega
 have NN0:=P4.next
 have rz:wD H.next Hz (.agg [.bool true,w1',w2', .nilSlice]) ⟨true,nd.keys.take (whereN nd key)++[key]++nd.keys.drop (whereN nd key),nd.vals.take (whereN nd key)++[value]++nd.vals.drop (whereN nd key),[]⟩:=
  ⟨⟨w1',w2', .nilSlice,rfl,((((o11.mono s12 (fun B hB e=>by have:=bw1 B hB;omega)).mono p13 (fun _ _ x=>x)).mono s14 (fun B hB hB'=>by have:=bw1 B hB;have:=b2k B hB';omega)).mono s15 (fun B hB e=>by have:=bw1 B hB;omega)).mono sz (fun B hB e=>by have:=bw1 B hB;omega),
   (o14.mono s15 (fun B hB e=>by have:=bw2 B hB;omega)).mono sz (fun B hB e=>by have:=bw2 B hB;omega), .inl (Own.nil ..)⟩,fun B hB=>by
     rcases kD.1 hB with h | h | h
     ·have:=bw1 B h;omega
     ·have:=bw2 B h;omega
     ·exact(Blk.nil.1 h).elim⟩
 by_cases hlt:whereN nd key<nd.keys.length
 ·obtain⟨q,j1,j2⟩:=(q1 P9).row |> (fun(r:Strs H9 ks nd.keys)=>r.at hlt);rw[<-kW (d:=[])]at j2;have hltI:((whereN nd key:Nat):Int)< ((nd.keys.length:Nat):Int):=by omega
  by_cases heq:nd.keys.getD (whereN nd key) []=key
  ·have hh:vN nd key=true:=by simp only[vN,heq,decide_true,Bool.and_true,zE];exact hlt
   rw[heq]at j2;have t7':=(t7 (by omega)).mono s8 (fun B hB e=>by have:=f7 B hB;omega);obtain⟨p,H10,i1,i2,i3,i4⟩:=Own.set1 P9.ok (t7'.mono p9 (fun _ _ x=>x)) (i:=whereN nd key) (by omega) value;have P10:Prs H H10:=P9.fresh i4 (fun B hB=>by have:=b2k B hB;have:=P5.next;omega)
   have g3':H10.h.get A3=some (.cells [.bool true,w1,w2, .nilSlice] 111 1 false):=by rw[i4.keep _ (by omega) (fun hB=>by have:=b2k _ hB;omega)];exact g39
   have g2':H10.h.get A2=some (.cells [.bool false, .nilSlice, .nilSlice, .nilSlice] 111 1 false):=by rw[i4.keep _ (by omega) (fun hB=>by have:=b2k _ hB;omega)];exact up2 p49
   obtain⟨Hy,ey,Py,sy,ly⟩:=fin (l:=[.bool true,w1,w2, .nilSlice]) P10 g2' rfl (by simp only[qP,o6.row.isCell,o7.row.isCell];rfl);refine⟨.agg [.bool true,w1,w2, .nilSlice],Hy, ?_,Py, ?_⟩
   ·simp(maxSteps:=999999)(disch:=omega) only[f54,eZ,b1,b2,qR g12,cT,Option.map_some,e4,c1,qM g14,yV,c2,c3',b5,e6,j9 (qM (up1 (p5.trans p6)) 2) (yJ h2.row),e7,zGs _ o6.row.isCell o7.row.isCell,e8',qR (up1 p48),e9,qM (up1 p49),hln,hltI,j1,j2,qM g39,i1,i2,vL g3' rfl,ey,ly]
   ·have:zHn nd key value=⟨true,nd.keys,nd.vals.set (whereN nd key) value,[]⟩:=by simp only[zHn,hh,if_true]
    rw[this];have NN:=P4.next
    refine⟨⟨w1,w2, .nilSlice,rfl, ?_, ?_, .inl (Own.nil ..)⟩,fun B hB=>by
     rcases kD.1 hB with h | h | h
     ·have:=b1k B h;omega
     ·have:=b2k B h;omega
     ·exact(Blk.nil.1 h).elim⟩
    ·exact((k1.mono p9 (fun _ _ x=>x)).mono i4 (fun B hB hB'=>by have:=b1k B hB;have:=b2k B hB';omega)).mono sy (fun B hB e=>by have:=b1k B hB;omega)
    ·exact .inl (i3.mono sy (fun B hB e=>by have:=b2k B hB;omega))
  ·have hh:vN nd key=false:=by simp only[vN,heq,decide_false,Bool.and_false]
   refine⟨.agg [.bool true,w1',w2', .nilSlice],Hz, ?_,Pz, ?_⟩
   ·simp(maxSteps:=999999)(disch:=omega) only[f54,eZ,b1,b2,qR g12,cT,Option.map_some,e4,c1,qM g14,yV,c2,c3',b5,e6,j9 (qM (up1 (p5.trans p6)) 2) (yJ h2.row),e7,zGs _ o6.row.isCell o7.row.isCell,e8',qR (up1 p48),e9,qM (up1 p49),hln,hltI,j1,j2,heq,qM g39,zLP 9 (.str 0 0) (Z5 key),b10,e11,e12,qM g12',zLP 9 (.str 0 0) (Z5 value),b13,e14,e15,vL g15 rfl,ez,lz]
   ·simp only[zHn,hh,Bool.false_eq_true,if_false];exact rz
 ·have hh:vN nd key=false:=by simp only[vN,hlt,decide_false,Bool.false_and]
  have hltI: ¬((whereN nd key:Nat):Int)< ((nd.keys.length:Nat):Int):=by omega
  refine⟨.agg [.bool true,w1',w2', .nilSlice],Hz, ?_,Pz, ?_⟩
  ·simp(maxSteps:=999999)(disch:=omega) only[f54,eZ,b1,b2,qR g12,cT,Option.map_some,e4,c1,qM g14,yV,c2,c3',b5,e6,j9 (qM (up1 (p5.trans p6)) 2) (yJ h2.row),e7,zGs _ o6.row.isCell o7.row.isCell,e8',qR (up1 p48),e9,qM (up1 p49),hln,hltI,qM g39,zLP 9 (.str 0 0) (Z5 key),b10,e11,e12,qM g12',zLP 9 (.str 0 0) (Z5 value),b13,e14,e15,vL g15 rfl,ez,lz]
  ·simp only[zHn,hh,Bool.false_eq_true,if_false];exact rz
open Go.Nd (zLV)
theorem hi1 {H:AH}{v:AV}{l:List Str}(h:yN 1 9 H v l.length (l.map S)){i:Nat}(hi:i<=l.length):
  ∃r,j0 1 v none (some (.int .i64 (i:Nat))) (some (.int .i64 (i:Nat))) H=some r/\Strs H r (l.take i):=by
 obtain⟨r,e1,w,_⟩:=KU h (by decide) hi .i64 .i64;rw[map_take]at w;have hlen:(l.take i).length=i:=by rw[zG];omega
 exact⟨r,e1,by rw[Strs,hlen];exact w⟩
theorem lo1 {H:AH}{v:AV}{l:List Str}(h:yN 1 9 H v l.length (l.map S)){i:Nat}(hi:i<=l.length)(h0:0<l.length):
  ∃r,j0 1 v (some (.int .i64 (i:Nat))) none none H=some r/\Strs H r (l.drop i):=by
 by_cases hlt:i<l.length
 ·obtain⟨r,e1,w,_⟩:=slSl_lo h (by decide) hlt .i64;rw[map_drop]at w;have hlen:(l.drop i).length=l.length - i:=by rw[zO]
  exact⟨r,e1,by rw[Strs,hlen];exact w⟩
 ·obtain rfl:i=l.length:=by omega
  obtain⟨r,e1,w⟩:=ZD h (by decide) h0 .i64;exact⟨r,e1,by rw[List.drop_length];exact w⟩
def zLW (nd:Nd.Node)(key:Str):Nat:=if Nd.shaped ltS nd&&nd.leaf then(if vN nd key then 0 else 5)else 1
theorem zIp (D:Dyn)(n:Nat)(hn:200000000<=n){H:AH}(hk:H.ok){v:AV}{nd:Nd.Node}{key:Str}(h:yC H v nd)(hs:small nd):
  ∃u H',f57 D n [v,S key] H=some (.tuple [u, .int .i64 ((zLW nd key:Nat):Int)],H')/\Prs H H'/\wD H.next H' u (if zLW nd key=0 then zLV nd key else nd0):=by
 have i0:=h.node;obtain⟨ks,vs,ps,rfl,h1,h2,h3⟩:=h;have hkl:=Nd.sumL_ge nd.keys;have hvl:=Nd.sumL_ge nd.vals;have s0:=hs;obtain⟨s1,s2,s3⟩:=hs;obtain⟨la,hla⟩: ∃la,la=nd.leaf:=⟨_,rfl⟩;obtain⟨po,hpo⟩: ∃po,po=zLW nd key:=⟨_,rfl⟩;rw[<-hpo,<-hla];rw[<-hla]at i0;simp only[zLW,<-hla]at hpo;obtain⟨H1,A1,b1,p1,g1,m1,n1⟩:=box hk (.cells [.bool la,ks,vs,ps] 111 1 false);obtain⟨H2,A2,b2,p2,g2,m2,n2⟩:=box p1.ok (.cells [.bool false, .nilSlice, .nilSlice, .nilSlice] 111 1 false);have P2:Prs H H2:=p1.trans p2;have g12:=p2.get p1.ok g1;obtain⟨H4,e4,p4⟩:=uV D n P2.ok (i0.prs P2) s0 hn;have P4:=P2.trans p4;have g14:=p4.get P2.ok g12;have g24:=p4.get P2.ok g2;have fin: ∀ {Hx:AH} {l:List AV},Prs H4 Hx->l.length=4->qP l=true-> ∃Hy,stN 4 (.ptr A2 0) (.agg l) Hx=some (qN,Hy)/\Prs H Hy/\Stp (fun B=>B=A2) Hx Hy/\ldN 4 (.ptr A2 0) Hy=some (.agg l):=fun {Hx l} px hl hc=>by
  obtain⟨Hy,e,g,s,_⟩:=qX px.ok (Prs.get px P4.ok g24) hl hc;have e':stN 4 (.ptr A2 0) (.agg l) Hx=some (qN,Hy):=e;exact⟨Hy,e',(P4.trans px).fresh s (fun B hB=>by omega),s,vL g hl⟩
 obtain⟨Hr,er,Pr,sr,lr⟩:=fin (Prs.refl P4.ok) (l:=[.bool false, .nilSlice, .nilSlice, .nilSlice]) rfl rfl
 cases c1:Nd.shaped ltS nd with
 | false=>
  simp only[c1,Bool.false_and,Bool.false_eq_true,if_false]at hpo;subst hpo;refine⟨.agg [.bool false, .nilSlice, .nilSlice, .nilSlice],Hr, ?_,Pr,wD.zero _ _⟩;simp(maxSteps:=999999)(disch:=omega) only[f57,eZ,b1,b2,qR g12,cT,Option.map_some,e4,c1,fJ,er,lr]
 | true=>
 cases la with
 | false=>
  simp only[Bool.and_false,Bool.false_eq_true,if_false]at hpo;subst hpo;refine⟨.agg [.bool false, .nilSlice, .nilSlice, .nilSlice],Hr, ?_,Pr,wD.zero _ _⟩;simp(maxSteps:=999999)(disch:=omega) only[f57,eZ,b1,b2,qR g12,cT,Option.map_some,e4,c1,qM g14,fJ,er,lr]
 | true=>
 have hvk:nd.vals.length=nd.keys.length:=by
  simp only[Nd.shaped,<-hla,if_true,z8,zE]at c1;exact c1.2.1.1
 simp only[c1,Bool.and_self,if_true]at hpo;obtain⟨H5,e5,p5⟩:=fS D n hn P4.ok (key:=key) (i0.prs P4) s0;have P5:=P4.trans p5;have g15:=p5.get P4.ok g14;have hle:=Nd.whereN_le nd key;have hln:=h1.row.lnSl;obtain⟨Hs,es,Ps,ss,ls⟩:=fin p5 (l:=[.bool false, .nilSlice, .nilSlice, .nilSlice]) rfl rfl;have q1 {Hx:AH} (p:Prs H Hx):yN 1 9 Hx ks nd.keys.length (nd.keys.map S):=h1.mono p (fun _ _ x=>x);have q2 {Hx:AH} (p:Prs H Hx):yN 1 9 Hx vs nd.vals.length (nd.vals.map S):=h2.mono p (fun _ _ x=>x);by_cases hlt:whereN nd key<nd.keys.length
 case neg=>
  have hh:vN nd key=false:=by simp only[vN,hlt,decide_false,Bool.false_and]
  have hltI:((nd.keys.length:Nat):Int)<=((whereN nd key:Nat):Int):=by omega
  simp only[hh,Bool.false_eq_true,if_false]at hpo;subst hpo;refine⟨.agg [.bool false, .nilSlice, .nilSlice, .nilSlice],Hs, ?_,Ps,wD.zero _ _⟩;simp(maxSteps:=999999)(disch:=omega) only[f57,eZ,b1,b2,qR g12,cT,Option.map_some,e4,c1,qM g14,qR g14,e5,qM g15,hln,hltI,fJ,es,ls]
 case pos=>
 obtain⟨q,j1,j2⟩:=(q1 P5).row |> (fun(r:Strs H5 ks nd.keys)=>r.at hlt);rw[<-kW (d:=[])]at j2;have hltI: ¬((nd.keys.length:Nat):Int)<=((whereN nd key:Nat):Int):=by omega
 by_cases heq:nd.keys.getD (whereN nd key) []=key
 case neg=>
  have hh:vN nd key=false:=by simp only[vN,heq,decide_false,Bool.and_false]
  simp only[hh,Bool.false_eq_true,if_false]at hpo;subst hpo;refine⟨.agg [.bool false, .nilSlice, .nilSlice, .nilSlice],Hs, ?_,Ps,wD.zero _ _⟩;simp(maxSteps:=999999)(disch:=omega) only[f57,eZ,b1,b2,qR g12,cT,Option.map_some,e4,c1,qM g14,qR g14,e5,qM g15,hln,hltI,j1,j2,ne_eq,heq,not_false_eq_true,fJ,es,ls]
 case pos=>
 have hh:vN nd key=true:=by simp only[vN,heq,decide_true,Bool.and_true,zE];exact hlt
 simp only[hh,if_true]at hpo;subst hpo;generalize hw:whereN nd key=i at*
 obtain⟨r1,c1',x1⟩:=hi1 (q1 P5) (i:=i) (by omega);obtain⟨r2,c2',x2⟩:=lo1 (q1 P5) (i:=i+1) (by omega) (by omega);obtain⟨r3,c3',x3⟩:=hi1 (q2 P5) (i:=i) (by omega);obtain⟨r4,c4',x4⟩:=lo1 (q2 P5) (i:=i+1) (by omega) (by omega);obtain⟨H6,A6,b6,p6,g6,m6,n6⟩:=box P5.ok (.cells [r1,r2] 56 1 false);have P6:=P5.trans p6;obtain⟨H7,A7,b7,p7,g7,m7,n7⟩:=box P6.ok (.cells [r3,r4] 56 1 false);have P7:=P6.trans p7;have p57:Prs H5 H7:=p6.trans p7;obtain⟨w8,H8,e8,p8,o8,f8⟩:=zIv D n (cc:=4) P7.ok (p7.get P6.ok g6) (x1.prs p57) (x2.prs p57) (by simp only[zG,zO];omega) (by omega);have P8:=P7.trans p8;have p58:=p57.trans p8;obtain⟨w9,H9,e9,p9,o9,f9⟩:=zIv D n (cc:=4) P8.ok (p8.get P7.ok g7) (x3.prs p58) (x4.prs p58) (by simp only[zG,zO];omega) (by omega);have p59:=p58.trans p9;obtain⟨Hy,ey,Py,sy,ly⟩:=fin (p5.trans p59) (l:=[.bool true,w8,w9, .nilSlice]) rfl (by simp only[qP,o8.row.isCell,o9.row.isCell];rfl);have N7:=p57.next;have N5:=p5.next;have N4:=p4.next;have N8:=p8.next
 simp only[Int.natCast_add]at c2' c4';have up {Hx:AH} (p:Prs H5 Hx):=Prs.get p P5.ok g15;refine⟨.agg [.bool true,w8,w9, .nilSlice],Hy, ?_,Py, ?_⟩
 ·simp(maxSteps:=999999)(disch:=omega) only[f57,eZ,b1,b2,qR g12,cT,Option.map_some,e4,c1,qM g14,qR g14,e5,qM g15,hln,hltI,j1,j2,ne_eq,heq,not_true_eq_false,c1',c2',zMi 56 .nilSlice x1.isCell x2.isCell rfl,b6,qM (up p6),slSl_same (q2 P5) (q2 P6) (by decide),c3',c4',zMi 56 .nilSlice x3.isCell x4.isCell rfl,b7,e8,
   j9 (qM (up p58) 2) (yJ h2.row),slSl_same (q2 P5) (q2 P8) (by decide),j9 rfl (yJ x3),j9 rfl (yJ x4),e9,zGs _ o8.row.isCell o9.row.isCell,ey,ly]
 ·simp only[if_true,zLV,hw];have NN:=P7.next
  exact⟨⟨w8,w9, .nilSlice,rfl, .inl ((o8.mono p9 (fun _ _ x=>x)).mono sy (fun B hB e=>by have:=f8 B hB;omega)), .inl (o9.mono sy (fun B hB e=>by have:=f9 B hB;omega)), .inl (Own.nil ..)⟩,fun B hB=>by
   rcases kD.1 hB with h | h | h
   ·have:=f8 B h;omega
   ·have:=f9 B h;omega
   ·exact(Blk.nil.1 h).elim⟩
end Go.Eng.Sh
end
section
namespace Go.Bt
open Go.Nd (Str Kvs lookP putP delP Srt qQ mayK rising yH)
open Go.Eng (ltS qY y8 xT kU wY)
abbrev Bd:=Option Str
def zEF:Bd->Str->Prop
 | none,_=>True
 | some a,k=>a=k\/ltS a k=true
def zAe:Bd->Str->Prop
 | none,_=>True
 | some a,k=>ltS a k=true
def hiB:Bd->Str->Prop
 | none,_=>True
 | some b,k=>ltS k b=true
theorem zAe.low {b:Bd}{k:Str}(h:zAe b k):zEF b k:=by
 cases b with
 | none=>trivial
 | some a=>exact .inr h
theorem uA {a b c:Str}(h:a=b\/ltS a b=true)(k:ltS b c=true):ltS a c=true:=by
 rcases h with rfl | h
 ·exact k
 ·exact y8 h k
theorem lt_of_lt_le {a b c:Str}(h:ltS a b=true)(k:b=c\/ltS b c=true):ltS a c=true:=by
 rcases k with rfl | k
 ·exact h
 ·exact y8 h k
theorem le_trans {a b c:Str}(h:a=b\/ltS a b=true)(k:b=c\/ltS b c=true):a=c\/ltS a c=true:=by
 rcases k with rfl | k
 ·exact h
 ·exact .inr (uA h k)
theorem not_lt {a b:Str}(h: ¬ltS a b=true):b=a\/ltS b a=true:=by
 cases k:ltS b a with
 | true=>exact .inr rfl
 | false=>exact .inl (xT k (by simpa using h))
theorem zKJ {b:Bd}{k x:Str}(h:zEF b k)(hk:ltS k x=true):zAe b x:=by
 cases b with
 | none=>trivial
 | some a=>exact uA h hk
theorem QS {b:Bd}{k x:Str}(h:zAe b k)(hk:k=x\/ltS k x=true):zAe b x:=by
 cases b with
 | none=>trivial
 | some a=>exact lt_of_lt_le h hk
theorem zBv {b:Bd}{k x:Str}(h:hiB b k)(hk:x=k\/ltS x k=true):hiB b x:=by
 cases b with
 | none=>trivial
 | some a=>exact uA hk h
def Tr:Nat->Type
 | 0=>Kvs
 | h+1=>List Str×List (Tr h)
def con:(h:Nat)->Tr h->Kvs
 | 0,l=>l
 | h+1,t=>t.2.flatMap (con h)
def KB {α:Type}(W:Bd->Bd->α->Prop):Bd->List Str->List α->Bd->Prop
 | lo,[],[t],hi=>W lo hi t
 | lo,k::ks,t::ts,hi=>W lo (some k) t/\KB W (some k) ks ts hi
 | _,_,_,_=>False
def YR (lo:Bd)(ks:List Str):Nat->Bd
 | 0=>lo
 | i+1=>ks[i]?
def cN (ks:List Str)(hi:Bd)(i:Nat):Bd:=match ks[i]? with
 | some k=>some k
 | none=>hi
theorem QT (lo:Bd)(k:Str)(ks:List Str)(i:Nat):YR lo (k::ks) (i+1)=YR (some k) ks i:=by cases i<;>rfl
theorem QX (hi:Bd)(k:Str)(ks:List Str)(i:Nat):cN (k::ks) hi (i+1)=cN ks hi i:=rfl
theorem KB.len {α:Type}{W:Bd->Bd->α->Prop} : ∀ {ks:List Str} {ts:List α} {lo hi:Bd},KB W lo ks ts hi->ts.length=ks.length+1
 | [],[],_,_,h=>h.elim
 | [],[_],_,_,_=>rfl
 | [],_::_::_,_,_,h=>h.elim
 | _::_,[],_,_,h=>h.elim
 | _::ks,_::ts,_,_,h=>by simp[KB.len h.2]
theorem KB.at {α:Type}{W:Bd->Bd->α->Prop} : ∀ {ks:List Str} {ts:List α} {lo hi:Bd} {i:Nat} {t:α},KB W lo ks ts hi->ts[i]? =some t->W (YR lo ks i) (cN ks hi i) t
 | [],[],_,_,_,_,h,_=>h.elim
 | [],[a],_,_,0,t,h,ht=>by simp at ht;subst ht;exact h
 | [],[a],_,_,i+1,t,h,ht=>by simp at ht
 | [],_::_::_,_,_,_,_,h,_=>h.elim
 | _::_,[],_,_,_,_,h,_=>h.elim
 | k::ks,a::ts,_,_,0,t,h,ht=>by simp at ht;subst ht;exact h.1
 | k::ks,a::ts,_,_,i+1,t,h,ht=>by
  simp only[List.getElem?_cons_succ]at ht;rw[QT,QX];exact KB.at h.2 ht
theorem KB.app {α:Type}{W:Bd->Bd->α->Prop}{k:Str}{ks2:List Str}{ts2:List α}{hi:Bd}(h2:KB W (some k) ks2 ts2 hi): ∀ {ks:List Str} {ts:List α} {lo:Bd},KB W lo ks ts (some k)->KB W lo (ks++(k::ks2)) (ts++ts2) hi
 | [],[],_,h=>h.elim
 | [],[_],_,h=>⟨h,h2⟩
 | [],_::_::_,_,h=>h.elim
 | _::_,[],_,h=>h.elim
 | _::ks,_::ts,_,h=>⟨h.1,KB.app h2 h.2⟩
theorem KB.drop {α:Type}{W:Bd->Bd->α->Prop} : ∀ {ks:List Str} {ts:List α} {lo hi:Bd} {m:Nat} {k:Str},KB W lo ks ts hi->ks[m]? =some k->KB W (some k) (ks.drop (m+1)) (ts.drop (m+1)) hi
 | [],_,_,_,_,_,_,hk=>by simp at hk
 | _::_,[],_,_,_,_,h,_=>h.elim
 | a::ks,t::ts,_,_,0,k,h,hk=>by simp at hk;subst hk;exact h.2
 | a::ks,t::ts,_,_,m+1,k,h,hk=>by
  simp only[List.getElem?_cons_succ]at hk;have:=KB.drop (m:=m) h.2 hk;exact this
theorem KB.take {α:Type}{W:Bd->Bd->α->Prop} : ∀ {ks:List Str} {ts:List α} {lo hi:Bd} {m:Nat} {k:Str},KB W lo ks ts hi->ks[m]? =some k->KB W lo (ks.take m) (ts.take (m+1)) (some k)
 | [],_,_,_,_,_,_,hk=>by simp at hk
 | _::_,[],_,_,_,_,h,_=>h.elim
 | a::ks,t::ts,_,_,0,k,h,hk=>by simp at hk;subst hk;exact h.1
 | a::ks,t::ts,_,_,m+1,k,h,hk=>by
  simp only[List.getElem?_cons_succ]at hk;exact⟨h.1,KB.take h.2 hk⟩
theorem KB.head {α:Type}{W:Bd->Bd->α->Prop}{ks:List Str}{ts:List α}{lo0 hi:Bd}{m:Nat}(h:KB W lo0 ks ts hi)(hm:m<ts.length): ∀ {ss:List Str} {ps:List α} {lo:Bd},KB W lo ss ps (cN ks hi m)->KB W lo (ss++ks.drop m) (ps++ts.drop (m+1)) hi
 | [],[],_,h=>h.elim
 | [],[p],lo,hp=>by
  have hl:=h.len;simp only[cN]at hp
  cases hk:ks[m]? with
  | none=>
   rw[hk]at hp;have:ks.length<=m:=by simpa using hk
   rw[zQ this,zQ (by omega)];exact hp
  | some k=>
   rw[hk]at hp;obtain⟨hlt,rfl⟩:=List.getElem?_eq_some_iff.1 hk;rw[zN hlt];exact⟨hp,h.drop hk⟩
 | [],_::_::_,_,h=>h.elim
 | _::_,[],_,h=>h.elim
 | _::ss,_::ps,_,hp=>⟨hp.1,KB.head h hm hp.2⟩
theorem KB.splice {α:Type}{W:Bd->Bd->α->Prop}{ss:List Str}{ps:List α} : ∀ {ks:List Str} {ts:List α} {lo hi:Bd} {i m:Nat},KB W lo ks ts hi->i+m<ts.length->KB W (YR lo ks i) ss ps (cN ks hi (i+m))->KB W lo (ks.take i++ss++ks.drop (i+m)) (ts.take i++ps++ts.drop (i+m+1)) hi
 | ks,ts,lo,hi,0,m,h,hm,hp=>by
  simp only[Nat.zero_add,List.take_zero,List.nil_append]at hm hp⊢;exact KB.head h hm (lo:=lo) hp
 | [],ts,_,_,i+1,m,h,hm,_=>by have:=h.len;simp only[zV]at this;omega
 | _::_,[],_,_,_+1,_,h,_,_=>h.elim
 | k::ks,t::ts,lo,hi,i+1,m,h,hm,hp=>by
  have e:i+1+m=i+m+1:=by omega
  rw[e,QT,QX]at hp;rw[e];simp only[zF]at hm;have:=KB.splice (i:=i) (m:=m) h.2 (by omega) hp;simp only[List.take_succ_cons,List.drop_succ_cons,List.cons_append];exact⟨h.1,this⟩
def Lf (lo hi:Bd)(l:Kvs):Prop:=Srt l/\ ∀p∈l,zEF lo p.1/\hiB hi p.1/\mayK p.1=true/\p.2.length<=200
def jD (l:Kvs):Nat:=Nd.size (qQ l)
def jH (ks:List Str)(n:Nat):Nat:=2+16*n+yH ks
def Inn {α:Type}(W:Bd->Bd->α->Prop)(lo hi:Bd)(t:List Str×List α):Prop:=(∀k∈t.1,mayK k=true/\zAe lo k/\hiB hi k)/\rising ltS t.1=true/\KB W lo t.1 t.2 hi
def jA:(h:Nat)->Tr h->Nat
 | 0,l=>jD l
 | _+1,t=>jH t.1 t.2.length
def WF:(h:Nat)->Bd->Bd->Tr h->Prop
 | 0,lo,hi,l=>Lf lo hi l/\l≠[]/\jD l<=500
 | h+1,lo,hi,t=>Inn (WF h) lo hi t/\t.1≠[]/\160<=jH t.1 t.2.length/\jH t.1 t.2.length<=500
def WR:(h:Nat)->Tr h->Prop
 | 0,l=>Lf none none l/\l≠[]/\jD l<=500
 | h+1,t=>Inn (WF h) none none t/\t.1≠[]/\jH t.1 t.2.length<=500
def WX:(h:Nat)->Bd->Bd->Tr h->Prop
 | 0,lo,hi,l=>Lf lo hi l/\jD l<=785
 | h+1,lo,hi,t=>Inn (WF h) lo hi t/\jH t.1 t.2.length<=785
theorem K4 {h:Nat}(ih: ∀ {lo hi:Bd} {t:Tr h},WF h lo hi t-> ∀p∈con h t,zEF lo p.1/\hiB hi p.1): ∀ {ks:List Str} {ts:List (Tr h)} {lo hi:Bd},KB (WF h) lo ks ts hi->rising ltS ks=true->(∀k∈ks,zAe lo k/\hiB hi k)-> ∀p∈ts.flatMap (con h),zEF lo p.1/\hiB hi p.1
 | [],[],_,_,h,_,_=>h.elim
 | [],[t],lo,hi,hk,_,_=>fun p hp=>by
  simp only[zP,List.flatMap_nil,List.append_nil]at hp;exact ih hk p hp
 | [],_::_::_,_,_,h,_,_=>h.elim
 | _::_,[],_,_,h,_,_=>h.elim
 | k::ks,t::ts,lo,hi,hk,hr,hb=>fun p hp=>by
  have hkb:=hb k (zB ..);rw[Nd.rising_cons]at hr;simp only[zP,qE]at hp;rcases hp with hp | hp
  ·have:=ih hk.1 p hp;exact⟨this.1,zBv hkb.2 (.inr this.2)⟩
  ·have:=K4 ih hk.2 hr.2 (fun x hx=>⟨hr.1 x hx,(hb x (zA _ hx)).2⟩) p hp;exact⟨(QS hkb.1 this.1).low,this.2⟩
theorem K5: ∀(h:Nat) {lo hi:Bd} {t:Tr h},WF h lo hi t-> ∀p∈con h t,zEF lo p.1/\hiB hi p.1
 | 0,lo,hi,l,hw,p,hp=>⟨(hw.1.2 p hp).1,(hw.1.2 p hp).2.1⟩
 | h+1,lo,hi,t,hw,p,hp=>K4 (K5 h) hw.1.2.2 hw.1.2.1 (fun k hk=>(hw.1.1 k hk).2) p hp
theorem zDL {a b:Kvs}(ha:Srt a)(hb:Srt b)(hab: ∀p∈a,∀q∈b,ltS p.1 q.1=true):Srt (a++b):=by
 induction a with
 | nil=>exact hb
 | cons p a ih=>
  obtain⟨k,v⟩:=p;refine⟨fun q hq=> ?_,ih ha.2 fun p hp=>hab p (zA _ hp)⟩;rcases List.mem_append.1 hq with hq | hq
  ·exact ha.1 q hq
  ·exact hab _ (zB ..) q hq
theorem zDK {h:Nat}(ih: ∀ {lo hi:Bd} {t:Tr h},WF h lo hi t->Srt (con h t)): ∀ {ks:List Str} {ts:List (Tr h)} {lo hi:Bd},KB (WF h) lo ks ts hi->rising ltS ks=true->(∀k∈ks,zAe lo k/\hiB hi k)->Srt (ts.flatMap (con h))
 | [],[],_,_,h,_,_=>h.elim
 | [],[t],lo,hi,hk,_,_=>by
  simp only[zP,List.flatMap_nil,List.append_nil];exact ih hk
 | [],_::_::_,_,_,h,_,_=>h.elim
 | _::_,[],_,_,h,_,_=>h.elim
 | k::ks,t::ts,lo,hi,hk,hr,hb=>by
  rw[Nd.rising_cons]at hr;have hbs: ∀x∈ks,zAe (some k) x/\hiB hi x:=fun x hx=>⟨hr.1 x hx,(hb x (zA _ hx)).2⟩
  simp only[zP];refine zDL (ih hk.1) (zDK ih hk.2 hr.2 hbs) fun p hp q hq=> ?_
  exact lt_of_lt_le (K5 h hk.1 p hp).2 (K4 (K5 h) hk.2 hr.2 hbs q hq).1
theorem zGf: ∀(h:Nat) {lo hi:Bd} {t:Tr h},WF h lo hi t->Srt (con h t)
 | 0,_,_,_,hw=>hw.1.1
 | h+1,_,_,_,hw=>zDK (zGf h) hw.1.2.2 hw.1.2.1 (fun k hk=>(hw.1.1 k hk).2)
theorem zKX {h:Nat}{lo hi:Bd}{t:List Str×List (Tr h)}(hw:Inn (WF h) lo hi t):Srt (t.2.flatMap (con h)):=
 zDK (zGf h) hw.2.2 hw.2.1 (fun k hk=>(hw.1 k hk).2)
theorem zM0 {h:Nat}{t:Tr h}(hw:WR h t):Srt (con h t):=by
 cases h with
 | zero=>exact hw.1.1
 | succ h=>exact zKX hw.1
theorem zKw {k v:Str}{A C B:Kvs}(hA: ∀p∈A,ltS p.1 k=true)(hB: ∀p∈B,ltS k p.1=true):putP k v (A++C++B)=A++putP k v C++B:=by
 induction A with
 | nil=>
  simp only[List.nil_append]
  induction C with
  | nil=>
   cases B with
   | nil=>rfl
   | cons b B=>
    obtain⟨b,w⟩:=b;have h:=hB (b,w) (zB ..);simp only[List.nil_append,putP,List.cons_append];rw[if_neg (fun e=>wY h e.symm),if_neg (by rw[kU h];simp)]
  | cons c C ih=>
   obtain⟨c,w⟩:=c;simp only[List.cons_append,putP];split
   ·rfl
   ·split
    ·rw[ih];rfl
    ·rfl
 | cons a A ih=>
  obtain⟨a,w⟩:=a;have h:=hA (a,w) (zB ..);simp only[List.cons_append,putP];rw[if_neg (wY h),if_pos h,ih (fun p hp=>hA p (zA _ hp))]
theorem zBq {k:Str}{A B:Kvs} :lookP k (A++B)=match lookP k A with | some v=>some v | none=>lookP k B:=by
 induction A with
 | nil=>rfl
 | cons a A ih=>
  obtain⟨a,w⟩:=a;simp only[List.cons_append,lookP];split
  ·rfl
  ·exact ih
theorem zHB {k:Str}{A C B:Kvs}(hA: ∀p∈A,ltS p.1 k=true)(hB: ∀p∈B,ltS k p.1=true):lookP k (A++C++B)=lookP k C:=by
 rw[zBq,zBq,Nd.look_none (l:=A) (fun p hp=>wY (hA p hp)),Nd.look_none (l:=B) (fun p hp e=>wY (hB p hp) e.symm)]
 cases lookP k C<;>rfl
theorem zIo {k:Str}{l:Kvs}(h: ∀p∈l,p.1≠k):delP k l=l:=by
 induction l with
 | nil=>rfl
 | cons a l ih=>
  obtain⟨a,w⟩:=a;rw[delP,if_neg (h (a,w) (zB ..)),ih fun p hp=>h p (zA _ hp)]
theorem zLq {k:Str}{A C B:Kvs}(hA: ∀p∈A,ltS p.1 k=true)(hB: ∀p∈B,ltS k p.1=true):delP k (A++C++B)=A++delP k C++B:=by
 induction A with
 | nil=>
  simp only[List.nil_append]
  induction C with
  | nil=>exact zIo fun p hp e=>wY (hB p hp) e.symm
  | cons c C ih=>
   obtain⟨c,w⟩:=c;simp only[List.cons_append,delP];split
   ·rfl
   ·rw[ih];rfl
 | cons a A ih=>
  obtain⟨a,w⟩:=a;have h:=hA (a,w) (zB ..);simp only[List.cons_append,delP];rw[if_neg (wY h),ih (fun p hp=>hA p (zA _ hp))]
def y7 (ks:List Str)(key:Str):Nat:=(ks.filter fun k=>ltS k key||decide (k=key)).length
theorem vQ (ks:List Str)(key:Str):y7 ks key<=ks.length:=List.length_filter_le _ _
theorem ZX {a key:Str}{ks:List Str}(h:rising ltS (a::ks)=true):y7 (a::ks) key=if ltS key a=true then 0 else y7 ks key+1:=by
 rw[Nd.rising_cons]at h;by_cases hk:ltS key a=true
 ·rw[if_pos hk,y7,List.length_eq_zero_iff,List.filter_eq_nil_iff];intro x hx hlt;have hkx:ltS key x=true:=by
   rcases List.mem_cons.1 hx with rfl | hx
   ·exact hk
   ·exact y8 hk (h.1 x hx)
  simp only[Bool.or_eq_true,zE]at hlt;rcases hlt with hlt | rfl
  ·rw[kU hlt]at hkx;cases hkx
  ·rw[qY]at hkx;cases hkx
 ·rw[if_neg hk,y7,List.filter_cons];have:(ltS a key||decide (a=key))=true:=by
   simp only[Bool.or_eq_true,zE];rcases not_lt hk with e | e
   ·exact .inr e
   ·exact .inl e
  rw[this];rfl
theorem KN {key:Str} : ∀ {ks:List Str} {lo:Bd},rising ltS ks=true->zEF lo key->zEF (YR lo ks (y7 ks key)) key
 | [],_,_,h=>h
 | a::ks,lo,hr,h=>by
  rw[ZX hr];by_cases hk:ltS key a=true
  ·rw[if_pos hk];exact h
  ·rw[if_neg hk,QT];rw[Nd.rising_cons]at hr;exact KN hr.2 (not_lt hk)
theorem KO {key:Str} : ∀ {ks:List Str} {hi:Bd},rising ltS ks=true->hiB hi key->hiB (cN ks hi (y7 ks key)) key
 | [],_,_,h=>h
 | a::ks,hi,hr,h=>by
  rw[ZX hr];by_cases hk:ltS key a=true
  ·rw[if_pos hk];exact hk
  ·rw[if_neg hk,QX];rw[Nd.rising_cons]at hr;exact KO hr.2 h
theorem ZW {h:Nat}{lo hi:Bd}{key:Str}{ks:List Str}{ts:List (Tr h)}(hw:Inn (WF h) lo hi (ks,ts)):
  (∀p∈(ts.take (y7 ks key)).flatMap (con h),ltS p.1 key=true)/\ ∀p∈(ts.drop (y7 ks key+1)).flatMap (con h),ltS key p.1=true:=by
 obtain⟨h1,h2,h3⟩:=hw;simp only at h1 h2 h3;have hle:=vQ ks key;have hlen:=h3.len;constructor
 ·have hl:=KN (lo:=none) h2 (key:=key) trivial
  cases hw:y7 ks key with
  | zero=>intro p hp;simp at hp
  | succ w=>
   rw[hw]at hl hle;have hlt:w<ks.length:=by omega
   simp only[YR,zC hlt]at hl;have hk:=h3.take (zC hlt);have hr:rising ltS (ks.take w)=true:=Nd.rising_take h2 w;intro p hp;have hm: ∀x∈ks.take w,ltS x ks[w]=true:=fun x hx=>by
    obtain⟨j,hj,rfl⟩:=List.mem_iff_getElem.1 hx;simp only[zG]at hj;rw[List.getElem_take];have hd:=Nd.rising_drop h2 j;rw[zN (by omega),Nd.rising_cons]at hd;refine hd.1 _ ?_;rw[List.mem_iff_getElem];exact⟨w - (j+1),by simp;omega,by rw[List.getElem_drop];congr 1;omega⟩
   have:=K4 (K5 h) hk hr (fun x hx=>⟨(h1 x (List.mem_of_mem_take hx)).2.1,hm x hx⟩) p hp;exact lt_of_lt_le this.2 hl
 ·have hh:=KO (hi:=none) h2 (key:=key) trivial;intro p hp
  cases hk:ks[y7 ks key]? with
  | none=>
   have:ks.length<=y7 ks key:=by simpa using hk
   rw[zQ (by omega)]at hp;simp at hp
  | some k=>
   simp only[cN,hk]at hh;obtain⟨hlt,rfl⟩:=List.getElem?_eq_some_iff.1 hk;have hkb:=h3.drop hk;have hd:=Nd.rising_drop h2 (y7 ks key);rw[zN hlt,Nd.rising_cons]at hd;have:=K4 (K5 h) hkb hd.2 (fun x hx=>⟨hd.1 x hx,(h1 x (List.mem_of_mem_drop hx)).2.2⟩) p hp;exact lt_of_lt_le hh this.1
theorem zH8 {α:Type}{ts:List α}{i:Nat}{t:α}(h:ts[i]? =some t):ts=ts.take i++[t]++ts.drop (i+1):=by
 obtain⟨hi,rfl⟩:=List.getElem?_eq_some_iff.1 h;rw[List.append_assoc,List.singleton_append,<-zN hi,List.take_append_drop]
theorem xL {a b:List Str} :rising ltS (a++b)=true↔rising ltS a=true/\rising ltS b=true/\ ∀x∈a,∀y∈b,ltS x y=true:=by
 induction a with
 | nil=>simp[rising]
 | cons c a ih=>
  rw[List.cons_append,Nd.rising_cons,Nd.rising_cons,ih];simp only[qE,List.mem_cons];constructor
  ·rintro⟨h1,h2,h3,h4⟩
   refine⟨⟨fun x hx=>h1 x (.inl hx),h2⟩,h3,fun x hx y hy=> ?_⟩;rcases hx with rfl | hx
   ·exact h1 y (.inr hy)
   ·exact h4 x hx y hy
  ·rintro⟨⟨h1,h2⟩,h3,h4⟩
   exact⟨fun x hx=>hx.elim (h1 x) (h4 c (.inl rfl) x),h2,h3,fun x hx y hy=>h4 x (.inr hx) y hy⟩
theorem Inn.splice {α:Type}{W:Bd->Bd->α->Prop}{lo hi:Bd}{ks ss:List Str}{ts ps:List α}{i m:Nat}(h:Inn W lo hi (ks,ts))(hm:i+m<ts.length)(hp:Inn W (YR lo ks i) (cN ks hi (i+m)) (ss,ps)):
  Inn W lo hi (ks.take i++ss++ks.drop (i+m),ts.take i++ps++ts.drop (i+m+1)):=by
 obtain⟨h1,h2,h3⟩:=h;obtain⟨p1,p2,p3⟩:=hp;simp only at h1 h2 h3 p1 p2 p3;have hlen:=h3.len;have hlo: ∀x∈ks.take i,∀y∈ss,ltS x y=true:=fun x hx y hy=>by
  have hy':=(p1 y hy).2.1
  cases i with
  | zero=>simp at hx
  | succ j=>
   have hj:j<ks.length:=by omega
   simp only[YR,zC hj]at hy';rw[zJ hj,qE,List.mem_singleton]at hx;rcases hx with hx | rfl
   ·have:=Nd.rising_take h2 (j+1);rw[zJ hj,xL]at this;exact y8 (this.2.2 x hx _ (List.mem_singleton_self _)) hy'
   ·exact hy'
 have hhi: ∀y∈ss,∀z∈ks.drop (i+m),ltS y z=true:=fun y hy z hz=>by
  have hy':=(p1 y hy).2.2;by_cases hj:i+m<ks.length
  ·simp only[cN,zC hj]at hy';have hd:=Nd.rising_drop h2 (i+m);rw[zN hj]at hz hd;rw[Nd.rising_cons]at hd;rcases List.mem_cons.1 hz with rfl | hz
   ·exact hy'
   ·exact y8 hy' (hd.1 z hz)
  ·rw[zQ (by omega)]at hz;simp at hz
 have htd: ∀x∈ks.take i,∀z∈ks.drop (i+m),ltS x z=true:=fun x hx z hz=>by
  have:ks=ks.take (i+m)++ks.drop (i+m):=(List.take_append_drop _ _).symm;rw[this,xL]at h2;refine h2.2.2 x ?_ z hz;have:ks.take i=(ks.take (i+m)).take i:=by rw[List.take_take,Nat.min_eq_left (by omega)]
  rw[this]at hx;exact List.mem_of_mem_take hx
 have wlo: ∀s,zAe (YR lo ks i) s->zAe lo s:=fun s hs=>by
  cases i with
  | zero=>exact hs
  | succ j=>
   have hj:j<ks.length:=by omega
   simp only[YR,zC hj]at hs;exact QS (h1 _ (zR hj)).2.1 (.inr hs)
 have whi: ∀s,hiB (cN ks hi (i+m)) s->hiB hi s:=fun s hs=>by
  by_cases hj:i+m<ks.length
  ·simp only[cN,zC hj]at hs;exact zBv (h1 _ (zR hj)).2.2 (.inr hs)
  ·simp only[cN,List.getElem?_eq_none (show ks.length<=i+m by omega)]at hs;exact hs
 refine⟨fun k hk=> ?_, ?_,KB.splice h3 hm p3⟩
 ·simp only[qE]at hk;rcases hk with(hk | hk) | hk
  ·exact h1 k (List.mem_of_mem_take hk)
  ·exact⟨(p1 k hk).1,wlo k (p1 k hk).2.1,whi k (p1 k hk).2.2⟩
  ·exact h1 k (List.mem_of_mem_drop hk)
 ·rw[xL,xL];refine⟨⟨Nd.rising_take h2 i,p2,hlo⟩,Nd.rising_drop h2 _,fun x hx z hz=> ?_⟩;rcases List.mem_append.1 hx with hx | hx
  ·exact htd x hx z hz
  ·exact hhi x hx z hz
def Gen:(h:Nat)->Bd->Bd->Tr h->Prop
 | 0,lo,hi,l=>Lf lo hi l
 | h+1,lo,hi,t=>Inn (WF h) lo hi t
def Full:(h:Nat)->Tr h->Prop
 | 0,l=>l≠[]
 | _+1,t=>160<=jH t.1 t.2.length
theorem WF.gen: ∀ {h:Nat} {lo hi:Bd} {t:Tr h},WF h lo hi t->Gen h lo hi t
 | 0,_,_,_,w=>w.1
 | _+1,_,_,_,w=>w.1
theorem WX.gen: ∀ {h:Nat} {lo hi:Bd} {t:Tr h},WX h lo hi t->Gen h lo hi t
 | 0,_,_,_,w=>w.1
 | _+1,_,_,_,w=>w.1
theorem WF.full: ∀ {h:Nat} {lo hi:Bd} {t:Tr h},WF h lo hi t->Full h t
 | 0,_,_,_,w=>w.2.1
 | _+1,_,_,_,w=>w.2.2.1
theorem WF.sz: ∀ {h:Nat} {lo hi:Bd} {t:Tr h},WF h lo hi t->jA h t<=500
 | 0,_,_,_,w=>w.2.2
 | _+1,_,_,_,w=>w.2.2.2
theorem WX.sz: ∀ {h:Nat} {lo hi:Bd} {t:Tr h},WX h lo hi t->jA h t<=785
 | 0,_,_,_,w=>w.2
 | _+1,_,_,_,w=>w.2
theorem Gen.wx: ∀ {h:Nat} {lo hi:Bd} {t:Tr h},Gen h lo hi t->jA h t<=785->WX h lo hi t
 | 0,_,_,_,w,s=>⟨w,s⟩
 | _+1,_,_,_,w,s=>⟨w,s⟩
theorem Gen.wf: ∀ {h:Nat} {lo hi:Bd} {t:Tr h},Gen h lo hi t->Full h t->jA h t<=500->WF h lo hi t
 | 0,_,_,_,w,f,s=>⟨w,f,s⟩
 | h+1,_,_,t,w,f,s=>⟨w,fun e=>by
  have hl:=w.2.2.len;have f':160<=jH t.1 t.2.length:=f;rw[hl,e]at f';simp[jH,yH]at f',f,s⟩
def dK:(h:Nat)->Tr h->Str->Tr h->Tr h
 | 0,a,_,b=>List.append a b
 | _+1,a,s,b=>(a.1++([s]++b.1),a.2++b.2)
theorem zC2: ∀(h:Nat) (a:Tr h) (s:Str) (b:Tr h),con h (dK h a s b)=con h a++con h b
 | 0,_,_,_=>rfl
 | h+1,a,s,b=>by simp[con,dK]
theorem QR (a b:Kvs):jD (a++b)+2=jD a+jD b:=by
 simp only[jD,qQ,Nd.size,List.map_append,Nd.sumL_append,zV];omega
theorem sumL_nil:yH []=0:=rfl
theorem QV (h:Nat)(a:Tr h)(s:Str)(b:Tr h)(hs:s.length<=40):jA h (dK h a s b)<=jA h a+jA h b+39/\jA h b<=jA h (dK h a s b)/\jA h a<=jA h (dK h a s b):=by
 cases h with
 | zero=>
  have key: ∀a b:Kvs,jD (a++b)<=jD a+jD b+39/\jD b<=jD (a++b)/\jD a<=jD (a++b):=fun a b=>by
   have:=QR a b;have e1:2<=jD a:=by simp only[jD,Nd.size];omega
   have e2:2<=jD b:=by simp only[jD,Nd.size];omega
   omega
  exact key a b
 | succ h=>
  simp only[jA,dK,jH,zI,Nd.sumL_append,Nd.sumL_cons,sumL_nil];omega
theorem zBu {h:Nat}{lo hi:Bd}{s:Str}{a b:Tr h}(ha:Gen h lo (some s) a)(hb:Gen h (some s) hi b)(hs:mayK s=true/\zAe lo s/\hiB hi s):Gen h lo hi (dK h a s b):=by
 cases h with
 | zero=>
  obtain⟨a1,a2⟩:=ha;obtain⟨b1,b2⟩:=hb;refine⟨zDL a1 b1 fun p hp q hq=>lt_of_lt_le (a2 p hp).2.1 (b2 q hq).1,fun p hp=> ?_⟩;rcases List.mem_append.1 hp with hp | hp
  ·exact⟨(a2 p hp).1,zBv hs.2.2 (.inr (a2 p hp).2.1),(a2 p hp).2.2⟩
  ·exact⟨(QS hs.2.1 (b2 p hp).1).low,(b2 p hp).2.1,(b2 p hp).2.2⟩
 | succ h=>
  obtain⟨a1,a2,a3⟩:=ha;obtain⟨b1,b2,b3⟩:=hb;refine⟨fun k hk=> ?_, ?_,KB.app b3 a3⟩
  ·simp only[dK,qE,List.mem_singleton]at hk;rcases hk with hk | rfl | hk
   ·exact⟨(a1 k hk).1,(a1 k hk).2.1,zBv hs.2.2 (.inr (a1 k hk).2.2)⟩
   ·exact hs
   ·exact⟨(b1 k hk).1,QS hs.2.1 (.inr (b1 k hk).2.1),(b1 k hk).2.2⟩
  ·simp only[dK];rw[xL,List.singleton_append,Nd.rising_cons];refine⟨a2,⟨fun x hx=>(b1 x hx).2.1,b2⟩,fun x hx y hy=> ?_⟩;rcases List.mem_cons.1 hy with rfl | hy
   ·exact(a1 x hx).2.2
   ·exact y8 (a1 x hx).2.2 (b1 y hy).2.1
theorem zA0 {a b:Kvs} :Srt (a++b)↔Srt a/\Srt b/\ ∀p∈a,∀q∈b,ltS p.1 q.1=true:=by
 induction a with
 | nil=>simp[Srt]
 | cons c a ih=>
  obtain⟨c,w⟩:=c;rw[List.cons_append,Srt,Srt,ih];simp only[qE,List.mem_cons];constructor
  ·rintro⟨h1,h2,h3,h4⟩
   refine⟨⟨fun x hx=>h1 x (.inl hx),h2⟩,h3,fun x hx y hy=> ?_⟩;rcases hx with rfl | hx
   ·exact h1 y (.inr hy)
   ·exact h4 x hx y hy
  ·rintro⟨⟨h1,h2⟩,h3,h4⟩
   exact⟨fun x hx=>hx.elim (h1 x) (h4 _ (.inl rfl) x),h2,h3,fun x hx y hy=>h4 x (.inr hx) y hy⟩
def psz:(h:Nat)->Tr h->Nat->Nat
 | 0,l,k=>jD (List.take (α:=Str×Str) k l)
 | _+1,t,k=>jH (t.1.take k) (k+1)
def YV:(h:Nat)->Tr h->Nat
 | 0,l=>List.length (α:=Str×Str) l
 | _+1,t=>t.1.length
def zO8 (h:Nat)(t:Tr h)(k:Nat):Prop:=
 1<=k/\k+min (h+1) 2<=YV h t/\(k=1\/psz h t k<=(jA h t - 2) / 2+2)/\(k+min (h+1) 2=YV h t\/(jA h t - 2) / 2+2<psz h t (k+1))
def zLZ:(h:Nat)->Tr h->Tr h->Str->Tr h->Prop
 | 0,l,a,s,b=> ∃k,zO8 0 l k/\a=List.take (α:=Str×Str) k l/\s=(List.map Prod.fst (l:Kvs)).getD k []/\b=List.drop (α:=Str×Str) k l
 | h+1,t,a,s,b=> ∃k,zO8 (h+1) t k/\a=(t.1.take k,t.2.take (k+1))/\s=t.1.getD k []/\b=(t.1.drop (k+1),t.2.drop (k+1))
theorem kC (p:Str×Str)(l:Kvs):jD (p::l)=jD l+(2+p.1.length+p.2.length):=by
 simp only[jD,qQ,Nd.size,List.map_cons,Nd.sumL_cons,zV];omega
theorem bB:jD []=2:=rfl
theorem zAw {p:Str×Str}(h:mayK p.1=true/\p.2.length<=200):2+p.1.length+p.2.length<=242:=by
 obtain⟨h1,h2⟩:=h;simp only[mayK,z8,zE]at h1;omega
theorem zIs {lo hi:Bd}{l a b:Kvs}{s:Str}(hw:Lf lo hi l)(hs:jD l<=785)(hb:500<jD l)(hc:zLZ 0 l a s b):
  Lf lo (some s) a/\Lf (some s) hi b/\(mayK s=true/\zAe lo s/\hiB hi s)/\a++b=l/\a≠[]/\b≠[]/\jD a<=500/\jD b<=jD l - (jD l - 2) / 2+241:=by
 obtain⟨k,⟨k1,k2,k3,k4⟩,rfl,rfl,rfl⟩:=hc;simp only[YV,psz,jA,Nat.zero_add,show min 1 2=1 from rfl]at k2 k3 k4;have hk:k<l.length:=k2;have e1:l.take k++l.drop k=l:=List.take_append_drop _ _;obtain⟨w1,w2⟩:=hw;have w1':=w1;rw[<-e1,zA0]at w1';obtain⟨sa,sb,sab⟩:=w1';have hd:l.drop k=l[k]::l.drop (k+1):=zN hk;have hsk:(l.map Prod.fst).getD k []=(l[k]).1:=by
  rw[zM,qJ,zC hk];rfl
 rw[hsk];have hm:l[k]∈l:=zR hk;have h0:0<l.length:=by omega
 have hm0:l[0]∈l.take k:=by rw[List.mem_iff_getElem];exact⟨0,by simp;omega,by simp⟩
 have hlt0:ltS (l[0]).1 (l[k]).1=true:=sab _ hm0 _ (by rw[hd];exact zB ..);have lsum:=QR (l.take k) (l.drop k);rw[e1]at lsum;have ek:=zAw (w2 _ hm).2.2;have tk1:jD (l.take (k+1))=jD (l.take k)+(2+(l[k]).1.length+(l[k]).2.length):=by
  rw[zJ hk];have:=QR (l.take k) [l[k]];rw[kC,bB]at this;omega
 refine⟨⟨sa,fun p hp=> ?_⟩,⟨sb,fun p hp=> ?_⟩,⟨(w2 _ hm).2.2.1,zKJ (w2 _ (zR h0)).1 hlt0,(w2 _ hm).2.1⟩,e1, ?_, ?_, ?_, ?_⟩
 ·exact⟨(w2 p (List.mem_of_mem_take hp)).1,sab p hp _ (by rw[hd];exact zB ..),(w2 p (List.mem_of_mem_take hp)).2.2⟩
 ·refine⟨?_,(w2 p (List.mem_of_mem_drop hp)).2⟩;rw[hd]at hp sb;rcases List.mem_cons.1 hp with rfl | hp
  ·exact .inl rfl
  ·exact .inr (sb.1 p hp)
 ·intro e;rw[e]at hm0;simp at hm0
 ·rw[hd];exact List.cons_ne_nil _ _
 ·rcases k3 with rfl | k3
  ·have hz:jD (l.take 1)<=244:=by
    have:=zAw (w2 _ (zR h0)).2.2
    match l,h0 with
    | p::l,_=>simp only[List.take_succ_cons,List.take_zero,kC,bB];simp only[List.getElem_cons_zero]at this;omega
   omega
  ·omega
 ·rcases k4 with k4 | k4
  ·have:l.drop (k+1)=[]:=zQ (by omega);rw[hd,this,kC,bB];omega
  ·rw[tk1]at k4;omega
theorem V3 (ks:List Str){k:Nat}(h:k<ks.length):yH (ks.take (k+1))=yH (ks.take k)+(1+(ks[k]).length):=by
 rw[zJ h,Nd.sumL_append,Nd.sumL_cons,sumL_nil];omega
theorem JS {s:Str}(h:mayK s=true):s.length<=40:=by
 simp only[mayK,z8,zE]at h;omega
theorem zGc {h:Nat}{lo hi:Bd}{t a b:Tr (h+1)}{s:Str}(hw:Inn (WF h) lo hi t)(hs:jH t.1 t.2.length<=785)(hb:500<jH t.1 t.2.length)(hc:zLZ (h+1) t a s b):
  Inn (WF h) lo (some s) a/\Inn (WF h) (some s) hi b/\(mayK s=true/\zAe lo s/\hiB hi s)/\con (h+1) a++con (h+1) b=con (h+1) t/\160<=jH a.1 a.2.length/\160<=jH b.1 b.2.length/\jH a.1 a.2.length<=500/\jH b.1 b.2.length<=500/\jH b.1 b.2.length<=jH t.1 t.2.length - (jH t.1 t.2.length - 2) / 2+57:=by
 obtain⟨k,⟨k1,k2,k3,k4⟩,rfl,rfl,rfl⟩:=hc;obtain⟨ks,ts⟩:=t;obtain⟨w1,w2,w3⟩:=hw;have hm2:min (h+1+1) 2=2:=by omega
 simp only[YV,psz,jA,hm2]at k2 k3 k4 w1 w2 w3 hs hb⊢;have hk:k<ks.length:=by omega
 have hlen:=w3.len;have hsk:ks.getD k []=ks[k]:=by rw[zM,zC hk];rfl
 rw[hsk];have hg:=zC hk;have hm:ks[k]∈ks:=zR hk;have e1:ks.take k++ks[k]::ks.drop (k+1)=ks:=by rw[<-zN hk,List.take_append_drop]
 have hr:=w2;rw[<-e1,xL,Nd.rising_cons]at hr;obtain⟨ra,⟨rb,rb'⟩,rab⟩:=hr;have hsum:yH ks=yH (ks.take k)+(1+(ks[k]).length+yH (ks.drop (k+1))):=by
  conv=>lhs;rw[<-e1]
  rw[Nd.sumL_append,Nd.sumL_cons]
 have ek:=JS (w1 _ hm).1;have tk:=V3 ks hk;have l1:(ts.take (k+1)).length=k+1:=by rw[zG];omega
 have l2:(ts.drop (k+1)).length=ks.length - k:=by rw[zO];omega
 rw[l1,l2];have hk1:k+1<ks.length:=by omega
 have ek1:=JS (w1 _ (zR hk1)).1;have hdr:yH (ks.drop (k+1))=1+(ks[k+1]).length+yH (ks.drop (k+2)):=by rw[zN hk1,Nd.sumL_cons]
 have hone:k=1->yH (ks.take k)<=41:=fun e=>by
  subst e;have:=V3 ks (k:=0) (by omega);have e0:=JS (w1 _ (zR (show 0<ks.length by omega))).1;rw[this];simp only[List.take_zero,sumL_nil];omega
 have hlast:k+2=ks.length->yH (ks.drop (k+2))=0:=fun e=>by rw[e,List.drop_length];rfl
 simp only[jH]at k3 k4 hs hb⊢;rw[tk]at k4;rw[hlen]at hs hb k3 k4;refine⟨⟨fun x hx=>⟨(w1 x (List.mem_of_mem_take hx)).1,(w1 x (List.mem_of_mem_take hx)).2.1,rab x hx _ (zB ..)⟩,ra,w3.take hg⟩,⟨fun x hx=>⟨(w1 x (List.mem_of_mem_drop hx)).1,rb x hx,(w1 x (List.mem_of_mem_drop hx)).2.2⟩,rb',w3.drop hg⟩,w1 _ hm, ?_, ?_, ?_, ?_, ?_, ?_⟩
 ·simp only[con,<-qD,List.take_append_drop]
 ·rcases k4 with k4 | k4
  ·have:=hlast k4;omega
  ·omega
 ·rcases k3 with rfl | k3
  ·have:=hone rfl;omega
  ·omega
 ·rcases k3 with rfl | k3
  ·have:=hone rfl;omega
  ·omega
 ·rcases k4 with k4 | k4
  ·have:=hlast k4;omega
  ·omega
 ·rcases k4 with k4 | k4
  ·have:=hlast k4;omega
  ·omega
inductive Cuts (h:Nat):Tr h->List (Tr h)->List Str->Prop
 | one {t:Tr h} :jA h t<=500->Cuts h t [t] []
 | more {t a b:Tr h} {s:Str} {ps:List (Tr h)} {ss:List Str} :500<jA h t->zLZ h t a s b->Cuts h b ps ss->Cuts h t (a::ps) (s::ss)
theorem zGd {h:Nat}{lo hi:Bd}{t a b:Tr h}{s:Str}(hw:WX h lo hi t)(hb:500<jA h t)(hc:zLZ h t a s b):
  WF h lo (some s) a/\WX h (some s) hi b/\Full h b/\(mayK s=true/\zAe lo s/\hiB hi s)/\con h a++con h b=con h t/\jA h b<=jA h t - (jA h t - 2) / 2+241:=by
 cases h with
 | zero=>
  obtain⟨a1,b1,hs,e,na,nb,za,zb⟩:=zIs hw.1 hw.2 hb hc;have hz:=hw.2;simp only[jA]at hb⊢;exact⟨⟨a1,na,za⟩,⟨b1,by omega⟩,nb,hs,e,zb⟩
 | succ h=>
  obtain⟨a1,b1,hs,e,na,nb,za,_,zb⟩:=zGc hw.1 hw.2 hb hc;have hz:=hw.2;simp only[jA]at hb⊢;exact⟨Gen.wf (h:=h+1) a1 na za,⟨b1,by omega⟩,nb,hs,e,by omega⟩
theorem XA {h:Nat}{t:Tr h}{ps:List (Tr h)}{ss:List Str}(hc:Cuts h t ps ss): ∀ {lo hi:Bd},WX h lo hi t->(Full h t\/500<jA h t)->
  Inn (WF h) lo hi (ss,ps)/\ps.flatMap (con h)=con h t/\ps.length<=6/\(jA h t<=635->ps.length<=5)/\(jA h t<=560->ps.length<=4)/\(jA h t<=522->ps.length<=3)/\(jA h t<=503->ps.length<=2)/\(jA h t<=500->ps.length<=1):=by
 induction hc with
 | one hs=>
  intro lo hi hw hf;rcases hf with hf | hf
  ·refine⟨⟨by simp,rfl,hw.gen.wf hf hs⟩,by simp,by simp, ?_⟩;simp
  ·omega
 | @more t a b s ps ss hb hc _ ih=>
  intro lo hi hw _;obtain⟨wa,wb,fb,hs,e,z⟩:=zGd hw hb hc;obtain⟨⟨i1,i2,i3⟩,i4,i5⟩:=ih wb (.inl fb);have hz:=hw.sz;simp only at i1 i2 i3;refine⟨⟨fun k hk=> ?_, ?_,wa,i3⟩, ?_, ?_⟩
  ·rcases List.mem_cons.1 hk with rfl | hk
   ·exact hs
   ·exact⟨(i1 k hk).1,QS hs.2.1 (.inr (i1 k hk).2.1),(i1 k hk).2.2⟩
  ·rw[Nd.rising_cons];exact⟨fun x hx=>(i1 x hx).2.1,i2⟩
  ·rw[zP,i4,e]
  ·simp only[zF];omega
theorem cS {ks:List Str}(h: ∀k∈ks,mayK k=true):yH ks<=41*ks.length:=by
 induction ks with
 | nil=>simp[yH]
 | cons k ks ih=>
  have:=JS (h k (zB ..));have:=ih fun x hx=>h x (zA _ hx)
  rw[Nd.sumL_cons,zF];omega
theorem zHq {h:Nat}{lo hi:Bd}{ks ss:List Str}{ts ps:List (Tr h)}{i m:Nat}{x:Tr h}(hw:Inn (WF h) lo hi (ks,ts))(hm:i+m<ts.length)(hx:WX h (YR lo ks i) (cN ks hi (i+m)) x)(hf:Full h x)(hc:Cuts h x ps ss):
  Inn (WF h) lo hi (ks.take i++ss++ks.drop (i+m),ts.take i++ps++ts.drop (i+m+1))/\
  con (h+1) (ks.take i++ss++ks.drop (i+m),ts.take i++ps++ts.drop (i+m+1))=(ts.take i).flatMap (con h)++con h x++(ts.drop (i+m+1)).flatMap (con h)/\
  jH (ks.take i++ss++ks.drop (i+m)) (ts.take i++ps++ts.drop (i+m+1)).length<=jH ks ts.length+285/\ks.length<=(ks.take i++ss++ks.drop (i+m)).length+m:=by
 obtain⟨c1,c2,c3,_⟩:=XA hc hx (.inl hf);have l1:=hw.2.2.len;have l2:=c1.2.2.len;simp only at l1 l2;refine⟨hw.splice hm c1, ?_, ?_, ?_⟩
 ·simp only[con,qD,c2]
 ·have hs:=cS fun k hk=>(c1.1 k hk).1
  simp only at hs;have e:yH (ks.take i)+yH (ks.drop (i+m))<=yH ks:=by
   have a1:yH ks=yH (ks.take i)+yH (ks.drop i):=by rw[<-Nd.sumL_append,List.take_append_drop]
   have a2:yH (ks.drop i)=yH ((ks.drop i).take m)+yH (ks.drop (i+m)):=by rw[<-List.drop_drop,<-Nd.sumL_append,List.take_append_drop]
   omega
  simp only[jH,zI,zG,zO,Nd.sumL_append];omega
 ·simp only[zI,zG,zO];omega
theorem UG {h:Nat}{a b:Tr h}{s:Str}(hs:s.length<=40)(hf:Full h a\/Full h b):Full h (dK h a s b):=by
 cases h with
 | zero=>
  intro e;have e:List.append (α:=Str×Str) a b=[]:=e;rcases hf with hf | hf
  ·exact hf (List.append_eq_nil_iff.1 e).1
  ·exact hf (List.append_eq_nil_iff.1 e).2
 | succ h=>
  have:=QV (h+1) a s b hs;simp only[jA]at this;show 160<=jH _ _;rcases hf with hf | hf
  ·have hf:160<=jH a.1 a.2.length:=hf;omega
  ·have hf:160<=jH b.1 b.2.length:=hf;omega
theorem QP {h:Nat}{lo hi:Bd}{t:Tr (h+1)}(hw:WF (h+1) lo hi t):3<=t.1.length:=by
 obtain⟨⟨w1,_,w3⟩,_,hz,_⟩:=hw;have hl:=w3.len;have:=cS fun k hk=>(w1 k hk).1
 simp only[jH]at hz;omega
theorem zHC {lo hi:Bd}{l:Kvs}{k v:Str}(hw:Lf lo hi l)(hl:zEF lo k)(hh:hiB hi k)(hk:mayK k=true)(hv:v.length<=200):Lf lo hi (putP k v l)/\jD (putP k v l)<=jD l+242:=by
 refine⟨⟨Nd.srt_put _ _ hw.1,fun p hp=> ?_⟩, ?_⟩
 ·rcases Nd.mem_put hp with rfl | hp
  ·exact⟨hl,hh,hk,hv⟩
  ·exact hw.2 p hp
 ·have he:=zAw (p:=(k,v)) ⟨hk,hv⟩;simp only at he;clear hw
  induction l with
  | nil=>simp only[putP,kC,bB];omega
  | cons a l ih=>
   obtain⟨a,b⟩:=a;simp only[putP];split
   ·simp only[kC];omega
   ·split
    ·simp only[kC];omega
    ·simp only[kC];omega
theorem zHD {lo hi:Bd}{l:Kvs}(k:Str)(hw:Lf lo hi l):Lf lo hi (delP k l)/\jD (delP k l)<=jD l:=by
 refine⟨⟨Nd.srt_del _ hw.1,fun p hp=>hw.2 p (Nd.mem_del hp)⟩, ?_⟩;clear hw
 induction l with
 | nil=>exact Nat.le_refl _
 | cons a l ih=>
  obtain⟨a,b⟩:=a;simp only[delP];split
  ·simp only[kC];omega
  ·simp only[kC];omega
end Go.Bt
end
section
namespace Go.Eng
theorem zIM (s t:Nat):aveq (.int .u64 (s:Nat)) (.int .u64 (t:Nat))=decide (s=t):=by
 have:keq .u64 .u64=true:=by rw[kF];simp
 simp only[aveq,this,Bool.true_and,kG];rw[Bool.eq_iff_iff];simp only[zE,beq_iff_eq];exact Int.ofNat_inj
theorem zMN (s:Nat):keyOk [10] (.int .u64 (s:Nat))=true:=rfl
theorem cq:(∀A o,vI .eql (eqP (.ptr A o) .nilPtr)=some (.bool false))/\vI .eql (eqP .nilPtr .nilPtr)=some (.bool true)/\(∀M,vI .eql (eqM (.map M) .nilMap)=some (.bool false))/\(∀A o,vI .neq (eqP (.ptr A o) .nilPtr)=some (.bool true))/\vI .neq (eqP .nilPtr .nilPtr)=some (.bool false):=
 ⟨fun _ _=>rfl,rfl,fun _=>rfl,fun _ _=>rfl,rfl⟩
end Go.Eng
namespace Go.Eng.Sh
open Go.Nd (Ptr yH)
abbrev PN:=List (Nat×Nd.Node)
def qV (s:Nat):PN->Option Nd.Node
 | []=>none
 | (a,n)::l=>if a=s then some n else qV s l
def zBZ (s:Nat):PN->PN
 | []=>[]
 | (a,n)::l=>if a=s then l else(a,n)::zBZ s l
def v8 (H:AH):List (AV×AV)->PN->Prop
 | [],[]=>True
 | (k,v)::es,(s,nd)::q=>(k= .int .u64 (s:Nat)/\yC H v nd)/\v8 H es q
 | _,_=>False
theorem v8.len {H:AH} : ∀ {es:List (AV×AV)} {q:PN},v8 H es q->es.length=q.length
 | [],[],_=>rfl
 | _::es,_::q,h=>by simp[v8.len h.2]
 | [],_::_,h=>h.elim
 | _::_,[],h=>h.elim
theorem v8.find {H:AH}(s:Nat): ∀ {es:List (AV×AV)} {q:PN},v8 H es q->(∀nd,qV s q=some nd-> ∃v,vW (.int .u64 (s:Nat)) es=some v/\yC H v nd/\ ∃k,(k,v)∈es)/\(qV s q=none->vW (.int .u64 (s:Nat)) es=none)
 | [],[],_=>⟨fun nd h=>(by cases h),fun _=>rfl⟩
 | (k,v)::es,(t,nd)::q,h=>by
  obtain⟨⟨rfl,h1⟩,h2⟩:=h;obtain⟨i1,i2⟩:=v8.find s h2;simp only[qV,vW,zIM];by_cases e:t=s
  ·subst e;refine⟨fun nd' h=> ?_,fun h=>by simp at h⟩;simp only[if_true,z7]at h;subst h;exact⟨v,by simp,h1,_,zB ..⟩
  ·have e': ¬s=t:=fun h=>e h.symm
   refine⟨fun nd' h=> ?_,fun h=> ?_⟩
   ·rw[if_neg e]at h;obtain⟨v',j1,j2,k,j3⟩:=i1 nd' h;exact⟨v',by simp[e',j1],j2,k,zA _ j3⟩
   ·rw[if_neg e]at h;simp[e',i2 h]
 | [],_::_,h=>h.elim
 | _::_,[],h=>h.elim
theorem v8.frame {H H':AH} : ∀ {es:List (AV×AV)} {q:PN},v8 H es q->(∀kv∈es,∀nd,yC H kv.2 nd->yC H' kv.2 nd)->v8 H' es q
 | [],[],_,_=>trivial
 | (k,v)::es,(s,nd)::q,h,hf=>⟨⟨h.1.1,hf (k,v) (zB ..) nd h.1.2⟩,v8.frame h.2 fun kv hkv=>hf kv (zA _ hkv)⟩
 | [],_::_,h,_=>h.elim
 | _::_,[],h,_=>h.elim
theorem v8.snoc {H:AH}{v:AV}{s:Nat}{nd:Nd.Node}(hv:yC H v nd): ∀ {es:List (AV×AV)} {q:PN},v8 H es q->v8 H (es++[(.int .u64 (s:Nat),v)]) (q++[(s,nd)])
 | [],[],_=>⟨⟨rfl,hv⟩,trivial⟩
 | _::es,_::q,h=>⟨h.1,v8.snoc hv h.2⟩
 | [],_::_,h=>h.elim
 | _::_,[],h=>h.elim
theorem kE (s:Nat): ∀(a b:PN),qV s (a++b)=match qV s a with | some n=>some n | none=>qV s b
 | [],_=>rfl
 | (t,n)::a,b=>by
  simp only[List.cons_append,qV];split
  ·rfl
  ·exact kE s a b
theorem setA_none {k v:AV} : ∀ {es:List (AV×AV)},vW k es=none->zDT k v es=none
 | [],_=>rfl
 | (a,b)::es,h=>by
  simp only[vW]at h;simp only[zDT]
  cases e:aveq k a with
  | true=>rw[e]at h;cases h
  | false=>rw[e]at h;simp only[cond_false]at h⊢;rw[setA_none h]
theorem v8.del {H:AH}(s:Nat): ∀ {es:List (AV×AV)} {q:PN},v8 H es q->(∀nd,qV s q=some nd-> ∃es',zGb (.int .u64 (s:Nat)) es=some es'/\v8 H es' (zBZ s q)/\ ∀kv∈es',kv∈es)
 | [],[],_=>fun nd h=>by cases h
 | (k,v)::es,(t,nd)::q,h=>by
  obtain⟨⟨rfl,h1⟩,h2⟩:=h;have ih:=v8.del s h2;simp only[qV,zGb,zIM,zBZ];by_cases e:t=s
  ·subst e;intro nd' _;exact⟨es,by simp,by simpa using h2,fun kv hkv=>zA _ hkv⟩
  ·have e': ¬s=t:=fun h=>e h.symm
   intro nd' h;rw[if_neg e]at h;obtain⟨es',j1,j2,j3⟩:=ih nd' h;refine⟨(.int .u64 (t:Nat),v)::es',by simp[e',j1], ?_,fun kv hkv=> ?_⟩
   ·rw[if_neg e];exact⟨⟨rfl,h1⟩,j2⟩
   ·rcases List.mem_cons.1 hkv with rfl | hkv
    ·exact zB ..
    ·exact zA _ (j3 kv hkv)
 | [],_::_,h=>h.elim
 | _::_,[],h=>h.elim
def NoRow (o:AObj):Prop:=(∃x r e g,o= .cells (x::r) e 1 g/\ ∀l b,x≠ .str l b)\/(∃ks es,o= .map ks es)\/ ∃l e k g,o= .cells l e k g/\k≠1/\k≠3
theorem yN.nsep {k e n:Nat}{H:AH}{v:AV}{l:List AV}(h:yN k e H v n l){A:Nat}{o:AObj}(hA:H.h.get A=some o)(ho: ∀e' g,o≠ .cells l e' k g): ¬Blk v A:=by
 intro hb;rcases h with⟨_,⟨rfl,_⟩ | ⟨B,rfl,_,hg⟩⟩ | ⟨_,B,e',g,rfl,_,hg⟩
 ·exact Blk.nil.1 hb
 ·rw[Blk.slice.1 hb]at hA;rw[hg]at hA;exact ho _ _ (Option.some.inj hA).symm
 ·rw[Blk.slice.1 hb]at hA;rw[hg]at hA;exact ho _ _ (Option.some.inj hA).symm
theorem yC.nblk {H:AH}{v:AV}{nd:Nd.Node}{A:Nat}{o:AObj}(h:yC H v nd)(hA:H.h.get A=some o)(ho:NoRow o): ¬xZ v A:=by
 obtain⟨ks,vs,ps,rfl,h1,h2,h3⟩:=h;have hS: ∀(l:List Str),∀e' g,o≠ .cells (l.map S) e' 1 g:=fun l e' g e=>by
  rcases ho with⟨x,r,e2,g2,rfl,hx⟩ | ⟨_,_,rfl⟩ | ⟨_,_,_,_,rfl,k1,k3⟩
  ·simp only[AObj.cells.injEq]at e
   cases l with
   | nil=>simp at e
   | cons y l=>
    simp only[List.map_cons,List.cons.injEq]at e;exact hx _ _ e.1.1
  ·cases e
  ·simp only[AObj.cells.injEq]at e;omega
 have hP: ∀e' g,o≠ .cells (nd.kids.flatMap y5) e' 3 g:=fun e' g e=>by
  rcases ho with⟨x,r,e2,g2,rfl,_⟩ | ⟨_,_,rfl⟩ | ⟨_,_,_,_,rfl,k1,k3⟩
  ·simp only[AObj.cells.injEq]at e;omega
  ·cases e
  ·simp only[AObj.cells.injEq]at e;omega
 intro hb;rcases kD.1 hb with h | h | h
 ·exact yN.nsep h1 hA (hS _) h
 ·exact yN.nsep h2 hA (hS _) h
 ·exact yN.nsep h3 hA hP h
theorem yC.stp {S:Nat->Prop}{H H':AH}{v:AV}{nd:Nd.Node}(h:yC H v nd)(s:Stp S H H')(hS: ∀A,xZ v A-> ¬S A):yC H' v nd:=by
 obtain⟨ks,vs,ps,rfl,h1,h2,h3⟩:=h;exact⟨ks,vs,ps,rfl,h1.mono s (fun A hA=>hS A (kD.2 (.inl hA))),h2.mono s (fun A hA=>hS A (kD.2 (.inr (.inl hA)))),h3.mono s (fun A hA=>hS A (kD.2 (.inr (.inr hA))))⟩
theorem yC.lt {H:AH}{v:AV}{nd:Nd.Node}(h:yC H v nd){B:Nat}(hB:xZ v B):B<H.next:=by
 obtain⟨ks,vs,ps,rfl,h1,h2,h3⟩:=h;rcases kD.1 hB with h | h | h
 ·exact h1.lt h
 ·exact h2.lt h
 ·exact h3.lt h
def u4 (d c:AV)(root:Ptr)(M last:Nat)(dr:AV):List AV:=[d,c, .int .i64 root.at_, .int .i64 root.birth, .int .u64 root.sum, .map M, .int .u64 (last:Nat),dr]
structure TI (H:AH)(At M:Nat)(d c:AV)(root:Ptr)(es:List (AV×AV))(q:PN)(last:Nat)(dr:AV):Prop where
 ok:H.ok
 gT:H.h.get At=some (.cells (u4 d c root M last dr) 107 1 false)
 gM:H.h.get M=some (.map [10] es)
 pq:v8 H es q
 hd: ∃A o,d= .ptr A o
 few:q.length<=1000000000
theorem TI.prs {H H':AH}{At M last:Nat}{d c dr:AV}{root:Ptr}{es:List (AV×AV)}{q:PN}(h:TI H At M d c root es q last dr)(s:Prs H H'):TI H' At M d c root es q last dr:=
 ⟨s.ok,Prs.get s h.ok h.gT,Prs.get s h.ok h.gM,h.pq.frame fun kv _ nd hn=>hn.prs s,h.hd,h.few⟩
theorem QL (D:Dyn)(n:Nat){H:AH}{At M last:Nat}{d c dr:AV}{root:Ptr}{es:List (AV×AV)}{q:PN}(h:TI H At M d c root es q last dr):f51 D n [.ptr At 0] H=some (.bool false,H):=by
 obtain⟨A,o,rfl⟩:=h.hd;simp only[f51,eZ,cq,qM h.gT,u4]
theorem zKH (D:Dyn)(n:Nat){H:AH}{At M last:Nat}{d c dr:AV}{root:Ptr}{es:List (AV×AV)}{q:PN}(h:TI H At M d c root es q last dr):f72 D n [.ptr At 0] H=some (.int .i64 ((8192+q.length:Nat):Int),H):=by
 have hf:=h.few;have hln:U6 (.map M) H=some (.int .i64 ((q.length:Nat):Int)):=by
  simp only[U6,h.gM,yE,h.pq.len];rfl
 have e:((8192:Nat):Int)+((q.length:Nat):Int)=((8192+q.length:Nat):Int):=by omega
 simp(disch:=omega) only[f72,eZ,qM h.gT,u4,hln,e]
def pp (s:Nat):Ptr:=⟨1,0,(s:Nat)⟩
theorem zA5 (D:Dyn)(n:Nat){H:AH}{At M last s:Nat}{d c dr:AV}{root:Ptr}{es:List (AV×AV)}{q:PN}{nd:Nd.Node}(h:TI H At M d c root es q last dr)(hs:qV s q=some nd):
  ∃v H',f73 D n [.ptr At 0, .agg (y5 (pp s))] H=some (.tuple [v, .int .i64 ((0:Nat):Int)],H')/\Prs H H'/\yC H' v nd/\ ∃k,(k,v)∈es:=by
 obtain⟨v,f1,f2,hm⟩:=(h.pq.find s).1 nd hs;obtain⟨H1,A3,b1,p1,g1,m1,n1⟩:=box h.ok (.cells [.int .i64 ((1:Nat):Int), .int .i64 ((0:Nat):Int), .int .u64 (s:Nat)] 65 1 false);obtain⟨H2,A4,b2,p2,g2,m2,n2⟩:=box p1.ok (.cells [.bool false, .nilSlice, .nilSlice, .nilSlice] 111 1 false);have P2:Prs H H2:=p1.trans p2;obtain⟨H3,A6,b3,p3,g3,m3,n3⟩:=box P2.ok (.cells [.bool false, .nilSlice, .nilSlice, .nilSlice] 111 1 false);have P3:=P2.trans p3;obtain⟨l,rfl,ll,lc⟩:=f2.cells;obtain⟨H4,e4,g4,s4,n4⟩:=qX P3.ok g3 (l':=l) ll lc;have e4':stN 4 (.ptr A6 0) (.agg l) H3=some (qN,H4):=e4;have P4:Prs H H4:=P3.fresh s4 (fun B hB=>by have:=P2.next;omega)
 obtain⟨H5,e5,g5,s5,n5⟩:=qX P4.ok (show H4.h.get A4=some (.cells [.bool false, .nilSlice, .nilSlice, .nilSlice] 111 1 false)by rw[s4.keep _ (by have:=p3.next;omega) (by omega)];exact Prs.get p3 P2.ok g2) (l':=l) ll lc
 have e5':stN 4 (.ptr A4 0) (.agg l) H4=some (qN,H5):=e5;have P5:Prs H H5:=P4.fresh s5 (fun B hB=>by have:=p1.next;omega)
 have g13:H3.h.get A3=some (.cells [.int .i64 ((1:Nat):Int), .int .i64 ((0:Nat):Int), .int .u64 (s:Nat)] 65 1 false):=Prs.get p3 P2.ok (Prs.get p2 p1.ok g1);have g12:=Prs.get p2 p1.ok g1;have g14:H4.h.get A3=some (.cells [.int .i64 ((1:Nat):Int), .int .i64 ((0:Nat):Int), .int .u64 (s:Nat)] 65 1 false):=by rw[s4.keep _ (by have:=p2.next;have:=p3.next;omega) (by have:=p2.next;omega)];exact g13
 have hlk:lkM [10] (.agg [.bool false, .nilSlice, .nilSlice, .nilSlice]) true (.map M) (.int .u64 (s:Nat)) H2=some (.tuple [.agg l, .bool true]):=by
  simp only[lkM,zMN,cond_true,Prs.get P2 h.ok h.gM,show YS [10] [10]=true from rfl,f1];rfl
 refine⟨.agg l,H5, ?_,P5,f2.prs P5,hm⟩;have t00: ¬(((0:Nat):Int)≠((0:Nat):Int)):=by omega
 have hp:y5 (pp s)=[.int .i64 ((1:Nat):Int), .int .i64 ((0:Nat):Int), .int .u64 (s:Nat)]:=rfl;rw[hp];simp(maxSteps:=999999)(disch:=omega) only[f73,eZ,b1,b2,qM g12,qM g13,qM g14,qM (Prs.get P2 h.ok h.gT),u4,hlk,qL,nth,b3,e4',t00,vL g4 ll,e5',vL g5 ll]
structure Ch (H0 H:AH)(At Ac F:Nat)(fes:List (AV×AV))(f:PN)(g:AV)(gl:List Ptr)(last0 last:Nat):Prop where
 prs:Prs H0 H
 gC:H.h.get Ac=some (.cells [.ptr At 0, .int .u64 (last:Nat), .map F,g] 136 1 false)
 gF:H.h.get F=some (.map [10] fes)
 pf:v8 H fes f
 gg:Own 3 65 H g gl.length (gl.flatMap y5)
 gN: ∀B,Blk g B->H0.next<=B
 gf: ∀kv∈fes,∀B,xZ kv.2 B-> ¬Blk g B
 dC:H0.next<=Ac
 dF:H0.next<=F
 ne:Ac≠F
 fs: ∀s nd,qV s f=some nd->last0<s/\s<=last
 le:last0<=last
 few:gl.length<=last+1000
 fd:(f.map Prod.fst).Nodup
 fl:f.length+last0<=last
theorem vU {s:Nat} : ∀ {q:PN},s∈q.map Prod.fst-> ∃nd,qV s q=some nd
 | [],h=>by simp at h
 | (t,n)::q,h=>by
  simp only[qV];by_cases e:t=s
  ·exact⟨n,if_pos e⟩
  ·rw[if_neg e];simp only[List.map_cons,List.mem_cons]at h;exact vU (h.resolve_left fun e'=>e e'.symm)
def chg (Ac F:Nat)(g:AV)(B:Nat):Prop:=B=Ac\/B=F\/Blk g B
def Adv (Ac F:Nat)(H:AH)(g:AV)(H':AH)(g':AV):Prop:=Stp (chg Ac F g) H H'/\ ∀B,Blk g' B->Blk g B\/H.next<=B
def k7 (H:AH)(g v:AV)(nd:Nd.Node):Prop:=yC H v nd/\ ∀B,xZ v B-> ¬Blk g B
theorem Adv.prs {Ac F:Nat}{H H':AH}(g:AV)(s:Prs H H'):Adv Ac F H g H' g:=⟨s.mono (fun _ _ x=>x.elim),fun _ h=> .inl h⟩
theorem Adv.trans {Ac F:Nat}{H H1 H2:AH}{g g1 g2:AV}(hA:Ac<H.next)(hF:F<H.next)(h:Adv Ac F H g H1 g1)(k:Adv Ac F H1 g1 H2 g2):Adv Ac F H g H2 g2:=by
 refine⟨⟨k.1.ok,Nat.le_trans h.1.next k.1.next,fun A hA hS=> ?_⟩,fun B hB=> ?_⟩
 ·rw[k.1.keep A (zU hA h.1.next) (fun hc=> ?_),h.1.keep A hA hS]
  rcases hc with e | e | e
  ·exact hS (.inl e)
  ·exact hS (.inr (.inl e))
  ·rcases h.2 A e with e | e
   ·exact hS (.inr (.inr e))
   ·omega
 ·have:=h.1.next
  rcases k.2 B hB with e | e
  ·exact h.2 B e
  ·exact .inr (by omega)
theorem Ch.ltC {H0 H:AH}{At Ac F:Nat}{fes:List (AV×AV)}{f:PN}{g:AV}{gl:List Ptr}{last0 last:Nat}(h:Ch H0 H At Ac F fes f g gl last0 last):Ac<H.next:=h.prs.ok.lt h.gC
theorem Ch.ltF {H0 H:AH}{At Ac F:Nat}{fes:List (AV×AV)}{f:PN}{g:AV}{gl:List Ptr}{last0 last:Nat}(h:Ch H0 H At Ac F fes f g gl last0 last):F<H.next:=h.prs.ok.lt h.gF
theorem Ch.keep {H0 H H':AH}{At Ac F:Nat}{fes:List (AV×AV)}{f:PN}{g v:AV}{gl:List Ptr}{last0 last:Nat}{nd:Nd.Node}(h:Ch H0 H At Ac F fes f g gl last0 last)(hv:k7 H g v nd)(s:Stp (chg Ac F g) H H'):yC H' v nd:=
 hv.1.stp s fun A hA hc=>by
  rcases hc with rfl | rfl | e
  ·exact hv.1.nblk h.gC (.inl ⟨_,_,_,_,rfl,fun _ _ e=>by cases e⟩) hA
  ·exact hv.1.nblk h.gF (.inr (.inl ⟨_,_,rfl⟩)) hA
  ·exact hv.2 A hA e
theorem Ch.next {H0 H H':AH}{At Ac F:Nat}{fes:List (AV×AV)}{f:PN}{g g' v:AV}{gl:List Ptr}{last0 last:Nat}{nd:Nd.Node}(h:Ch H0 H At Ac F fes f g gl last0 last)(hv:k7 H g v nd)(s:Adv Ac F H g H' g'):k7 H' g' v nd:=
 ⟨h.keep hv s.1,fun B hB hg=>by
  rcases s.2 B hg with e | e
  ·exact hv.2 B hB e
  ·have:=hv.1.lt hB;omega⟩
theorem Ch.step {H0 H H':AH}{At Ac F:Nat}{fes:List (AV×AV)}{f:PN}{g:AV}{gl:List Ptr}{last0 last:Nat}(h:Ch H0 H At Ac F fes f g gl last0 last)(s:Prs H H'):Ch H0 H' At Ac F fes f g gl last0 last:=
 ⟨h.prs.trans s,Prs.get s h.prs.ok h.gC,Prs.get s h.prs.ok h.gF,h.pf.frame fun kv _ nd hn=>hn.prs s,h.gg.mono s (fun _ _ x=>x),h.gN,h.gf,h.dC,h.dF,h.ne,h.fs,h.le,h.few,h.fd,h.fl⟩
theorem k7.prs {H H':AH}{g v:AV}{nd:Nd.Node}(h:k7 H g v nd)(s:Prs H H'):k7 H' g v nd:=⟨h.1.prs s,h.2⟩
theorem wD.hand {H0 H H':AH}{At Ac F:Nat}{fes:List (AV×AV)}{f:PN}{g v:AV}{gl:List Ptr}{last0 last:Nat}{nd:Nd.Node}(h:Ch H0 H At Ac F fes f g gl last0 last){N:Nat}(hN:H.next<=N)(hv:wD N H' v nd):k7 H' g v nd:=
 ⟨hv.1,fun B hB hg=>by have:=hv.2 B hB;have:=Rw.blk h.gg.row hg;omega⟩
theorem yC.hand {H0 H H':AH}{At Ac F:Nat}{fes:List (AV×AV)}{f:PN}{g v:AV}{gl:List Ptr}{last0 last:Nat}{nd:Nd.Node}(h:Ch H0 H At Ac F fes f g gl last0 last)(hv:yC H' v nd)(ho: ∀B,xZ v B->B<H0.next):k7 H' g v nd:=
 ⟨hv,fun B hB hg=>by have:=ho B hB;have:=h.gN B hg;omega⟩
theorem bldP (e:TypeId)(p:Ptr)(z:List AV)(hz:z.length=3):wK e 3 1 z [(0, .agg (y5 p))]=some (.cells (y5 p) e 3 false,fun A=> .slice A 0 1 2):=by
 match z,hz with
 | [_,_,_],_=>rfl
theorem zK9 (p:Ptr):u5 (y5 p) 0 3=some (y5 p):=rfl
theorem zF1 (D:Dyn)(n:Nat){H0 H:AH}{At Ac F:Nat}{fes:List (AV×AV)}{f:PN}{g:AV}{gl:List Ptr}{last0 last:Nat}(h:Ch H0 H At Ac F fes f g gl last0 last)(p:Ptr)(hl:gl.length+1<=last+1000)(hb:last<=900000000):
  ∃g' H',f75 D n [.ptr Ac 0, .agg (y5 p)] H=some (.tuple [],H')/\Ch H0 H' At Ac F fes f g' (gl++[p]) last0 last/\Adv Ac F H g H' g':=by
 obtain⟨H1,A3,b1,p1,g1,m1,n1⟩:=box h.prs.ok (.cells (y5 p) 65 1 false);obtain⟨H2,A4,b2,p2,g2,m2,n2⟩:=box p1.ok (.cells (y5 p) 65 3 false);have P2:=p1.trans p2;have h2:=h.step P2;have hsrc:srcOf 3 (.slice A4 0 1 2) H2=some (1,y5 p):=by
  simp only[srcOf,g2];rfl
 obtain⟨g',H3,e3,o3,s3,w3,f3⟩:=zLB (bytes:=24) h2.prs.ok (by decide) h2.gg hsrc rfl rfl (by omega) (by decide);have nC: ¬Blk g Ac:=fun hB=>by
  obtain⟨_,⟨rfl,_⟩ | ⟨A,rfl,_,hg⟩⟩:=h2.gg
  ·exact Blk.nil.1 hB
  ·rw[<-Blk.slice.1 hB,h2.gC]at hg;simp at hg
 have nF: ¬Blk g F:=fun hB=>by
  obtain⟨_,⟨rfl,_⟩ | ⟨A,rfl,_,hg⟩⟩:=h2.gg
  ·exact Blk.nil.1 hB
  ·rw[<-Blk.slice.1 hB,h2.gF]at hg;simp at hg
 have gC3:H3.h.get Ac=some (.cells [.ptr At 0, .int .u64 (last:Nat), .map F,g] 136 1 false):=by rw[s3.keep _ h2.ltC nC];exact h2.gC
 have gF3:H3.h.get F=some (.map [10] fes):=by rw[s3.keep _ h2.ltF nF];exact h2.gF
 obtain⟨H4,e4,g4,s4,n4⟩:=Q6 s3.ok gC3 (o:=3) (x:=g') o3.row.isCell (by simp);have lt4: ∀B,Blk g' B->B<H3.next:=fun B hB=>Rw.blk o3.row hB
 have nC': ¬Blk g' Ac:=fun hB=>by
  rcases f3 Ac hB with e | e
  ·exact nC e
  ·have:=h2.ltC;omega
 have S2:Stp (chg Ac F g) H2 H4:=(s3.mono (fun _ _ x=> .inr (.inr x))).trans (s4.mono (fun _ _ x=> .inl x));have S:Stp (chg Ac F g) H H4:=(P2.mono (fun _ _ x=>x.elim)).trans S2;have hadv:Adv Ac F H g H4 g':=⟨S,fun B hB=>by
  rcases f3 B hB with e | e
  ·exact .inl e
  ·have:=P2.next;exact .inr (by omega)⟩
 have hfl:(gl++[p]).flatMap y5=gl.flatMap y5++y5 p:=by simp
 refine⟨g',H4, ?_,⟨?_, ?_, ?_, ?_, ?_, ?_, ?_,h.dC,h.dF,h.ne,h.fs,h.le,by simpa using hl,h.fd,h.fl⟩,hadv⟩
 ·have e1:=bldP 65 p [.int .i64 ((0:Nat):Int), .int .i64 ((0:Nat):Int), .int .u64 ((0:Nat):Int)] rfl;simp(disch:=omega) only[f75,eZ,b1,qM (Prs.get p1 h.prs.ok h.gC),qR g1,zK9,Option.map_some,e1,b2,e3,e4]
 ·exact h.prs.fresh S (fun B hB=>by
   have:=h.dC;have:=h.dF;rcases hB with e | e | e
   ·omega
   ·omega
   ·exact h.gN B e)
 ·exact g4
 ·rw[s4.keep _ (by have:=s3.next;have:=h2.ltF;omega) (fun e=>h.ne e.symm)];exact gF3
 ·exact h.pf.frame fun kv hkv nd hn=>h.keep ⟨hn,h.gf kv hkv⟩ S
 ·rw[hfl];have:=o3.mono s4 (fun B hB e=>nC' (e▸hB));simpa using this
 ·intro B hB;rcases f3 B hB with e | e
  ·exact h.gN B e
  ·have:=h2.prs.next;omega
 ·intro kv hkv B hB hg;obtain⟨i,hi⟩:=List.mem_iff_getElem.1 hkv;have hlt:B<H.next:=by
   have hp: ∀ {es:List (AV×AV)} {q:PN},v8 H es q-> ∀kv∈es,∃nd,yC H kv.2 nd:=by
    intro es
    induction es with
    | nil=>intro q _ kv h;simp at h
    | cons e es ih=>
     intro q hq kv hk
     match q,hq with
     | (t,nd)::q,hq=>
      rcases List.mem_cons.1 hk with rfl | hk
      ·exact⟨nd,hq.1.2⟩
      ·exact ih hq.2 kv hk
   obtain⟨nd,hn⟩:=hp h.pf kv hkv;exact hn.lt hB
  rcases f3 B hg with e | e
  ·exact h.gf kv hkv B hB e
  ·have:=P2.next;omega
theorem zGD (D:Dyn)(n:Nat){H0 H:AH}{At Ac F:Nat}{fes:List (AV×AV)}{f:PN}{g v:AV}{gl:List Ptr}{last0 last:Nat}{nd:Nd.Node}(h:Ch H0 H At Ac F fes f g gl last0 last)(hv:k7 H g v nd)(hb:last<=900000000):
  ∃H',f70 D n [.ptr Ac 0,v] H=some (.agg (y5 (pp (last+1))),H')/\Ch H0 H' At Ac F (fes++[(.int .u64 ((last+1:Nat):Int),v)]) (f++[(last+1,nd)]) g gl last0 (last+1)/\Adv Ac F H g H' g:=by
 obtain⟨l,rfl,ll,lc⟩:=hv.1.cells;obtain⟨H1,A3,b1,p1,g1,m1,n1⟩:=box h.prs.ok (.cells l 111 1 false);obtain⟨H2,A4,b2,p2,g2,m2,n2⟩:=box p1.ok (.cells [.int .i64 ((0:Nat):Int), .int .i64 ((0:Nat):Int), .int .u64 ((0:Nat):Int)] 65 1 false);have P2:=p1.trans p2;have h2:=h.step P2;obtain⟨H3,e3,g3,s3,n3⟩:=Q6 h2.prs.ok h2.gC (o:=1) (x:= .int .u64 ((last+1:Nat):Int)) rfl (by simp);have g3:H3.h.get Ac=some (.cells [.ptr At 0, .int .u64 ((last+1:Nat):Int), .map F,g] 136 1 false):=g3;have gF3:H3.h.get F=some (.map [10] fes):=by rw[s3.keep _ h2.ltF (fun e=>h.ne e.symm)];exact h2.gF
 have hno:vW (.int .u64 ((last+1:Nat):Int)) fes=none:=(h.pf.find (last+1)).2 (by
  cases hk:qV (last+1) f with
  | none=>rfl
  | some nd'=>have:=h.fs _ _ hk;omega)
 have e4:upM [10] (.map F) (.int .u64 ((last+1:Nat):Int)) (.agg l) H3=some (qN,H3.put F (.map [10] (fes++[(.int .u64 ((last+1:Nat):Int), .agg l)]))):=by
  simp only[upM,zMN,cond_true,gF3,show YS [10] [10]=true from rfl,setA_none hno,jW]
 have gF4:(H3.put F (.map [10] (fes++[(.int .u64 ((last+1:Nat):Int), .agg l)]))).h.get F=some (.map [10] (fes++[(.int .u64 ((last+1:Nat):Int), .agg l)])):=by rw[AH.put_get,if_pos rfl]
 have s4:Stp (fun B=>B=F) H3 (H3.put F (.map [10] (fes++[(.int .u64 ((last+1:Nat):Int), .agg l)]))):=(Stp.refl s3.ok).put (s3.ok.lt gF3) _ (.inr rfl);generalize H3.put F (.map [10] (fes++[(.int .u64 ((last+1:Nat):Int), .agg l)]))=H4 at e4 gF4 s4;have gC4:H4.h.get Ac=some (.cells [.ptr At 0, .int .u64 ((last+1:Nat):Int), .map F,g] 136 1 false):=by rw[s4.keep _ (s3.ok.lt g3) h.ne];exact g3
 have hC0:=h.ltC;have hF0:=h.ltF;have N1:=p1.next;have N2:=p2.next;have N3:=s3.next;have N4:=s4.next
 have g44:H4.h.get A4=some (.cells [.int .i64 ((0:Nat):Int), .int .i64 ((0:Nat):Int), .int .u64 ((0:Nat):Int)] 65 1 false):=by
  rw[s4.keep _ (by omega) (by omega),s3.keep _ n2 (by omega)];exact g2
 have g33:ldN 4 (.ptr A3 0) H3=some (.agg l):=vL (e:=111) (by rw[s3.keep _ (by omega) (by omega)];exact Prs.get p2 p1.ok g1) ll;obtain⟨H5,e5,g5,s5,n5⟩:=qX s4.ok g44 (l':=y5 (pp (last+1))) rfl rfl;have e5':stN 3 (.ptr A4 0) (.agg (y5 (pp (last+1)))) H4=some (qN,H5):=e5;have S4:Stp (chg Ac F g) H H4:=((P2.mono (fun _ _ x=>x.elim)).trans (s3.mono (fun _ _ x=> .inl x))).trans (s4.mono (fun _ _ x=> .inr (.inl x)));have S5:Stp (chg Ac F g) H H5:=⟨s5.ok,Nat.le_trans S4.next s5.next,fun A hA hS=>by rw[s5.keep A (by omega) (by omega),S4.keep A hA hS]⟩
 have hadv:Adv Ac F H g H5 g:=⟨S5,fun B hB=> .inl hB⟩;have hwr:IntKind.wrap .u64 (((last:Nat):Int)+((1:Nat):Int))=((last+1:Nat):Int):=by rw[wrap_u64];omega
 have bs:jT [(0,1),(1,1),(2,1)] [.int .i64 ((0:Nat):Int), .int .i64 ((0:Nat):Int), .int .u64 ((0:Nat):Int)] [(0, .int .i64 ((1:Nat):Int)),(2, .int .u64 ((last+1:Nat):Int))]=some (.agg (y5 (pp (last+1)))):=rfl;have r5:ldN 3 (.ptr A4 0) H5=some (.agg (y5 (pp (last+1)))):=by rw[qR g5];rfl
 have hv':=h.keep hv S5;refine⟨H5, ?_,⟨?_, ?_, ?_, ?_, ?_,h.gN, ?_,h.dC,h.dF,h.ne, ?_,by have:=h.le;omega,by have:=h.few;omega, ?_,by have:=h.fl;simp;omega⟩,hadv⟩
 ·simp(maxSteps:=999999)(disch:=omega) only[f70,eZ,b1,b2,qM h2.gC,hwr,e3,qM g3,g33,e4,qM gC4,bs,e5',r5]
 ·exact h.prs.fresh S5 (fun B hB=>by
   have:=h.dC;have:=h.dF;rcases hB with e | e | e
   ·omega
   ·omega
   ·exact h.gN B e)
 ·rw[s5.keep _ (by omega) (by omega)];exact gC4
 ·rw[s5.keep _ (by omega) (by omega)];exact gF4
 ·exact v8.snoc hv' (h.pf.frame fun kv hkv nd hn=>h.keep ⟨hn,h.gf kv hkv⟩ S5)
 ·have nC: ∀B,Blk g B-> ¬B=Ac:=fun B hB e=>by
   subst e;obtain⟨_,⟨rfl,_⟩ | ⟨A,rfl,_,hg⟩⟩:=h.gg
   ·exact Blk.nil.1 hB
   ·rw[<-Blk.slice.1 hB,h.gC]at hg;simp at hg
  have nF: ∀B,Blk g B-> ¬B=F:=fun B hB e=>by
   subst e;obtain⟨_,⟨rfl,_⟩ | ⟨A,rfl,_,hg⟩⟩:=h.gg
   ·exact Blk.nil.1 hB
   ·rw[<-Blk.slice.1 hB,h.gF]at hg;simp at hg
  exact(((h2.gg.mono s3 nC).mono s4 nF).mono s5 (fun B hB e=>by have:=Rw.blk h.gg.row hB;omega))
 ·intro kv hkv B hB;rcases List.mem_append.1 hkv with hkv | hkv
  ·exact h.gf kv hkv B hB
  ·simp only[List.mem_singleton]at hkv;subst hkv;exact hv.2 B hB
 ·intro s nd' hs;rw[kE]at hs
  cases hk:qV s f with
  | some nd2=>have:=h.fs _ _ hk;omega
  | none=>
   rw[hk]at hs;simp only[qV]at hs;split at hs
   ·have:=h.le;omega
   ·cases hs
 ·rw[List.map_append,List.nodup_append];refine⟨h.fd,by simp,fun a ha b hb e=> ?_⟩;simp only[List.map_cons,List.map_nil,List.mem_singleton]at hb;subst hb;subst e;obtain⟨nd2,h2⟩:=vU ha;have:=h.fs _ _ h2;omega
open Go.Nd (cutOk cutA fQ)
inductive CutsN:Nd.Node->List Nd.Node->List Str->Prop
 | one {nd:Nd.Node} :Nd.size nd<=500->CutsN nd [nd] []
 | more {nd:Nd.Node} {k:Nat} {ps:List Nd.Node} {ss:List Str} :500<Nd.size nd->cutOk nd k->hbnd nd k->CutsN (fQ nd k) ps ss->CutsN nd (cutA nd k::ps) (nd.keys.getD k []::ss)
def Par (H:AH):List (List AV)->List Nd.Node->Prop
 | [],[]=>True
 | l::vs,nd::nds=>(l.length=4/\qP l=true/\yC H (.agg l) nd)/\Par H vs nds
 | _,_=>False
theorem Par.len {H:AH} : ∀ {vs:List (List AV)} {nds:List Nd.Node},Par H vs nds->vs.length=nds.length/\vs.flatten.length=nds.length*4/\qP vs.flatten=true
 | [],[],_=>⟨rfl,rfl,rfl⟩
 | l::vs,_::nds,h=>by
  obtain⟨a,b,c⟩:=Par.len h.2;refine⟨by simp[a], ?_, ?_⟩
  ·rw[List.flatten_cons,zI,b,h.1.1,zF];omega
  ·rw[List.flatten_cons,jZ];intro x hx;rcases List.mem_append.1 hx with hx | hx
   ·exact jZ.1 h.1.2.1 x hx
   ·exact jZ.1 c x hx
 | [],_::_,h=>h.elim
 | _::_,[],h=>h.elim
theorem Par.frame {H H':AH} : ∀ {vs:List (List AV)} {nds:List Nd.Node},Par H vs nds->(∀l∈vs,∀nd,yC H (.agg l) nd->yC H' (.agg l) nd)->Par H' vs nds
 | [],[],_,_=>trivial
 | l::vs,nd::nds,h,hf=>⟨⟨h.1.1,h.1.2.1,hf l (zB ..) nd h.1.2.2⟩,Par.frame h.2 fun l hl=>hf l (zA _ hl)⟩
 | [],_::_,h,_=>h.elim
 | _::_,[],h,_=>h.elim
theorem Par.snoc {H:AH}{l:List AV}{nd:Nd.Node}(hv:l.length=4/\qP l=true/\yC H (.agg l) nd): ∀ {vs:List (List AV)} {nds:List Nd.Node},Par H vs nds->Par H (vs++[l]) (nds++[nd])
 | [],[],_=>⟨hv,trivial⟩
 | _::vs,_::nds,h=>⟨h.1,Par.snoc hv h.2⟩
 | [],_::_,h=>h.elim
 | _::_,[],h=>h.elim
theorem Par.mem {H:AH} : ∀ {vs:List (List AV)} {nds:List Nd.Node} {l:List AV},Par H vs nds->l∈vs-> ∃nd,yC H (.agg l) nd
 | [],[],_,_,hl=>by simp at hl
 | k::vs,nd::nds,l,h,hl=>by
  rcases List.mem_cons.1 hl with rfl | hl
  ·exact⟨nd,h.1.2.2⟩
  ·exact Par.mem h.2 hl
 | [],_::_,_,h,_=>h.elim
 | _::_,[],_,h,_=>h.elim
theorem zO0 (e:TypeId)(l:List AV)(hl:l.length=4)(z:List AV)(hz:z.length=4):wK e 4 1 z [(0, .agg l)]=some (.cells l e 4 false,fun A=> .slice A 0 1 2):=by
 match z,hz with
 | [_,_,_,_],_=>match l,hl with
  | [_,_,_,_],_=>rfl
theorem src4 {H:AH}{A e:Nat}{l:List AV}{g:Bool}(h:H.h.get A=some (.cells l e 4 g))(hl:l.length=4)(cc:Nat):srcOf 4 (.slice A 0 1 cc) H=some (1,l):=by
 simp only[srcOf,h,jP _ _ _ (.inr (show 0+1*4<=l.length by omega)),List.drop_zero,zK (show l.length<=1*4 by omega)]
theorem Q9 {nd:Nd.Node}(h:Nd.shaped ltS nd=true)(hz:500<Nd.size nd):vH nd:=by
 have hk: ∀k∈nd.keys,k.length<=40:=fun k hk=>by
  simp only[Nd.shaped,z8,List.all_eq_true]at h;have:=h.1.1 k hk;simp only[Nd.mayK,z8,zE]at this;omega
 have b1: ∀(c:Nat) (l:List Str),(∀k∈l,k.length<=c)->yH l<=(c+1)*l.length:=by
  intro c l
  induction l with
  | nil=>simp[yH]
  | cons a l ih=>
   intro h;have:=ih fun k hk=>h k (zA _ hk)
   have:=h a (zB ..);rw[Nd.sumL_cons,zF,Nat.mul_succ];omega
 have k1:=b1 40 nd.keys hk;simp only[Nd.size]at hz
 cases hl:nd.leaf with
 | true=>
  simp only[Nd.shaped,hl,if_true,z8,zE,List.all_eq_true]at h;have k2:=b1 200 nd.vals fun v hv=>h.2.2 v hv
  rw[h.2.1.2,zV]at hz;rw[h.2.1.1]at k2;exact⟨by omega, .inl hl⟩
 | false=>
  simp only[Nd.shaped,hl,Bool.false_eq_true,if_false,z8,zE]at h;rw[h.2.1.1.2]at hz;have:yH []=0:=rfl;rw[h.2.1.2]at hz;exact⟨by omega, .inr (by omega)⟩
theorem xJ {nd:Nd.Node}(h:Nd.size nd<=10000):small nd:=by
 simp only[Nd.size]at h;exact⟨by omega,by omega,by omega⟩
theorem UY (D:Dyn)(n:Nat)(hn:200000000<=n){H:AH}(hk:H.ok){v:AV}{nd:Nd.Node}(h:yC H v nd)(hsh:Nd.shaped ltS nd=true)(hz:Nd.size nd<=10000):
  ∃pv sv H' vs nds ss,f94 D n [v] H=some (.tuple [pv,sv, .int .i64 ((0:Nat):Int)],H')/\Prs H H'/\CutsN nd nds ss/\Own 4 111 H' pv nds.length vs.flatten/\Par H' vs nds/\Own 1 9 H' sv ss.length (ss.map S)/\
   (∀B,Blk pv B->H.next<=B)/\(∀B,Blk sv B->H.next<=B)/\ ∀l∈vs,∀B,xZ (.agg l) B->xZ v B\/H.next<=B:=by
 obtain⟨l0,rfl,l0l,l0c⟩:=h.cells;obtain⟨H1,A1,b1,p1,g1,m1,n1⟩:=box hk (.cells l0 111 1 false);have lp:Fin (qT n (zHW D n) [.ptr A1 0, .nilSlice, .nilSlice] H1) fun x H'=> ∃l nd' vs nds ss pv sv,x= .exit 0 [.ptr A1 0,pv,sv]/\Prs H H'/\H'.h.get A1=some (.cells l 111 1 false)/\l.length=4/\qP l=true/\yC H' (.agg l) nd'/\Nd.size nd'<=500/\
   (∀ps' ss',CutsN nd' ps' ss'->CutsN nd (nds++ps') (ss++ss'))/\Own 4 111 H' pv nds.length vs.flatten/\Par H' vs nds/\Own 1 9 H' sv ss.length (ss.map S)/\(∀B,Blk pv B->H.next<=B)/\(∀B,Blk sv B->H.next<=B)/\
   (∀B,xZ (.agg l) B->xZ (.agg l0) B\/H.next<=B)/\(∀l∈vs,∀B,xZ (.agg l) B->xZ (.agg l0) B\/H.next<=B)/\nds.length<=10000:=by
  refine Fin.loop (fun k us H'=> ∃l nd' vs nds ss pv sv,us=[.ptr A1 0,pv,sv]/\Prs H H'/\H'.h.get A1=some (.cells l 111 1 false)/\l.length=4/\qP l=true/\yC H' (.agg l) nd'/\Nd.shaped ltS nd'=true/\
   (∀ps' ss',CutsN nd' ps' ss'->CutsN nd (nds++ps') (ss++ss'))/\Own 4 111 H' pv nds.length vs.flatten/\Par H' vs nds/\Own 1 9 H' sv ss.length (ss.map S)/\(∀B,Blk pv B->H.next<=B)/\(∀B,Blk sv B->H.next<=B)/\
   (∀B,xZ (.agg l) B->xZ (.agg l0) B\/H.next<=B)/\(∀l∈vs,∀B,xZ (.agg l) B->xZ (.agg l0) B\/H.next<=B)/\(∀B,xZ (.agg l) B-> ¬Blk sv B)/\(∀l∈vs,∀B,xZ (.agg l) B-> ¬Blk sv B)/\ss.length=nds.length/\nds.length+Nd.size nd'<=10000/\k=Nd.size nd') ?_ n (Nd.size nd) _ H1
   ⟨l0,nd,[],[],[], .nilSlice, .nilSlice,rfl,p1,g1,l0l,l0c,h.prs p1,hsh,fun _ _ h=>h,Own.nil ..,trivial,Own.nil ..,fun B hB=>(Blk.nil.1 hB).elim,fun B hB=>(Blk.nil.1 hB).elim,fun B hB=> .inl hB,by simp,fun B _ hB=>(Blk.nil.1 hB).elim,by simp,rfl,by simpa using hz,rfl⟩ (by omega)
  rintro k us H' ⟨l,nd',vs,nds,ss,pv,sv,rfl,P,gA,ll,lc,hG,hsh',hcut,oP,hPar,oS,bP,bS,bl,bvs,al,avs,hlen,hsum,rfl⟩
  have hsm:small nd':=xJ (by omega);obtain⟨z,H2,e2,rfl,p2⟩:=zA1 D n P.ok hG.node hsm hn;have P2:=P.trans p2;have g2:=Prs.get p2 P.ok gA;by_cases hbig:500<Nd.size nd'
  case neg=>
   have hbI: ¬((500:Nat):Int)< ((Nd.size nd':Nat):Int):=by omega
   refine⟨.exit 0 [.ptr A1 0,pv,sv],H2, ?_,l,nd',vs,nds,ss,pv,sv,rfl,P2,g2,ll,lc,hG.prs p2,by omega,hcut,oP.mono p2 (fun _ _ x=>x),hPar.frame (fun l hl nd hn=>hn.prs p2),oS.mono p2 (fun _ _ x=>x),bP,bS,bl,bvs,by omega⟩;simp(disch:=omega) only[zHW,eZ,vL gA ll,e2,hbI]
  case pos=>
  have hbI:((500:Nat):Int)< ((Nd.size nd':Nat):Int):=by omega
  have hcb:=Q9 hsh' hbig;obtain⟨va,sep,vb,e,H3,e3,p3,hc⟩:=zNU D n hn P2.ok (hG.prs p2) hsm;rcases hc with⟨rfl,k,_,hck,hb,rfl,ga,gb⟩ | ⟨_,_,hno,_⟩
  case inr=>exact absurd ⟨hsh',hcb⟩ hno
  have P3:=P2.trans p3;have p13:Prs H' H3:=p2.trans p3;obtain⟨la,rfl,lal,lac⟩:=ga.1.cells;obtain⟨lb,rfl,lbl,lbc⟩:=gb.1.cells;obtain⟨H4,A7,b4,p4,g4,m4,n4⟩:=box P3.ok (.cells [.bool false, .nilSlice, .nilSlice, .nilSlice] 111 1 false);obtain⟨H5,A9,b5,p5,g5,m5,n5⟩:=box p4.ok (.cells [.bool false, .nilSlice, .nilSlice, .nilSlice] 111 1 false);obtain⟨H6,e6,g6,s6,n6⟩:=qX p5.ok (Prs.get p5 p4.ok g4) (l':=la) lal lac;have e6':stN 4 (.ptr A7 0) (.agg la) H5=some (qN,H6):=e6;obtain⟨H7,e7,g7,s7,n7⟩:=qX s6.ok (show H6.h.get A9=some (.cells [.bool false, .nilSlice, .nilSlice, .nilSlice] 111 1 false)by rw[s6.keep _ n5 (by omega)];exact g5) (l':=lb) lbl lbc;have e7':stN 4 (.ptr A9 0) (.agg lb) H6=some (qN,H7):=e7;have N3:=p13.next;have N4:=p4.next;have N5:=p5.next
  have q37:Prs H3 H7:=((p4.trans p5).fresh s6 (fun B hB=>by omega)).fresh s7 (fun B hB=>by omega);have g77:H7.h.get A7=some (.cells la 111 1 false):=by rw[s7.keep _ (by omega) (by omega)];exact g6
  obtain⟨H8,A10,b8,p8,g8,m8,n8⟩:=box q37.ok (.cells la 111 4 false);have q38:Prs H3 H8:=q37.trans p8;have q18:Prs H' H8:=p13.trans q38;obtain⟨H9,e9,o9,s9,n9⟩:=YG (bytes:=80) q38.ok (by decide) (oP.mono q18 (fun _ _ x=>x)) (src4 g8 lal 2) (by omega) lac (by omega) (by omega) (by decide);have N8:=q38.next
  have nP: ∀(l:List AV) (nd:Nd.Node),yC H8 (.agg l) nd-> ∀B,xZ (.agg l) B-> ¬Blk pv B:=fun l nd hg B hB hp=>by
   obtain⟨_,⟨rfl,_⟩ | ⟨C,rfl,_,hgC⟩⟩:=oP.mono q18 (fun _ _ x=>x)
   ·exact Blk.nil.1 hp
   ·rw[Blk.slice.1 hp]at hB;exact hg.nblk hgC (.inr (.inr ⟨_,_,_,_,rfl,by decide,by decide⟩)) hB
  have oS8:=oS.mono q18 (fun _ _ x=>x);have nSP: ∀B,Blk sv B-> ¬Blk pv B:=fun B hB hp=>by
   obtain⟨_,⟨rfl,_⟩ | ⟨C,rfl,_,hgC⟩⟩:=oP.mono q18 (fun _ _ x=>x)
   ·exact Blk.nil.1 hp
   ·obtain⟨_,⟨rfl,_⟩ | ⟨E,rfl,_,hgE⟩⟩:=oS8
    ·exact Blk.nil.1 hB
    ·rw[<-Blk.slice.1 hp,Blk.slice.1 hB,hgE]at hgC;simp at hgC
  obtain⟨H10,A29,b10,p10,g10,m10,n10⟩:=box s9.ok (.cells [S (nd'.keys.getD k [])] 9 1 false);have oS10:=(oS8.mono s9 nSP).mono p10 (fun _ _ x=>x);have hsrc:srcOf 1 (.slice A29 0 1 2) H10=some (1,[S (nd'.keys.getD k [])]):=by
   have:=Rw.srcOf (Rw.lit (cc:=2) p10.ok g10);exact this
  obtain⟨H11,e11,o11,s11,n11⟩:=YG (bytes:=16) p10.ok (by decide) oS10 hsrc rfl rfl (by omega) (by omega) (by decide);have A1lt:A1<H'.next:=P.ok.lt gA
  have fr: ∀(l:List AV) (nd:Nd.Node),yC H8 (.agg l) nd->(∀B,xZ (.agg l) B-> ¬Blk sv B)->yC H11 (.agg l) nd:=fun l nd hg ha=>
   ((hg.stp s9 (nP l nd hg)).prs p10).stp s11 ha
  have svlt: ∀B,Blk sv B->B<H3.next:=fun B hB=>by have:=Rw.blk oS.row hB;omega
  have ga8:=ga.1.prs q38;have gb8:=gb.1.prs q38;have fA: ∀B,xZ (.agg la) B-> ¬Blk sv B:=fun B hB hs=>by have:=ga.2 B hB;have:=Rw.blk oS.row hs;have:=p2.next;omega
  have fB: ∀B,xZ (.agg lb) B-> ¬Blk sv B:=fun B hB hs=>by have:=gb.2 B hB;have:=Rw.blk oS.row hs;have:=p2.next;omega
  have ga11:=fr la _ ga8 fA;have gb11:=fr lb _ gb8 fB;have lt8: ∀(l:List AV) (nd:Nd.Node),yC H8 (.agg l) nd-> ∀B,xZ (.agg l) B->B<H10.next:=fun l nd hg B hB=>by have:=hg.lt hB;have:=s9.next;have:=p10.next;omega
  have gA11:H11.h.get A1=some (.cells l 111 1 false):=by
   have e8:H8.h.get A1=some (.cells l 111 1 false):=Prs.get q18 P.ok gA;have np: ¬Blk pv A1:=fun hp=>by
    obtain⟨_,⟨rfl,_⟩ | ⟨C,rfl,_,hgC⟩⟩:=oP
    ·exact Blk.nil.1 hp
    ·rw[<-Blk.slice.1 hp,gA]at hgC;simp at hgC
   have ns: ¬Blk sv A1:=fun hp=>by
    obtain⟨_,⟨rfl,_⟩ | ⟨C,rfl,_,hgC⟩⟩:=oS
    ·exact Blk.nil.1 hp
    ·rw[<-Blk.slice.1 hp,gA]at hgC;simp at hgC
   rw[s11.keep _ (by have:=s9.next;have:=p10.next;omega) ns,p10.keep _ (by have:=s9.next;omega) (fun x=>x),s9.keep _ (by omega) np];exact e8
  obtain⟨H12,e12,g12,s12,n12⟩:=qX s11.ok gA11 (l':=lb) (by omega) lbc;have e12':stN 4 (.ptr A1 0) (.agg lb) H11=some (qN,H12):=by rw[ll]at e12;exact e12
  have r9:ldN 4 (.ptr A9 0) H11=some (.agg lb):=vL (e:=111) (by
   have np: ¬Blk pv A9:=fun hp=>by have:=Rw.blk oP.row hp;omega
   have ns: ¬Blk sv A9:=fun hp=>by have:=svlt _ hp;omega
   rw[s11.keep _ (by have:=s9.next;have:=p10.next;have:=p8.next;omega) ns,p10.keep _ (by have:=s9.next;have:=p8.next;omega) (fun x=>x),s9.keep _ (by have:=p8.next;omega) np,p8.keep _ (by omega) (fun x=>x)];exact g7) lbl
  have fin: ∀(l2:List AV) (nd2:Nd.Node),yC H11 (.agg l2) nd2->yC H12 (.agg l2) nd2:=fun l2 nd2 hg=>hg.stp s12 (fun B hB e=>by
   subst e;have: ∃x r,l=x::r/\ ∀a b,x≠ .str a b:=by
    obtain⟨ks,vs',ps,ee,_⟩:=hG;simp only[AV.agg.injEq]at ee;exact⟨_,_,ee,fun _ _ e=>by cases e⟩
   obtain⟨x,r,rfl,hx⟩:=this;exact hg.nblk gA11 (.inl ⟨x,r,_,_,rfl,hx⟩) hB)
  have Pn:Prs H H12:=by
   have a1:Prs H H9:=(P3.trans q38).fresh s9 bP;have a2:Prs H H11:=(a1.trans p10).fresh s11 bS;exact a2.fresh s12 (fun B hB=>by omega)
  have hdec:=Nd.cut_size hsh' hck;have hsc:=Nd.cut_shaped hsh' hck;have N9:=s9.next;have N10:=p10.next;have N11:=s11.next
  have PN:=P.next
  refine⟨.norm [.ptr A1 0, .slice H8.next 0 (nds.length+1) 1, .slice H10.next 0 (ss.length+1) 1],H12, ?_,Nd.size (fQ nd' k),hdec.2,lb,fQ nd' k,vs++[la],nds++[cutA nd' k],ss++[nd'.keys.getD k []], .slice H8.next 0 (nds.length+1) 1, .slice H10.next 0 (ss.length+1) 1,rfl,Pn,g12,lbl,lbc,fin _ _ gb11,hsc.2,fun ps' ss' hcc=> ?_, ?_, ?_, ?_,fun B hB=> ?_,fun B hB=> ?_,fun B hB=> ?_,fun l2 hl2 B hB=> ?_,fun B hB hs=> ?_,fun l2 hl2 B hB hs=> ?_,by simp[hlen], ?_,rfl⟩
  ·simp(maxSteps:=999999)(disch:=omega) only[zHW,eZ,vL gA ll,e2,hbI,vL g2 ll,e3,qL,nth,b4,b5,e6',e7',ne_eq,not_true_eq_false,vL g77 lal,zO0 111 la lal [.bool false, .nilSlice, .nilSlice, .nilSlice] rfl,zF,zV,b8,e9,zLP 9 (.str 0 0) (Z5 (nd'.keys.getD k [])),b10,e11,r9,e12']
  ·rw[List.append_assoc,List.append_assoc];exact hcut _ _ (.more hbig hck hb hcc)
  ·have o9':=((o9.mono p10 (fun _ _ x=>x)).mono s11 (fun B hB hs=>by rw[Blk.slice.1 hB]at hs;have:=svlt _ hs;omega)).mono s12 (fun B hB e=>by rw[Blk.slice.1 hB]at e;omega);simpa using o9'
  ·refine Par.snoc ⟨lal,lac,fin _ _ ga11⟩ (hPar.frame fun l2 hl2 nd2 hg=>fin _ _ (fr l2 nd2 (hg.prs q18) (avs l2 hl2)))
  ·have o11':=o11.mono s12 (fun B hB e=>by rw[Blk.slice.1 hB]at e;omega);simpa using o11'
  ·rw[Blk.slice.1 hB];omega
  ·rw[Blk.slice.1 hB];omega
  ·exact .inr (by have:=gb.2 B hB;have:=p2.next;omega)
  ·rcases List.mem_append.1 hl2 with hl2 | hl2
   ·exact bvs l2 hl2 B hB
   ·simp only[List.mem_singleton]at hl2;subst hl2;exact .inr (by have:=ga.2 B hB;have:=p2.next;omega)
  ·rw[Blk.slice.1 hs]at hB;have:=lt8 _ _ gb8 _ hB;omega
  ·rw[Blk.slice.1 hs]at hB;rcases List.mem_append.1 hl2 with hl2 | hl2
   ·obtain⟨nd2,hg2⟩:=hPar.mem hl2;have:=lt8 _ _ (hg2.prs q18) _ hB;omega
   ·simp only[List.mem_singleton]at hl2;subst hl2;have:=lt8 _ _ ga8 _ hB;omega
  ·simp only[zI,zF,zV];omega
 obtain⟨x,H2,e2,l,nd',vs,nds,ss,pv,sv,rfl,P,gA,ll,lc,hG,hsz,hcut,oP,hPar,oS,bP,bS,bl,bvs,hcount⟩:=lp;obtain⟨H3,A3,b3,p3,g3,m3,n3⟩:=box P.ok (.cells l 111 4 false);obtain⟨H4,e4,o4,s4,n4⟩:=YG (bytes:=80) p3.ok (by decide) (oP.mono p3 (fun _ _ x=>x)) (src4 g3 ll 2) (by omega) lc (by omega) (by omega) (by decide);have nP: ∀(l:List AV) (nd:Nd.Node),yC H3 (.agg l) nd-> ∀B,xZ (.agg l) B-> ¬Blk pv B:=fun l nd hg B hB hp=>by
  obtain⟨_,⟨rfl,_⟩ | ⟨C,rfl,_,hgC⟩⟩:=oP.mono p3 (fun _ _ x=>x)
  ·exact Blk.nil.1 hp
  ·rw[Blk.slice.1 hp]at hB;exact hg.nblk hgC (.inr (.inr ⟨_,_,_,_,rfl,by decide,by decide⟩)) hB
 have nSP: ∀B,Blk sv B-> ¬Blk pv B:=fun B hB hp=>by
  obtain⟨_,⟨rfl,_⟩ | ⟨C,rfl,_,hgC⟩⟩:=oP
  ·exact Blk.nil.1 hp
  ·obtain⟨_,⟨rfl,_⟩ | ⟨E,rfl,_,hgE⟩⟩:=oS
   ·exact Blk.nil.1 hB
   ·rw[<-Blk.slice.1 hp,Blk.slice.1 hB,hgE]at hgC;simp at hgC
 have fin: ∀(l2:List AV) (nd2:Nd.Node),yC H2 (.agg l2) nd2->yC H4 (.agg l2) nd2:=fun l2 nd2 hg=>(hg.prs p3).stp s4 (nP l2 nd2 (hg.prs p3))
 have N3:=p3.next;have PN:=P.next
 refine⟨.slice H3.next 0 (nds.length+1) 1,sv,H4,vs++[l],nds++[nd'],ss, ?_,(P.trans p3).fresh s4 bP, ?_, ?_,Par.snoc ⟨ll,lc,fin _ _ hG⟩ (hPar.frame fun l2 hl2 nd2 hg=>fin _ _ hg),(oS.mono p3 (fun _ _ x=>x)).mono s4 nSP,fun B hB=> ?_,bS,fun l2 hl2 B hB=> ?_⟩
 ·simp(maxSteps:=999999)(disch:=omega) only[f94,eZ,b1,e2,zN9,vL gA ll,zO0 111 l ll [.bool false, .nilSlice, .nilSlice, .nilSlice] rfl,zF,zV,b3,e4]
 ·have:=hcut [nd'] [] (.one hsz);rwa[List.append_nil]at this
 ·simpa using o4
 ·rw[Blk.slice.1 hB];omega
 ·rcases List.mem_append.1 hl2 with hl2 | hl2
  ·exact bvs l2 hl2 B hB
  ·simp only[List.mem_singleton]at hl2;subst hl2;exact bl B hB
end Go.Eng.Sh
end
section
namespace Go.Eng
theorem Own.get {k e n:Nat}{H:AH}{v:AV}{l:List AV}(h:Own k e H v n l){B:Nat}(hB:Blk v B):H.h.get B=some (.cells l e k true):=by
 obtain⟨_,⟨rfl,_⟩ | ⟨C,rfl,_,hg⟩⟩:=h
 ·exact(Blk.nil.1 hB).elim
 ·rw[Blk.slice.1 hB];exact hg
end Go.Eng
namespace Go.Eng.Sh
open Go.Nd (Ptr yH)
def kH (last:Nat):List Nd.Node->PN
 | []=>[]
 | nd::nds=>(last+1,nd)::kH (last+1) nds
def YL (last:Nat):List (List AV)->List (AV×AV)
 | []=>[]
 | l::vs=>(.int .u64 ((last+1:Nat):Int), .agg l)::YL (last+1) vs
def pps (last:Nat):Nat->List Ptr
 | 0=>[]
 | n+1=>pp (last+1)::pps (last+1) n
theorem KH (x:Nd.Node): ∀(l:List Nd.Node) (last:Nat),kH last (l++[x])=kH last l++[(last+l.length+1,x)]
 | [],last=>rfl
 | a::l,last=>by
  simp only[List.cons_append,kH,KH x l,zF];rw[show last+1+l.length+1=last+(l.length+1)+1 from by omega]
theorem KI (x:List AV): ∀(l:List (List AV)) (last:Nat),YL last (l++[x])=YL last l++[(.int .u64 ((last+l.length+1:Nat):Int), .agg x)]
 | [],last=>rfl
 | a::l,last=>by
  simp only[List.cons_append,YL,KI x l,zF];rw[show last+1+l.length+1=last+(l.length+1)+1 from by omega]
theorem zBa: ∀(n last:Nat),pps last (n+1)=pps last n++[pp (last+n+1)]
 | 0,last=>rfl
 | n+1,last=>by
  rw[pps,zBa n (last+1),pps,List.cons_append,show last+1+n+1=last+(n+1)+1 from by omega]
theorem cW: ∀(n last:Nat),(pps last n).length=n
 | 0,_=>rfl
 | n+1,last=>by simp[pps,cW n (last+1)]
theorem U0: ∀ {vs:List (List AV)} {last:Nat} {kv:AV×AV},kv∈YL last vs-> ∃l∈vs,kv.2= .agg l
 | [],_,_,h=>by simp[YL]at h
 | l::vs,last,kv,h=>by
  rcases List.mem_cons.1 h with rfl | h
  ·exact⟨l,zB ..,rfl⟩
  ·obtain⟨l',h1,h2⟩:=U0 h;exact⟨l',zA _ h1,h2⟩
theorem Ch.other {H0 H H':AH}{At Ac F:Nat}{fes:List (AV×AV)}{f:PN}{g:AV}{gl:List Ptr}{last0 last:Nat}{S:Nat->Prop}(h:Ch H0 H At Ac F fes f g gl last0 last)(s:Stp S H H')(hA: ¬S Ac)(hF: ¬S F)(hg: ∀B,Blk g B-> ¬S B)(hn: ∀kv∈fes,∀B,xZ kv.2 B-> ¬S B)(h0: ∀B,S B->H0.next<=B):Ch H0 H' At Ac F fes f g gl last0 last:=
 ⟨h.prs.fresh s h0,by rw[s.keep _ h.ltC hA];exact h.gC,by rw[s.keep _ h.ltF hF];exact h.gF,h.pf.frame fun kv hkv nd hn'=>hn'.stp s (hn kv hkv),h.gg.mono s hg,h.gN,h.gf,h.dC,h.dF,h.ne,h.fs,h.le,h.few,h.fd,h.fl⟩
theorem v8.mem {H:AH} : ∀ {es:List (AV×AV)} {q:PN},v8 H es q-> ∀kv∈es,∃nd,yC H kv.2 nd
 | [],[],_,_,hk=>by simp at hk
 | e::es,(t,nd)::q,hq,kv,hk=>by
  rcases List.mem_cons.1 hk with rfl | hk
  ·exact⟨nd,hq.1.2⟩
  ·exact v8.mem hq.2 kv hk
 | [],_::_,h,_,_=>h.elim
 | _::_,[],h,_,_=>h.elim
theorem zJd {H:AH} : ∀ {vs:List (List AV)} {nds:List Nd.Node} {i:Nat} (_:Par H vs nds) (hi:i<nds.length),∃l nd,vs[i]? =some l/\nds[i]? =some nd/\l.length=4/\qP l=true/\yC H (.agg l) nd/\(vs.flatten.drop (i*4)).take 4=l/\vs.take (i+1)=vs.take i++[l]/\nds.take (i+1)=nds.take i++[nd]
 | [],[],_,_,hi=>by simp at hi
 | l::vs,nd::nds,0,h,_=>⟨l,nd,rfl,rfl,h.1.1,h.1.2.1,h.1.2.2,by simp[List.take_append_of_le_length,h.1.1,zK],rfl,rfl⟩
 | k::vs,m::nds,i+1,h,hi=>by
  obtain⟨l,nd,h1,h2,h3,h4,h5,h6,h7,h8⟩:=zJd h.2 (by simpa using hi);refine⟨l,nd,h1,h2,h3,h4,h5, ?_,by simp[h7],by simp[h8]⟩;rw[List.flatten_cons,List.drop_append,show(i+1)*4 - k.length=i*4 from by rw[h.1.1];omega,zQ (by rw[h.1.1];omega),List.nil_append];exact h6
 | [],_::_,_,h,_=>h.elim
 | _::_,[],_,h,_=>h.elim
theorem BP (D:Dyn)(n:Nat)(hn:200000000<=n){H0 H:AH}{At Ac F:Nat}{fes:List (AV×AV)}{f:PN}{g pv:AV}{gl:List Ptr}{last0 last:Nat}{vs:List (List AV)}{nds:List Nd.Node}(h:Ch H0 H At Ac F fes f g gl last0 last)
  (hp:Own 4 111 H pv nds.length vs.flatten) (hv:Par H vs nds) (hg: ∀l∈vs,∀B,xZ (.agg l) B-> ¬Blk g B) (hb:last+nds.length<=900000000) (hm:nds.length<=10000):
  ∃kv H',f96 D n [.ptr Ac 0,pv] H=some (kv,H')/\Ch H0 H' At Ac F (fes++YL last vs) (f++kH last nds) g gl last0 (last+nds.length)/\Adv Ac F H g H' g/\Own 3 65 H' kv nds.length ((pps last nds.length).flatMap y5)/\ ∀B,Blk kv B->H.next<=B:=by
 have hlen:=hv.len.1;have lp:=kI (b:=zF7 D n) nds.length (fun i us H'=> ∃kv,us=[.ptr Ac 0,kv,pv, .int .i64 (nds.length:Nat), .int .i64 (i:Nat)]/\Ch H0 H' At Ac F (fes++YL last (vs.take i)) (f++kH last (nds.take i)) g gl last0 (last+i)/\Adv Ac F H g H' g/\
   Own 3 65 H' kv i ((pps last i).flatMap y5)/\ ∀B,Blk kv B->H.next<=B) (fun i us H' hi ⟨kv,hus,hc,ha,ho,hB⟩=>by
  subst hus;obtain⟨l,nd,v1,v2,ll,lc,hG,hfl,ht1,ht2⟩:=zJd hv hi;have hvl:i<vs.length:=by omega
  have hlm:l∈vs:=List.mem_of_getElem? v1;have hA:=h.next ⟨hG,hg l hlm⟩ ha
  have hp':Own 4 111 H' pv nds.length vs.flatten:=hp.mono ha.1 (fun B hB hx=>by
   have hgB:=hp.get hB;rcases hx with rfl | rfl | e
   ·rw[h.gC]at hgB;simp at hgB
   ·rw[h.gF]at hgB;simp at hgB
   ·rw[h.gg.get e]at hgB;simp at hgB)
  obtain⟨q,i1,i2⟩:=Rw.ldN hp'.row hi;rw[hfl]at i2;obtain⟨H1,A7,b1,p1,g1,m1,n1⟩:=box hc.prs.ok (.cells [.bool false, .nilSlice, .nilSlice, .nilSlice] 111 1 false);obtain⟨H2,e2,g2,s2,n2⟩:=qX p1.ok g1 (l':=l) ll lc;have e2':stN 4 (.ptr A7 0) (.agg l) H1=some (qN,H2):=e2;have p2:Prs H' H2:=p1.fresh s2 (fun B hB=>by omega);have hc2:=hc.step p2;obtain⟨H3,e3,hc3,ha3⟩:=zGD D n hc2 (hA.prs p2) (by omega);obtain⟨H4,A8,b4,p4,g4,m4,n4⟩:=box hc3.prs.ok (.cells (y5 (pp (last+i+1))) 65 3 false);have hc4:=hc3.step p4;have hsrc:srcOf 3 (.slice A8 0 1 2) H4=some (1,y5 (pp (last+i+1))):=by
   simp only[srcOf,g4];rfl
  have NH:=ha.1.next;have N2:=p2.next;have N3:=ha3.1.next;have N4:=p4.next
  have hkg: ∀B,Blk kv B-> ¬Blk g B:=fun B hB' hgB=>by have:=hB B hB';have:=Rw.blk h.gg.row hgB;omega
  have ho4:Own 3 65 H4 kv i ((pps last i).flatMap y5):=((ho.mono p2 (fun _ _ x=>x)).mono ha3.1 (fun B hB' hx=>by
   rcases hx with rfl | rfl | e
   ·have:=hB _ hB';have:=h.ltC;omega
   ·have:=hB _ hB';have:=h.ltF;omega
   ·exact hkg B hB' e)).mono p4 (fun _ _ x=>x)
  obtain⟨H5,e5,o5,s5,n5⟩:=YG (bytes:=24) hc4.prs.ok (by decide) ho4 hsrc rfl rfl (by omega) (by omega) (by decide);have hc5:=hc4.other s5 (fun hx=>by have:=hB _ hx;have:=h.ltC;omega) (fun hx=>by have:=hB _ hx;have:=h.ltF;omega) (fun B hgB hx=>hkg B hx hgB) (fun e he B hBe hx=>by
   have hlt:B<H.next:=by
    rcases List.mem_append.1 he with he | he
    ·rcases List.mem_append.1 he with he | he
     ·obtain⟨nd2,hn2⟩:=h.pf.mem e he;exact hn2.lt hBe
     ·obtain⟨l2,hl2,e2⟩:=U0 he;obtain⟨nd2,hn2⟩:=hv.mem (List.mem_of_mem_take hl2);rw[e2]at hBe;exact hn2.lt hBe
    ·simp only[List.mem_singleton]at he;subst he;exact hG.lt hBe
   have:=hB B hx;omega) (fun B hx=>by have:=hB B hx;have:=h.prs.next;omega)
  have a05:Adv Ac F H g H5 g:=by
   have a3:Adv Ac F H g H4 g:=((ha.trans h.ltC h.ltF (Adv.prs g p2)).trans h.ltC h.ltF ha3).trans h.ltC h.ltF (Adv.prs g p4);refine⟨⟨s5.ok,by have:=s5.next;omega,fun B hB' hS=> ?_⟩,fun B hB'=> .inl hB'⟩
   rw[s5.keep B (by omega) (fun hx=>by have:=hB B hx;omega)];exact a3.1.keep B hB' hS
  refine⟨_,H5, ?_, .slice H4.next 0 (i+1) 1,rfl, ?_,a05, ?_,fun B hB'=>by rw[Blk.slice.1 hB'];omega⟩
  ·have hiI:((i:Nat):Int)< ((nds.length:Nat):Int):=by omega
   have e1:=bldP 65 (pp (last+i+1)) [.int .i64 ((0:Nat):Int), .int .i64 ((0:Nat):Int), .int .u64 ((0:Nat):Int)] rfl;simp(maxSteps:=999999)(disch:=omega) only[zF7,eZ,hiI,i1,i2,b1,e2',vL g2 ll,e3,e1,b4,e5,Int.natCast_add]
  ·rw[ht1,ht2,KI,KH,zG,zG,Nat.min_eq_left (by omega),Nat.min_eq_left (by omega),<-List.append_assoc,<-List.append_assoc];exact hc5
  ·rw[zBa];simpa using o5) n [.ptr Ac 0, .nilSlice,pv, .int .i64 (nds.length:Nat), .int .i64 ((0:Nat):Int)] H ⟨.nilSlice,rfl,by simpa[YL,kH]using h,Adv.prs g (Prs.refl h.prs.ok),Own.nil ..,fun B hB=>(Blk.nil.1 hB).elim⟩ (by omega)
 obtain⟨m,us,H',e,kv,rfl,hc,ha,ho,hB⟩:=lp;rw[zY]at hc;rw[<-hlen,zY,hlen]at hc;refine⟨kv,H', ?_,hc,ha,ho,hB⟩;have last:qT (m+1) (zF7 D n) [.ptr Ac 0,kv,pv, .int .i64 (nds.length:Nat), .int .i64 (nds.length:Nat)] H'=some (.exit 0 [kv],H'):=qU (by simp only[zF7,eZ,zS]);simp only[f96,eZ,hp.row.lnSl,e,last,zN5]
end Go.Eng.Sh
end
section
namespace Go.Bt
open Go.Nd (Str Kvs Ptr lookP putP delP Srt qQ mayK rising yH cutA fQ bE shaped)
open Go.Eng (ltS)
def kZ {α:Type}(Q:Ptr->Option Nd.Node)(R:Nd.Node->α->List Ptr->Prop):List Ptr->List α->List Ptr->Prop
 | [],[],S=>S=[]
 | p::ps,t::ts,S=> ∃nd S1 S2,Q p=some nd/\R nd t S1/\kZ Q R ps ts S2/\S=p::(S1++S2)
 | _,_,_=>False
def jG (Q:Ptr->Option Nd.Node):(h:Nat)->Nd.Node->Tr h->List Ptr->Prop
 | 0,nd,l,S=>nd=qQ l/\S=[]
 | h+1,nd,t,S=>nd.leaf=false/\nd.keys=t.1/\nd.vals=[]/\kZ Q (jG Q h) nd.kids t.2 S
theorem kZ.len {α:Type}{Q:Ptr->Option Nd.Node}{R:Nd.Node->α->List Ptr->Prop} : ∀ {ps:List Ptr} {ts:List α} {S:List Ptr},kZ Q R ps ts S->ps.length=ts.length
 | [],[],_,_=>rfl
 | _::ps,_::ts,_,⟨_,_,_,_,_,h,_⟩=>by simp[kZ.len h]
 | [],_::_,_,h=>h.elim
 | _::_,[],_,h=>h.elim
theorem kZ.app {α:Type}{Q:Ptr->Option Nd.Node}{R:Nd.Node->α->List Ptr->Prop}{ps':List Ptr}{ts':List α}{S':List Ptr}(h':kZ Q R ps' ts' S'): ∀ {ps:List Ptr} {ts:List α} {S:List Ptr},kZ Q R ps ts S->kZ Q R (ps++ps') (ts++ts') (S++S')
 | [],[],_,h=>by subst h;exact h'
 | p::ps,t::ts,_,⟨nd,S1,S2,a,b,c,e⟩=>⟨nd,S1,S2++S',a,b,kZ.app h' c,by rw[e];simp⟩
 | [],_::_,_,h=>h.elim
 | _::_,[],_,h=>h.elim
theorem kZ.split {α:Type}{Q:Ptr->Option Nd.Node}{R:Nd.Node->α->List Ptr->Prop} : ∀(k:Nat) {ps:List Ptr} {ts:List α} {S:List Ptr},kZ Q R ps ts S-> ∃S1 S2,kZ Q R (ps.take k) (ts.take k) S1/\kZ Q R (ps.drop k) (ts.drop k) S2/\S=S1++S2
 | 0,ps,ts,S,h=>⟨[],S,by simp[kZ],h,rfl⟩
 | k+1,[],[],_,h=>⟨[],[],by simp[kZ],by simp[kZ],by subst h;rfl⟩
 | k+1,p::ps,t::ts,_,⟨nd,S1,S2,a,b,c,e⟩=>by
  obtain⟨T1,T2,d1,d2,rfl⟩:=kZ.split k c;exact⟨p::(S1++T1),T2,⟨nd,S1,T1,a,b,d1,rfl⟩,d2,by rw[e];simp⟩
 | _+1,[],_::_,_,h=>h.elim
 | _+1,_::_,[],_,h=>h.elim
theorem kZ.at {α:Type}{Q:Ptr->Option Nd.Node}{R:Nd.Node->α->List Ptr->Prop}{i:Nat}{ps:List Ptr}{ts:List α}{S:List Ptr}(h:kZ Q R ps ts S){t:α}(ht:ts[i]? =some t):
  ∃p nd Sa Si Sb,ps[i]? =some p/\Q p=some nd/\R nd t Si/\kZ Q R (ps.take i) (ts.take i) Sa/\kZ Q R (ps.drop (i+1)) (ts.drop (i+1)) Sb/\S=Sa++(p::Si++Sb):=by
 obtain⟨Sa,S2,h1,h2,rfl⟩:=h.split i;obtain⟨hi,rfl⟩:=List.getElem?_eq_some_iff.1 ht;have hl:=h.len;rw[zN hi,zN (show i<ps.length by omega)]at h2;obtain⟨nd,Si,Sb,a,b,c,rfl⟩:=h2;exact⟨_,nd,Sa,Si,Sb,zC (by omega),a,b,h1,c,by simp⟩
theorem kZ.mono {α:Type}{Q Q':Ptr->Option Nd.Node}{R R':Nd.Node->α->List Ptr->Prop} : ∀ {ps:List Ptr} {ts:List α} {S:List Ptr},kZ Q R ps ts S->(∀p∈S,∀nd,Q p=some nd->Q' p=some nd)->(∀nd t S1,(∀p∈S1,p∈S)->R nd t S1->R' nd t S1)->kZ Q' R' ps ts S
 | [],[],_,h,_,_=>h
 | p::ps,t::ts,_,⟨nd,S1,S2,a,b,c,e⟩,hq,hr=>by
  subst e;refine⟨nd,S1,S2,hq p (zB ..) nd a,hr nd t S1 (fun p hp=>zA _ (zZ _ hp)) b,kZ.mono c (fun p hp=>hq p (zA _ (qC _ hp))) (fun nd t S1 hs=>hr nd t S1 fun p hp=>zA _ (qC _ (hs p hp))),rfl⟩
 | [],_::_,_,h,_,_=>h.elim
 | _::_,[],_,h,_,_=>h.elim
theorem jG.mono {Q Q':Ptr->Option Nd.Node} : ∀ {h:Nat} {nd:Nd.Node} {t:Tr h} {S:List Ptr},jG Q h nd t S->(∀p∈S,∀nd,Q p=some nd->Q' p=some nd)->jG Q' h nd t S
 | 0,_,_,_,w,_=>w
 | h+1,_,_,_,w,hq=>⟨w.1,w.2.1,w.2.2.1,w.2.2.2.mono hq fun nd t S1 hs hr=>jG.mono hr fun p hp=>hq p (hs p hp)⟩
theorem kZ.kids {α:Type}{Q:Ptr->Option Nd.Node}{R:Nd.Node->α->List Ptr->Prop} : ∀ {ps:List Ptr} {ts:List α} {S:List Ptr},kZ Q R ps ts S-> ∀p∈ps,p∈S
 | [],[],_,_=>by simp
 | q::ps,_::ts,_,⟨nd,S1,S2,_,_,c,e⟩=>fun p hp=>by
  subst e;rcases List.mem_cons.1 hp with rfl | hp
  ·exact zB ..
  ·exact zA _ (qC _ (kZ.kids c p hp))
 | [],_::_,_,h=>h.elim
 | _::_,[],_,h=>h.elim
theorem jG.size {Q:Ptr->Option Nd.Node}{h:Nat}{nd:Nd.Node}{t:Tr h}{S:List Ptr}(w:jG Q h nd t S):Nd.size nd=jA h t:=by
 cases h with
 | zero=>obtain⟨rfl,_⟩:=w;rfl
 | succ h=>
  obtain⟨_,w2,w3,w4⟩:=w;simp only[Nd.size,jA,jH,w2,w3,w4.len,sumL_nil];omega
theorem jG.leaf {Q:Ptr->Option Nd.Node}{h:Nat}{nd:Nd.Node}{t:Tr h}{S:List Ptr}(w:jG Q h nd t S):nd.leaf=decide (h=0):=by
 cases h with
 | zero=>obtain⟨rfl,_⟩:=w;rfl
 | succ h=>rw[w.1];simp
theorem jG.shaped {Q:Ptr->Option Nd.Node}{h:Nat}{nd:Nd.Node}{t:Tr h}{S:List Ptr}{lo hi:Bd}(w:jG Q h nd t S)(g:Gen h lo hi t)(hne:0<h->nd.keys≠[])(hk: ∀p∈S,Nd.kidOk p=true):shaped ltS nd=true:=by
 cases h with
 | zero=>
  obtain⟨rfl,_⟩:=w;exact Nd.leaf_shaped g.1 fun p hp=>(g.2 p hp).2.2
 | succ h=>
  obtain⟨w1,w2,w3,w4⟩:=w;obtain⟨g1,g2,g3⟩:=g;have hl:=g3.len;simp only[Nd.shaped,w1,Bool.false_eq_true,if_false,z8,zE,List.all_eq_true];refine⟨⟨fun k hk=> ?_,by rw[w2];exact g2⟩,⟨⟨hne (by omega),w3⟩,by rw[w4.len,hl,w2]⟩,fun p hp=>hk p (w4.kids p hp)⟩;rw[w2]at hk;exact(g1 k hk).1
def zCj (Q:Ptr->Option Nd.Node)(h:Nat):List Nd.Node->List (Tr h)->List Ptr->Prop
 | [],[],S=>S=[]
 | nd::nds,t::ts,S=> ∃S1 S2,jG Q h nd t S1/\zCj Q h nds ts S2/\S=S1++S2
 | _,_,_=>False
theorem zCj.len {Q:Ptr->Option Nd.Node}{h:Nat} : ∀ {nds:List Nd.Node} {ts:List (Tr h)} {S:List Ptr},zCj Q h nds ts S->nds.length=ts.length
 | [],[],_,_=>rfl
 | _::nds,_::ts,_,⟨_,_,_,h,_⟩=>by simp[zCj.len h]
 | [],_::_,_,h=>h.elim
 | _::_,[],_,h=>h.elim
theorem zCG (l:Kvs)(k:Nat):Nd.size (cutA (qQ l) k)=jD (l.take k):=by
 simp[cutA,qQ,jD,Nd.size]
theorem zHE {l:Kvs}{k:Nat}(hk:Nd.cutOk (qQ l) k)(hb:Go.Eng.Sh.hbnd (qQ l) k):zLZ 0 l (l.take k) ((qQ l).keys.getD k []) (l.drop k)/\cutA (qQ l) k=qQ (l.take k)/\fQ (qQ l) k=qQ (l.drop k):=by
 obtain⟨k1,k2⟩:=hk;obtain⟨b1,b2⟩:=hb;have e0:(qQ l).keys=l.map Prod.fst:=rfl;simp only[show(qQ l).leaf=true from rfl,if_true,e0,qA]at k2 b2;rw[zCG]at b1 b2;refine⟨⟨k,⟨k1,k2,b1,b2⟩,rfl,rfl,rfl⟩, ?_, ?_⟩
 ·simp[cutA,qQ]
 ·simp[fQ,qQ]
theorem jG.cut {Q:Ptr->Option Nd.Node}{h:Nat}{nd:Nd.Node}{t:Tr h}{S:List Ptr}{lo hi:Bd}{k:Nat}(w:jG Q h nd t S)(g:Gen h lo hi t)(hk:Nd.cutOk nd k)(hb:Go.Eng.Sh.hbnd nd k):
  ∃ta tb Sa Sb,zLZ h t ta (nd.keys.getD k []) tb/\jG Q h (cutA nd k) ta Sa/\jG Q h (fQ nd k) tb Sb/\S=Sa++Sb:=by
 obtain⟨k1,k2⟩:=hk;obtain⟨b1,b2⟩:=hb;have hz:=w.size
 cases h with
 | zero=>
  obtain⟨rfl,rfl⟩:=w;obtain⟨c1,c2,c3⟩:=zHE ⟨k1,k2⟩ ⟨b1,b2⟩;exact⟨_,_,[],[],c1,⟨c2,rfl⟩,⟨c3,rfl⟩,rfl⟩
 | succ h=>
  obtain⟨w1,w2,w3,w4⟩:=w;obtain⟨Sa,Sb,r1,r2,rfl⟩:=w4.split (k+1);have hl:=g.2.2.len;have hkl:=w4.len;simp only[w1,Bool.false_eq_true,if_false,w2]at k2 b2;have sz: ∀j,j<=t.1.length->Nd.size (cutA nd j)=jH (t.1.take j) (j+1):=fun j hj=>by
   simp only[cutA,w1,Bool.false_eq_true,if_false,Nd.size,jH,w2,zG,sumL_nil];rw[hkl,hl,Nat.min_eq_left (by omega)];omega
  have hm2:min (h+1+1) 2=2:=by omega
  refine⟨(t.1.take k,t.2.take (k+1)),(t.1.drop (k+1),t.2.drop (k+1)),Sa,Sb,⟨k,⟨k1, ?_, ?_, ?_⟩,rfl,by rw[w2],rfl⟩, ?_, ?_,rfl⟩
  ·simp only[YV,hm2];exact k2
  ·rcases b1 with b1 | b1
   ·exact .inl b1
   ·rw[sz k (by omega),hz]at b1;exact .inr b1
  ·rcases b2 with b2 | b2
   ·exact .inl (by simp only[YV,hm2];exact b2)
   ·rw[sz (k+1) (by omega),hz]at b2;exact .inr b2
  ·simp only[jG,cutA,w1,Bool.false_eq_true,if_false,w2,true_and];exact r1
  ·simp only[jG,fQ,w1,Bool.false_eq_true,if_false,w2,true_and];exact r2
theorem XB {Q:Ptr->Option Nd.Node}{h:Nat}{nd:Nd.Node}{nds:List Nd.Node}{ss:List Str}(hc:Go.Eng.Sh.CutsN nd nds ss): ∀ {t:Tr h} {S:List Ptr} {lo hi:Bd},jG Q h nd t S->WX h lo hi t-> ∃ts,Cuts h t ts ss/\zCj Q h nds ts S:=by
 induction hc with
 | one hz=>
  intro t S lo hi w _;exact⟨[t], .one (by rw[<-w.size];exact hz),S,[],w,rfl,by simp⟩
 | @more nd k ps ss hz hk hb _ ih=>
  intro t S lo hi w hx;have hz':500<jA h t:=by rw[<-w.size];exact hz
  obtain⟨ta,tb,Sa,Sb,c1,c2,c3,rfl⟩:=w.cut hx.gen hk hb;obtain⟨_,wb,_⟩:=zGd hx hz' c1;obtain⟨ts,d1,d2⟩:=ih c3 wb;exact⟨ta::ts, .more hz' c1 d1,Sa,Sb,c2,d2,rfl⟩
theorem zCj.kids {Q:Ptr->Option Nd.Node}{h:Nat} : ∀ {nds:List Nd.Node} {ts:List (Tr h)} {S:List Ptr} (last:Nat),zCj Q h nds ts S->(∀i nd,nds[i]? =some nd->Q (Go.Eng.Sh.pp (last+1+i))=some nd)->
  ∃S',kZ Q (jG Q h) (Go.Eng.Sh.pps last nds.length) ts S'/\S'.Perm (Go.Eng.Sh.pps last nds.length++S)
 | [],[],S,last,h,_=>⟨[],rfl,by subst h;exact List.Perm.refl _⟩
 | nd::nds,t::ts,_,last,⟨S1,S2,w,hp,e⟩,hq=>by
  subst e;obtain⟨S',r,pm⟩:=zCj.kids (last+1) hp fun i n hi=>by
   have:=hq (i+1) n (by simpa using hi);rwa[show last+1+(i+1)=last+1+1+i from by omega]at this
  refine⟨Go.Eng.Sh.pp (last+1)::(S1++S'),⟨nd,S1,S',hq 0 nd rfl,w,r,rfl⟩, ?_⟩;simp only[zF,Go.Eng.Sh.pps,List.cons_append];refine List.Perm.cons _ ?_;have:(S1++S').Perm (S1++(Go.Eng.Sh.pps (last+1) nds.length++S2)):=List.Perm.append_left _ pm;refine this.trans ?_;rw[<-List.append_assoc,<-List.append_assoc];exact List.Perm.append_right _ List.perm_append_comm
 | [],_::_,_,_,h,_=>h.elim
 | _::_,[],_,_,h,_=>h.elim
theorem jG.join {Q:Ptr->Option Nd.Node}{h:Nat}{a b:Nd.Node}{ta tb:Tr h}{Sa Sb:List Ptr}(wa:jG Q h a ta Sa)(wb:jG Q h b tb Sb)(s:Str):jG Q h (bE a s b) (dK h ta s tb) (Sa++Sb):=by
 cases h with
 | zero=>
  obtain⟨rfl,rfl⟩:=wa;obtain⟨rfl,rfl⟩:=wb;have key: ∀a b:Kvs,bE (qQ a) s (qQ b)=qQ (a++b):=fun a b=>by simp[bE,qQ]
  exact⟨key ta tb,rfl⟩
 | succ h=>
  obtain⟨a1,a2,a3,a4⟩:=wa;obtain⟨b1,b2,b3,b4⟩:=wb;simp only[jG,bE,a1,Bool.false_eq_true,if_false,dK,a2,b2,true_and];exact kZ.app b4 a4
theorem zBt {Q:Ptr->Option Nd.Node}{h:Nat}{a b:Nd.Node}{ta tb:Tr h}{Sa Sb:List Ptr}{lo hi:Bd}{s:Str}(wa:jG Q h a ta Sa)(wb:jG Q h b tb Sb)(ga:Gen h lo (some s) ta)(gb:Gen h (some s) hi tb)(hs:mayK s=true)(na:0<h->a.keys≠[])(nb:0<h->b.keys≠[])
  (ka: ∀p∈Sa,Nd.kidOk p=true) (kb: ∀p∈Sb,Nd.kidOk p=true):Go.Eng.Sh.joinOk a s b=true:=by
 have h1:=wa.shaped ga na ka;have h2:=wb.shaped gb nb kb;simp only[Go.Eng.Sh.joinOk,h1,h2,Bool.true_and,Nd.partedN,hs,wa.leaf,wb.leaf,beq_self_eq_true];have gl: ∀(l:List Str),l.length≠0->l.getD (l.length - 1) []∈l:=fun l hl=>by
  rw[zM,zC (by omega)];exact zR _
 have g0: ∀(l:List Str),l.length≠0->l.getD 0 []∈l:=fun l hl=>by
  rw[zM,zC (by omega)];exact zR _
 cases h with
 | zero=>
  obtain⟨rfl,_⟩:=wa;obtain⟨rfl,_⟩:=wb;simp only[z8,Bool.or_eq_true,zE];refine⟨?_, ?_⟩
  ·by_cases e:(qQ (ta:Kvs)).keys.length=0
   ·exact .inl e
   ·refine .inr ?_;have:=gl _ e;obtain⟨p,hp,he⟩:=List.mem_map.1 this;rw[<-he];exact(ga.2 p hp).2.1
  ·by_cases e:(qQ (tb:Kvs)).keys.length=0
   ·exact .inl (.inl e)
   ·have:=g0 _ e;obtain⟨p,hp,he⟩:=List.mem_map.1 this;rw[<-he];rcases(gb.2 p hp).1 with e | e
    ·exact .inr ⟨trivial,e⟩
    ·exact .inl (.inr e)
 | succ h=>
  simp only[z8,Bool.or_eq_true,zE];refine⟨.inr ?_, .inl (.inr ?_)⟩
  ·have hm:=gl a.keys (fun e=>na (by omega) (zH e));rw[wa.2.1]at hm⊢;exact(ga.1 _ hm).2.2
  ·have hm:=g0 b.keys (fun e=>nb (by omega) (zH e));rw[wb.2.1]at hm⊢;exact(gb.1 _ hm).2.1
end Go.Bt
end
section
namespace Go.Eng
theorem zIS {A off len cc sz room:Nat}{lo hi mx:Option Nat}{r:AV}(h:ZS A off len cc sz room lo hi mx=some r): ∀B,Blk r B->B=A:=by
 intro B hB;unfold ZS at h;simp only[yE]at h;split at h
 ·split at h
  ·rw[cond_eq_ite]at h;split at h
   ·simp only[z7]at h;subst h;exact Blk.slice.1 hB
   ·cases h
  ·cases h
 ·rw[cond_eq_ite]at h;split at h
  ·rw[cond_eq_ite]at h;split at h
   ·simp only[z7]at h;subst h;exact Blk.slice.1 hB
   ·rw[cond_eq_ite]at h;split at h
    ·simp only[z7]at h;subst h;exact Blk.slice.1 hB
    ·rw[cond_eq_ite]at h;split at h
     ·simp only[z7]at h;subst h;exact Blk.slice.1 hB
     ·simp only[z7]at h;subst h;obtain⟨_,_,_,hB⟩:=hB;cases hB
  ·cases h
theorem KW {sz:Nat}{v:AV}{lo hi mx:Option AV}{H:AH}{r:AV}(h:j0 sz v lo hi mx H=some r): ∀B,Blk r B->Blk v B:=by
 intro B hB;unfold j0 at h;split at h
 ·split at h
  ·rw[cond_eq_ite]at h;split at h
   ·simp only[z7]at h;subst h;exact hB
   ·cases h
  ·split at h
   ·rw[cond_eq_ite]at h;split at h
    ·rw[zIS h B hB];exact⟨_,_,_,rfl⟩
    ·cases h
   ·cases h
  ·split at h
   ·rw[cond_eq_ite]at h;split at h
    ·simp only[z7]at h;subst h;obtain⟨_,_,_,hB⟩:=hB;cases hB
    ·cases h
   ·cases h
  ·cases h
 ·cases h
end Go.Eng
namespace Go.Eng.Sh
open Go.Nd (Ptr yH)
theorem hi3 {H:AH}{v:AV}{l:List Ptr}(h:yN 3 65 H v l.length (l.flatMap y5)){i:Nat}(hi:i<=l.length):
  ∃r,j0 3 v none (some (.int .i64 (i:Nat))) (some (.int .i64 (i:Nat))) H=some r/\uO H r (l.take i):=by
 obtain⟨r,e1,w,_⟩:=KU h (by decide) hi .i64 .i64;rw[Y0]at w;have hlen:(l.take i).length=i:=by rw[zG];omega
 exact⟨r,e1,by rw[uO,hlen];exact w⟩
theorem lo3 {H:AH}{v:AV}{l:List Ptr}(h:yN 3 65 H v l.length (l.flatMap y5)){i:Nat}(hi:i<=l.length)(h0:0<l.length):
  ∃r,j0 3 v (some (.int .i64 (i:Nat))) none none H=some r/\uO H r (l.drop i):=by
 by_cases hlt:i<l.length
 ·obtain⟨r,e1,w,_⟩:=slSl_lo h (by decide) hlt .i64;rw[Y1]at w;have hlen:(l.drop i).length=l.length - i:=by rw[zO]
  exact⟨r,e1,by rw[uO,hlen];exact w⟩
 ·obtain rfl:i=l.length:=by omega
  obtain⟨r,e1,w⟩:=ZD h (by decide) h0 .i64;exact⟨r,e1,by rw[List.drop_length];exact w⟩
theorem conP3 (D:Dyn)(n:Nat){H:AH}{A cc:Nat}{x y z:AV}{l m k:List Ptr}(hk:H.ok)(hg:H.h.get A=some (.cells [x,y,z] 105 1 false))(h1:uO H x l)(h2:uO H y m)(h3:uO H z k)(hb:l.length+m.length+k.length<=1000000000)(hn:100<=n):
  ∃w H',f95 D n [.slice A 0 3 cc] H=some (w,H')/\Prs H H'/\Own 3 65 H' w (l++(m++k)).length ((l++(m++k)).flatMap y5)/\ ∀B,Blk w B->H.next<=B:=by
 obtain⟨w,H',e,p,o,f⟩:=zGk D n hk (v:= .slice A 0 3 cc) (vs:=[x,y,z]) (rs:=[(l.length,l.flatMap y5),(m.length,m.flatMap y5),(k.length,k.flatMap y5)]) (Rw.lit hk hg) ⟨⟨h1,xM _⟩,⟨h2,xM _⟩,⟨h3,xM _⟩,trivial⟩ (by simp[vP];omega) (by simp) (by simp;omega)
  (fun B hB=>by rw[Blk.slice.1 hB];exact hk.lt hg) (fun z hz B hB=>by
   simp only[List.mem_cons,List.not_mem_nil,or_false]at hz;rcases hz with rfl | rfl | rfl
   ·exact Rw.blk h1 hB
   ·exact Rw.blk h2 hB
   ·exact Rw.blk h3 hB)
 exact⟨w,H',e,p,by simpa[vP,zCW]using o,f⟩
theorem zKz (D:Dyn)(n:Nat)(hn:200000000<=n){H0 H:AH}{At Ac F A5 A7 A8 i m:Nat}{fes:List (AV×AV)}{f:PN}{g:AV}{gl:List Ptr}{last0 last:Nat}{ln lk:List AV}{nd kd:Nd.Node}
  (h:Ch H0 H At Ac F fes f g gl last0 last) (g5:H.h.get A5=some (.cells ln 111 1 false)) (g7:H.h.get A7=some (.cells lk 111 1 false)) (g8:H.h.get A8=some (.cells [.bool false, .nilSlice, .nilSlice, .nilSlice] 111 1 false))
  (hA5:H0.next<=A5) (hA7:H0.next<=A7) (hA8:H0.next<=A8) (h58:A5≠A8) (h5c:A5≠Ac) (h8c:A8≠Ac)
  (hv:k7 H g (.agg ln) nd) (hkd:k7 H g (.agg lk) kd) (hsk:Nd.shaped ltS kd=true) (hz:Nd.size kd<=10000) (hs:small nd) (hkl:nd.kids.length=nd.keys.length+1) (hne:nd.keys≠[]) (him:i+m<nd.kids.length)
  (hlim: ∀nds ss,CutsN kd nds ss->nds.length<=1000/\ss.length<=1000) (hb:last<=800000000):
  ∃u H' nds ss vs,zFj D n [.ptr Ac 0, .ptr A5 0, .ptr A7 0, .ptr A8 0, .int .i64 (i:Nat), .int .i64 ((i+m+1:Nat):Int)] H=some (.ret (.tuple [u, .int .i64 ((0:Nat):Int)]),H')/\CutsN kd nds ss/\
   Ch H0 H' At Ac F (fes++YL last vs) (f++kH last nds) g gl last0 (last+nds.length)/\Stp (fun B=>chg Ac F g B\/B=A8) H H'/\
   k7 H' g u ⟨false,nd.keys.take i++(ss++nd.keys.drop (i+m)),[],nd.kids.take i++(pps last nds.length++nd.kids.drop (i+m+1))⟩/\ ∀B,xZ u B->H.next<=B:=by
 obtain⟨ks,vs0,ps,hln,k1,k2,k3⟩:=id hv.1;simp only[AV.agg.injEq]at hln;subst hln;have hll:lk.length=4:=by obtain⟨_,_,_,e,_⟩:=hkd.1;simp only[AV.agg.injEq]at e;rw[e];rfl
 have hkeys:0<nd.keys.length:=by
  rcases Nat.eq_zero_or_pos nd.keys.length with e | e
  ·exact absurd (zH e) hne
  ·exact e
 obtain⟨s1,s2,s3⟩:=hs;have hkl1:=Nd.sumL_ge nd.keys;obtain⟨pv,sv,H1,vs,nds,ss,e1,p1,hcut,oP,hpar,oS,bP,bS,bvs⟩:=UY D n hn h.prs.ok hkd.1 hsk hz;obtain⟨c1,c2⟩:=hlim nds ss hcut;have h1:=h.step p1;have G5 {Hx:AH} (p:Prs H Hx):=Prs.get p h.prs.ok g5;have q1 {Hx:AH} (p:Prs H Hx):yN 1 9 Hx ks nd.keys.length (nd.keys.map S):=k1.mono p (fun _ _ x=>x);have q3 {Hx:AH} (p:Prs H Hx):yN 3 65 Hx ps nd.kids.length (nd.kids.flatMap y5):=k3.mono p (fun _ _ x=>x);obtain⟨r1,c1',x1⟩:=hi1 (q1 p1) (i:=i) (by omega);obtain⟨r2,c2',x2⟩:=lo1 (q1 p1) (i:=i+m) (by omega) hkeys;obtain⟨H2,A2,b2,p2,g2,m2,n2⟩:=box p1.ok (.cells [r1,sv,r2] 56 1 false);have P2:=p1.trans p2;obtain⟨r3,c3',x3⟩:=hi3 (q3 P2) (i:=i) (by omega);obtain⟨r4,c4',x4⟩:=lo3 (q3 P2) (i:=i+m+1) (by omega) (by omega);have hss:Strs H2 sv ss:=(oS.mono p2 (fun _ _ x=>x)).row;obtain⟨w3,H3,e3,p3,o3,f3⟩:=zNV D n (cc:=6) p2.ok g2 (x1.prs p2) hss (x2.prs p2) (by simp only[zG,zO];omega) (by omega);have P3:=P2.trans p3;have h3:=h.step P3;have N1:=p1.next;have N2:=p2.next;have N3:=p3.next
 obtain⟨kv,H4,e4,h4,a4,o4,f4⟩:=BP D n hn h3 (oP.mono (p2.trans p3) (fun _ _ x=>x)) (hpar.frame fun l hl nd hg=>hg.prs (p2.trans p3)) (fun l hl B hB hgB=>by
  rcases bvs l hl B hB with e | e
  ·exact hkd.2 B e hgB
  ·have:=Rw.blk h.gg.row hgB;omega) (by omega) (by omega)
 have hv3:k7 H3 g (.agg [.bool nd.leaf,ks,vs0,ps]) nd:=hv.prs P3;have hv4:=h3.next hv3 a4
 obtain⟨ks',vs',ps',ee,j1,j2,j3⟩:=id hv4.1;simp only[AV.agg.injEq,List.cons.injEq,and_true,true_and]at ee;obtain⟨rfl,rfl,rfl⟩:=ee;have nb3: ∀B,Blk ps B-> ¬chg Ac F g B:=fun B hB hc=>by
  have hB':xZ (.agg [.bool nd.leaf,ks,vs0,ps]) B:=kD.2 (.inr (.inr hB));rcases hc with rfl | rfl | e
  ·exact hv3.1.nblk h3.gC (.inl ⟨_,_,_,_,rfl,fun _ _ e=>by cases e⟩) hB'
  ·exact hv3.1.nblk h3.gF (.inr (.inl ⟨_,_,rfl⟩)) hB'
  ·exact hv3.2 B hB' e
 have y3:uO H4 r3 (nd.kids.take i):=Rw.stp (x3.prs p3) a4.1 (fun B hB=>nb3 B (KW c3' B hB));have y4:uO H4 r4 (nd.kids.drop (i+m+1)):=Rw.stp (x4.prs p3) a4.1 (fun B hB=>nb3 B (KW c4' B hB));obtain⟨H5,A9,b5,p5,gg5,m5,n5⟩:=box h4.prs.ok (.cells [r3,kv,r4] 105 1 false);have okv:uO H5 kv (pps last nds.length):=by
  have:=(o4.mono p5 (fun _ _ x=>x)).row;rw[uO,cW];exact this
 obtain⟨w6,H6,e6,p6,o6,f6⟩:=conP3 D n (cc:=6) p5.ok gg5 (y3.prs p5) okv (y4.prs p5) (by rw[cW];simp only[zG,zO];omega) (by omega);have p46:Prs H4 H6:=p5.trans p6;have h6:=h4.step p46;have N4:=a4.1.next;have N6:=p46.next;have N0:=h.prs.next
 have lt8:A8<H.next:=h.prs.ok.lt g8
 have lt5:A5<H.next:=h.prs.ok.lt g5
 have n8: ¬chg Ac F g A8:=fun hc=>by
  rcases hc with e | e | e
  ·exact h8c e
  ·rw[e,h.gF]at g8;cases g8
  ·rw[h.gg.get e]at g8;simp at g8
 have n5': ¬chg Ac F g A5:=fun hc=>by
  rcases hc with e | e | e
  ·exact h5c e
  ·rw[e,h.gF]at g5;cases g5
  ·rw[h.gg.get e]at g5;simp at g5
 have g86:H6.h.get A8=some (.cells [.bool false, .nilSlice, .nilSlice, .nilSlice] 111 1 false):=by
  rw[p46.keep _ (by omega) (fun x=>x),a4.1.keep _ (by omega) n8];exact Prs.get P3 h.prs.ok g8
 have g54:H4.h.get A5=some (.cells [.bool nd.leaf,ks,vs0,ps] 111 1 false):=by rw[a4.1.keep _ (by omega) n5'];exact G5 P3
 have o36:Own 1 9 H6 w3 (nd.keys.take i++(ss++nd.keys.drop (i+m))).length ((nd.keys.take i++(ss++nd.keys.drop (i+m))).map S):=(o3.mono a4.1 (fun B hB hc=>by
  have:=f3 B hB;rcases hc with e | e | e
  ·have:=h.ltC;omega
  ·have:=h.ltF;omega
  ·have:=Rw.blk h.gg.row e;omega)).mono p46 (fun _ _ x=>x)
 obtain⟨H7,e7,g77,s7,n7⟩:=qX h6.prs.ok g86 (l':=[.bool false,w3, .nilSlice,w6]) rfl (by simp only[qP,o36.row.isCell,o6.row.isCell];rfl);have e7':stN 4 (.ptr A8 0) (.agg [.bool false,w3, .nilSlice,w6]) H6=some (qN,H7):=e7;have n8': ∀B,Blk g B-> ¬B=A8:=fun B hB e=>n8 (.inr (.inr (e▸hB)))
 have h7:Ch H0 H7 At Ac F (fes++YL last vs) (f++kH last nds) g gl last0 (last+nds.length):=h6.other s7 (fun e=>h8c e.symm) (fun e=>n8 (.inr (.inl e.symm))) n8' (fun kv' hkv B hB e=>by
  subst e;obtain⟨nd2,hn2⟩:=h6.pf.mem kv' hkv;exact hn2.nblk g86 (.inl ⟨_,_,_,_,rfl,fun _ _ e=>by cases e⟩) hB) (fun B hB=>by omega)
 have hi2:j0 1 ks (some (.int .i64 ((i+m:Nat):Int))) none none H1=some r2:=c2';have hsub:((i+m+1:Nat):Int) - ((1:Nat):Int)=((i+m:Nat):Int):=by omega
 refine⟨.agg [.bool false,w3, .nilSlice,w6],H7,nds,ss,vs, ?_,hcut,h7, ?_,⟨⟨w3, .nilSlice,w6,rfl, .inl (o36.mono s7 (fun B hB e=>by have:=f3 B hB;omega)), .inl (Own.nil ..), .inl (o6.mono s7 (fun B hB e=>by have:=f6 B hB;have:=p5.next;omega))⟩,fun B hB hgB=> ?_⟩,fun B hB=> ?_⟩
 ·have t00: ¬(((0:Nat):Int)≠((0:Nat):Int)):=by omega
  simp(config:= { maxSteps:=2000000}) (disch:=omega) only[zFj,eZ,vL g7 hll,e1,qL,nth,t00,qM (G5 p1),c1',hsub,hi2,row3 56 .nilSlice x1.isCell oS.row.isCell x2.isCell,b2,qM (G5 P2),c3',c4',e3,j9 (qM (G5 P3) 3) (yJ k3.row),slSl_same (q3 P2) (q3 P3) (by decide),j9 rfl (yJ x3),j9 rfl (yJ x4),e4,j9 (qM g54 3) (yJ k3.row),slSl_same (q3 P2) j3 (by decide),
   row3 105 .nilSlice x3.isCell o4.row.isCell x4.isCell,b5,e6,zLy o3.row.isCell o6.row.isCell,e7',vL g77 rfl]
 ·have a1:Stp (fun B=>chg Ac F g B\/B=A8) H H4:=(P3.mono (fun _ _ x=>x.elim)).trans (a4.1.mono (fun _ _ x=> .inl x));exact(a1.trans (p46.mono (fun _ _ x=>x.elim))).trans (s7.mono (fun _ _ x=> .inr x))
 ·have:=Rw.blk h.gg.row hgB;rcases kD.1 hB with e | e | e
  ·have:=f3 B e;omega
  ·exact(Blk.nil.1 e).elim
  ·have:=f6 B e;have:=p5.next;omega
 ·rcases kD.1 hB with e | e | e
  ·have:=f3 B e;omega
  ·exact(Blk.nil.1 e).elim
  ·have:=f6 B e;have:=p5.next;omega
open Go.Nd (bE)
open Go.Bt
def Qf (q f:PN)(p:Ptr):Option Nd.Node:=if p=pp p.sum.toNat then(match qV p.sum.toNat f with | some n=>some n | none=>qV p.sum.toNat q)else none
theorem Z9 (q f:PN)(s:Nat):Qf q f (pp s)=match qV s f with | some n=>some n | none=>qV s q:=by simp[Qf,pp]
theorem bL {q f:PN}{p:Ptr}{nd:Nd.Node}(h:Qf q f p=some nd): ∃s,p=pp s/\(qV s f=some nd\/(qV s f=none/\qV s q=some nd)):=by
 simp only[Qf]at h;split at h
 ·rename_i e;refine⟨_,e, ?_⟩;split at h
  ·rename_i n hn;exact .inl (hn.trans h)
  ·rename_i hn;exact .inr ⟨hn,h⟩
 ·cases h
theorem aU {s t:Nat}(h:pp s=pp t):s=t:=by simp only[pp,Ptr.mk.injEq]at h;omega
theorem zHI (s:Nat):Nd.kidOk (pp s)=true:=by simp[Nd.kidOk,pp]
theorem aD: ∀ {nds:List Nd.Node} {last i:Nat} {nd:Nd.Node},nds[i]? =some nd->qV (last+1+i) (kH last nds)=some nd
 | [],_,_,_,h=>by simp at h
 | a::nds,last,0,nd,h=>by simp at h;subst h;simp[kH,qV]
 | a::nds,last,i+1,nd,h=>by
  simp only[List.getElem?_cons_succ]at h;rw[kH,qV,if_neg (by omega),show last+1+(i+1)=last+1+1+i from by omega];exact aD h
theorem YK: ∀ {nds:List Nd.Node} {last s:Nat} {nd:Nd.Node},qV s (kH last nds)=some nd->last<s/\s<=last+nds.length
 | [],_,_,_,h=>by simp[kH,qV]at h
 | a::nds,last,s,nd,h=>by
  rw[kH,qV]at h;split at h
  ·simp only[zF];omega
  ·have:=YK h;simp only[zF];omega
theorem XO {q f new:PN}{last0:Nat}(hq: ∀s nd,qV s q=some nd->s<=last0)(hn: ∀s nd,qV s new=some nd->last0<s){p:Ptr}{nd:Nd.Node}(h:Qf q f p=some nd):Qf q (f++new) p=some nd:=by
 obtain⟨s,rfl,h1 | ⟨h1,h2⟩⟩:=bL h
 ·rw[Z9,kE,h1]
 ·rw[Z9,kE,h1];simp only
  cases hk:qV s new with
  | none=>exact h2
  | some n2=>have:=hq _ _ h2;have:=hn _ _ hk;omega
theorem kZ.kidOk {α:Type}{q f:PN}{R:Nd.Node->α->List Ptr->Prop}(hr: ∀nd t S,R nd t S-> ∀p∈S,Nd.kidOk p=true): ∀ {ps:List Ptr} {ts:List α} {S:List Ptr},kZ (Qf q f) R ps ts S-> ∀p∈S,Nd.kidOk p=true
 | [],[],_,h=>by subst h;simp
 | p::ps,t::ts,_,⟨nd,S1,S2,a,b,c,e⟩=>fun x hx=>by
  subst e;rcases List.mem_cons.1 hx with rfl | hx
  ·obtain⟨s,rfl,_⟩:=bL a;exact zHI s
  ·rcases List.mem_append.1 hx with hx | hx
   ·exact hr _ _ _ b x hx
   ·exact kZ.kidOk hr c x hx
 | [],_::_,_,h=>h.elim
 | _::_,[],_,h=>h.elim
theorem jG.kidOk {q f:PN} : ∀ {h:Nat} {nd:Nd.Node} {t:Bt.Tr h} {S:List Ptr},jG (Qf q f) h nd t S-> ∀p∈S,Nd.kidOk p=true
 | 0,_,_,_,w=>by obtain⟨_,rfl⟩:=w;simp
 | h+1,_,_,_,w=>kZ.kidOk (fun _ _ _ hr=>jG.kidOk hr) w.2.2.2
theorem VP (D:Dyn)(n:Nat)(hn:200000000<=n){H0 H:AH}{At Ac F A5 A7 A8 i m h:Nat}{q:PN}{fes:List (AV×AV)}{f:PN}{g:AV}{gl:List Ptr}{last0 last:Nat}{ln lk:List AV}{nd kd:Nd.Node}{t:Bt.Tr (h+1)}{x:Bt.Tr h}{Sa Sb Sx:List Ptr}{lo hi:Bd}
  (ch:Ch H0 H At Ac F fes f g gl last0 last) (g5:H.h.get A5=some (.cells ln 111 1 false)) (g7:H.h.get A7=some (.cells lk 111 1 false)) (g8:H.h.get A8=some (.cells [.bool false, .nilSlice, .nilSlice, .nilSlice] 111 1 false))
  (hA5:H0.next<=A5) (hA7:H0.next<=A7) (hA8:H0.next<=A8) (h58:A5≠A8) (h5c:A5≠Ac) (h8c:A8≠Ac)
  (hv:k7 H g (.agg ln) nd) (hkd:k7 H g (.agg lk) kd) (hq: ∀s nd,qV s q=some nd->s<=last0)
  (n1:nd.leaf=false) (n2:nd.keys=t.1) (n3:nd.vals=[]) (n4:nd.kids.length=t.2.length) (wi:Inn (WF h) lo hi t) (hne:t.1≠[]) (hz:jH t.1 t.2.length<=500) (him:i+m<t.2.length)
  (ra:kZ (Qf q f) (jG (Qf q f) h) (nd.kids.take i) (t.2.take i) Sa) (rb:kZ (Qf q f) (jG (Qf q f) h) (nd.kids.drop (i+m+1)) (t.2.drop (i+m+1)) Sb)
  (rx:jG (Qf q f) h kd x Sx) (wx:WX h (YR lo t.1 i) (cN t.1 hi (i+m)) x) (fx:Full h x) (kne:0<h->kd.keys≠[]) (hb:last<=800000000):
  ∃u H' fes' f' last' nd' t' S',zFj D n [.ptr Ac 0, .ptr A5 0, .ptr A7 0, .ptr A8 0, .int .i64 (i:Nat), .int .i64 ((i+m+1:Nat):Int)] H=some (.ret (.tuple [u, .int .i64 ((0:Nat):Int)]),H')/\
   Ch H0 H' At Ac F fes' f' g gl last0 last'/\Stp (fun B=>chg Ac F g B\/B=A8) H H'/\k7 H' g u nd'/\(∀B,xZ u B->H.next<=B)/\jG (Qf q f') (h+1) nd' t' S'/\Inn (WF h) lo hi t'/\
   con (h+1) t'=(t.2.take i).flatMap (con h)++con h x++(t.2.drop (i+m+1)).flatMap (con h)/\jH t'.1 t'.2.length<=jH t.1 t.2.length+285/\t.1.length<=t'.1.length+m/\last<=last'/\last'<=last+6/\
   S'.Perm (pps last (last' - last)++(Sa++Sb++Sx))/\ ∀p nd,Qf q f p=some nd->Qf q f' p=some nd:=by
 have hl:=wi.2.2.len;have hsz:small nd:=by
  have:Nd.size nd<=10000:=by
   simp only[Nd.size,n2,n3,n4,Bt.sumL_nil];simp only[jH]at hz;omega
  exact xJ this
 have hsk:=rx.shaped wx.gen kne (jG.kidOk rx);have hzk:Nd.size kd<=10000:=by rw[rx.size];have:=wx.sz;omega
 have hlim: ∀nds ss,CutsN kd nds ss->nds.length<=6/\ss.length<=6:=fun nds ss hc=>by
  obtain⟨ts,c1,c2⟩:=XB hc rx wx;obtain⟨d1,_,d3,_⟩:=XA c1 wx (.inl fx);have l1:=c2.len;have l2:=d1.2.2.len;simp only at l2;omega
 obtain⟨u,H',nds,ss,vs,e1,hcut,hc',st,hu,hfr⟩:=zKz D n hn (i:=i) (m:=m) ch g5 g7 g8 hA5 hA7 hA8 h58 h5c h8c hv hkd hsk hzk hsz (by rw[n4,hl,n2]) (by rw[n2];exact hne) (by rw[n4];exact him) (fun nds ss hc=>by have:=hlim nds ss hc;omega) hb;obtain⟨ts,c1,c2⟩:=XB hcut rx wx;obtain⟨p1,p2,p3,p4⟩:=zHq (ks:=t.1) (ts:=t.2) wi him wx fx c1;have hnew: ∀s nd',qV s (kH last nds)=some nd'->last0<s:=fun s nd' hs=>by have:=YK hs;have:=ch.le;omega
 have more: ∀p nd,Qf q f p=some nd->Qf q (f++kH last nds) p=some nd:=fun p nd hp=>XO hq hnew hp
 have moreL: ∀ {ps:List Ptr} {ts:List (Bt.Tr h)} {S:List Ptr},kZ (Qf q f) (jG (Qf q f) h) ps ts S->kZ (Qf q (f++kH last nds)) (jG (Qf q (f++kH last nds)) h) ps ts S:=fun r=>r.mono (fun p _ nd hp=>more p nd hp) (fun nd t S1 _ hr=>hr.mono fun p _ nd hp=>more p nd hp)
 have c2':zCj (Qf q (f++kH last nds)) h nds ts Sx:=by
  have mono: ∀ {nds':List Nd.Node} {ts':List (Bt.Tr h)} {S':List Ptr},zCj (Qf q f) h nds' ts' S'->zCj (Qf q (f++kH last nds)) h nds' ts' S':=by
   intro nds'
   induction nds' with
   | nil=>intro ts' S' hp;cases ts' with
    | nil=>exact hp
    | cons=>exact hp.elim
   | cons a nds' ih=>intro ts' S' hp;cases ts' with
    | nil=>exact hp.elim
    | cons b ts'=>
     obtain⟨S1,S2,a1,a2,a3⟩:=hp;exact⟨S1,S2,a1.mono fun p _ nd hp=>more p nd hp,ih a2,a3⟩
  exact mono c2
 have hnone: ∀j,qV (last+1+j) f=none:=fun j=>by
  cases hk:qV (last+1+j) f with
  | none=>rfl
  | some n2=>have:=ch.fs _ _ hk;omega
 obtain⟨S2,r2,pm2⟩:=c2'.kids last (fun j nd' hj=>by rw[Z9,kE,hnone];simp only[aD hj]);have rl:=kZ.app (kZ.app (moreL rb) r2) (moreL ra);have hlen:=hlim nds ss hcut;refine⟨u,H',_,_,last+nds.length,_,(t.1.take i++ss++t.1.drop (i+m),t.2.take i++ts++t.2.drop (i+m+1)),Sa++(S2++Sb),e1,hc',st,hu,hfr,⟨rfl,by simp[n2],rfl, ?_⟩,p1,p2,p3,p4,by omega,by omega, ?_,more⟩
 ·simp only[List.append_assoc];exact rl
 ·rw[show last+nds.length - last=nds.length by omega];rw[List.perm_iff_count]at pm2⊢;intro a;have:=pm2 a;simp only[List.count_append]at this⊢;omega
end Go.Eng.Sh
end
