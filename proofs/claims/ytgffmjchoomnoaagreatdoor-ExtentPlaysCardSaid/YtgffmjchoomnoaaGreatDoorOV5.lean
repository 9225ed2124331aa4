/- A checked evaluator for the program, and what it tells, part 5: no condition. -/
import Derived.Test.YtgffmjchoomnoaaGreatDoorOV4
set_option linter.all false
set_option maxHeartbeats 8000000
set_option maxRecDepth 20000
section
namespace Go.Nd
def partedN (lt:Str->Str->Bool)(a:Node)(sep:Str)(b:Node):Bool:=
 mayK sep&&(a.leaf==b.leaf)&&(decide (a.keys.length=0)||lt (a.keys.getD (a.keys.length - 1) []) sep)&&(decide (b.keys.length=0)||lt sep (b.keys.getD 0 [])||(a.leaf&&decide (sep=b.keys.getD 0 [])))
end Go.Nd
namespace Go.Eng.Sh
open Go.Nd (Ptr yH cutOk cutA fT partedN)
theorem zEn (D:Dyn)(n:Nat){H:AH}(hk:H.ok){v w:AV}{a b:Nd.Node}{sep:Str}(h:fS H v a)(h':fS H w b)(hs:small a)(hs':small b):
  ∃H',zCU D n [v,S sep,w] H=some (.bool (partedN ltS a sep b),H')/\Prs H H':=by
 obtain⟨ks,vs,ps,rfl,h1,h2,h3⟩:=h;obtain⟨ks',vs',ps',rfl,k1,k2,k3⟩:=h';have hkl:=Nd.sumL_ge a.keys;have hkl':=Nd.sumL_ge b.keys;obtain⟨s1,s2,s3⟩:=hs;obtain⟨s1',s2',s3'⟩:=hs';have P:Prs H ((H.push (.cells [.bool a.leaf,ks,vs,ps] 93 1 false)).push (.cells [.bool b.leaf,ks',vs',ps'] 93 1 false)):=((Stp.refl hk).push _).push _;have l1:=h1.lnSl;have l2:=k1.lnSl;have q1:=h1.prs P;have q2:=k1.prs P;generalize hH2:(H.push (.cells [.bool a.leaf,ks,vs,ps] 93 1 false)).push (.cells [.bool b.leaf,ks',vs',ps'] 93 1 false)=H2 at P q1 q2;have r1: ∀o,ld1 (.ptr H.next o) H2=[.bool a.leaf,ks,vs,ps][o]? :=fun o=>by rw[<-hH2,zEM _ _ (by rw[AH.push_next];omega),WH]
 have r2: ∀o,ld1 (.ptr (H.push (.cells [.bool a.leaf,ks,vs,ps] 93 1 false)).next o) H2=[.bool b.leaf,ks',vs',ps'][o]? :=fun o=>by rw[<-hH2,WH]
 refine⟨H2, ?_,P⟩;have hne: ∀x y:Bool,(!(x==y))=false->x=y:=fun x y=>by cases x<;>cases y<;>simp
 cases hm:Nd.mayK sep with
 | false=>simp(disch:=first | assumption | omega | (simp only[AH.push_next,AH.put_next];omega) | (repeat(first | assumption | apply AH.ok.push))) only[zCU,eZ,hp,hH2,yV,hm,partedN]
 | true=>
  cases hl:(a.leaf==b.leaf)with
  | false=>simp(disch:=first | assumption | omega | (simp only[AH.push_next,AH.put_next];omega) | (repeat(first | assumption | apply AH.ok.push))) only[zCU,eZ,hp,hH2,yV,hm,partedN,r1,r2,hl]
  | true=>
   have e:b.leaf=a.leaf:=by revert hl;cases a.leaf<;>cases b.leaf<;>simp
   rw[e]at r2 hH2;simp only[partedN,hm,hl,Bool.true_and];rw[e];clear hl e hne;generalize a.leaf=la at*
   have hll:(la==la)=true:=by simp
   have tail:
     (∃q0,b.keys.length≠0->(∀κ (z:Int),z=((0:Nat):Int)->jL 1 ks' (.int κ z)=some q0)/\Eng.ld1 q0 H2=some (S (b.keys.getD 0 []))):=by
    by_cases h0:b.keys.length=0
    ·exact⟨.nilPtr,fun h=>absurd h0 h⟩
    ·obtain⟨q,i1,i2⟩:=q2.at (i:=0) (by omega);refine⟨q,fun _=>⟨i1, ?_⟩⟩;rw[kN (by omega)];exact i2
   obtain⟨q0,hq0⟩:=tail;by_cases ha:a.keys.length=0
   ·have ga: ¬((0:Nat):Int)< ((a.keys.length:Nat):Int):=by omega
    simp only[ha,decide_true,Bool.true_or,Bool.true_and];by_cases hb:b.keys.length=0
    ·have gb:((b.keys.length:Nat):Int)=((0:Nat):Int):=by omega
     simp only[hb,decide_true,Bool.true_or];simp(disch:=first | assumption | omega | (simp only[AH.push_next,AH.put_next];omega) | (repeat(first | assumption | apply AH.ok.push))) only[zCU,eZ,hp,hH2,yV,hm,r1,r2,hll,l1,l2,ga,gb]
    ·have gb: ¬((b.keys.length:Nat):Int)=((0:Nat):Int):=by omega
     obtain⟨i1,i2⟩:=hq0 hb;simp only[hb,decide_false,Bool.false_or]
     cases h1':ltS sep (b.keys.getD 0 [])<;>cases la<;>simp(disch:=first | assumption | omega | (simp only[AH.push_next,AH.put_next];omega) | (repeat(first | assumption | apply AH.ok.push))) only[zCU,eZ,hp,hH2,yV,hm,r1,r2,hll,l1,l2,ga,gb,i1,i2,h1']
   ·have ga:((0:Nat):Int)< ((a.keys.length:Nat):Int):=by omega
    obtain⟨q,j1,j2⟩:=q1.at (i:=a.keys.length - 1) (by omega);rw[<-kN (d:=[])]at j2;have hsub:((a.keys.length:Nat):Int) - ((1:Nat):Int)=((a.keys.length - 1:Nat):Int):=by omega
    simp only[ha,decide_false,Bool.false_or]
    cases h0':ltS (a.keys.getD (a.keys.length - 1) []) sep with
    | false=>simp(disch:=first | assumption | omega | (simp only[AH.push_next,AH.put_next];omega) | (repeat(first | assumption | apply AH.ok.push))) only[zCU,eZ,hp,hH2,yV,hm,r1,r2,hll,l1,l2,ga,hsub,j1,j2,h0']
    | true=>
     by_cases hb:b.keys.length=0
     ·have gb:((b.keys.length:Nat):Int)=((0:Nat):Int):=by omega
      simp only[hb,decide_true,Bool.true_or];simp(disch:=first | assumption | omega | (simp only[AH.push_next,AH.put_next];omega) | (repeat(first | assumption | apply AH.ok.push))) only[zCU,eZ,hp,hH2,yV,hm,r1,r2,hll,l1,l2,ga,gb,hsub,j1,j2,h0']
     ·have gb: ¬((b.keys.length:Nat):Int)=((0:Nat):Int):=by omega
      obtain⟨i1,i2⟩:=hq0 hb;simp only[hb,decide_false,Bool.false_or]
      cases h1':ltS sep (b.keys.getD 0 [])<;>cases la<;>simp(disch:=first | assumption | omega | (simp only[AH.push_next,AH.put_next];omega) | (repeat(first | assumption | apply AH.ok.push))) only[zCU,eZ,hp,hH2,yV,hm,r1,r2,hll,l1,l2,ga,gb,hsub,j1,j2,h0',i1,i2,h1']
end Go.Eng.Sh
end
section
namespace Go.Eng
theorem box {H:AH}(hk:H.ok)(o:AObj): ∃H' A,(∀(mk:Nat->AV) (K:AV->AH->Rs),bA (some (o,mk)) H K=K (mk A) H')/\Prs H H'/\H'.h.get A=some o/\H.next<=A/\A<H'.next:=
 ⟨H.push o,H.next,fun mk K=>vW hk o mk K,(Stp.refl hk).push o,AH.push_get_eq _ _,Nat.le_refl _,by rw[AH.push_next];omega⟩
theorem zMH {x y:AV}(e:TypeId)(z:AV)(hx:isCell x=true)(hy:isCell y=true)(hz:isCell z=true):wQ e 1 2 [z] [(0,x),(1,y)]=some (.cells [x,y] e 1 false,fun A=> .slice A 0 2 4):=by
 simp only[wQ,uN,rep,yN hx,yN hy];rfl
theorem row3 {x y w:AV}(e:TypeId)(z:AV)(hx:isCell x=true)(hy:isCell y=true)(hw:isCell w=true):wQ e 1 3 [z] [(0,x),(1,y),(2,w)]=some (.cells [x,y,w] e 1 false,fun A=> .slice A 0 3 6):=by
 simp only[wQ,uN,rep,yN hx,yN hy,yN hw];rfl
theorem zMh {x:AV}(e:TypeId)(z:AV)(hx:isCell x=true):wQ e 1 1 [z] [(0,x)]=some (.cells [x] e 1 false,fun A=> .slice A 0 1 2):=by
 simp only[wQ,uN,rep,yN hx];rfl
theorem Rw.lit {H:AH}{A e:Nat}{l:List AV}{cc:Nat}(hk:H.ok)(h:H.h.get A=some (.cells l e 1 false)):Rw 1 H (.slice A 0 l.length cc) l.length l:=
 ⟨by simp, .inr (.inr ⟨A,0,cc,l,e,1,false,rfl,h,hk.lt h,by simp,by simp⟩)⟩
end Go.Eng
namespace Go.Eng.Sh
open Go.Nd (Ptr yH cutOk cutA fT partedN gL)
theorem xY {A:Nat}{H:AH}{l:List AV}{e:TypeId}(h:H.h.get A=some (.cells l e 1 false))(hl:l.length=4):ldN 4 (.ptr A 0) H=some (.agg l):=by
 rw[qQ h,jJ _ _ _ (.inr (by omega)),List.drop_zero,zK (by omega)];rfl
def nd0:Nd.Node:=⟨false,[],[],[]⟩
theorem XN.zero (H0 H:AH):XN H0 H (.agg [.bool false, .nilSlice, .nilSlice, .nilSlice]) nd0:=
 ⟨_,_,_,rfl,Own.nil ..,Own.nil ..,Own.nil ..,fun B hB=>by rcases hB with h | h | h<;>exact(Blk.nil.1 h).elim,fun B hB=>(Blk.nil.1 hB).elim,fun B hB=>(Blk.nil.1 hB).elim⟩
def joinOk (a:Nd.Node)(sep:Str)(b:Nd.Node):Bool:=Nd.shaped ltS a&&Nd.shaped ltS b&&partedN ltS a sep b
theorem zIR (D:Dyn)(n:Nat){H:AH}{A cc:Nat}{x y:AV}{l m:List Str}(hk:H.ok)(hg:H.h.get A=some (.cells [x,y] 90 1 false))(h1:Strs H x l)(h2:Strs H y m)(hb:l.length+m.length<=1000000000)(hn:100<=n):
  ∃w H',f86 D n [.slice A 0 2 cc] H=some (w,H')/\Prs H H'/\Own 1 9 H' w (l++m).length ((l++m).map S)/\ ∀B,Blk w B->H.next<=B:=by
 obtain⟨w,H',e,p,o,f⟩:=zGw D n hk (v:= .slice A 0 2 cc) (vs:=[x,y]) (rs:=[(l.length,l.map S),(m.length,m.map S)]) (Rw.lit hk hg) ⟨⟨h1,kW _⟩,⟨h2,kW _⟩,trivial⟩ (by simpa[vK]using hb) (by simp) (by simp;omega)
  (fun B hB=>by rw[Blk.slice.1 hB];exact hk.lt hg) (fun z hz B hB=>by
   simp only[List.mem_cons,List.not_mem_nil,or_false]at hz;rcases hz with rfl | rfl
   ·exact Rw.blk h1 hB
   ·exact Rw.blk h2 hB)
 exact⟨w,H',e,p,by simpa[vK,zCK]using o,f⟩
theorem zOk (D:Dyn)(n:Nat){H:AH}{A cc:Nat}{x y z:AV}{l m k:List Str}(hk:H.ok)(hg:H.h.get A=some (.cells [x,y,z] 90 1 false))(h1:Strs H x l)(h2:Strs H y m)(h3:Strs H z k)(hb:l.length+m.length+k.length<=1000000000)(hn:100<=n):
  ∃w H',f86 D n [.slice A 0 3 cc] H=some (w,H')/\Prs H H'/\Own 1 9 H' w (l++(m++k)).length ((l++(m++k)).map S)/\ ∀B,Blk w B->H.next<=B:=by
 obtain⟨w,H',e,p,o,f⟩:=zGw D n hk (v:= .slice A 0 3 cc) (vs:=[x,y,z]) (rs:=[(l.length,l.map S),(m.length,m.map S),(k.length,k.map S)]) (Rw.lit hk hg) ⟨⟨h1,kW _⟩,⟨h2,kW _⟩,⟨h3,kW _⟩,trivial⟩ (by simp[vK];omega) (by simp) (by simp;omega)
  (fun B hB=>by rw[Blk.slice.1 hB];exact hk.lt hg) (fun z hz B hB=>by
   simp only[List.mem_cons,List.not_mem_nil,or_false]at hz;rcases hz with rfl | rfl | rfl
   ·exact Rw.blk h1 hB
   ·exact Rw.blk h2 hB
   ·exact Rw.blk h3 hB)
 exact⟨w,H',e,p,by simpa[vK,zCK]using o,f⟩
theorem conP2 (D:Dyn)(n:Nat){H:AH}{A cc:Nat}{x y:AV}{l m:List Ptr}(hk:H.ok)(hg:H.h.get A=some (.cells [x,y] 91 1 false))(h1:uP H x l)(h2:uP H y m)(hb:l.length+m.length<=1000000000)(hn:100<=n):
  ∃w H',f93 D n [.slice A 0 2 cc] H=some (w,H')/\Prs H H'/\Own 3 59 H' w (l++m).length ((l++m).flatMap y6)/\ ∀B,Blk w B->H.next<=B:=by
 obtain⟨w,H',e,p,o,f⟩:=zGx D n hk (v:= .slice A 0 2 cc) (vs:=[x,y]) (rs:=[(l.length,l.flatMap y6),(m.length,m.flatMap y6)]) (Rw.lit hk hg) ⟨⟨h1,xI _⟩,⟨h2,xI _⟩,trivial⟩ (by simpa[vK]using hb) (by simp) (by simp;omega)
  (fun B hB=>by rw[Blk.slice.1 hB];exact hk.lt hg) (fun z hz B hB=>by
   simp only[List.mem_cons,List.not_mem_nil,or_false]at hz;rcases hz with rfl | rfl
   ·exact Rw.blk h1 hB
   ·exact Rw.blk h2 hB)
 exact⟨w,H',e,p,by simpa[vK,zCK]using o,f⟩
theorem fM:wB [(0,1),(1,1),(2,1),(3,1)] [.bool false, .nilSlice, .nilSlice, .nilSlice] []=some (.agg [.bool false, .nilSlice, .nilSlice, .nilSlice]):=rfl
theorem zGE {a b:AV}(x:Bool)(ha:isCell a=true)(hb:isCell b=true):wB [(0,1),(1,1),(2,1),(3,1)] [.bool false, .nilSlice, .nilSlice, .nilSlice] [(0, .bool x),(1,a),(2,b)]=some (.agg [.bool x,a,b, .nilSlice]):=by
 simp only[wB,uN,zI7,yN ha,yN hb];rfl
theorem zM2 {a b:AV}(ha:isCell a=true)(hb:isCell b=true):wB [(0,1),(1,1),(2,1),(3,1)] [.bool false, .nilSlice, .nilSlice, .nilSlice] [(1,a),(3,b)]=some (.agg [.bool false,a, .nilSlice,b]):=by
 simp only[wB,uN,zI7,yN ha,yN hb];rfl
theorem zER (D:Dyn)(n:Nat)(hn:200000000<=n){H:AH}(hk:H.ok){v w:AV}{a b:Nd.Node}{sep:Str}(h:fS H v a)(h':fS H w b)(hs:small a)(hs':small b):
  ∃u H',f91 D n [v,S sep,w] H=some (.tuple [u, .int .i64 ((if joinOk a sep b then 0 else 1:Nat):Int)],H')/\Prs H H'/\XN H H' u (if joinOk a sep b then gL a sep b else nd0):=by
 have i0:=h;have i0':=h';obtain⟨ks,vs,ps,rfl,h1,h2,h3⟩:=h;obtain⟨la,hla⟩: ∃la,la=a.leaf:=⟨_,rfl⟩;rw[<-hla]at i0⊢;obtain⟨ks',vs',ps',rfl,k1,k2,k3⟩:=h';have hkl:=Nd.sumL_ge a.keys;have hkl':=Nd.sumL_ge b.keys;have hvl:=Nd.sumL_ge a.vals;have hvl':=Nd.sumL_ge b.vals;have s0:=hs;have s0':=hs';obtain⟨s1,s2,s3⟩:=hs;obtain⟨s1',s2',s3'⟩:=hs';obtain⟨H1,A1,b1,p1,g1,m1,n1⟩:=box hk (.cells [.bool la,ks,vs,ps] 93 1 false);obtain⟨H2,A2,b2,p2,g2,m2,n2⟩:=box p1.ok (.cells [.bool b.leaf,ks',vs',ps'] 93 1 false);obtain⟨H3,A3,b3,p3,g3,m3,n3⟩:=box p2.ok (.cells [.bool false, .nilSlice, .nilSlice, .nilSlice] 93 1 false);have P3:Prs H H3:=(p1.trans p2).trans p3;have g13:=p3.get p2.ok (p2.get p1.ok g1);have g23:=p3.get p2.ok g2;obtain⟨H4,e4,p4⟩:=uW D n P3.ok (i0.prs P3) s0 hn;have P4:=P3.trans p4;have g14:=p4.get P3.ok g13;have g24:=p4.get P3.ok g23;have g34:=p4.get P3.ok g3;have fin: ∀ {Hx:AH} {l:List AV},Prs H Hx->Hx.h.get A3=some (.cells [.bool false, .nilSlice, .nilSlice, .nilSlice] 93 1 false)->l.length=4->qN l=true-> ∃Hy,stN 4 (.ptr A3 0) (.agg l) Hx=some (qM,Hy)/\Prs H Hy/\Stp (fun B=>B=A3) Hx Hy/\ldN 4 (.ptr A3 0) Hy=some (.agg l):=fun {Hx l} px hg hl hc=>by
  obtain⟨Hy,e,g,s,_⟩:=yF px.ok hg hl hc;have e':stN 4 (.ptr A3 0) (.agg l) Hx=some (qM,Hy):=e;exact⟨Hy,e',px.fresh s (fun B hB=>by omega),s,by rw[qQ g,jJ _ _ _ (.inr (by omega)),List.drop_zero,zK (by omega)];rfl⟩
 cases c1:Nd.shaped ltS a with
 | false=>
  obtain⟨Hy,ey,py,_,ly⟩:=fin (l:=[.bool false, .nilSlice, .nilSlice, .nilSlice]) P4 g34 rfl rfl;refine⟨.agg [.bool false, .nilSlice, .nilSlice, .nilSlice],Hy, ?_,py, ?_⟩
  rotate_left
  ·simp only[joinOk,c1,Bool.false_and,Bool.false_eq_true,if_false];exact XN.zero _ _
  ·simp only[joinOk,c1,Bool.false_and,Bool.false_eq_true,if_false];simp(disch:=omega) only[f91,eZ,b1,b2,b3,qQ g13,cR,Option.map_some,e4,c1,fM,ey,ly]
 | true=>
 obtain⟨H5,e5,p5⟩:=uW D n P4.ok (i0'.prs P4) s0' hn;have P5:=P4.trans p5;have g15:=p5.get P4.ok g14;have g25:=p5.get P4.ok g24;have g35:=p5.get P4.ok g34
 cases c2:Nd.shaped ltS b with
 | false=>
  obtain⟨Hy,ey,py,_,ly⟩:=fin (l:=[.bool false, .nilSlice, .nilSlice, .nilSlice]) P5 g35 rfl rfl;refine⟨.agg [.bool false, .nilSlice, .nilSlice, .nilSlice],Hy, ?_,py, ?_⟩
  rotate_left
  ·simp only[joinOk,c2,Bool.false_and,Bool.and_false,Bool.false_eq_true,if_false];exact XN.zero _ _
  ·simp only[joinOk,c2,Bool.false_and,Bool.and_false,Bool.false_eq_true,if_false];simp(disch:=omega) only[f91,eZ,b1,b2,b3,qQ g13,qQ g24,cR,Option.map_some,e4,e5,c1,c2,fM,ey,ly]
 | true=>
 obtain⟨H6,e6,p6⟩:=zEn D n P5.ok (sep:=sep) (i0.prs P5) (i0'.prs P5) s0 s0';have P6:=P5.trans p6;have g16:=p6.get P5.ok g15;have g26:=p6.get P5.ok g25;have g36:=p6.get P5.ok g35
 cases c3:partedN ltS a sep b with
 | false=>
  obtain⟨Hy,ey,py,_,ly⟩:=fin (l:=[.bool false, .nilSlice, .nilSlice, .nilSlice]) P6 g36 rfl rfl;refine⟨.agg [.bool false, .nilSlice, .nilSlice, .nilSlice],Hy, ?_,py, ?_⟩
  rotate_left
  ·simp only[joinOk,c3,Bool.false_and,Bool.and_false,Bool.false_eq_true,if_false];exact XN.zero _ _
  ·simp only[joinOk,c3,Bool.false_and,Bool.and_false,Bool.false_eq_true,if_false];simp(disch:=omega) only[f91,eZ,b1,b2,b3,qQ g13,qQ g24,qQ g15,qQ g25,cR,Option.map_some,e4,e5,e6,c1,c2,c3,fM,ey,ly]
 | true=>
 have hj:joinOk a sep b=true:=by simp only[joinOk,c1,c2,c3,Bool.and_self]
 simp only[hj,if_true]
 cases la with
 | true=>
  obtain⟨H7,A7,b7,p7,g7,m7,n7⟩:=box P6.ok (.cells [ks,ks'] 90 1 false);have P7:=P6.trans p7;obtain⟨H8,A8,b8,p8,g8,m8,n8⟩:=box P7.ok (.cells [vs,vs'] 90 1 false);have P8:=P7.trans p8;obtain⟨w9,H9,e9,p9,o9,f9⟩:=zIR D n (cc:=4) P8.ok (p8.get P7.ok g7) (h1.prs P8) (k1.prs P8) (by omega) (by omega);have P9:=P8.trans p9;obtain⟨w10,H10,e10,p10,o10,f10⟩:=zIR D n (cc:=4) P9.ok (p9.get P8.ok g8) (h2.prs P9) (k2.prs P9) (by omega) (by omega);have P10:=P9.trans p10;have up {Hx:AH} {o:AObj} {A:Nat} (g:H6.h.get A=some o) (p:Prs H6 Hx):=p.get P6.ok g;have p69:Prs H6 H9:=(p7.trans p8).trans p9;obtain⟨Hy,ey,py,sy,ly⟩:=fin (l:=[.bool true,w9,w10, .nilSlice]) P10 (up g36 (p69.trans p10)) rfl (by simp only[qN,o9.row.isCell,o10.row.isCell];rfl);have n3':A3<H8.next:=by have:=p4.next;have:=p5.next;have:=p6.next;have:=p7.next;have:=p8.next;omega
  have n9:=p9.next
  refine⟨.agg [.bool true,w9,w10, .nilSlice],Hy, ?_,py, ?_⟩
  rotate_left
  ·have:gL a sep b=⟨true,a.keys++b.keys,a.vals++b.vals,[]⟩:=by simp only[gL,<-hla,if_true]
   rw[this];refine⟨w9,w10, .nilSlice,rfl,(o9.mono p10 (fun _ _ x=>x)).mono sy (fun B hB e=>by have:=f9 B hB;omega),o10.mono sy (fun B hB e=>by have:=f10 B hB;omega),Own.nil ..,fun B hB=> ?_,fun B hB=>⟨fun h=> ?_,fun h=>(Blk.nil.1 h).elim⟩,fun B hB h=>(Blk.nil.1 h).elim⟩
   ·have:=P8.next
    rcases hB with h | h | h
    ·have:=f9 B h;omega
    ·have:=f10 B h;omega
    ·exact(Blk.nil.1 h).elim
   ·have:=f10 B h;have:=Rw.blk o9.row hB;omega
  ·simp(disch:=omega) only[f91,eZ,b1,b2,b3,qQ g13,qQ g24,qQ g15,qQ g25,cR,Option.map_some,e4,e5,e6,c1,c2,c3,qL g16,qL g26,qL (up g16 p7),qL (up g26 p7),zMH 90 .nilSlice h1.isCell k1.isCell rfl,zMH 90 .nilSlice h2.isCell k2.isCell rfl,b7,b8,e9,
    jA (qL (up g16 p69) 2) (yL h2),jA (qL (up g26 p69) 2) (yL k2),e10,zGE _ o9.row.isCell o10.row.isCell,ey,ly]
 | false=>
  obtain⟨H7,A7,b7,p7,g7,m7,n7⟩:=box P6.ok (.cells [S sep] 9 1 false);have P7:=P6.trans p7;obtain⟨H8,A8,b8,p8,g8,m8,n8⟩:=box P7.ok (.cells [ks, .slice A7 0 1 2,ks'] 90 1 false);have P8:=P7.trans p8;obtain⟨H9,A9,b9,p9,g9,m9,n9⟩:=box P8.ok (.cells [ps,ps'] 91 1 false);have P9:=P8.trans p9;have hsep:Strs H9 (.slice A7 0 1 2) [sep]:=Rw.lit (cc:=2) P9.ok (Prs.get (p8.trans p9) P7.ok g7);obtain⟨w10,H10,e10,p10,o10,f10⟩:=zOk D n (cc:=6) P9.ok (p9.get P8.ok g8) (h1.prs P9) hsep (k1.prs P9) (by simp only[zJ,zX];omega) (by omega);have P10:=P9.trans p10;obtain⟨w11,H11,e11,p11,o11,f11⟩:=conP2 D n (cc:=4) P10.ok (p10.get P9.ok g9) (h3.prs P10) (k3.prs P10) (by omega) (by omega);have P11:=P10.trans p11;have up {Hx:AH} {o:AObj} {A:Nat} (g:H6.h.get A=some o) (p:Prs H6 Hx):=p.get P6.ok g;have p610:Prs H6 H10:=((p7.trans p8).trans p9).trans p10;obtain⟨Hy,ey,py,sy,ly⟩:=fin (l:=[.bool false,w10, .nilSlice,w11]) P11 (up g36 (p610.trans p11)) rfl (by simp only[qN,o10.row.isCell,o11.row.isCell];rfl);have n3':A3<H9.next:=by have:=p4.next;have:=p5.next;have:=p6.next;have:=p7.next;have:=p8.next;have:=p9.next;omega
  have n10:=p10.next
  refine⟨.agg [.bool false,w10, .nilSlice,w11],Hy, ?_,py, ?_⟩
  rotate_left
  ·have:gL a sep b=⟨false,a.keys++([sep]++b.keys),[],a.kids++b.kids⟩:=by simp only[gL,<-hla,Bool.false_eq_true,if_false]
   rw[this];refine⟨w10, .nilSlice,w11,rfl,(o10.mono p11 (fun _ _ x=>x)).mono sy (fun B hB e=>by have:=f10 B hB;omega),Own.nil ..,o11.mono sy (fun B hB e=>by have:=f11 B hB;omega),fun B hB=> ?_,fun B hB=>⟨fun h=>(Blk.nil.1 h).elim,fun h=> ?_⟩,fun B hB=>(Blk.nil.1 hB).elim⟩
   ·have:=P9.next
    rcases hB with h | h | h
    ·have:=f10 B h;omega
    ·exact(Blk.nil.1 h).elim
    ·have:=f11 B h;omega
   ·have:=f11 B h;have:=Rw.blk o10.row hB;omega
  ·simp(disch:=omega) only[f91,eZ,b1,b2,b3,qQ g13,qQ g24,qQ g15,qQ g25,cR,Option.map_some,e4,e5,e6,c1,c2,c3,qL g16,qL g26,qL (up g26 p7),qL (up g16 (p7.trans p8)),qL (up g26 (p7.trans p8)),zMh 9 (.str 0 0) (Z4 sep),b7,
    row3 90 .nilSlice h1.isCell (show isCell (.slice A7 0 1 2)=true from rfl) k1.isCell,zMH 91 .nilSlice h3.isCell k3.isCell rfl,b8,b9,e10,
    jA (qL (up g16 p610) 3) (yL h3),jA (qL (up g26 p610) 3) (yL k3),e11,zM2 o10.row.isCell o11.row.isCell,ey,ly]
end Go.Eng.Sh
end
section
namespace Go.Nd
end Go.Nd
namespace Go.Eng.Sh
open Go.Nd (Ptr yH cutOk cutA fT)
theorem y9.cells {H:AH}{v:AV}{nd:Nd.Node}(h:y9 H v nd): ∃l,v= .agg l/\l.length=4/\qN l=true:=by
 obtain⟨ks,vs,ps,rfl,h1,h2,h3⟩:=h;exact⟨_,rfl,rfl,cJ _ _ _ _ h1.row.isCell h2.row.isCell h3.row.isCell⟩
theorem y9.zero (H:AH):y9 H (.agg [.bool false, .nilSlice, .nilSlice, .nilSlice]) nd0:=
 ⟨_,_,_,rfl, .inl (Own.nil ..), .inl (Own.nil ..), .inl (Own.nil ..)⟩
theorem wE.zero (N:Nat)(H:AH):wE N H (.agg [.bool false, .nilSlice, .nilSlice, .nilSlice]) nd0:=
 ⟨y9.zero H,fun B hB=>by rcases kB.1 hB with h | h | h<;>exact(Blk.nil.1 h).elim⟩
theorem cutNo (D:Dyn)(n:Nat)(hn:200000000<=n){H:AH}(hk:H.ok){v:AV}{nd:Nd.Node}(h:fS H v nd)(hs:small nd)(hc: ¬(Nd.shaped ltS nd=true/\vD nd)):
  ∃H',zCH D n [v] H=some (.tuple [.agg [.bool false, .nilSlice, .nilSlice, .nilSlice],S [], .agg [.bool false, .nilSlice, .nilSlice, .nilSlice], .int .i64 ((1:Nat):Int)],H')/\Prs H H':=by
 have i0:=h;obtain⟨ks,vs,ps,rfl,h1,h2,h3⟩:=h;obtain⟨la,hla⟩: ∃la,la=nd.leaf:=⟨_,rfl⟩;rw[<-hla]at i0⊢;obtain⟨H1,H2,H3,H4,A1,A2,A4,b1,b2,b3,e4,i3,i4⟩:=zAr D n hn hk hla.symm i0 hs;have o1:=i4.o1;have o2:=i4.o2;have o4:=i4.o4;have l4:=i4.lt;obtain⟨H5,e5,i5,s5⟩:=i4.all2 (l':=[.bool false, .nilSlice, .nilSlice, .nilSlice]) rfl rfl;obtain⟨H6,e6,i6,s6⟩:=i5.all4 (l':=[.bool false, .nilSlice, .nilSlice, .nilSlice]) rfl rfl;have e5':stN 4 (.ptr A2 0) (.agg [.bool false, .nilSlice, .nilSlice, .nilSlice]) H4=some (qM,H5):=e5;have e6':stN 4 (.ptr A4 0) (.agg [.bool false, .nilSlice, .nilSlice, .nilSlice]) H5=some (qM,H6):=e6;have hln:=h1.lnSl;refine⟨H6, ?_,i6.prs⟩;have hS:(AV.str 0 0)=S []:=rfl
 cases c1:Nd.shaped ltS nd with
 | false=>
  simp(maxSteps:=999999)(disch:=omega) only[zCH,eZ,b1,b2,b3,qQ i3.a1,qQ i4.a1,cR,Option.map_some,e4,c1,fM,e5',e6',qQ i6.a2,qQ i6.a4,hS]
 | true=>
  have hc: ¬vD nd:=fun hh=>hc ⟨c1,hh⟩
  by_cases t2:nd.keys.length<2
  ·have t2':((nd.keys.length:Nat):Int)< ((2:Nat):Int):=by omega
   simp(maxSteps:=999999)(disch:=omega) only[zCH,eZ,b1,b2,b3,qQ i3.a1,qQ i4.a1,cR,Option.map_some,e4,c1,qL i4.a1,hln,t2',fM,e5',e6',qQ i6.a2,qQ i6.a4,hS]
  ·have t2': ¬((nd.keys.length:Nat):Int)< ((2:Nat):Int):=by omega
   have hf:la=false:=by
    cases la with
    | false=>rfl
    | true=>exact absurd ⟨by omega, .inl hla.symm⟩ hc
   have t3:nd.keys.length<3:=by
    rcases Nat.lt_or_ge nd.keys.length 3 with h | h
    ·exact h
    ·exact absurd ⟨by omega, .inr h⟩ hc
   have t3':((nd.keys.length:Nat):Int)< ((3:Nat):Int):=by omega
   subst hf;simp(maxSteps:=999999)(disch:=omega) only[zCH,eZ,b1,b2,b3,qQ i3.a1,qQ i4.a1,cR,Option.map_some,e4,c1,qL i4.a1,hln,t2',t3',fM,e5',e6',qQ i6.a2,qQ i6.a4,hS]
theorem zOh (D:Dyn)(n:Nat)(hn:200000000<=n){H:AH}(hk:H.ok){v:AV}{nd:Nd.Node}(h:y9 H v nd)(hs:small nd):
  ∃va sep vb e H',zCH D n [v] H=some (.tuple [va,S sep,vb, .int .i64 ((e:Nat):Int)],H')/\Prs H H'/\
   ((e=0/\ ∃k,Nd.shaped ltS nd=true/\cutOk nd k/\hbnd nd k/\sep=nd.keys.getD k []/\wE H.next H' va (cutA nd k)/\wE H.next H' vb (fT nd k))\/
    (e=1/\sep=[]/\ ¬(Nd.shaped ltS nd=true/\vD nd)/\va= .agg [.bool false, .nilSlice, .nilSlice, .nilSlice]/\vb= .agg [.bool false, .nilSlice, .nilSlice, .nilSlice])):=by
 by_cases hc:Nd.shaped ltS nd=true/\vD nd
 ·cases hl:nd.leaf with
  | true=>
   obtain⟨k,va,vb,H',e,p,ga,gb,ok,kb⟩:=zLS D n hn hk h hs hc.1 hc.2 hl;exact⟨va,_,vb,0,H',e,p, .inl ⟨rfl,k,hc.1,ok,kb,rfl,ga,gb⟩⟩
  | false=>
   obtain⟨k,va,vb,H',e,p,ga,gb,ok,kb⟩:=zIO D n hn hk h hs hc.1 hc.2 hl;exact⟨va,_,vb,0,H',e,p, .inl ⟨rfl,k,hc.1,ok,kb,rfl,ga,gb⟩⟩
 ·obtain⟨H',e,p⟩:=cutNo D n hn hk h.node hs hc;exact⟨_,[],_,1,H',e,p, .inr ⟨rfl,rfl,hc,rfl,rfl⟩⟩
end Go.Eng.Sh
end
section
namespace Go.Nd
open Go.Eng (ltS yD yP bC vT uG)
abbrev Kvs:=List (Str×Str)
def lookP (k:Str):Kvs->Option Str
 | []=>none
 | (a,b)::l=>if a=k then some b else lookP k l
def putP (k v:Str):Kvs->Kvs
 | []=>[(k,v)]
 | (a,b)::l=>if a=k then(k,v)::l else if ltS a k then(a,b)::putP k v l else(k,v)::(a,b)::l
def delP (k:Str):Kvs->Kvs
 | []=>[]
 | (a,b)::l=>if a=k then l else(a,b)::delP k l
def Srt:Kvs->Prop
 | []=>True
 | (a,_)::l=>(∀p∈l,ltS a p.1=true)/\Srt l
theorem rising_cons {a:Str}{l:List Str} :rising ltS (a::l)=true↔(∀x∈l,ltS a x=true)/\rising ltS l=true:=by
 induction l generalizing a with
 | nil=>simp[rising]
 | cons b l ih=>
  rw[rising,z8];constructor
  ·rintro⟨h1,h2⟩
   refine⟨fun x hx=> ?_,h2⟩;rcases List.mem_cons.1 hx with rfl | hx
   ·exact h1
   ·exact yP h1 ((ih.1 h2).1 x hx)
  ·rintro⟨h1,h2⟩
   exact⟨h1 b (zC ..),h2⟩
theorem J7: ∀l:Kvs,Srt l↔rising ltS (l.map Prod.fst)=true
 | []=>by simp[Srt,rising]
 | (a,b)::l=>by
  rw[List.map_cons,rising_cons,Srt,J7 l];simp only[List.mem_map,forall_exists_index,and_imp];constructor
  ·rintro⟨h1,h2⟩;exact⟨fun x p hp e=>e▸h1 p hp,h2⟩
  ·rintro⟨h1,h2⟩;exact⟨fun p hp=>h1 _ p hp rfl,h2⟩
theorem look_none {k:Str} : ∀ {l:Kvs},(∀p∈l,p.1≠k)->lookP k l=none
 | [],_=>rfl
 | (a,b)::l,h=>by
  rw[lookP,if_neg (h (a,b) (zC ..))];exact look_none fun p hp=>h p (zA _ hp)
theorem look_put (k v x:Str): ∀l:Kvs,lookP x (putP k v l)=if x=k then some v else lookP x l
 | []=>by
  simp only[putP,lookP];by_cases h:x=k
  ·rw[if_pos h.symm,if_pos h]
  ·rw[if_neg (fun e=>h e.symm),if_neg h]
 | (a,b)::l=>by
  have ih:=look_put k v x l;simp only[putP];split
  ·rename_i e;subst e;simp only[lookP];by_cases h:x=a
   ·rw[if_pos h.symm,if_pos h]
   ·rw[if_neg (fun e=>h e.symm),if_neg h,if_neg (fun e=>h e.symm)]
  ·rename_i hak;split
   ·simp only[lookP,ih];by_cases h:x=k
    ·subst h;rw[if_neg hak,if_pos rfl,if_pos rfl]
    ·rw[if_neg h,if_neg h]
   ·simp only[lookP];by_cases h:x=k
    ·rw[if_pos h.symm,if_pos h]
    ·rw[if_neg (fun e=>h e.symm),if_neg h]
theorem mem_put {k v:Str}{p:Str×Str} : ∀ {l:Kvs},p∈putP k v l->p=(k,v)\/p∈l
 | [],h=>by simpa[putP]using h
 | (a,b)::l,h=>by
  simp only[putP]at h;split at h
  ·rcases List.mem_cons.1 h with h | h
   ·exact .inl h
   ·exact .inr (zA _ h)
  ·split at h
   ·rcases List.mem_cons.1 h with h | h
    ·exact .inr (h▸zC ..)
    ·rcases mem_put h with h | h
     ·exact .inl h
     ·exact .inr (zA _ h)
   ·rcases List.mem_cons.1 h with h | h
    ·exact .inl h
    ·exact .inr h
theorem srt_put (k v:Str): ∀ {l:Kvs},Srt l->Srt (putP k v l)
 | [],_=>⟨by simp,trivial⟩
 | (a,b)::l,h=>by
  simp only[putP];split
  ·rename_i e;subst e;exact h
  ·rename_i hak;split
   ·rename_i hlt;refine⟨fun p hp=> ?_,srt_put k v h.2⟩;rcases mem_put hp with rfl | hp
    ·exact hlt
    ·exact h.1 p hp
   ·rename_i hlt;have hka:ltS k a=true:=by
     cases hk:ltS k a with
     | true=>rfl
     | false=>exact absurd (bC (by simpa using hlt) hk) hak
    refine⟨fun p hp=> ?_,h⟩;rcases List.mem_cons.1 hp with rfl | hp
    ·exact hka
    ·exact yP hka (h.1 p hp)
theorem mem_del {k:Str}{p:Str×Str} : ∀ {l:Kvs},p∈delP k l->p∈l
 | [],h=>h
 | (a,b)::l,h=>by
  simp only[delP]at h;split at h
  ·exact zA _ h
  ·rcases List.mem_cons.1 h with h | h
   ·exact h▸zC ..
   ·exact zA _ (mem_del h)
theorem srt_del (k:Str): ∀ {l:Kvs},Srt l->Srt (delP k l)
 | [],_=>trivial
 | (a,b)::l,h=>by
  simp only[delP];split
  ·exact h.2
  ·exact⟨fun p hp=>h.1 p (mem_del hp),srt_del k h.2⟩
theorem look_del (k x:Str): ∀ {l:Kvs},Srt l->lookP x (delP k l)=if x=k then none else lookP x l
 | [],_=>by simp[delP,lookP]
 | (a,b)::l,h=>by
  have ih:=look_del k x h.2;simp only[delP];split
  ·rename_i e;subst e;by_cases hx:x=a
   ·rw[if_pos hx,look_none];intro p hp e;subst hx;exact uG (h.1 p hp) e.symm
   ·rw[if_neg hx,lookP,if_neg (fun e=>hx e.symm)]
  ·rename_i hak;simp only[lookP,ih];by_cases hx:x=k
   ·subst hx;rw[if_neg hak,if_pos rfl,if_pos rfl]
   ·rw[if_neg hx,if_neg hx]
theorem len_put (k v:Str): ∀ {l:Kvs},Srt l->(putP k v l).length=if(lookP k l).isSome then l.length else l.length+1
 | [],_=>rfl
 | (a,b)::l,h=>by
  have ih:=len_put k v h.2;simp only[putP,lookP];split
  ·simp
  ·rename_i hak;split
   ·simp only[zJ,ih];split<;>omega
   ·rename_i hlt;have:lookP k l=none:=look_none fun p hp e=>hlt (by
     have:=h.1 p hp;rw[e]at this;exact this)
    rw[this];rfl
def whereN (n:Node)(key:Str):Nat:=(n.keys.filter fun k=>ltS k key||(!n.leaf&&decide (k=key))).length
theorem whereN_le (n:Node)(key:Str):whereN n key<=n.keys.length:=List.length_filter_le _ _
def qP (l:Kvs):Node:=⟨true,l.map Prod.fst,l.map Prod.snd,[]⟩
theorem where_cons {a b key:Str}{l:Kvs}(h:Srt ((a,b)::l)):whereN (qP ((a,b)::l)) key=if ltS a key then whereN (qP l) key+1 else 0:=by
 simp only[whereN,qP,List.map_cons,Bool.not_true,Bool.false_and,Bool.or_false]
 cases hl:ltS a key with
 | true=>simp[hl]
 | false=>
  rw[List.filter_cons,hl];simp only[Bool.false_eq_true,if_false];rw[List.length_eq_zero_iff,List.filter_eq_nil_iff];intro x hx hlt;obtain⟨p,hp,rfl⟩:=List.mem_map.1 hx;have:=yP (h.1 p hp) hlt;rw[hl]at this;cases this
def vG (n:Node)(key:Str):Bool:=decide (whereN n key<n.keys.length)&&decide (n.keys.getD (whereN n key) []=key)
theorem here_look (key:Str): ∀ {l:Kvs},Srt l->vG (qP l) key=(lookP key l).isSome
 | [],_=>by simp[vG,qP,lookP]
 | (a,b)::l,h=>by
  have ih:=here_look key h.2;have e1:(qP ((a,b)::l)).keys=a::(qP l).keys:=rfl;simp only[vG,where_cons h,lookP,e1]at ih⊢
  cases hl:ltS a key with
  | true=>
   have hne:a≠key:=uG hl;simp only[if_true,if_neg hne,zJ,Nat.add_lt_add_iff_right,List.getD_cons_succ];exact ih
  | false=>
   simp only[Bool.false_eq_true,if_false,zJ,List.getD_cons_zero,Nat.zero_lt_succ,decide_true,Bool.true_and];by_cases e:a=key
   ·simp[e]
   ·rw[if_neg e,look_none]
    ·simp[e]
    ·intro p hp e2;have:=h.1 p hp;rw[e2,hl]at this;cases this
def zHV (n:Node)(key value:Str):Node:=
 if vG n key then⟨true,n.keys,n.vals.set (whereN n key) value,[]⟩
 else⟨true,n.keys.take (whereN n key)++[key]++n.keys.drop (whereN n key),n.vals.take (whereN n key)++[value]++n.vals.drop (whereN n key),[]⟩
def zMl (n:Node)(key:Str):Node:=⟨true,n.keys.take (whereN n key)++n.keys.drop (whereN n key+1),n.vals.take (whereN n key)++n.vals.drop (whereN n key+1),[]⟩
theorem put_leaf (key value:Str): ∀ {l:Kvs},Srt l->zHV (qP l) key value=qP (putP key value l)
 | [],_=>by simp[zHV,vG,qP,putP,whereN]
 | (a,b)::l,h=>by
  have ih:=put_leaf key value h.2;have hh:=here_look key h;have hh':=here_look key h.2;simp only[zHV,hh,hh',where_cons h,lookP,putP]at ih⊢;by_cases e:a=key
  ·subst e;simp[yD,qP]
  ·rw[if_neg e,if_neg e]
   cases hl:ltS a key with
   | true=>
    simp only[if_true];have g: ∀(q:Kvs),qP ((a,b)::q)=⟨true,a::(qP q).keys,b::(qP q).vals,[]⟩:=fun q=>rfl
    rw[g (putP key value l),<-ih,g l];split
    ·simp
    ·simp
   | false=>
    have:lookP key l=none:=look_none fun p hp e2=>by have:=h.1 p hp;rw[e2,hl]at this;cases this
    rw[this];simp[qP]
theorem del_leaf (key:Str): ∀ {l:Kvs},Srt l->vG (qP l) key=true->zMl (qP l) key=qP (delP key l)
 | [],_,h=>by simp[vG,qP]at h
 | (a,b)::l,h,hr=>by
  have hh:=here_look key h;have hh':=here_look key h.2;rw[hh]at hr;simp only[zMl,where_cons h,delP];by_cases e:a=key
  ·subst e;simp[yD,qP]
  ·simp only[lookP,if_neg e]at hr;rw[if_neg e];have hl:ltS a key=true:=by
    cases hl:ltS a key with
    | true=>rfl
    | false=>
     have:lookP key l=none:=look_none fun p hp e2=>by have:=h.1 p hp;rw[e2,hl]at this;cases this
     rw[this]at hr;cases hr
   have ih:=del_leaf key h.2 (hh'.trans hr);simp only[hl,if_true];have g: ∀(q:Kvs),qP ((a,b)::q)=⟨true,a::(qP q).keys,b::(qP q).vals,[]⟩:=fun q=>rfl
   rw[g (delP key l),<-ih,g l];simp[zMl]
def getN (n:Node)(key:Str):Option Str:=if n.leaf then lookP key (n.keys.zip n.vals)else none
theorem get_leaf (key:Str)(l:Kvs):getN (qP l) key=lookP key l:=by
 simp only[getN,qP,if_true];congr 1
 induction l with
 | nil=>rfl
 | cons p l ih=>simp[ih]
theorem leaf_shaped {l:Kvs}(h:Srt l)(h1: ∀p∈l,mayK p.1=true/\p.2.length<=200):shaped ltS (qP l)=true:=by
 simp only[shaped,qP,if_true,z8,zF,List.all_eq_true,List.mem_map,forall_exists_index,and_imp,qG,true_and];exact⟨⟨fun x p hp e=>e▸(h1 p hp).1,(J7 l).1 h⟩,fun x p hp e=>e▸(h1 p hp).2⟩
theorem look_zip {key:Str} : ∀ {ks vs:List Str} {i:Nat},(∀j,j<i->ks.getD j []≠key)->i<ks.length->ks.getD i []=key->lookP key (ks.zip vs)=vs[i]?
 | [],_,_,_,h,_=>by simp at h
 | k::ks,[],i,_,_,_=>by simp[lookP]
 | k::ks,v::vs,0,_,_,h=>by simp at h;simp[lookP,h]
 | k::ks,v::vs,i+1,h0,h1,h2=>by
  have h00:k≠key:=by simpa using h0 0 (by omega)
  have ih:=look_zip (key:=key) (ks:=ks) (vs:=vs) (i:=i) (fun j hj=>by simpa using h0 (j+1) (by omega)) (by simpa using h1) (by simpa using h2);simp only[List.zip_cons_cons,lookP,if_neg h00,List.getElem?_cons_succ,ih]
theorem look_zip0 {key:Str} : ∀ {ks vs:List Str},(∀j,j<ks.length->ks.getD j []≠key)->lookP key (ks.zip vs)=none
 | [],_,_=>by simp[lookP]
 | k::ks,[],_=>by simp[lookP]
 | k::ks,v::vs,h0=>by
  have h00:k≠key:=by simpa using h0 0 (by simp)
  have ih:=look_zip0 (key:=key) (ks:=ks) (vs:=vs) (fun j hj=>by simpa using h0 (j+1) (by simp;omega));simp only[List.zip_cons_cons,lookP,if_neg h00,ih]
end Go.Nd
namespace Go.Eng.Sh
open Go.Nd (Ptr yH cutOk cutA fT whereN getN lookP)
theorem zAh {f:Str->Bool}(l:List Str){i:Nat}(h:i<l.length):((l.take (i+1)).filter f).length=((l.take i).filter f).length+if f (l.getD i [])then 1 else 0:=by
 rw[zQ h,List.filter_append,zI,kN h];congr 1
 cases hf:f l[i]<;>simp[hf]
theorem bN (D:Dyn)(n:Nat)(hn:200000000<=n){H:AH}(hk:H.ok){v:AV}{nd:Nd.Node}{key:Str}(h:fS H v nd)(hs:small nd):
  ∃H',f50 D n [v,S key] H=some (.int .i64 (whereN nd key:Nat),H')/\Prs H H':=by
 obtain⟨ks,vs,ps,rfl,h1,h2,h3⟩:=h;obtain⟨la,hla⟩: ∃la,la=nd.leaf:=⟨_,rfl⟩;rw[<-hla];have hkl:=Nd.sumL_ge nd.keys;obtain⟨s1,s2,s3⟩:=hs;obtain⟨H1,A1,b1,p1,g1,m1,n1⟩:=box hk (.cells [.bool la,ks,vs,ps] 93 1 false);have r1:=h1.prs p1;have lp:qW n (zAn D n) [S key, .ptr A1 0, .int .i64 ((0:Nat):Int),ks, .int .i64 (nd.keys.length:Nat), .int .i64 ((0:Nat):Int)] H1=some (.exit 0 [.int .i64 (whereN nd key:Nat)],H1):=by
  refine kX (fun i=>[S key, .ptr A1 0, .int .i64 ((((nd.keys.take i).filter fun k=>ltS k key||(!nd.leaf&&decide (k=key))).length:Nat):Int),ks, .int .i64 (nd.keys.length:Nat), .int .i64 (i:Nat)]) nd.keys.length ?_ ?_ n (by omega)
  ·intro i hi;obtain⟨p,i1,i2⟩:=r1.at hi;rw[<-kN (d:=[])]at i2;have hiI:((i:Nat):Int)< ((nd.keys.length:Nat):Int):=by omega
   rw[zAh nd.keys hi,<-hla];have hle:((nd.keys.take i).filter fun k=>ltS k key||(!la&&decide (k=key))).length<=nd.keys.length:=Nat.le_trans (List.length_filter_le _ _) (by rw[zH];omega);generalize((nd.keys.take i).filter fun k=>ltS k key||(!la&&decide (k=key))).length=c at hle;generalize nd.keys.getD i []=x at i2
   cases hx:ltS x key with
   | true=>simp(disch:=omega) only[zAn,zFB,eZ,hiI,i1,i2,hx,Int.natCast_add]
   | false=>
    cases la with
    | true=>simp(disch:=omega) only[zAn,zFB,eZ,hiI,i1,i2,hx,qL g1,Int.natCast_add,Nat.add_zero]
    | false=>
     by_cases he:x=key
     ·subst he;simp(disch:=omega) only[zAn,zFB,eZ,hiI,i1,i2,hx,qL g1,Int.natCast_add]
     ·simp(disch:=omega) only[zAn,zFB,eZ,hiI,i1,i2,hx,qL g1,he,Int.natCast_add,Nat.add_zero]
  ·intro m;refine qY ?_;rw[q9];simp only[zAn,eZ,qA,whereN]
 refine⟨H1, ?_,p1⟩;simp only[f50,eZ,b1,qL g1,h1.lnSl,lp,zNW]
theorem zIj (D:Dyn)(n:Nat){H:AH}{v:AV}{l:List Str}{key:Str}(h:Strs H v l)(hl:l.length<=1000000000)(hn:l.length<n):
  ∃z:Int,f77 D n [v,S key] H=some (.int .i64 z,H)/\((∃i:Nat,z=i/\i<l.length/\l.getD i []=key/\ ∀j,j<i->l.getD j []≠key)\/(z= -1/\ ∀j,j<l.length->l.getD j []≠key)):=by
 have lp:Fin (qW n (zAk D n) [v,S key, .int .i64 (l.length:Nat), .int .i64 ((0:Nat):Int)] H) fun x H'=>H'=H/\((∃i:Nat,x= .ret (.int .i64 (i:Nat))/\i<l.length/\l.getD i []=key/\ ∀j,j<i->l.getD j []≠key)\/(x= .exit 0 []/\ ∀j,j<l.length->l.getD j []≠key)):=by
  refine Fin.loop (fun k us H'=>H'=H/\ ∃i:Nat,us=[v,S key, .int .i64 (l.length:Nat), .int .i64 (i:Nat)]/\i<=l.length/\k=l.length - i/\ ∀j,j<i->l.getD j []≠key) ?_ n l.length _ H ⟨rfl,0,rfl,by omega,by omega,fun j hj=>by omega⟩ (by omega)
  rintro k us H' ⟨rfl,i,rfl,hi,rfl,hj⟩
  by_cases hlt:i<l.length
  ·obtain⟨p,i1,i2⟩:=h.at hlt;rw[<-kN (d:=[])]at i2;have hiI:((i:Nat):Int)< ((l.length:Nat):Int):=by omega
   by_cases he:l.getD i []=key
   ·rw[he]at i2;have e:zAk D n [v,S key, .int .i64 (l.length:Nat), .int .i64 (i:Nat)] H'=some (.ret (.int .i64 (i:Nat)),H'):=by
     simp(disch:=omega) only[zAk,eZ,hiI,i1,i2]
    rw[e];exact⟨_,_,rfl,rfl, .inl ⟨i,rfl,hlt,he,hj⟩⟩
   ·have he': ¬key=l.getD i []:=fun e=>he e.symm
    have e:zAk D n [v,S key, .int .i64 (l.length:Nat), .int .i64 (i:Nat)] H'=some (.norm [v,S key, .int .i64 (l.length:Nat), .int .i64 ((i+1:Nat):Int)],H'):=by
     simp(disch:=omega) only[zAk,eZ,hiI,i1,i2,he',Int.natCast_add]
    rw[e];refine⟨_,_,rfl,l.length - (i+1),by omega,rfl,i+1,rfl,by omega,rfl,fun j hj'=> ?_⟩;rcases Nat.lt_succ_iff_lt_or_eq.1 hj' with h | rfl
    ·exact hj j h
    ·exact he
  ·have hiI: ¬((i:Nat):Int)< ((l.length:Nat):Int):=by omega
   refine⟨.exit 0 [],H', ?_,rfl, .inr ⟨rfl,fun j hj'=>hj j (by omega)⟩⟩;simp only[zAk,eZ,hiI]
 obtain⟨x,H',e,rfl,hx⟩:=lp;rcases hx with⟨i,rfl,h1,h2,h3⟩ | ⟨rfl,h1⟩
 ·refine⟨i, ?_, .inl ⟨i,rfl,h1,h2,h3⟩⟩;simp only[f77,eZ,h.lnSl,e]
 ·refine⟨-1, ?_, .inr ⟨rfl,h1⟩⟩;simp only[f77,eZ,h.lnSl,e,zNK];rfl
theorem zIp (D:Dyn)(n:Nat)(hn:200000000<=n){H:AH}(hk:H.ok){v:AV}{nd:Nd.Node}{key:Str}(h:fS H v nd)(hs:small nd):
  ∃H',f49 D n [v,S key] H=some (.tuple [S ((getN nd key).getD []), .bool (getN nd key).isSome],H')/\Prs H H':=by
 obtain⟨ks,vs,ps,rfl,h1,h2,h3⟩:=h;obtain⟨la,hla⟩: ∃la,la=nd.leaf:=⟨_,rfl⟩;simp only[getN];rw[<-hla];have hkl:=Nd.sumL_ge nd.keys;have hvl:=Nd.sumL_ge nd.vals;obtain⟨s1,s2,s3⟩:=hs;obtain⟨H1,A1,b1,p1,g1,m1,n1⟩:=box hk (.cells [.bool la,ks,vs,ps] 93 1 false);have hS:(AV.str 0 0)=S []:=rfl;refine⟨H1, ?_,p1⟩
 cases la with
 | false=>simp only[f49,eZ,b1,qL g1,hS,Option.getD_none,Option.isSome_none]
 | true=>
  obtain⟨z,e1,hz⟩:=zIj D n (key:=key) (h1.prs p1) (by omega) (by omega);rcases hz with⟨i,rfl,hi,he,hj⟩ | ⟨rfl,hj⟩
  ·have hlk:=Nd.look_zip (vs:=nd.vals) hj hi he;have c1: ¬((i:Nat):Int)< ((0:Nat):Int):=by omega
   by_cases hv:i<nd.vals.length
   ·obtain⟨p,i1,i2⟩:=(h2.prs p1).at hv;have c2: ¬((nd.vals.length:Nat):Int)<=((i:Nat):Int):=by omega
    rw[zB hv]at hlk;simp only[hlk,if_true];simp(disch:=omega) only[f49,eZ,b1,qL g1,e1,c1,h2.lnSl,c2,i1,i2,Option.getD_some,qJ]
   ·have c2:((nd.vals.length:Nat):Int)<=((i:Nat):Int):=by omega
    rw[List.getElem?_eq_none (by omega)]at hlk;simp only[hlk,if_true];simp(disch:=omega) only[f49,eZ,b1,qL g1,e1,c1,h2.lnSl,c2,hS,Option.getD_none,Option.isSome_none]
  ·have hlk:=Nd.look_zip0 (vs:=nd.vals) hj;have c1:(-1:Int)< ((0:Nat):Int):=by omega
   simp only[hlk,if_true];simp(disch:=omega) only[f49,eZ,b1,qL g1,e1,c1,hS,Option.getD_none,Option.isSome_none]
end Go.Eng.Sh
end
section
namespace Go.Eng
theorem ZE {k e n:Nat}{H:AH}{v:AV}{l:List AV}(h:j7 k e H v n l)(hpos:0<k)(h0:0<n)(κ:IntKind):
  ∃r,j8 k v (some (.int κ (n:Nat))) none none H=some r/\Rw k H r 0 []:=by
 have n1:=yK κ (z:=((n:Nat):Int)) (by omega);simp only[zS]at n1;have hb:Nat.blt 0 k=true:=by rw[zM];exact hpos
 have b1:Nat.ble n n=true:=by rw[zR];exact Nat.le_refl _
 have b2:Nat.blt n n=false:=by rw[Bool.eq_false_iff];intro h;rw[zM]at h;omega
 have b3:Nat.beq n 0=false:=by rw[Bool.eq_false_iff];intro h;have:=Nat.eq_of_beq_eq_true h;omega
 rcases h with⟨h1,⟨rfl,rfl⟩ | ⟨A,rfl,hA,hg⟩⟩ | ⟨h1,A,e',g,rfl,hA,hg,hn0⟩
 ·omega
 ·have hroom:yI l true k 0 1 k=n:=by
   simp only[yI,show((1 % 2).beq 0)=false from rfl,cond_false,Nat.beq_refl,show Nat.beq 0 (1 / 2*k)=true from by simp,Bool.and_self,cond_true,yA,h1,Nat.sub_zero];exact Nat.mul_div_cancel _ hpos
  refine⟨.emptySl, ?_,⟨by simp, .inr (.inl ⟨rfl,rfl⟩)⟩⟩;simp only[j8,yO,n1,hg,hb,cond_true];simp[aO,hroom,b1,b2,b3,show Nat.beq 1 0=false from rfl]
 ·have hroom:yI l g k 0 (2*n) k=n:=by
   simp only[yI,show((2*n) % 2).beq 0=true by rw[Nat.mul_mod_right];rfl,cond_true,Nat.mul_div_cancel_left n (show 0<2 by omega)]
  have b4:Nat.beq (2*n / 2) n=true:=by rw[Nat.mul_div_cancel_left n (show 0<2 by omega),Nat.beq_refl]
  refine⟨.slice A 0 0 (2*(2*n / 2 - n)), ?_,⟨by simp, .inr (.inr ⟨A,0,_,l,e',k,g,rfl,hg,hA,by omega,by simp⟩)⟩⟩;simp only[j8,yO,n1,hg,hb,cond_true];simp[aO,hroom,b1,b4,yE]
end Go.Eng
namespace Go.Eng.Sh
open Go.Nd (Ptr yH)
theorem UR (D:Dyn)(n:Nat){H:AH}(hk:H.ok){v:AV}{l:List Str}(h:j7 1 9 H v l.length (l.map S))(hl:l.length<=1000000000):
  ∃v' H',f73 D n [v] H=some (v',H')/\Prs H H'/\j7 1 9 H' v' l.length (l.map S)/\(∀B,Blk v' B->H.next<=B)/\(0<l.length->Own 1 9 H' v' l.length (l.map S)):=by
 have hr:=h.row;by_cases hv:v= .nilSlice
 ·subst hv;have hl0:l=[]:=by
   rcases h with⟨_,⟨_,h0⟩ | ⟨A,h0,_⟩⟩ | ⟨_,A,_,_,h0,_⟩
   ·exact zG h0
   ·cases h0
   ·cases h0
  subst hl0;refine⟨.nilSlice,H, ?_,Stp.refl hk, .inl (Own.nil ..),fun B hB=>(Blk.nil.1 hB).elim,fun h=>absurd h (by simp)⟩;have heq:vJ .eql (eqS .nilSlice .nilSlice)=some (.bool true):=rfl;simp only[f73,eZ,heq]
 ·have hne:v≠ .emptySl:=by
   rcases h with⟨_,⟨rfl,_⟩ | ⟨A,rfl,_⟩⟩ | ⟨_,A,_,_,rfl,_⟩<;>simp
  by_cases h0:l.length=0
  ·obtain⟨v',H',e,p,g,f⟩:=cD D n hk hr hv hne hl;exact⟨v',H',e,p,g,f,fun h=>absurd h (by omega)⟩
  ·have p1:Prs H (H.push (.cells [] 9 1 false)):=(Stp.refl hk).push _;have g1:(H.push (.cells [] 9 1 false)).h.get H.next=some (.cells [] 9 1 false):=AH.push_get_eq _ _
   have n1:(H.push (.cells [] 9 1 false)).next=H.next+1:=rfl
   generalize hH1:H.push (.cells [] 9 1 false)=H1 at p1 g1 n1;have e2:=BI (k:=1) (e:=9) (bytes:=16) (n:=0) (m:=l.length) (off:=0) (new:=l.map S) p1.ok g1 (by simp) (by omega) (by omega) (by decide);have e3:apP 9 1 16 (.slice H.next 0 0 0) v H1=some (.slice H1.next 0 (0+l.length) 1,H1.push (.cells (([]:List AV).drop 0 |>.take (0*1) |> (· ++l.map S)) 9 1 true)):=by
    simp only[apP,(hr.prs p1).srcOf,kW,cond_true];exact e2
   have hz1:wQ 9 1 0 [.str 0 0] []=some (.cells [] 9 1 false,fun A=> .slice A 0 0 0):=rfl;have heq:vJ .eql (eqS v .nilSlice)=some (.bool false):=by
    rcases h with⟨_,⟨rfl,_⟩ | ⟨A,rfl,_⟩⟩ | ⟨_,A,_,_,rfl,_⟩
    ·exact absurd rfl hv
    ·rfl
    ·rfl
   simp only[List.drop_nil,List.take_nil,List.nil_append,Nat.zero_add]at e3;have hO:Own 1 9 (H1.push (.cells (l.map S) 9 1 true)) (.slice H1.next 0 l.length 1) l.length (l.map S):=⟨by simp, .inr ⟨_,rfl,Nat.lt_succ_self _,AH.push_get_eq _ _⟩⟩
   refine⟨.slice H1.next 0 l.length 1,H1.push (.cells (l.map S) 9 1 true), ?_,p1.push _, .inl hO,fun B hB=>by rw[Blk.slice.1 hB];omega,fun _=>hO⟩
   simp only[f73,eZ,heq,hz1,vW hk,hH1,e3]
theorem U1 (D:Dyn)(n:Nat){H:AH}(hk:H.ok){v:AV}{l:List Str}{i B:Nat}{x:Str}(h:j7 1 9 H v l.length (l.map S))(ho:0<l.length->Own 1 9 H v l.length (l.map S))(hi:i<=l.length)(hl:l.length<=200000000)(hB:H.h.get B=some (.cells [S x] 9 1 false)):
  ∃v' H',m74 D n [v, .int .i64 (i:Nat), .slice B 0 1 2] H=some (v',H')/\Stp (Blk v) H H'/\j7 1 9 H' v' (l.take i++[x]++l.drop i).length ((l.take i++[x]++l.drop i).map S)/\ ∀C,Blk v' C->Blk v C\/H.next<=C:=by
 have hx:Strs H (.slice B 0 1 2) [x]:=Rw.lit (cc:=2) hk hB;have l1:lnSl (.slice B 0 1 2)=some (.int .i64 ((1:Nat):Int)):=rfl;have t10: ¬((1:Nat):Int)=((0:Nat):Int):=by omega
 by_cases hil:i=l.length
 ·subst hil;have hs: ∃r,j8 1 v (some (.int .i64 (l.length:Nat))) none none H=some r:=by
   by_cases h0:0<l.length
   ·obtain⟨r,e,_⟩:=ZE h (by decide) h0 .i64;exact⟨r,e⟩
   ·have hz:l.length=0:=by omega
    rw[hz];rcases h with⟨_,⟨rfl,_⟩ | ⟨A,rfl,_,hg⟩⟩ | ⟨_,A,e',g,rfl,_,hg,_⟩
    ·exact⟨.nilSlice,rfl⟩
    ·rw[hz];have:l=[]:=zG hz;subst this;exact⟨.slice A 0 0 1,by simp[j8,yO,yK,hg,aO,yE,yI,show Nat.blt 0 1=true from rfl,show Nat.ble 0 0=true from rfl,show Nat.beq 1 0=false from rfl,show Nat.beq 0 0=true from rfl,aB,show Nat.beq 1 1=true from rfl,aD,bne]⟩
    ·rw[hz];have:l=[]:=zG hz;subst this;exact⟨.slice A 0 0 0,by simp[j8,yO,yK,hg,aO,yE,yI,show Nat.blt 0 1=true from rfl,show Nat.ble 0 0=true from rfl,show Nat.beq 0 0=true from rfl,aB]⟩
  obtain⟨r,hr⟩:=hs;obtain⟨v',H',e2,w2,s2,f2⟩:=h.app (bytes:=16) hk (by decide) hx.srcOf (by simp) (kW _) (by simp;omega) (by decide);refine⟨v',H', ?_,s2,by simpa using w2,f2⟩;have:f74 D n [v, .int .i64 (l.length:Nat), .slice B 0 1 2] H=some (v',H'):=by
   simp only[f74,eZ,hr,l1,t10,h.row.lnSl,e2]
  show zLj (f74 D n) _ H=_;simp only[zLj,this]
 ·have hlt:i<l.length:=by omega
  have hO:=ho (by omega);obtain⟨_,⟨_,h0⟩ | ⟨A,rfl,hA,hg⟩⟩:=id hO
  ·omega
  ·obtain⟨r,hr,_⟩:=slSl_lo h (by decide) hlt .i64;have hil': ¬((i:Nat):Int)=((l.length:Nat):Int):=by omega
   have hcap:zCV X 90 (.slice A 0 l.length 1)=none:=rfl;have hno:f74 D n [.slice A 0 l.length 1, .int .i64 (i:Nat), .slice B 0 1 2] H=none:=by
    simp(disch:=omega) only[f74,eZ,hr,l1,t10,h.row.lnSl,hil',hcap];rfl
   have b1:Nat.blt i l.length=true:=by rw[zM];exact hlt
   have b2:Nat.ble ((l.length+1)*16) 140737488355328=true:=by rw[zR];omega
   have hpd:(H.put A .dead).ok:=hk.put hA _;refine⟨.slice (H.put A .dead).next 0 (l.length+1) 1,(H.put A .dead).push (.cells ((l.map S).take i++[S x]++(l.map S).drop i) 9 1 true), ?_,((Stp.refl hk).put hA _ (.inr (Blk.slice.2 rfl))).push _, ?_,fun C hC=> .inr (by rw[Blk.slice.1 hC];exact Nat.le_refl _)⟩
   ·show zLj (f74 D n) _ H=_;simp only[zLj,hno];show zMj 9 [.slice A 0 l.length 1, .int .i64 (.ofNat i), .slice B 0 1 2] H=_;simp only[zMj,hg,hB,b1,b2,kW,yA,qG,Nat.beq_refl,show Nat.blt 0 1=true from rfl,show Nat.beq 1 1=true from rfl,show Nat.beq 0 0=true from rfl,show Nat.beq 9 9=true from rfl,Bool.and_self,Bool.not_false,cond_true,vY,takeN,qN,Z4,yY,cK,QM hpd,yE]
   ·have hlen:(l.take i++[x]++l.drop i).length=l.length+1:=by simp;omega
    have hmap:(l.take i++[x]++l.drop i).map S=(l.map S).take i++[S x]++(l.map S).drop i:=by simp
    rw[hlen,hmap];exact .inl ⟨by simp;omega, .inr ⟨_,rfl,Nat.lt_succ_self _,AH.push_get_eq _ _⟩⟩
end Go.Eng.Sh
end
section
namespace Go.Eng
theorem Own.set1 {e:Nat}{H:AH}{v:AV}{l:List Str}(hk:H.ok)(h:Own 1 e H v l.length (l.map S)){i:Nat}(hi:i<l.length)(x:Str):
  ∃p H',(∀κ (z:Int),z=(i:Int)->jL 1 v (.int κ z)=some p)/\stN 1 p (S x) H=some (qM,H')/\Own 1 e H' v (l.set i x).length ((l.set i x).map S)/\Stp (Blk v) H H':=by
 obtain⟨h0,⟨_,h1⟩ | ⟨A,rfl,hA,hg⟩⟩:=h
 ·omega
 ·have hb:Nat.blt i l.length=true:=by rw[zM];exact hi
  refine⟨.ptr A (0+i*1),_,fun κ z hz=> ?_,Q7 hg (by decide) (Z4 x) (by simpa using hi),⟨by simp, .inr ⟨A,by simp,hA,by rw[AH.put_get,if_pos rfl];simp[List.map_set]⟩⟩,(Stp.refl hk).put hA _ (.inr (Blk.slice.2 rfl))⟩;subst hz;simp only[jL,yK κ (show(0:Int)<=(i:Int)by omega),zS,hb,cond_true,yE]
end Go.Eng
namespace Go.Eng.Sh
open Go.Nd (Ptr yH whereN vG zHV)
def zCs (nd:Nd.Node)(key value:Str):Bool:=Nd.shaped ltS nd&&nd.leaf&&Nd.mayK key&&decide (value.length<=200)
theorem zHU (D:Dyn)(n:Nat)(hn:200000000<=n){H:AH}(hk:H.ok){v:AV}{nd:Nd.Node}{key value:Str}(h:y9 H v nd)(hs:small nd):
  ∃u H',f46 D n [v,S key,S value] H=some (.tuple [u, .int .i64 ((if zCs nd key value then 0 else 1:Nat):Int)],H')/\Prs H H'/\wE H.next H' u (if zCs nd key value then zHV nd key value else nd0):=by
 have i0:=h.node;obtain⟨ks,vs,ps,rfl,h1,h2,h3⟩:=h;have hkl:=Nd.sumL_ge nd.keys;have hvl:=Nd.sumL_ge nd.vals;have s0:=hs;obtain⟨s1,s2,s3⟩:=hs;obtain⟨la,hla⟩: ∃la,la=nd.leaf:=⟨_,rfl⟩;obtain⟨po,hpo⟩: ∃po,po=zCs nd key value:=⟨_,rfl⟩;rw[<-hpo,<-hla];rw[<-hla]at i0;simp only[zCs,<-hla]at hpo;obtain⟨H1,A1,b1,p1,g1,m1,n1⟩:=box hk (.cells [.bool la,ks,vs,ps] 93 1 false);obtain⟨H2,A2,b2,p2,g2,m2,n2⟩:=box p1.ok (.cells [.bool false, .nilSlice, .nilSlice, .nilSlice] 93 1 false);have P2:Prs H H2:=p1.trans p2;have g12:=p2.get p1.ok g1;obtain⟨H4,e4,p4⟩:=uW D n P2.ok (i0.prs P2) s0 hn;have P4:=P2.trans p4;have g14:=p4.get P2.ok g12;have g24:=p4.get P2.ok g2;obtain⟨Hr,er,gr,sr,nr⟩:=yF P4.ok g24 (l':=[.bool false, .nilSlice, .nilSlice, .nilSlice]) rfl rfl;have er':stN 4 (.ptr A2 0) (.agg [.bool false, .nilSlice, .nilSlice, .nilSlice]) H4=some (qM,Hr):=er;have Pr:Prs H Hr:=P4.fresh sr (fun B hB=>by omega);have lr:=xY gr rfl
 cases c1:Nd.shaped ltS nd with
 | false=>
  simp only[c1,Bool.false_and,Bool.and_false]at hpo;subst hpo;refine⟨.agg [.bool false, .nilSlice, .nilSlice, .nilSlice],Hr, ?_,Pr,wE.zero _ _⟩;simp only[Bool.false_eq_true,if_false];simp(maxSteps:=999999)(disch:=omega) only[f46,eZ,b1,b2,qQ g12,cR,Option.map_some,e4,c1,fM,er',lr]
 | true=>
 cases la with
 | false=>
  simp only[Bool.false_and,Bool.and_false]at hpo;subst hpo;refine⟨.agg [.bool false, .nilSlice, .nilSlice, .nilSlice],Hr, ?_,Pr,wE.zero _ _⟩;simp only[Bool.false_eq_true,if_false];simp(maxSteps:=999999)(disch:=omega) only[f46,eZ,b1,b2,qQ g12,cR,Option.map_some,e4,c1,qL g14,fM,er',lr]
 | true=>
 cases c2:Nd.mayK key with
 | false=>
  simp only[c2,Bool.false_and,Bool.and_false]at hpo;subst hpo;refine⟨.agg [.bool false, .nilSlice, .nilSlice, .nilSlice],Hr, ?_,Pr,wE.zero _ _⟩;simp only[Bool.false_eq_true,if_false];simp(maxSteps:=999999)(disch:=omega) only[f46,eZ,b1,b2,qQ g12,cR,Option.map_some,e4,c1,qL g14,yV,c2,fM,er',lr]
 | true=>
 by_cases c3:value.length<=200
 case neg=>
  have c3':((200:Nat):Int)< ((value.length:Nat):Int):=by omega
  simp only[c3,decide_false,Bool.and_false]at hpo;subst hpo;refine⟨.agg [.bool false, .nilSlice, .nilSlice, .nilSlice],Hr, ?_,Pr,wE.zero _ _⟩
  ·simp only[Bool.false_eq_true,if_false];simp(maxSteps:=999999)(disch:=omega) only[f46,eZ,b1,b2,qQ g12,cR,Option.map_some,e4,c1,qL g14,yV,c2,c3',fM,er',lr]
 case pos=>
 have c3': ¬((200:Nat):Int)< ((value.length:Nat):Int):=by omega
 simp only[c1,c2,c3,decide_true,Bool.and_self]at hpo;subst hpo;simp only[if_true];have hvk:nd.vals.length=nd.keys.length:=by
  simp only[Nd.shaped,<-hla,if_true,z8,zF]at c1;exact c1.2.1.1
 obtain⟨H5,A3,b5,p5,g5,m5,n5⟩:=box P4.ok (.cells [.bool false, .nilSlice, .nilSlice, .nilSlice] 93 1 false);have P5:=P4.trans p5;have up1 {Hx:AH} (p:Prs H4 Hx):=Prs.get p P4.ok g14;have up2 {Hx:AH} (p:Prs H4 Hx):=Prs.get p P4.ok g24;have q1 {Hx:AH} (p:Prs H Hx):j7 1 9 Hx ks nd.keys.length (nd.keys.map S):=h1.mono p (fun _ _ x=>x);have q2 {Hx:AH} (p:Prs H Hx):j7 1 9 Hx vs nd.vals.length (nd.vals.map S):=h2.mono p (fun _ _ x=>x);obtain⟨w1,H6,e6,p6,o6,f6,t6⟩:=UR D n P5.ok (q1 P5) (by omega);have P6:=P5.trans p6;obtain⟨w2,H7,e7,p7,o7,f7,t7⟩:=UR D n P6.ok (q2 P6) (by omega);have P7:=P6.trans p7;obtain⟨H8,e8,g8,s8,n8⟩:=yF P7.ok (Prs.get (p6.trans p7) P5.ok g5) (l':=[.bool true,w1,w2, .nilSlice]) rfl (by simp only[qN,o6.row.isCell,o7.row.isCell];rfl);have e8':stN 4 (.ptr A3 0) (.agg [.bool true,w1,w2, .nilSlice]) H7=some (qM,H8):=e8;have N6:=p6.next
 have N7:=p7.next
 have p47:Prs H4 H7:=(p5.trans p6).trans p7;have p48:Prs H4 H8:=p47.fresh s8 (fun B hB=>by omega);have P8:=P4.trans p48;have k1:j7 1 9 H8 w1 nd.keys.length (nd.keys.map S):=(o6.mono p7 (fun _ _ x=>x)).mono s8 (fun B hB e=>by have:=f6 B hB;omega);have k2:j7 1 9 H8 w2 nd.vals.length (nd.vals.map S):=o7.mono s8 (fun B hB e=>by have:=f7 B hB;omega);have b1k: ∀B,Blk w1 B->A3<B/\B<H6.next:=fun B hB=>⟨by have:=f6 B hB;omega,o6.lt hB⟩
 have b2k: ∀B,Blk w2 B->H6.next<=B/\B<H8.next:=fun B hB=>⟨f7 B hB,k2.lt hB⟩
 obtain⟨H9,e9,p9⟩:=bN D n hn P8.ok (key:=key) (i0.prs P8) s0;have P9:=P8.trans p9;have p49:Prs H4 H9:=p48.trans p9;have g39:=p9.get P8.ok g8;have hle:=Nd.whereN_le nd key;have hln:=h1.row.lnSl;have N9:=p9.next
 have N5:=p5.next
 have N4:=p4.next
 have fin: ∀ {Hx:AH} {l:List AV},Prs H Hx->Hx.h.get A2=some (.cells [.bool false, .nilSlice, .nilSlice, .nilSlice] 93 1 false)->l.length=4->qN l=true-> ∃Hy,stN 4 (.ptr A2 0) (.agg l) Hx=some (qM,Hy)/\Prs H Hy/\Stp (fun B=>B=A2) Hx Hy/\ldN 4 (.ptr A2 0) Hy=some (.agg l):=fun {Hx l} px hg hl hc=>by
  obtain⟨Hy,e,g,s,_⟩:=yF px.ok hg hl hc;have e':stN 4 (.ptr A2 0) (.agg l) Hx=some (qM,Hy):=e;exact⟨Hy,e',px.fresh s (fun B hB=>by omega),s,xY g hl⟩
 obtain⟨H10,B1,b10,p10,g10,m10,n10⟩:=box P9.ok (.cells [S key] 9 1 false);have Q10:Prs H4 H10:=p49.trans p10;have ow1:0<nd.keys.length->Own 1 9 H10 w1 nd.keys.length (nd.keys.map S):=fun h=>(((t6 h).mono p7 (fun _ _ x=>x)).mono s8 (fun B hB e=>by have:=f6 B hB;omega)).mono (p9.trans p10) (fun _ _ x=>x)
 obtain⟨w1',H11,e11,s11,o11,f11⟩:=U1 D n p10.ok (k1.mono (p9.trans p10) (fun _ _ x=>x)) ow1 hle (by omega) (x:=key) g10;have g3a:H11.h.get A3=some (.cells [.bool true,w1,w2, .nilSlice] 93 1 false):=by rw[s11.keep _ (by have:=p10.next;omega) (fun hB=>by have:=b1k _ hB;omega)];exact p10.get P9.ok g39
 have Q11:Prs H4 H11:=Q10.fresh s11 (fun B hB=>by have:=b1k B hB;omega);obtain⟨H12,e12,g12',s12,n12⟩:=Q6 Q11.ok g3a (o:=1) (x:=w1') o11.row.isCell (by simp);have g12':H12.h.get A3=some (.cells [.bool true,w1',w2, .nilSlice] 93 1 false):=g12';have Q12:Prs H4 H12:=Q11.fresh s12 (fun B hB=>by omega);obtain⟨H13,B2,b13,p13,g13,m13,n13⟩:=box Q12.ok (.cells [S value] 9 1 false);have Q13:Prs H4 H13:=Q12.trans p13;have d12: ∀B,Blk w2 B-> ¬Blk w1 B:=fun B hB hB'=>by have:=b1k B hB';have:=b2k B hB;omega
 have kw2:j7 1 9 H13 w2 nd.vals.length (nd.vals.map S):=(((k2.mono (p9.trans p10) (fun _ _ x=>x)).mono s11 d12).mono s12 (fun B hB e=>by have:=b2k B hB;omega)).mono p13 (fun _ _ x=>x);have ow2:0<nd.vals.length->Own 1 9 H13 w2 nd.vals.length (nd.vals.map S):=fun h=>(((((t7 h).mono s8 (fun B hB e=>by have:=f7 B hB;omega)).mono (p9.trans p10) (fun _ _ x=>x)).mono s11 d12).mono s12 (fun B hB e=>by have:=b2k B hB;omega)).mono p13 (fun _ _ x=>x)
 obtain⟨w2',H14,e14,s14,o14,f14⟩:=U1 D n p13.ok kw2 ow2 (i:=whereN nd key) (by omega) (by omega) (x:=value) g13;have N10:=p10.next
 have N11:=s11.next
 have N12:=s12.next
 have N13:=p13.next
 have g3b:H14.h.get A3=some (.cells [.bool true,w1',w2, .nilSlice] 93 1 false):=by rw[s14.keep _ (by omega) (fun hB=>by have:=b2k _ hB;omega)];exact p13.get Q12.ok g12'
 have Q14:Prs H4 H14:=Q13.fresh s14 (fun B hB=>by have:=b2k B hB;omega);obtain⟨H15,e15,g15,s15,n15⟩:=Q6 Q14.ok g3b (o:=2) (x:=w2') o14.row.isCell (by simp);have g15:H15.h.get A3=some (.cells [.bool true,w1',w2', .nilSlice] 93 1 false):=g15;have Q15:Prs H4 H15:=Q14.fresh s15 (fun B hB=>by omega);have c15:qN [.bool true,w1',w2', .nilSlice]=true:=by simp only[qN,o11.row.isCell,o14.row.isCell];rfl
 obtain⟨Hz,ez,Pz,sz,lz⟩:=fin (l:=[.bool true,w1',w2', .nilSlice]) (P4.trans Q15) (up2 Q15) rfl c15;have bw1: ∀B,Blk w1' B->A3<B/\(B<H6.next\/H10.next<=B):=fun B hB=>by
  rcases f11 B hB with h | h
  ·have:=b1k B h;omega
  ·omega
 have bw2: ∀B,Blk w2' B->A3<B:=fun B hB=>by
  rcases f14 B hB with h | h
  ·have:=b2k B h;omega
  ·omega
 have NN0:=P4.next
 have rz:wE H.next Hz (.agg [.bool true,w1',w2', .nilSlice]) ⟨true,nd.keys.take (whereN nd key)++[key]++nd.keys.drop (whereN nd key),nd.vals.take (whereN nd key)++[value]++nd.vals.drop (whereN nd key),[]⟩:=
  ⟨⟨w1',w2', .nilSlice,rfl,((((o11.mono s12 (fun B hB e=>by have:=bw1 B hB;omega)).mono p13 (fun _ _ x=>x)).mono s14 (fun B hB hB'=>by have:=bw1 B hB;have:=b2k B hB';omega)).mono s15 (fun B hB e=>by have:=bw1 B hB;omega)).mono sz (fun B hB e=>by have:=bw1 B hB;omega),
   (o14.mono s15 (fun B hB e=>by have:=bw2 B hB;omega)).mono sz (fun B hB e=>by have:=bw2 B hB;omega), .inl (Own.nil ..)⟩,fun B hB=>by
     rcases kB.1 hB with h | h | h
     ·have:=bw1 B h;omega
     ·have:=bw2 B h;omega
     ·exact(Blk.nil.1 h).elim⟩
 by_cases hlt:whereN nd key<nd.keys.length
 ·obtain⟨q,j1,j2⟩:=(q1 P9).row |> (fun(r:Strs H9 ks nd.keys)=>r.at hlt);rw[<-kN (d:=[])]at j2;have hltI:((whereN nd key:Nat):Int)< ((nd.keys.length:Nat):Int):=by omega
  by_cases heq:nd.keys.getD (whereN nd key) []=key
  ·have hh:vG nd key=true:=by simp only[vG,heq,decide_true,Bool.and_true,zF];exact hlt
   rw[heq]at j2;have t7':=(t7 (by omega)).mono s8 (fun B hB e=>by have:=f7 B hB;omega);obtain⟨p,H10,i1,i2,i3,i4⟩:=Own.set1 P9.ok (t7'.mono p9 (fun _ _ x=>x)) (i:=whereN nd key) (by omega) value;have P10:Prs H H10:=P9.fresh i4 (fun B hB=>by have:=b2k B hB;have:=P5.next;omega)
   have g3':H10.h.get A3=some (.cells [.bool true,w1,w2, .nilSlice] 93 1 false):=by rw[i4.keep _ (by omega) (fun hB=>by have:=b2k _ hB;omega)];exact g39
   have g2':H10.h.get A2=some (.cells [.bool false, .nilSlice, .nilSlice, .nilSlice] 93 1 false):=by rw[i4.keep _ (by omega) (fun hB=>by have:=b2k _ hB;omega)];exact up2 p49
   obtain⟨Hy,ey,Py,sy,ly⟩:=fin (l:=[.bool true,w1,w2, .nilSlice]) P10 g2' rfl (by simp only[qN,o6.row.isCell,o7.row.isCell];rfl);refine⟨.agg [.bool true,w1,w2, .nilSlice],Hy, ?_,Py, ?_⟩
   ·simp(maxSteps:=999999)(disch:=omega) only[f46,eZ,b1,b2,qQ g12,cR,Option.map_some,e4,c1,qL g14,yV,c2,c3',b5,e6,jA (qL (up1 (p5.trans p6)) 2) (yL h2.row),e7,zGE _ o6.row.isCell o7.row.isCell,e8',qQ (up1 p48),e9,qL (up1 p49),hln,hltI,j1,j2,qL g39,i1,i2,xY g3' rfl,ey,ly]
   ·have:zHV nd key value=⟨true,nd.keys,nd.vals.set (whereN nd key) value,[]⟩:=by simp only[zHV,hh,if_true]
    rw[this];have NN:=P4.next
    refine⟨⟨w1,w2, .nilSlice,rfl, ?_, ?_, .inl (Own.nil ..)⟩,fun B hB=>by
     rcases kB.1 hB with h | h | h
     ·have:=b1k B h;omega
     ·have:=b2k B h;omega
     ·exact(Blk.nil.1 h).elim⟩
    ·exact((k1.mono p9 (fun _ _ x=>x)).mono i4 (fun B hB hB'=>by have:=b1k B hB;have:=b2k B hB';omega)).mono sy (fun B hB e=>by have:=b1k B hB;omega)
    ·exact .inl (i3.mono sy (fun B hB e=>by have:=b2k B hB;omega))
  ·have hh:vG nd key=false:=by simp only[vG,heq,decide_false,Bool.and_false]
   refine⟨.agg [.bool true,w1',w2', .nilSlice],Hz, ?_,Pz, ?_⟩
   ·simp(maxSteps:=999999)(disch:=omega) only[f46,eZ,b1,b2,qQ g12,cR,Option.map_some,e4,c1,qL g14,yV,c2,c3',b5,e6,jA (qL (up1 (p5.trans p6)) 2) (yL h2.row),e7,zGE _ o6.row.isCell o7.row.isCell,e8',qQ (up1 p48),e9,qL (up1 p49),hln,hltI,j1,j2,heq,qL g39,zMh 9 (.str 0 0) (Z4 key),b10,e11,e12,qL g12',zMh 9 (.str 0 0) (Z4 value),b13,e14,e15,xY g15 rfl,ez,lz]
   ·simp only[zHV,hh,Bool.false_eq_true,if_false];exact rz
 ·have hh:vG nd key=false:=by simp only[vG,hlt,decide_false,Bool.false_and]
  have hltI: ¬((whereN nd key:Nat):Int)< ((nd.keys.length:Nat):Int):=by omega
  refine⟨.agg [.bool true,w1',w2', .nilSlice],Hz, ?_,Pz, ?_⟩
  ·simp(maxSteps:=999999)(disch:=omega) only[f46,eZ,b1,b2,qQ g12,cR,Option.map_some,e4,c1,qL g14,yV,c2,c3',b5,e6,jA (qL (up1 (p5.trans p6)) 2) (yL h2.row),e7,zGE _ o6.row.isCell o7.row.isCell,e8',qQ (up1 p48),e9,qL (up1 p49),hln,hltI,qL g39,zMh 9 (.str 0 0) (Z4 key),b10,e11,e12,qL g12',zMh 9 (.str 0 0) (Z4 value),b13,e14,e15,xY g15 rfl,ez,lz]
  ·simp only[zHV,hh,Bool.false_eq_true,if_false];exact rz
open Go.Nd (zMl)
theorem hi1 {H:AH}{v:AV}{l:List Str}(h:j7 1 9 H v l.length (l.map S)){i:Nat}(hi:i<=l.length):
  ∃r,j8 1 v none (some (.int .i64 (i:Nat))) (some (.int .i64 (i:Nat))) H=some r/\Strs H r (l.take i):=by
 obtain⟨r,e1,w,_⟩:=KN h (by decide) hi .i64 .i64;rw[map_take]at w;have hlen:(l.take i).length=i:=by rw[zH];omega
 exact⟨r,e1,by rw[Strs,hlen];exact w⟩
theorem lo1 {H:AH}{v:AV}{l:List Str}(h:j7 1 9 H v l.length (l.map S)){i:Nat}(hi:i<=l.length)(h0:0<l.length):
  ∃r,j8 1 v (some (.int .i64 (i:Nat))) none none H=some r/\Strs H r (l.drop i):=by
 by_cases hlt:i<l.length
 ·obtain⟨r,e1,w,_⟩:=slSl_lo h (by decide) hlt .i64;rw[map_drop]at w;have hlen:(l.drop i).length=l.length - i:=by rw[zN]
  exact⟨r,e1,by rw[Strs,hlen];exact w⟩
 ·obtain rfl:i=l.length:=by omega
  obtain⟨r,e1,w⟩:=ZE h (by decide) h0 .i64;exact⟨r,e1,by rw[List.drop_length];exact w⟩
def zMm (nd:Nd.Node)(key:Str):Nat:=if Nd.shaped ltS nd&&nd.leaf then(if vG nd key then 0 else 5)else 1
theorem zIM (D:Dyn)(n:Nat)(hn:200000000<=n){H:AH}(hk:H.ok){v:AV}{nd:Nd.Node}{key:Str}(h:y9 H v nd)(hs:small nd):
  ∃u H',f61 D n [v,S key] H=some (.tuple [u, .int .i64 ((zMm nd key:Nat):Int)],H')/\Prs H H'/\wE H.next H' u (if zMm nd key=0 then zMl nd key else nd0):=by
 have i0:=h.node;obtain⟨ks,vs,ps,rfl,h1,h2,h3⟩:=h;have hkl:=Nd.sumL_ge nd.keys;have hvl:=Nd.sumL_ge nd.vals;have s0:=hs;obtain⟨s1,s2,s3⟩:=hs;obtain⟨la,hla⟩: ∃la,la=nd.leaf:=⟨_,rfl⟩;obtain⟨po,hpo⟩: ∃po,po=zMm nd key:=⟨_,rfl⟩;rw[<-hpo,<-hla];rw[<-hla]at i0;simp only[zMm,<-hla]at hpo;obtain⟨H1,A1,b1,p1,g1,m1,n1⟩:=box hk (.cells [.bool la,ks,vs,ps] 93 1 false);obtain⟨H2,A2,b2,p2,g2,m2,n2⟩:=box p1.ok (.cells [.bool false, .nilSlice, .nilSlice, .nilSlice] 93 1 false);have P2:Prs H H2:=p1.trans p2;have g12:=p2.get p1.ok g1;obtain⟨H4,e4,p4⟩:=uW D n P2.ok (i0.prs P2) s0 hn;have P4:=P2.trans p4;have g14:=p4.get P2.ok g12;have g24:=p4.get P2.ok g2;have fin: ∀ {Hx:AH} {l:List AV},Prs H4 Hx->l.length=4->qN l=true-> ∃Hy,stN 4 (.ptr A2 0) (.agg l) Hx=some (qM,Hy)/\Prs H Hy/\Stp (fun B=>B=A2) Hx Hy/\ldN 4 (.ptr A2 0) Hy=some (.agg l):=fun {Hx l} px hl hc=>by
  obtain⟨Hy,e,g,s,_⟩:=yF px.ok (Prs.get px P4.ok g24) hl hc;have e':stN 4 (.ptr A2 0) (.agg l) Hx=some (qM,Hy):=e;exact⟨Hy,e',(P4.trans px).fresh s (fun B hB=>by omega),s,xY g hl⟩
 obtain⟨Hr,er,Pr,sr,lr⟩:=fin (Prs.refl P4.ok) (l:=[.bool false, .nilSlice, .nilSlice, .nilSlice]) rfl rfl
 cases c1:Nd.shaped ltS nd with
 | false=>
  simp only[c1,Bool.false_and,Bool.false_eq_true,if_false]at hpo;subst hpo;refine⟨.agg [.bool false, .nilSlice, .nilSlice, .nilSlice],Hr, ?_,Pr,wE.zero _ _⟩;simp(maxSteps:=999999)(disch:=omega) only[f61,eZ,b1,b2,qQ g12,cR,Option.map_some,e4,c1,fM,er,lr]
 | true=>
 cases la with
 | false=>
  simp only[Bool.and_false,Bool.false_eq_true,if_false]at hpo;subst hpo;refine⟨.agg [.bool false, .nilSlice, .nilSlice, .nilSlice],Hr, ?_,Pr,wE.zero _ _⟩;simp(maxSteps:=999999)(disch:=omega) only[f61,eZ,b1,b2,qQ g12,cR,Option.map_some,e4,c1,qL g14,fM,er,lr]
 | true=>
 have hvk:nd.vals.length=nd.keys.length:=by
  simp only[Nd.shaped,<-hla,if_true,z8,zF]at c1;exact c1.2.1.1
 simp only[c1,Bool.and_self,if_true]at hpo;obtain⟨H5,e5,p5⟩:=bN D n hn P4.ok (key:=key) (i0.prs P4) s0;have P5:=P4.trans p5;have g15:=p5.get P4.ok g14;have hle:=Nd.whereN_le nd key;have hln:=h1.row.lnSl;obtain⟨Hs,es,Ps,ss,ls⟩:=fin p5 (l:=[.bool false, .nilSlice, .nilSlice, .nilSlice]) rfl rfl;have q1 {Hx:AH} (p:Prs H Hx):j7 1 9 Hx ks nd.keys.length (nd.keys.map S):=h1.mono p (fun _ _ x=>x);have q2 {Hx:AH} (p:Prs H Hx):j7 1 9 Hx vs nd.vals.length (nd.vals.map S):=h2.mono p (fun _ _ x=>x);by_cases hlt:whereN nd key<nd.keys.length
 case neg=>
  have hh:vG nd key=false:=by simp only[vG,hlt,decide_false,Bool.false_and]
  have hltI:((nd.keys.length:Nat):Int)<=((whereN nd key:Nat):Int):=by omega
  simp only[hh,Bool.false_eq_true,if_false]at hpo;subst hpo;refine⟨.agg [.bool false, .nilSlice, .nilSlice, .nilSlice],Hs, ?_,Ps,wE.zero _ _⟩;simp(maxSteps:=999999)(disch:=omega) only[f61,eZ,b1,b2,qQ g12,cR,Option.map_some,e4,c1,qL g14,qQ g14,e5,qL g15,hln,hltI,fM,es,ls]
 case pos=>
 obtain⟨q,j1,j2⟩:=(q1 P5).row |> (fun(r:Strs H5 ks nd.keys)=>r.at hlt);rw[<-kN (d:=[])]at j2;have hltI: ¬((nd.keys.length:Nat):Int)<=((whereN nd key:Nat):Int):=by omega
 by_cases heq:nd.keys.getD (whereN nd key) []=key
 case neg=>
  have hh:vG nd key=false:=by simp only[vG,heq,decide_false,Bool.and_false]
  simp only[hh,Bool.false_eq_true,if_false]at hpo;subst hpo;refine⟨.agg [.bool false, .nilSlice, .nilSlice, .nilSlice],Hs, ?_,Ps,wE.zero _ _⟩;simp(maxSteps:=999999)(disch:=omega) only[f61,eZ,b1,b2,qQ g12,cR,Option.map_some,e4,c1,qL g14,qQ g14,e5,qL g15,hln,hltI,j1,j2,ne_eq,heq,not_false_eq_true,fM,es,ls]
 case pos=>
 have hh:vG nd key=true:=by simp only[vG,heq,decide_true,Bool.and_true,zF];exact hlt
 simp only[hh,if_true]at hpo;subst hpo;generalize hw:whereN nd key=i at*
 obtain⟨r1,c1',x1⟩:=hi1 (q1 P5) (i:=i) (by omega);obtain⟨r2,c2',x2⟩:=lo1 (q1 P5) (i:=i+1) (by omega) (by omega);obtain⟨r3,c3',x3⟩:=hi1 (q2 P5) (i:=i) (by omega);obtain⟨r4,c4',x4⟩:=lo1 (q2 P5) (i:=i+1) (by omega) (by omega);obtain⟨H6,A6,b6,p6,g6,m6,n6⟩:=box P5.ok (.cells [r1,r2] 90 1 false);have P6:=P5.trans p6;obtain⟨H7,A7,b7,p7,g7,m7,n7⟩:=box P6.ok (.cells [r3,r4] 90 1 false);have P7:=P6.trans p7;have p57:Prs H5 H7:=p6.trans p7;obtain⟨w8,H8,e8,p8,o8,f8⟩:=zIR D n (cc:=4) P7.ok (p7.get P6.ok g6) (x1.prs p57) (x2.prs p57) (by simp only[zH,zN];omega) (by omega);have P8:=P7.trans p8;have p58:=p57.trans p8;obtain⟨w9,H9,e9,p9,o9,f9⟩:=zIR D n (cc:=4) P8.ok (p8.get P7.ok g7) (x3.prs p58) (x4.prs p58) (by simp only[zH,zN];omega) (by omega);have p59:=p58.trans p9;obtain⟨Hy,ey,Py,sy,ly⟩:=fin (p5.trans p59) (l:=[.bool true,w8,w9, .nilSlice]) rfl (by simp only[qN,o8.row.isCell,o9.row.isCell];rfl);have N7:=p57.next;have N5:=p5.next;have N4:=p4.next;have N8:=p8.next
 simp only[Int.natCast_add]at c2' c4';have up {Hx:AH} (p:Prs H5 Hx):=Prs.get p P5.ok g15;refine⟨.agg [.bool true,w8,w9, .nilSlice],Hy, ?_,Py, ?_⟩
 ·simp(maxSteps:=999999)(disch:=omega) only[f61,eZ,b1,b2,qQ g12,cR,Option.map_some,e4,c1,qL g14,qQ g14,e5,qL g15,hln,hltI,j1,j2,ne_eq,heq,not_true_eq_false,c1',c2',zMH 90 .nilSlice x1.isCell x2.isCell rfl,b6,qL (up p6),vO (q2 P5) (q2 P6) (by decide),c3',c4',zMH 90 .nilSlice x3.isCell x4.isCell rfl,b7,e8,
   jA (qL (up p58) 2) (yL h2.row),vO (q2 P5) (q2 P8) (by decide),jA rfl (yL x3),jA rfl (yL x4),e9,zGE _ o8.row.isCell o9.row.isCell,ey,ly]
 ·simp only[if_true,zMl,hw];have NN:=P7.next
  exact⟨⟨w8,w9, .nilSlice,rfl, .inl ((o8.mono p9 (fun _ _ x=>x)).mono sy (fun B hB e=>by have:=f8 B hB;omega)), .inl (o9.mono sy (fun B hB e=>by have:=f9 B hB;omega)), .inl (Own.nil ..)⟩,fun B hB=>by
   rcases kB.1 hB with h | h | h
   ·have:=f8 B h;omega
   ·have:=f9 B h;omega
   ·exact(Blk.nil.1 h).elim⟩
end Go.Eng.Sh
end
section
namespace Go.Bt
open Go.Nd (Str Kvs lookP putP delP Srt qP mayK rising yH)
open Go.Eng (ltS yD yP bC vT uG)
abbrev Bd:=Option Str
def zEH:Bd->Str->Prop
 | none,_=>True
 | some a,k=>a=k\/ltS a k=true
def zAa:Bd->Str->Prop
 | none,_=>True
 | some a,k=>ltS a k=true
def hiB:Bd->Str->Prop
 | none,_=>True
 | some b,k=>ltS k b=true
theorem zAa.low {b:Bd}{k:Str}(h:zAa b k):zEH b k:=by
 cases b with
 | none=>trivial
 | some a=>exact .inr h
theorem ZH {a b c:Str}(h:a=b\/ltS a b=true)(k:ltS b c=true):ltS a c=true:=by
 rcases h with rfl | h
 ·exact k
 ·exact yP h k
theorem xQ {a b c:Str}(h:ltS a b=true)(k:b=c\/ltS b c=true):ltS a c=true:=by
 rcases k with rfl | k
 ·exact h
 ·exact yP h k
theorem le_trans {a b c:Str}(h:a=b\/ltS a b=true)(k:b=c\/ltS b c=true):a=c\/ltS a c=true:=by
 rcases k with rfl | k
 ·exact h
 ·exact .inr (ZH h k)
theorem not_lt {a b:Str}(h: ¬ltS a b=true):b=a\/ltS b a=true:=by
 cases k:ltS b a with
 | true=>exact .inr rfl
 | false=>exact .inl (bC k (by simpa using h))
theorem zL5 {b:Bd}{k x:Str}(h:zEH b k)(hk:ltS k x=true):zAa b x:=by
 cases b with
 | none=>trivial
 | some a=>exact ZH h hk
theorem QS {b:Bd}{k x:Str}(h:zAa b k)(hk:k=x\/ltS k x=true):zAa b x:=by
 cases b with
 | none=>trivial
 | some a=>exact xQ h hk
theorem zBq {b:Bd}{k x:Str}(h:hiB b k)(hk:x=k\/ltS x k=true):hiB b x:=by
 cases b with
 | none=>trivial
 | some a=>exact ZH hk h
def Tr:Nat->Type
 | 0=>Kvs
 | h+1=>List Str×List (Tr h)
def con:(h:Nat)->Tr h->Kvs
 | 0,l=>l
 | h+1,t=>t.2.flatMap (con h)
def KB {α:Type}(W:Bd->Bd->α->Prop):Bd->List Str->List α->Bd->Prop
 | lo,[],[t],hi=>W lo hi t
 | lo,k::ks,t::ts,hi=>W lo (some k) t/\KB W (some k) ks ts hi
 | _,_,_,_=>False
def YP (lo:Bd)(ks:List Str):Nat->Bd
 | 0=>lo
 | i+1=>ks[i]?
def cL (ks:List Str)(hi:Bd)(i:Nat):Bd:=match ks[i]? with
 | some k=>some k
 | none=>hi
theorem QT (lo:Bd)(k:Str)(ks:List Str)(i:Nat):YP lo (k::ks) (i+1)=YP (some k) ks i:=by cases i<;>rfl
theorem QY (hi:Bd)(k:Str)(ks:List Str)(i:Nat):cL (k::ks) hi (i+1)=cL ks hi i:=rfl
theorem KB.len {α:Type}{W:Bd->Bd->α->Prop} : ∀ {ks:List Str} {ts:List α} {lo hi:Bd},KB W lo ks ts hi->ts.length=ks.length+1
 | [],[],_,_,h=>h.elim
 | [],[_],_,_,_=>rfl
 | [],_::_::_,_,_,h=>h.elim
 | _::_,[],_,_,h=>h.elim
 | _::ks,_::ts,_,_,h=>by simp[KB.len h.2]
theorem KB.at {α:Type}{W:Bd->Bd->α->Prop} : ∀ {ks:List Str} {ts:List α} {lo hi:Bd} {i:Nat} {t:α},KB W lo ks ts hi->ts[i]? =some t->W (YP lo ks i) (cL ks hi i) t
 | [],[],_,_,_,_,h,_=>h.elim
 | [],[a],_,_,0,t,h,ht=>by simp at ht;subst ht;exact h
 | [],[a],_,_,i+1,t,h,ht=>by simp at ht
 | [],_::_::_,_,_,_,_,h,_=>h.elim
 | _::_,[],_,_,_,_,h,_=>h.elim
 | k::ks,a::ts,_,_,0,t,h,ht=>by simp at ht;subst ht;exact h.1
 | k::ks,a::ts,_,_,i+1,t,h,ht=>by
  simp only[List.getElem?_cons_succ]at ht;rw[QT,QY];exact KB.at h.2 ht
theorem KB.app {α:Type}{W:Bd->Bd->α->Prop}{k:Str}{ks2:List Str}{ts2:List α}{hi:Bd}(h2:KB W (some k) ks2 ts2 hi): ∀ {ks:List Str} {ts:List α} {lo:Bd},KB W lo ks ts (some k)->KB W lo (ks++(k::ks2)) (ts++ts2) hi
 | [],[],_,h=>h.elim
 | [],[_],_,h=>⟨h,h2⟩
 | [],_::_::_,_,h=>h.elim
 | _::_,[],_,h=>h.elim
 | _::ks,_::ts,_,h=>⟨h.1,KB.app h2 h.2⟩
theorem KB.drop {α:Type}{W:Bd->Bd->α->Prop} : ∀ {ks:List Str} {ts:List α} {lo hi:Bd} {m:Nat} {k:Str},KB W lo ks ts hi->ks[m]? =some k->KB W (some k) (ks.drop (m+1)) (ts.drop (m+1)) hi
 | [],_,_,_,_,_,_,hk=>by simp at hk
 | _::_,[],_,_,_,_,h,_=>h.elim
 | a::ks,t::ts,_,_,0,k,h,hk=>by simp at hk;subst hk;exact h.2
 | a::ks,t::ts,_,_,m+1,k,h,hk=>by
  simp only[List.getElem?_cons_succ]at hk;have:=KB.drop (m:=m) h.2 hk;exact this
theorem KB.take {α:Type}{W:Bd->Bd->α->Prop} : ∀ {ks:List Str} {ts:List α} {lo hi:Bd} {m:Nat} {k:Str},KB W lo ks ts hi->ks[m]? =some k->KB W lo (ks.take m) (ts.take (m+1)) (some k)
 | [],_,_,_,_,_,_,hk=>by simp at hk
 | _::_,[],_,_,_,_,h,_=>h.elim
 | a::ks,t::ts,_,_,0,k,h,hk=>by simp at hk;subst hk;exact h.1
 | a::ks,t::ts,_,_,m+1,k,h,hk=>by
  simp only[List.getElem?_cons_succ]at hk;exact⟨h.1,KB.take h.2 hk⟩
theorem KB.head {α:Type}{W:Bd->Bd->α->Prop}{ks:List Str}{ts:List α}{lo0 hi:Bd}{m:Nat}(h:KB W lo0 ks ts hi)(hm:m<ts.length): ∀ {ss:List Str} {ps:List α} {lo:Bd},KB W lo ss ps (cL ks hi m)->KB W lo (ss++ks.drop m) (ps++ts.drop (m+1)) hi
 | [],[],_,h=>h.elim
 | [],[p],lo,hp=>by
  have hl:=h.len;simp only[cL]at hp
  cases hk:ks[m]? with
  | none=>
   rw[hk]at hp;have:ks.length<=m:=by simpa using hk
   rw[zO this,zO (by omega)];exact hp
  | some k=>
   rw[hk]at hp;obtain⟨hlt,rfl⟩:=List.getElem?_eq_some_iff.1 hk;rw[zL hlt];exact⟨hp,h.drop hk⟩
 | [],_::_::_,_,h=>h.elim
 | _::_,[],_,h=>h.elim
 | _::ss,_::ps,_,hp=>⟨hp.1,KB.head h hm hp.2⟩
theorem KB.splice {α:Type}{W:Bd->Bd->α->Prop}{ss:List Str}{ps:List α} : ∀ {ks:List Str} {ts:List α} {lo hi:Bd} {i m:Nat},KB W lo ks ts hi->i+m<ts.length->KB W (YP lo ks i) ss ps (cL ks hi (i+m))->KB W lo (ks.take i++ss++ks.drop (i+m)) (ts.take i++ps++ts.drop (i+m+1)) hi
 | ks,ts,lo,hi,0,m,h,hm,hp=>by
  simp only[Nat.zero_add,List.take_zero,List.nil_append]at hm hp⊢;exact KB.head h hm (lo:=lo) hp
 | [],ts,_,_,i+1,m,h,hm,_=>by have:=h.len;simp only[zX]at this;omega
 | _::_,[],_,_,_+1,_,h,_,_=>h.elim
 | k::ks,t::ts,lo,hi,i+1,m,h,hm,hp=>by
  have e:i+1+m=i+m+1:=by omega
  rw[e,QT,QY]at hp;rw[e];simp only[zJ]at hm;have:=KB.splice (i:=i) (m:=m) h.2 (by omega) hp;simp only[List.take_succ_cons,List.drop_succ_cons,List.cons_append];exact⟨h.1,this⟩
def Lf (lo hi:Bd)(l:Kvs):Prop:=Srt l/\ ∀p∈l,zEH lo p.1/\hiB hi p.1/\mayK p.1=true/\p.2.length<=200
def jC (l:Kvs):Nat:=Nd.size (qP l)
def jH (ks:List Str)(n:Nat):Nat:=2+16*n+yH ks
def Inn {α:Type}(W:Bd->Bd->α->Prop)(lo hi:Bd)(t:List Str×List α):Prop:=(∀k∈t.1,mayK k=true/\zAa lo k/\hiB hi k)/\rising ltS t.1=true/\KB W lo t.1 t.2 hi
def j9:(h:Nat)->Tr h->Nat
 | 0,l=>jC l
 | _+1,t=>jH t.1 t.2.length
def WF:(h:Nat)->Bd->Bd->Tr h->Prop
 | 0,lo,hi,l=>Lf lo hi l/\l≠[]/\jC l<=500
 | h+1,lo,hi,t=>Inn (WF h) lo hi t/\t.1≠[]/\160<=jH t.1 t.2.length/\jH t.1 t.2.length<=500
def WR:(h:Nat)->Tr h->Prop
 | 0,l=>Lf none none l/\l≠[]/\jC l<=500
 | h+1,t=>Inn (WF h) none none t/\t.1≠[]/\jH t.1 t.2.length<=500
def WX:(h:Nat)->Bd->Bd->Tr h->Prop
 | 0,lo,hi,l=>Lf lo hi l/\jC l<=785
 | h+1,lo,hi,t=>Inn (WF h) lo hi t/\jH t.1 t.2.length<=785
theorem JW {h:Nat}(ih: ∀ {lo hi:Bd} {t:Tr h},WF h lo hi t-> ∀p∈con h t,zEH lo p.1/\hiB hi p.1): ∀ {ks:List Str} {ts:List (Tr h)} {lo hi:Bd},KB (WF h) lo ks ts hi->rising ltS ks=true->(∀k∈ks,zAa lo k/\hiB hi k)-> ∀p∈ts.flatMap (con h),zEH lo p.1/\hiB hi p.1
 | [],[],_,_,h,_,_=>h.elim
 | [],[t],lo,hi,hk,_,_=>fun p hp=>by
  simp only[zP,List.flatMap_nil,List.append_nil]at hp;exact ih hk p hp
 | [],_::_::_,_,_,h,_,_=>h.elim
 | _::_,[],_,_,h,_,_=>h.elim
 | k::ks,t::ts,lo,hi,hk,hr,hb=>fun p hp=>by
  have hkb:=hb k (zC ..);rw[Nd.rising_cons]at hr;simp only[zP,qD]at hp;rcases hp with hp | hp
  ·have:=ih hk.1 p hp;exact⟨this.1,zBq hkb.2 (.inr this.2)⟩
  ·have:=JW ih hk.2 hr.2 (fun x hx=>⟨hr.1 x hx,(hb x (zA _ hx)).2⟩) p hp;exact⟨(QS hkb.1 this.1).low,this.2⟩
theorem JX: ∀(h:Nat) {lo hi:Bd} {t:Tr h},WF h lo hi t-> ∀p∈con h t,zEH lo p.1/\hiB hi p.1
 | 0,lo,hi,l,hw,p,hp=>⟨(hw.1.2 p hp).1,(hw.1.2 p hp).2.1⟩
 | h+1,lo,hi,t,hw,p,hp=>JW (JX h) hw.1.2.2 hw.1.2.1 (fun k hk=>(hw.1.1 k hk).2) p hp
theorem zDL {a b:Kvs}(ha:Srt a)(hb:Srt b)(hab: ∀p∈a,∀q∈b,ltS p.1 q.1=true):Srt (a++b):=by
 induction a with
 | nil=>exact hb
 | cons p a ih=>
  obtain⟨k,v⟩:=p;refine⟨fun q hq=> ?_,ih ha.2 fun p hp=>hab p (zA _ hp)⟩;rcases List.mem_append.1 hq with hq | hq
  ·exact ha.1 q hq
  ·exact hab _ (zC ..) q hq
theorem zDK {h:Nat}(ih: ∀ {lo hi:Bd} {t:Tr h},WF h lo hi t->Srt (con h t)): ∀ {ks:List Str} {ts:List (Tr h)} {lo hi:Bd},KB (WF h) lo ks ts hi->rising ltS ks=true->(∀k∈ks,zAa lo k/\hiB hi k)->Srt (ts.flatMap (con h))
 | [],[],_,_,h,_,_=>h.elim
 | [],[t],lo,hi,hk,_,_=>by
  simp only[zP,List.flatMap_nil,List.append_nil];exact ih hk
 | [],_::_::_,_,_,h,_,_=>h.elim
 | _::_,[],_,_,h,_,_=>h.elim
 | k::ks,t::ts,lo,hi,hk,hr,hb=>by
  rw[Nd.rising_cons]at hr;have hbs: ∀x∈ks,zAa (some k) x/\hiB hi x:=fun x hx=>⟨hr.1 x hx,(hb x (zA _ hx)).2⟩
  simp only[zP];refine zDL (ih hk.1) (zDK ih hk.2 hr.2 hbs) fun p hp q hq=> ?_
  exact xQ (JX h hk.1 p hp).2 (JW (JX h) hk.2 hr.2 hbs q hq).1
theorem zGs: ∀(h:Nat) {lo hi:Bd} {t:Tr h},WF h lo hi t->Srt (con h t)
 | 0,_,_,_,hw=>hw.1.1
 | h+1,_,_,_,hw=>zDK (zGs h) hw.1.2.2 hw.1.2.1 (fun k hk=>(hw.1.1 k hk).2)
theorem zLk {h:Nat}{lo hi:Bd}{t:List Str×List (Tr h)}(hw:Inn (WF h) lo hi t):Srt (t.2.flatMap (con h)):=
 zDK (zGs h) hw.2.2 hw.2.1 (fun k hk=>(hw.1 k hk).2)
theorem zMq {h:Nat}{t:Tr h}(hw:WR h t):Srt (con h t):=by
 cases h with
 | zero=>exact hw.1.1
 | succ h=>exact zLk hw.1
theorem zKT {k v:Str}{A C B:Kvs}(hA: ∀p∈A,ltS p.1 k=true)(hB: ∀p∈B,ltS k p.1=true):putP k v (A++C++B)=A++putP k v C++B:=by
 induction A with
 | nil=>
  simp only[List.nil_append]
  induction C with
  | nil=>
   cases B with
   | nil=>rfl
   | cons b B=>
    obtain⟨b,w⟩:=b;have h:=hB (b,w) (zC ..);simp only[List.nil_append,putP,List.cons_append];rw[if_neg (fun e=>uG h e.symm),if_neg (by rw[vT h];simp)]
  | cons c C ih=>
   obtain⟨c,w⟩:=c;simp only[List.cons_append,putP];split
   ·rfl
   ·split
    ·rw[ih];rfl
    ·rfl
 | cons a A ih=>
  obtain⟨a,w⟩:=a;have h:=hA (a,w) (zC ..);simp only[List.cons_append,putP];rw[if_neg (uG h),if_pos h,ih (fun p hp=>hA p (zA _ hp))]
theorem zBk {k:Str}{A B:Kvs} :lookP k (A++B)=match lookP k A with | some v=>some v | none=>lookP k B:=by
 induction A with
 | nil=>rfl
 | cons a A ih=>
  obtain⟨a,w⟩:=a;simp only[List.cons_append,lookP];split
  ·rfl
  ·exact ih
theorem zBi {k:Str}{A C B:Kvs}(hA: ∀p∈A,ltS p.1 k=true)(hB: ∀p∈B,ltS k p.1=true):lookP k (A++C++B)=lookP k C:=by
 rw[zBk,zBk,Nd.look_none (l:=A) (fun p hp=>uG (hA p hp)),Nd.look_none (l:=B) (fun p hp e=>uG (hB p hp) e.symm)]
 cases lookP k C<;>rfl
theorem zIL {k:Str}{l:Kvs}(h: ∀p∈l,p.1≠k):delP k l=l:=by
 induction l with
 | nil=>rfl
 | cons a l ih=>
  obtain⟨a,w⟩:=a;rw[delP,if_neg (h (a,w) (zC ..)),ih fun p hp=>h p (zA _ hp)]
theorem zLR {k:Str}{A C B:Kvs}(hA: ∀p∈A,ltS p.1 k=true)(hB: ∀p∈B,ltS k p.1=true):delP k (A++C++B)=A++delP k C++B:=by
 induction A with
 | nil=>
  simp only[List.nil_append]
  induction C with
  | nil=>exact zIL fun p hp e=>uG (hB p hp) e.symm
  | cons c C ih=>
   obtain⟨c,w⟩:=c;simp only[List.cons_append,delP];split
   ·rfl
   ·rw[ih];rfl
 | cons a A ih=>
  obtain⟨a,w⟩:=a;have h:=hA (a,w) (zC ..);simp only[List.cons_append,delP];rw[if_neg (uG h),ih (fun p hp=>hA p (zA _ hp))]
def qZ (ks:List Str)(key:Str):Nat:=(ks.filter fun k=>ltS k key||decide (k=key)).length
theorem xN (ks:List Str)(key:Str):qZ ks key<=ks.length:=List.length_filter_le _ _
theorem ZW {a key:Str}{ks:List Str}(h:rising ltS (a::ks)=true):qZ (a::ks) key=if ltS key a=true then 0 else qZ ks key+1:=by
 rw[Nd.rising_cons]at h;by_cases hk:ltS key a=true
 ·rw[if_pos hk,qZ,List.length_eq_zero_iff,List.filter_eq_nil_iff];intro x hx hlt;have hkx:ltS key x=true:=by
   rcases List.mem_cons.1 hx with rfl | hx
   ·exact hk
   ·exact yP hk (h.1 x hx)
  simp only[Bool.or_eq_true,zF]at hlt;rcases hlt with hlt | rfl
  ·rw[vT hlt]at hkx;cases hkx
  ·rw[yD]at hkx;cases hkx
 ·rw[if_neg hk,qZ,List.filter_cons];have:(ltS a key||decide (a=key))=true:=by
   simp only[Bool.or_eq_true,zF];rcases not_lt hk with e | e
   ·exact .inr e
   ·exact .inl e
  rw[this];rfl
theorem KI {key:Str} : ∀ {ks:List Str} {lo:Bd},rising ltS ks=true->zEH lo key->zEH (YP lo ks (qZ ks key)) key
 | [],_,_,h=>h
 | a::ks,lo,hr,h=>by
  rw[ZW hr];by_cases hk:ltS key a=true
  ·rw[if_pos hk];exact h
  ·rw[if_neg hk,QT];rw[Nd.rising_cons]at hr;exact KI hr.2 (not_lt hk)
theorem KJ {key:Str} : ∀ {ks:List Str} {hi:Bd},rising ltS ks=true->hiB hi key->hiB (cL ks hi (qZ ks key)) key
 | [],_,_,h=>h
 | a::ks,hi,hr,h=>by
  rw[ZW hr];by_cases hk:ltS key a=true
  ·rw[if_pos hk];exact hk
  ·rw[if_neg hk,QY];rw[Nd.rising_cons]at hr;exact KJ hr.2 h
theorem gY {h:Nat}{lo hi:Bd}{key:Str}{ks:List Str}{ts:List (Tr h)}(hw:Inn (WF h) lo hi (ks,ts)):
  (∀p∈(ts.take (qZ ks key)).flatMap (con h),ltS p.1 key=true)/\ ∀p∈(ts.drop (qZ ks key+1)).flatMap (con h),ltS key p.1=true:=by
 obtain⟨h1,h2,h3⟩:=hw;simp only at h1 h2 h3;have hle:=xN ks key;have hlen:=h3.len;constructor
 ·have hl:=KI (lo:=none) h2 (key:=key) trivial
  cases hw:qZ ks key with
  | zero=>intro p hp;simp at hp
  | succ w=>
   rw[hw]at hl hle;have hlt:w<ks.length:=by omega
   simp only[YP,zB hlt]at hl;have hk:=h3.take (zB hlt);have hr:rising ltS (ks.take w)=true:=Nd.rising_take h2 w;intro p hp;have hm: ∀x∈ks.take w,ltS x ks[w]=true:=fun x hx=>by
    obtain⟨j,hj,rfl⟩:=List.mem_iff_getElem.1 hx;simp only[zH]at hj;rw[List.getElem_take];have hd:=Nd.rising_drop h2 j;rw[zL (by omega),Nd.rising_cons]at hd;refine hd.1 _ ?_;rw[List.mem_iff_getElem];exact⟨w - (j+1),by simp;omega,by rw[List.getElem_drop];congr 1;omega⟩
   have:=JW (JX h) hk hr (fun x hx=>⟨(h1 x (List.mem_of_mem_take hx)).2.1,hm x hx⟩) p hp;exact xQ this.2 hl
 ·have hh:=KJ (hi:=none) h2 (key:=key) trivial;intro p hp
  cases hk:ks[qZ ks key]? with
  | none=>
   have:ks.length<=qZ ks key:=by simpa using hk
   rw[zO (by omega)]at hp;simp at hp
  | some k=>
   simp only[cL,hk]at hh;obtain⟨hlt,rfl⟩:=List.getElem?_eq_some_iff.1 hk;have hkb:=h3.drop hk;have hd:=Nd.rising_drop h2 (qZ ks key);rw[zL hlt,Nd.rising_cons]at hd;have:=JW (JX h) hkb hd.2 (fun x hx=>⟨hd.1 x hx,(h1 x (List.mem_of_mem_drop hx)).2.2⟩) p hp;exact xQ hh this.1
theorem zAV {α:Type}{ts:List α}{i:Nat}{t:α}(h:ts[i]? =some t):ts=ts.take i++[t]++ts.drop (i+1):=by
 obtain⟨hi,rfl⟩:=List.getElem?_eq_some_iff.1 h;rw[List.append_assoc,List.singleton_append,<-zL hi,List.take_append_drop]
theorem xH {a b:List Str} :rising ltS (a++b)=true↔rising ltS a=true/\rising ltS b=true/\ ∀x∈a,∀y∈b,ltS x y=true:=by
 induction a with
 | nil=>simp[rising]
 | cons c a ih=>
  rw[List.cons_append,Nd.rising_cons,Nd.rising_cons,ih];simp only[qD,List.mem_cons];constructor
  ·rintro⟨h1,h2,h3,h4⟩
   refine⟨⟨fun x hx=>h1 x (.inl hx),h2⟩,h3,fun x hx y hy=> ?_⟩;rcases hx with rfl | hx
   ·exact h1 y (.inr hy)
   ·exact h4 x hx y hy
  ·rintro⟨⟨h1,h2⟩,h3,h4⟩
   exact⟨fun x hx=>hx.elim (h1 x) (h4 c (.inl rfl) x),h2,h3,fun x hx y hy=>h4 x (.inr hx) y hy⟩
theorem Inn.splice {α:Type}{W:Bd->Bd->α->Prop}{lo hi:Bd}{ks ss:List Str}{ts ps:List α}{i m:Nat}(h:Inn W lo hi (ks,ts))(hm:i+m<ts.length)(hp:Inn W (YP lo ks i) (cL ks hi (i+m)) (ss,ps)):
  Inn W lo hi (ks.take i++ss++ks.drop (i+m),ts.take i++ps++ts.drop (i+m+1)):=by
 obtain⟨h1,h2,h3⟩:=h;obtain⟨p1,p2,p3⟩:=hp;simp only at h1 h2 h3 p1 p2 p3;have hlen:=h3.len;have hlo: ∀x∈ks.take i,∀y∈ss,ltS x y=true:=fun x hx y hy=>by
  have hy':=(p1 y hy).2.1
  cases i with
  | zero=>simp at hx
  | succ j=>
   have hj:j<ks.length:=by omega
   simp only[YP,zB hj]at hy';rw[zQ hj,qD,List.mem_singleton]at hx;rcases hx with hx | rfl
   ·have:=Nd.rising_take h2 (j+1);rw[zQ hj,xH]at this;exact yP (this.2.2 x hx _ (List.mem_singleton_self _)) hy'
   ·exact hy'
 have hhi: ∀y∈ss,∀z∈ks.drop (i+m),ltS y z=true:=fun y hy z hz=>by
  have hy':=(p1 y hy).2.2;by_cases hj:i+m<ks.length
  ·simp only[cL,zB hj]at hy';have hd:=Nd.rising_drop h2 (i+m);rw[zL hj]at hz hd;rw[Nd.rising_cons]at hd;rcases List.mem_cons.1 hz with rfl | hz
   ·exact hy'
   ·exact yP hy' (hd.1 z hz)
  ·rw[zO (by omega)]at hz;simp at hz
 have htd: ∀x∈ks.take i,∀z∈ks.drop (i+m),ltS x z=true:=fun x hx z hz=>by
  have:ks=ks.take (i+m)++ks.drop (i+m):=(List.take_append_drop _ _).symm;rw[this,xH]at h2;refine h2.2.2 x ?_ z hz;have:ks.take i=(ks.take (i+m)).take i:=by rw[List.take_take,Nat.min_eq_left (by omega)]
  rw[this]at hx;exact List.mem_of_mem_take hx
 have wlo: ∀s,zAa (YP lo ks i) s->zAa lo s:=fun s hs=>by
  cases i with
  | zero=>exact hs
  | succ j=>
   have hj:j<ks.length:=by omega
   simp only[YP,zB hj]at hs;exact QS (h1 _ (zU hj)).2.1 (.inr hs)
 have whi: ∀s,hiB (cL ks hi (i+m)) s->hiB hi s:=fun s hs=>by
  by_cases hj:i+m<ks.length
  ·simp only[cL,zB hj]at hs;exact zBq (h1 _ (zU hj)).2.2 (.inr hs)
  ·simp only[cL,List.getElem?_eq_none (show ks.length<=i+m by omega)]at hs;exact hs
 refine⟨fun k hk=> ?_, ?_,KB.splice h3 hm p3⟩
 ·simp only[qD]at hk;rcases hk with(hk | hk) | hk
  ·exact h1 k (List.mem_of_mem_take hk)
  ·exact⟨(p1 k hk).1,wlo k (p1 k hk).2.1,whi k (p1 k hk).2.2⟩
  ·exact h1 k (List.mem_of_mem_drop hk)
 ·rw[xH,xH];refine⟨⟨Nd.rising_take h2 i,p2,hlo⟩,Nd.rising_drop h2 _,fun x hx z hz=> ?_⟩;rcases List.mem_append.1 hx with hx | hx
  ·exact htd x hx z hz
  ·exact hhi x hx z hz
def Gen:(h:Nat)->Bd->Bd->Tr h->Prop
 | 0,lo,hi,l=>Lf lo hi l
 | h+1,lo,hi,t=>Inn (WF h) lo hi t
def Full:(h:Nat)->Tr h->Prop
 | 0,l=>l≠[]
 | _+1,t=>160<=jH t.1 t.2.length
theorem WF.gen: ∀ {h:Nat} {lo hi:Bd} {t:Tr h},WF h lo hi t->Gen h lo hi t
 | 0,_,_,_,w=>w.1
 | _+1,_,_,_,w=>w.1
theorem WX.gen: ∀ {h:Nat} {lo hi:Bd} {t:Tr h},WX h lo hi t->Gen h lo hi t
 | 0,_,_,_,w=>w.1
 | _+1,_,_,_,w=>w.1
theorem WF.full: ∀ {h:Nat} {lo hi:Bd} {t:Tr h},WF h lo hi t->Full h t
 | 0,_,_,_,w=>w.2.1
 | _+1,_,_,_,w=>w.2.2.1
theorem WF.sz: ∀ {h:Nat} {lo hi:Bd} {t:Tr h},WF h lo hi t->j9 h t<=500
 | 0,_,_,_,w=>w.2.2
 | _+1,_,_,_,w=>w.2.2.2
theorem WX.sz: ∀ {h:Nat} {lo hi:Bd} {t:Tr h},WX h lo hi t->j9 h t<=785
 | 0,_,_,_,w=>w.2
 | _+1,_,_,_,w=>w.2
theorem Gen.wx: ∀ {h:Nat} {lo hi:Bd} {t:Tr h},Gen h lo hi t->j9 h t<=785->WX h lo hi t
 | 0,_,_,_,w,s=>⟨w,s⟩
 | _+1,_,_,_,w,s=>⟨w,s⟩
theorem Gen.wf: ∀ {h:Nat} {lo hi:Bd} {t:Tr h},Gen h lo hi t->Full h t->j9 h t<=500->WF h lo hi t
 | 0,_,_,_,w,f,s=>⟨w,f,s⟩
 | h+1,_,_,t,w,f,s=>⟨w,fun e=>by
  have hl:=w.2.2.len;have f':160<=jH t.1 t.2.length:=f;rw[hl,e]at f';simp[jH,yH]at f',f,s⟩
def dQ:(h:Nat)->Tr h->Str->Tr h->Tr h
 | 0,a,_,b=>List.append a b
 | _+1,a,s,b=>(a.1++([s]++b.1),a.2++b.2)
theorem zBQ: ∀(h:Nat) (a:Tr h) (s:Str) (b:Tr h),con h (dQ h a s b)=con h a++con h b
 | 0,_,_,_=>rfl
 | h+1,a,s,b=>by simp[con,dQ]
theorem QR (a b:Kvs):jC (a++b)+2=jC a+jC b:=by
 simp only[jC,qP,Nd.size,List.map_append,Nd.sumL_append,zX];omega
theorem sumL_nil:yH []=0:=rfl
theorem QX (h:Nat)(a:Tr h)(s:Str)(b:Tr h)(hs:s.length<=40):j9 h (dQ h a s b)<=j9 h a+j9 h b+39/\j9 h b<=j9 h (dQ h a s b)/\j9 h a<=j9 h (dQ h a s b):=by
 cases h with
 | zero=>
  have key: ∀a b:Kvs,jC (a++b)<=jC a+jC b+39/\jC b<=jC (a++b)/\jC a<=jC (a++b):=fun a b=>by
   have:=QR a b;have e1:2<=jC a:=by simp only[jC,Nd.size];omega
   have e2:2<=jC b:=by simp only[jC,Nd.size];omega
   omega
  exact key a b
 | succ h=>
  simp only[j9,dQ,jH,zI,Nd.sumL_append,Nd.sumL_cons,sumL_nil];omega
theorem zBp {h:Nat}{lo hi:Bd}{s:Str}{a b:Tr h}(ha:Gen h lo (some s) a)(hb:Gen h (some s) hi b)(hs:mayK s=true/\zAa lo s/\hiB hi s):Gen h lo hi (dQ h a s b):=by
 cases h with
 | zero=>
  obtain⟨a1,a2⟩:=ha;obtain⟨b1,b2⟩:=hb;refine⟨zDL a1 b1 fun p hp q hq=>xQ (a2 p hp).2.1 (b2 q hq).1,fun p hp=> ?_⟩;rcases List.mem_append.1 hp with hp | hp
  ·exact⟨(a2 p hp).1,zBq hs.2.2 (.inr (a2 p hp).2.1),(a2 p hp).2.2⟩
  ·exact⟨(QS hs.2.1 (b2 p hp).1).low,(b2 p hp).2.1,(b2 p hp).2.2⟩
 | succ h=>
  obtain⟨a1,a2,a3⟩:=ha;obtain⟨b1,b2,b3⟩:=hb;refine⟨fun k hk=> ?_, ?_,KB.app b3 a3⟩
  ·simp only[dQ,qD,List.mem_singleton]at hk;rcases hk with hk | rfl | hk
   ·exact⟨(a1 k hk).1,(a1 k hk).2.1,zBq hs.2.2 (.inr (a1 k hk).2.2)⟩
   ·exact hs
   ·exact⟨(b1 k hk).1,QS hs.2.1 (.inr (b1 k hk).2.1),(b1 k hk).2.2⟩
  ·simp only[dQ];rw[xH,List.singleton_append,Nd.rising_cons];refine⟨a2,⟨fun x hx=>(b1 x hx).2.1,b2⟩,fun x hx y hy=> ?_⟩;rcases List.mem_cons.1 hy with rfl | hy
   ·exact(a1 x hx).2.2
   ·exact yP (a1 x hx).2.2 (b1 y hy).2.1
theorem BV {a b:Kvs} :Srt (a++b)↔Srt a/\Srt b/\ ∀p∈a,∀q∈b,ltS p.1 q.1=true:=by
 induction a with
 | nil=>simp[Srt]
 | cons c a ih=>
  obtain⟨c,w⟩:=c;rw[List.cons_append,Srt,Srt,ih];simp only[qD,List.mem_cons];constructor
  ·rintro⟨h1,h2,h3,h4⟩
   refine⟨⟨fun x hx=>h1 x (.inl hx),h2⟩,h3,fun x hx y hy=> ?_⟩;rcases hx with rfl | hx
   ·exact h1 y (.inr hy)
   ·exact h4 x hx y hy
  ·rintro⟨⟨h1,h2⟩,h3,h4⟩
   exact⟨fun x hx=>hx.elim (h1 x) (h4 _ (.inl rfl) x),h2,h3,fun x hx y hy=>h4 x (.inr hx) y hy⟩
def psz:(h:Nat)->Tr h->Nat->Nat
 | 0,l,k=>jC (List.take (α:=Str×Str) k l)
 | _+1,t,k=>jH (t.1.take k) (k+1)
def YT:(h:Nat)->Tr h->Nat
 | 0,l=>List.length (α:=Str×Str) l
 | _+1,t=>t.1.length
def zOy (h:Nat)(t:Tr h)(k:Nat):Prop:=
 1<=k/\k+min (h+1) 2<=YT h t/\(k=1\/psz h t k<=(j9 h t - 2) / 2+2)/\(k+min (h+1) 2=YT h t\/(j9 h t - 2) / 2+2<psz h t (k+1))
def zMp:(h:Nat)->Tr h->Tr h->Str->Tr h->Prop
 | 0,l,a,s,b=> ∃k,zOy 0 l k/\a=List.take (α:=Str×Str) k l/\s=(List.map Prod.fst (l:Kvs)).getD k []/\b=List.drop (α:=Str×Str) k l
 | h+1,t,a,s,b=> ∃k,zOy (h+1) t k/\a=(t.1.take k,t.2.take (k+1))/\s=t.1.getD k []/\b=(t.1.drop (k+1),t.2.drop (k+1))
theorem kE (p:Str×Str)(l:Kvs):jC (p::l)=jC l+(2+p.1.length+p.2.length):=by
 simp only[jC,qP,Nd.size,List.map_cons,Nd.sumL_cons,zX];omega
theorem bD:jC []=2:=rfl
theorem zAp {p:Str×Str}(h:mayK p.1=true/\p.2.length<=200):2+p.1.length+p.2.length<=242:=by
 obtain⟨h1,h2⟩:=h;simp only[mayK,z8,zF]at h1;omega
theorem zIN {lo hi:Bd}{l a b:Kvs}{s:Str}(hw:Lf lo hi l)(hs:jC l<=785)(hb:500<jC l)(hc:zMp 0 l a s b):
  Lf lo (some s) a/\Lf (some s) hi b/\(mayK s=true/\zAa lo s/\hiB hi s)/\a++b=l/\a≠[]/\b≠[]/\jC a<=500/\jC b<=jC l - (jC l - 2) / 2+241:=by
 obtain⟨k,⟨k1,k2,k3,k4⟩,rfl,rfl,rfl⟩:=hc;simp only[YT,psz,j9,Nat.zero_add,show min 1 2=1 from rfl]at k2 k3 k4;have hk:k<l.length:=k2;have e1:l.take k++l.drop k=l:=List.take_append_drop _ _;obtain⟨w1,w2⟩:=hw;have w1':=w1;rw[<-e1,BV]at w1';obtain⟨sa,sb,sab⟩:=w1';have hd:l.drop k=l[k]::l.drop (k+1):=zL hk;have hsk:(l.map Prod.fst).getD k []=(l[k]).1:=by
  rw[zE,qH,zB hk];rfl
 rw[hsk];have hm:l[k]∈l:=zU hk;have h0:0<l.length:=by omega
 have hm0:l[0]∈l.take k:=by rw[List.mem_iff_getElem];exact⟨0,by simp;omega,by simp⟩
 have hlt0:ltS (l[0]).1 (l[k]).1=true:=sab _ hm0 _ (by rw[hd];exact zC ..);have lsum:=QR (l.take k) (l.drop k);rw[e1]at lsum;have ek:=zAp (w2 _ hm).2.2;have tk1:jC (l.take (k+1))=jC (l.take k)+(2+(l[k]).1.length+(l[k]).2.length):=by
  rw[zQ hk];have:=QR (l.take k) [l[k]];rw[kE,bD]at this;omega
 refine⟨⟨sa,fun p hp=> ?_⟩,⟨sb,fun p hp=> ?_⟩,⟨(w2 _ hm).2.2.1,zL5 (w2 _ (zU h0)).1 hlt0,(w2 _ hm).2.1⟩,e1, ?_, ?_, ?_, ?_⟩
 ·exact⟨(w2 p (List.mem_of_mem_take hp)).1,sab p hp _ (by rw[hd];exact zC ..),(w2 p (List.mem_of_mem_take hp)).2.2⟩
 ·refine⟨?_,(w2 p (List.mem_of_mem_drop hp)).2⟩;rw[hd]at hp sb;rcases List.mem_cons.1 hp with rfl | hp
  ·exact .inl rfl
  ·exact .inr (sb.1 p hp)
 ·intro e;rw[e]at hm0;simp at hm0
 ·rw[hd];exact List.cons_ne_nil _ _
 ·rcases k3 with rfl | k3
  ·have hz:jC (l.take 1)<=244:=by
    have:=zAp (w2 _ (zU h0)).2.2
    match l,h0 with
    | p::l,_=>simp only[List.take_succ_cons,List.take_zero,kE,bD];simp only[List.getElem_cons_zero]at this;omega
   omega
  ·omega
 ·rcases k4 with k4 | k4
  ·have:l.drop (k+1)=[]:=zO (by omega);rw[hd,this,kE,bD];omega
  ·rw[tk1]at k4;omega
theorem XY (ks:List Str){k:Nat}(h:k<ks.length):yH (ks.take (k+1))=yH (ks.take k)+(1+(ks[k]).length):=by
 rw[zQ h,Nd.sumL_append,Nd.sumL_cons,sumL_nil];omega
theorem JK {s:Str}(h:mayK s=true):s.length<=40:=by
 simp only[mayK,z8,zF]at h;omega
theorem zGl {h:Nat}{lo hi:Bd}{t a b:Tr (h+1)}{s:Str}(hw:Inn (WF h) lo hi t)(hs:jH t.1 t.2.length<=785)(hb:500<jH t.1 t.2.length)(hc:zMp (h+1) t a s b):
  Inn (WF h) lo (some s) a/\Inn (WF h) (some s) hi b/\(mayK s=true/\zAa lo s/\hiB hi s)/\con (h+1) a++con (h+1) b=con (h+1) t/\160<=jH a.1 a.2.length/\160<=jH b.1 b.2.length/\jH a.1 a.2.length<=500/\jH b.1 b.2.length<=500/\jH b.1 b.2.length<=jH t.1 t.2.length - (jH t.1 t.2.length - 2) / 2+57:=by
 obtain⟨k,⟨k1,k2,k3,k4⟩,rfl,rfl,rfl⟩:=hc;obtain⟨ks,ts⟩:=t;obtain⟨w1,w2,w3⟩:=hw;have hm2:min (h+1+1) 2=2:=by omega
 simp only[YT,psz,j9,hm2]at k2 k3 k4 w1 w2 w3 hs hb⊢;have hk:k<ks.length:=by omega
 have hlen:=w3.len;have hsk:ks.getD k []=ks[k]:=by rw[zE,zB hk];rfl
 rw[hsk];have hg:=zB hk;have hm:ks[k]∈ks:=zU hk;have e1:ks.take k++ks[k]::ks.drop (k+1)=ks:=by rw[<-zL hk,List.take_append_drop]
 have hr:=w2;rw[<-e1,xH,Nd.rising_cons]at hr;obtain⟨ra,⟨rb,rb'⟩,rab⟩:=hr;have hsum:yH ks=yH (ks.take k)+(1+(ks[k]).length+yH (ks.drop (k+1))):=by
  conv=>lhs;rw[<-e1]
  rw[Nd.sumL_append,Nd.sumL_cons]
 have ek:=JK (w1 _ hm).1;have tk:=XY ks hk;have l1:(ts.take (k+1)).length=k+1:=by rw[zH];omega
 have l2:(ts.drop (k+1)).length=ks.length - k:=by rw[zN];omega
 rw[l1,l2];have hk1:k+1<ks.length:=by omega
 have ek1:=JK (w1 _ (zU hk1)).1;have hdr:yH (ks.drop (k+1))=1+(ks[k+1]).length+yH (ks.drop (k+2)):=by rw[zL hk1,Nd.sumL_cons]
 have hone:k=1->yH (ks.take k)<=41:=fun e=>by
  subst e;have:=XY ks (k:=0) (by omega);have e0:=JK (w1 _ (zU (show 0<ks.length by omega))).1;rw[this];simp only[List.take_zero,sumL_nil];omega
 have hlast:k+2=ks.length->yH (ks.drop (k+2))=0:=fun e=>by rw[e,List.drop_length];rfl
 simp only[jH]at k3 k4 hs hb⊢;rw[tk]at k4;rw[hlen]at hs hb k3 k4;refine⟨⟨fun x hx=>⟨(w1 x (List.mem_of_mem_take hx)).1,(w1 x (List.mem_of_mem_take hx)).2.1,rab x hx _ (zC ..)⟩,ra,w3.take hg⟩,⟨fun x hx=>⟨(w1 x (List.mem_of_mem_drop hx)).1,rb x hx,(w1 x (List.mem_of_mem_drop hx)).2.2⟩,rb',w3.drop hg⟩,w1 _ hm, ?_, ?_, ?_, ?_, ?_, ?_⟩
 ·simp only[con,<-zZ,List.take_append_drop]
 ·rcases k4 with k4 | k4
  ·have:=hlast k4;omega
  ·omega
 ·rcases k3 with rfl | k3
  ·have:=hone rfl;omega
  ·omega
 ·rcases k3 with rfl | k3
  ·have:=hone rfl;omega
  ·omega
 ·rcases k4 with k4 | k4
  ·have:=hlast k4;omega
  ·omega
 ·rcases k4 with k4 | k4
  ·have:=hlast k4;omega
  ·omega
inductive Cuts (h:Nat):Tr h->List (Tr h)->List Str->Prop
 | one {t:Tr h} :j9 h t<=500->Cuts h t [t] []
 | more {t a b:Tr h} {s:Str} {ps:List (Tr h)} {ss:List Str} :500<j9 h t->zMp h t a s b->Cuts h b ps ss->Cuts h t (a::ps) (s::ss)
theorem zGm {h:Nat}{lo hi:Bd}{t a b:Tr h}{s:Str}(hw:WX h lo hi t)(hb:500<j9 h t)(hc:zMp h t a s b):
  WF h lo (some s) a/\WX h (some s) hi b/\Full h b/\(mayK s=true/\zAa lo s/\hiB hi s)/\con h a++con h b=con h t/\j9 h b<=j9 h t - (j9 h t - 2) / 2+241:=by
 cases h with
 | zero=>
  obtain⟨a1,b1,hs,e,na,nb,za,zb⟩:=zIN hw.1 hw.2 hb hc;have hz:=hw.2;simp only[j9]at hb⊢;exact⟨⟨a1,na,za⟩,⟨b1,by omega⟩,nb,hs,e,zb⟩
 | succ h=>
  obtain⟨a1,b1,hs,e,na,nb,za,_,zb⟩:=zGl hw.1 hw.2 hb hc;have hz:=hw.2;simp only[j9]at hb⊢;exact⟨Gen.wf (h:=h+1) a1 na za,⟨b1,by omega⟩,nb,hs,e,by omega⟩
theorem WZ {h:Nat}{t:Tr h}{ps:List (Tr h)}{ss:List Str}(hc:Cuts h t ps ss): ∀ {lo hi:Bd},WX h lo hi t->(Full h t\/500<j9 h t)->
  Inn (WF h) lo hi (ss,ps)/\ps.flatMap (con h)=con h t/\ps.length<=6/\(j9 h t<=635->ps.length<=5)/\(j9 h t<=560->ps.length<=4)/\(j9 h t<=522->ps.length<=3)/\(j9 h t<=503->ps.length<=2)/\(j9 h t<=500->ps.length<=1):=by
 induction hc with
 | one hs=>
  intro lo hi hw hf;rcases hf with hf | hf
  ·refine⟨⟨by simp,rfl,hw.gen.wf hf hs⟩,by simp,by simp, ?_⟩;simp
  ·omega
 | @more t a b s ps ss hb hc _ ih=>
  intro lo hi hw _;obtain⟨wa,wb,fb,hs,e,z⟩:=zGm hw hb hc;obtain⟨⟨i1,i2,i3⟩,i4,i5⟩:=ih wb (.inl fb);have hz:=hw.sz;simp only at i1 i2 i3;refine⟨⟨fun k hk=> ?_, ?_,wa,i3⟩, ?_, ?_⟩
  ·rcases List.mem_cons.1 hk with rfl | hk
   ·exact hs
   ·exact⟨(i1 k hk).1,QS hs.2.1 (.inr (i1 k hk).2.1),(i1 k hk).2.2⟩
  ·rw[Nd.rising_cons];exact⟨fun x hx=>(i1 x hx).2.1,i2⟩
  ·rw[zP,i4,e]
  ·simp only[zJ];omega
theorem cQ {ks:List Str}(h: ∀k∈ks,mayK k=true):yH ks<=41*ks.length:=by
 induction ks with
 | nil=>simp[yH]
 | cons k ks ih=>
  have:=JK (h k (zC ..));have:=ih fun x hx=>h x (zA _ hx)
  rw[Nd.sumL_cons,zJ];omega
theorem zHX {h:Nat}{lo hi:Bd}{ks ss:List Str}{ts ps:List (Tr h)}{i m:Nat}{x:Tr h}(hw:Inn (WF h) lo hi (ks,ts))(hm:i+m<ts.length)(hx:WX h (YP lo ks i) (cL ks hi (i+m)) x)(hf:Full h x)(hc:Cuts h x ps ss):
  Inn (WF h) lo hi (ks.take i++ss++ks.drop (i+m),ts.take i++ps++ts.drop (i+m+1))/\
  con (h+1) (ks.take i++ss++ks.drop (i+m),ts.take i++ps++ts.drop (i+m+1))=(ts.take i).flatMap (con h)++con h x++(ts.drop (i+m+1)).flatMap (con h)/\
  jH (ks.take i++ss++ks.drop (i+m)) (ts.take i++ps++ts.drop (i+m+1)).length<=jH ks ts.length+285/\ks.length<=(ks.take i++ss++ks.drop (i+m)).length+m:=by
 obtain⟨c1,c2,c3,_⟩:=WZ hc hx (.inl hf);have l1:=hw.2.2.len;have l2:=c1.2.2.len;simp only at l1 l2;refine⟨hw.splice hm c1, ?_, ?_, ?_⟩
 ·simp only[con,zZ,c2]
 ·have hs:=cQ fun k hk=>(c1.1 k hk).1
  simp only at hs;have e:yH (ks.take i)+yH (ks.drop (i+m))<=yH ks:=by
   have a1:yH ks=yH (ks.take i)+yH (ks.drop i):=by rw[<-Nd.sumL_append,List.take_append_drop]
   have a2:yH (ks.drop i)=yH ((ks.drop i).take m)+yH (ks.drop (i+m)):=by rw[<-List.drop_drop,<-Nd.sumL_append,List.take_append_drop]
   omega
  simp only[jH,zI,zH,zN,Nd.sumL_append];omega
 ·simp only[zI,zH,zN];omega
theorem U5 {h:Nat}{a b:Tr h}{s:Str}(hs:s.length<=40)(hf:Full h a\/Full h b):Full h (dQ h a s b):=by
 cases h with
 | zero=>
  intro e;have e:List.append (α:=Str×Str) a b=[]:=e;rcases hf with hf | hf
  ·exact hf (List.append_eq_nil_iff.1 e).1
  ·exact hf (List.append_eq_nil_iff.1 e).2
 | succ h=>
  have:=QX (h+1) a s b hs;simp only[j9]at this;show 160<=jH _ _;rcases hf with hf | hf
  ·have hf:160<=jH a.1 a.2.length:=hf;omega
  ·have hf:160<=jH b.1 b.2.length:=hf;omega
theorem QP {h:Nat}{lo hi:Bd}{t:Tr (h+1)}(hw:WF (h+1) lo hi t):3<=t.1.length:=by
 obtain⟨⟨w1,_,w3⟩,_,hz,_⟩:=hw;have hl:=w3.len;have:=cQ fun k hk=>(w1 k hk).1
 simp only[jH]at hz;omega
theorem zIb {lo hi:Bd}{l:Kvs}{k v:Str}(hw:Lf lo hi l)(hl:zEH lo k)(hh:hiB hi k)(hk:mayK k=true)(hv:v.length<=200):Lf lo hi (putP k v l)/\jC (putP k v l)<=jC l+242:=by
 refine⟨⟨Nd.srt_put _ _ hw.1,fun p hp=> ?_⟩, ?_⟩
 ·rcases Nd.mem_put hp with rfl | hp
  ·exact⟨hl,hh,hk,hv⟩
  ·exact hw.2 p hp
 ·have he:=zAp (p:=(k,v)) ⟨hk,hv⟩;simp only at he;clear hw
  induction l with
  | nil=>simp only[putP,kE,bD];omega
  | cons a l ih=>
   obtain⟨a,b⟩:=a;simp only[putP];split
   ·simp only[kE];omega
   ·split
    ·simp only[kE];omega
    ·simp only[kE];omega
theorem zIc {lo hi:Bd}{l:Kvs}(k:Str)(hw:Lf lo hi l):Lf lo hi (delP k l)/\jC (delP k l)<=jC l:=by
 refine⟨⟨Nd.srt_del _ hw.1,fun p hp=>hw.2 p (Nd.mem_del hp)⟩, ?_⟩;clear hw
 induction l with
 | nil=>exact Nat.le_refl _
 | cons a l ih=>
  obtain⟨a,b⟩:=a;simp only[delP];split
  ·simp only[kE];omega
  ·simp only[kE];omega
end Go.Bt
end
section
namespace Go.Eng
theorem zJ8 (s t:Nat):aveq (.int .u64 (s:Nat)) (.int .u64 (t:Nat))=decide (s=t):=by
 have:keq .u64 .u64=true:=by rw[kQ];simp
 simp only[aveq,this,Bool.true_and,kR];rw[Bool.eq_iff_iff];simp only[zF,beq_iff_eq];exact Int.ofNat_inj
theorem zNb (s:Nat):keyOk [10] (.int .u64 (s:Nat))=true:=rfl
theorem cq:(∀A o,vJ .eql (eqP (.ptr A o) .nilPtr)=some (.bool false))/\vJ .eql (eqP .nilPtr .nilPtr)=some (.bool true)/\(∀M,vJ .eql (eqM (.map M) .nilMap)=some (.bool false))/\(∀A o,vJ .neq (eqP (.ptr A o) .nilPtr)=some (.bool true))/\vJ .neq (eqP .nilPtr .nilPtr)=some (.bool false):=
 ⟨fun _ _=>rfl,rfl,fun _=>rfl,fun _ _=>rfl,rfl⟩
end Go.Eng
namespace Go.Eng.Sh
open Go.Nd (Ptr yH)
abbrev PN:=List (Nat×Nd.Node)
def qV (s:Nat):PN->Option Nd.Node
 | []=>none
 | (a,n)::l=>if a=s then some n else qV s l
def zBL (s:Nat):PN->PN
 | []=>[]
 | (a,n)::l=>if a=s then l else(a,n)::zBL s l
def xZ (H:AH):List (AV×AV)->PN->Prop
 | [],[]=>True
 | (k,v)::es,(s,nd)::q=>(k= .int .u64 (s:Nat)/\y9 H v nd)/\xZ H es q
 | _,_=>False
theorem xZ.len {H:AH} : ∀ {es:List (AV×AV)} {q:PN},xZ H es q->es.length=q.length
 | [],[],_=>rfl
 | _::es,_::q,h=>by simp[xZ.len h.2]
 | [],_::_,h=>h.elim
 | _::_,[],h=>h.elim
theorem xZ.find {H:AH}(s:Nat): ∀ {es:List (AV×AV)} {q:PN},xZ H es q->(∀nd,qV s q=some nd-> ∃v,vV (.int .u64 (s:Nat)) es=some v/\y9 H v nd/\ ∃k,(k,v)∈es)/\(qV s q=none->vV (.int .u64 (s:Nat)) es=none)
 | [],[],_=>⟨fun nd h=>(by cases h),fun _=>rfl⟩
 | (k,v)::es,(t,nd)::q,h=>by
  obtain⟨⟨rfl,h1⟩,h2⟩:=h;obtain⟨i1,i2⟩:=xZ.find s h2;simp only[qV,vV,zJ8];by_cases e:t=s
  ·subst e;refine⟨fun nd' h=> ?_,fun h=>by simp at h⟩;simp only[if_true,z7]at h;subst h;exact⟨v,by simp,h1,_,zC ..⟩
  ·have e': ¬s=t:=fun h=>e h.symm
   refine⟨fun nd' h=> ?_,fun h=> ?_⟩
   ·rw[if_neg e]at h;obtain⟨v',j1,j2,k,j3⟩:=i1 nd' h;exact⟨v',by simp[e',j1],j2,k,zA _ j3⟩
   ·rw[if_neg e]at h;simp[e',i2 h]
 | [],_::_,h=>h.elim
 | _::_,[],h=>h.elim
theorem xZ.frame {H H':AH} : ∀ {es:List (AV×AV)} {q:PN},xZ H es q->(∀kv∈es,∀nd,y9 H kv.2 nd->y9 H' kv.2 nd)->xZ H' es q
 | [],[],_,_=>trivial
 | (k,v)::es,(s,nd)::q,h,hf=>⟨⟨h.1.1,hf (k,v) (zC ..) nd h.1.2⟩,xZ.frame h.2 fun kv hkv=>hf kv (zA _ hkv)⟩
 | [],_::_,h,_=>h.elim
 | _::_,[],h,_=>h.elim
theorem xZ.snoc {H:AH}{v:AV}{s:Nat}{nd:Nd.Node}(hv:y9 H v nd): ∀ {es:List (AV×AV)} {q:PN},xZ H es q->xZ H (es++[(.int .u64 (s:Nat),v)]) (q++[(s,nd)])
 | [],[],_=>⟨⟨rfl,hv⟩,trivial⟩
 | _::es,_::q,h=>⟨h.1,xZ.snoc hv h.2⟩
 | [],_::_,h=>h.elim
 | _::_,[],h=>h.elim
theorem kI (s:Nat): ∀(a b:PN),qV s (a++b)=match qV s a with | some n=>some n | none=>qV s b
 | [],_=>rfl
 | (t,n)::a,b=>by
  simp only[List.cons_append,qV];split
  ·rfl
  ·exact kI s a b
theorem setA_none {k v:AV} : ∀ {es:List (AV×AV)},vV k es=none->zDS k v es=none
 | [],_=>rfl
 | (a,b)::es,h=>by
  simp only[vV]at h;simp only[zDS]
  cases e:aveq k a with
  | true=>rw[e]at h;cases h
  | false=>rw[e]at h;simp only[cond_false]at h⊢;rw[setA_none h]
theorem xZ.del {H:AH}(s:Nat): ∀ {es:List (AV×AV)} {q:PN},xZ H es q->(∀nd,qV s q=some nd-> ∃es',zGk (.int .u64 (s:Nat)) es=some es'/\xZ H es' (zBL s q)/\ ∀kv∈es',kv∈es)
 | [],[],_=>fun nd h=>by cases h
 | (k,v)::es,(t,nd)::q,h=>by
  obtain⟨⟨rfl,h1⟩,h2⟩:=h;have ih:=xZ.del s h2;simp only[qV,zGk,zJ8,zBL];by_cases e:t=s
  ·subst e;intro nd' _;exact⟨es,by simp,by simpa using h2,fun kv hkv=>zA _ hkv⟩
  ·have e': ¬s=t:=fun h=>e h.symm
   intro nd' h;rw[if_neg e]at h;obtain⟨es',j1,j2,j3⟩:=ih nd' h;refine⟨(.int .u64 (t:Nat),v)::es',by simp[e',j1], ?_,fun kv hkv=> ?_⟩
   ·rw[if_neg e];exact⟨⟨rfl,h1⟩,j2⟩
   ·rcases List.mem_cons.1 hkv with rfl | hkv
    ·exact zC ..
    ·exact zA _ (j3 kv hkv)
 | [],_::_,h=>h.elim
 | _::_,[],h=>h.elim
def NoRow (o:AObj):Prop:=(∃x r e g,o= .cells (x::r) e 1 g/\ ∀l b,x≠ .str l b)\/(∃ks es,o= .map ks es)\/ ∃l e k g,o= .cells l e k g/\k≠1/\k≠3
theorem j7.nsep {k e n:Nat}{H:AH}{v:AV}{l:List AV}(h:j7 k e H v n l){A:Nat}{o:AObj}(hA:H.h.get A=some o)(ho: ∀e' g,o≠ .cells l e' k g): ¬Blk v A:=by
 intro hb;rcases h with⟨_,⟨rfl,_⟩ | ⟨B,rfl,_,hg⟩⟩ | ⟨_,B,e',g,rfl,_,hg,_⟩
 ·exact Blk.nil.1 hb
 ·rw[Blk.slice.1 hb]at hA;rw[hg]at hA;exact ho _ _ (Option.some.inj hA).symm
 ·rw[Blk.slice.1 hb]at hA;rw[hg]at hA;exact ho _ _ (Option.some.inj hA).symm
theorem y9.nblk {H:AH}{v:AV}{nd:Nd.Node}{A:Nat}{o:AObj}(h:y9 H v nd)(hA:H.h.get A=some o)(ho:NoRow o): ¬xJ v A:=by
 obtain⟨ks,vs,ps,rfl,h1,h2,h3⟩:=h;have hS: ∀(l:List Str),∀e' g,o≠ .cells (l.map S) e' 1 g:=fun l e' g e=>by
  rcases ho with⟨x,r,e2,g2,rfl,hx⟩ | ⟨_,_,rfl⟩ | ⟨_,_,_,_,rfl,k1,k3⟩
  ·simp only[AObj.cells.injEq]at e
   cases l with
   | nil=>simp at e
   | cons y l=>
    simp only[List.map_cons,List.cons.injEq]at e;exact hx _ _ e.1.1
  ·cases e
  ·simp only[AObj.cells.injEq]at e;omega
 have hP: ∀e' g,o≠ .cells (nd.kids.flatMap y6) e' 3 g:=fun e' g e=>by
  rcases ho with⟨x,r,e2,g2,rfl,_⟩ | ⟨_,_,rfl⟩ | ⟨_,_,_,_,rfl,k1,k3⟩
  ·simp only[AObj.cells.injEq]at e;omega
  ·cases e
  ·simp only[AObj.cells.injEq]at e;omega
 intro hb;rcases kB.1 hb with h | h | h
 ·exact j7.nsep h1 hA (hS _) h
 ·exact j7.nsep h2 hA (hS _) h
 ·exact j7.nsep h3 hA hP h
theorem y9.stp {S:Nat->Prop}{H H':AH}{v:AV}{nd:Nd.Node}(h:y9 H v nd)(s:Stp S H H')(hS: ∀A,xJ v A-> ¬S A):y9 H' v nd:=by
 obtain⟨ks,vs,ps,rfl,h1,h2,h3⟩:=h;exact⟨ks,vs,ps,rfl,h1.mono s (fun A hA=>hS A (kB.2 (.inl hA))),h2.mono s (fun A hA=>hS A (kB.2 (.inr (.inl hA)))),h3.mono s (fun A hA=>hS A (kB.2 (.inr (.inr hA))))⟩
theorem y9.lt {H:AH}{v:AV}{nd:Nd.Node}(h:y9 H v nd){B:Nat}(hB:xJ v B):B<H.next:=by
 obtain⟨ks,vs,ps,rfl,h1,h2,h3⟩:=h;rcases kB.1 hB with h | h | h
 ·exact h1.lt h
 ·exact h2.lt h
 ·exact h3.lt h
def jG (d c:AV)(root:Ptr)(M last:Nat)(dr:AV):List AV:=[d,c, .int .i64 root.at_, .int .i64 root.birth, .int .u64 root.sum, .map M, .int .u64 (last:Nat),dr]
structure TI (H:AH)(At M:Nat)(d c:AV)(root:Ptr)(es:List (AV×AV))(q:PN)(last:Nat)(dr:AV):Prop where
 ok:H.ok
 gT:H.h.get At=some (.cells (jG d c root M last dr) 100 1 false)
 gM:H.h.get M=some (.map [10] es)
 pq:xZ H es q
 hd: ∃A o,d= .ptr A o
 few:q.length<=1000000000
theorem TI.prs {H H':AH}{At M last:Nat}{d c dr:AV}{root:Ptr}{es:List (AV×AV)}{q:PN}(h:TI H At M d c root es q last dr)(s:Prs H H'):TI H' At M d c root es q last dr:=
 ⟨s.ok,Prs.get s h.ok h.gT,Prs.get s h.ok h.gM,h.pq.frame fun kv _ nd hn=>hn.prs s,h.hd,h.few⟩
theorem cZ (D:Dyn)(n:Nat){H:AH}{At M last:Nat}{d c dr:AV}{root:Ptr}{es:List (AV×AV)}{q:PN}(h:TI H At M d c root es q last dr):f43 D n [.ptr At 0] H=some (.bool false,H):=by
 obtain⟨A,o,rfl⟩:=h.hd;simp only[f43,eZ,cq,qL h.gT,jG]
theorem zEF (D:Dyn)(n:Nat){H:AH}{At M last:Nat}{d c dr:AV}{root:Ptr}{es:List (AV×AV)}{q:PN}(h:TI H At M d c root es q last dr):f47 D n [.ptr At 0] H=some (.int .i64 ((8192+q.length:Nat):Int),H):=by
 have hf:=h.few;have hln:VW (.map M) H=some (.int .i64 ((q.length:Nat):Int)):=by
  simp only[VW,h.gM,yE,h.pq.len];rfl
 have e:((8192:Nat):Int)+((q.length:Nat):Int)=((8192+q.length:Nat):Int):=by omega
 simp(disch:=omega) only[f47,eZ,qL h.gT,jG,hln,e]
def pp (s:Nat):Ptr:=⟨1,0,(s:Nat)⟩
theorem KW (D:Dyn)(n:Nat){H:AH}{At M last s:Nat}{d c dr:AV}{root:Ptr}{es:List (AV×AV)}{q:PN}{nd:Nd.Node}(h:TI H At M d c root es q last dr)(hs:qV s q=some nd):
  ∃v H',f48 D n [.ptr At 0, .agg (y6 (pp s))] H=some (.tuple [v, .int .i64 ((0:Nat):Int)],H')/\Prs H H'/\y9 H' v nd/\ ∃k,(k,v)∈es:=by
 obtain⟨v,f1,f2,hm⟩:=(h.pq.find s).1 nd hs;obtain⟨H1,A3,b1,p1,g1,m1,n1⟩:=box h.ok (.cells [.int .i64 ((1:Nat):Int), .int .i64 ((0:Nat):Int), .int .u64 (s:Nat)] 59 1 false);obtain⟨H2,A4,b2,p2,g2,m2,n2⟩:=box p1.ok (.cells [.bool false, .nilSlice, .nilSlice, .nilSlice] 93 1 false);have P2:Prs H H2:=p1.trans p2;obtain⟨H3,A6,b3,p3,g3,m3,n3⟩:=box P2.ok (.cells [.bool false, .nilSlice, .nilSlice, .nilSlice] 93 1 false);have P3:=P2.trans p3;obtain⟨l,rfl,ll,lc⟩:=f2.cells;obtain⟨H4,e4,g4,s4,n4⟩:=yF P3.ok g3 (l':=l) ll lc;have e4':stN 4 (.ptr A6 0) (.agg l) H3=some (qM,H4):=e4;have P4:Prs H H4:=P3.fresh s4 (fun B hB=>by have:=P2.next;omega)
 obtain⟨H5,e5,g5,s5,n5⟩:=yF P4.ok (show H4.h.get A4=some (.cells [.bool false, .nilSlice, .nilSlice, .nilSlice] 93 1 false)by rw[s4.keep _ (by have:=p3.next;omega) (by omega)];exact Prs.get p3 P2.ok g2) (l':=l) ll lc
 have e5':stN 4 (.ptr A4 0) (.agg l) H4=some (qM,H5):=e5;have P5:Prs H H5:=P4.fresh s5 (fun B hB=>by have:=p1.next;omega)
 have g13:H3.h.get A3=some (.cells [.int .i64 ((1:Nat):Int), .int .i64 ((0:Nat):Int), .int .u64 (s:Nat)] 59 1 false):=Prs.get p3 P2.ok (Prs.get p2 p1.ok g1);have g12:=Prs.get p2 p1.ok g1;have g14:H4.h.get A3=some (.cells [.int .i64 ((1:Nat):Int), .int .i64 ((0:Nat):Int), .int .u64 (s:Nat)] 59 1 false):=by rw[s4.keep _ (by have:=p2.next;have:=p3.next;omega) (by have:=p2.next;omega)];exact g13
 have hlk:lkM [10] (.agg [.bool false, .nilSlice, .nilSlice, .nilSlice]) true (.map M) (.int .u64 (s:Nat)) H2=some (.tuple [.agg l, .bool true]):=by
  simp only[lkM,zNb,cond_true,Prs.get P2 h.ok h.gM,show aZ [10] [10]=true from rfl,f1];rfl
 refine⟨.agg l,H5, ?_,P5,f2.prs P5,hm⟩;have t00: ¬(((0:Nat):Int)≠((0:Nat):Int)):=by omega
 have hp:y6 (pp s)=[.int .i64 ((1:Nat):Int), .int .i64 ((0:Nat):Int), .int .u64 (s:Nat)]:=rfl;rw[hp];simp(maxSteps:=999999)(disch:=omega) only[f48,eZ,b1,b2,qL g12,qL g13,qL g14,qL (Prs.get P2 h.ok h.gT),jG,hlk,qK,nth,b3,e4',t00,xY g4 ll,e5',xY g5 ll]
structure Ch (H0 H:AH)(At Ac F:Nat)(fes:List (AV×AV))(f:PN)(g:AV)(gl:List Ptr)(last0 last:Nat):Prop where
 prs:Prs H0 H
 gC:H.h.get Ac=some (.cells [.ptr At 0, .int .u64 (last:Nat), .map F,g] 120 1 false)
 gF:H.h.get F=some (.map [10] fes)
 pf:xZ H fes f
 gg:Own 3 59 H g gl.length (gl.flatMap y6)
 gN: ∀B,Blk g B->H0.next<=B
 gf: ∀kv∈fes,∀B,xJ kv.2 B-> ¬Blk g B
 dC:H0.next<=Ac
 dF:H0.next<=F
 ne:Ac≠F
 fs: ∀s nd,qV s f=some nd->last0<s/\s<=last
 le:last0<=last
 few:gl.length<=last+1000
 fd:(f.map Prod.fst).Nodup
 fl:f.length+last0<=last
theorem vU {s:Nat} : ∀ {q:PN},s∈q.map Prod.fst-> ∃nd,qV s q=some nd
 | [],h=>by simp at h
 | (t,n)::q,h=>by
  simp only[qV];by_cases e:t=s
  ·exact⟨n,if_pos e⟩
  ·rw[if_neg e];simp only[List.map_cons,List.mem_cons]at h;exact vU (h.resolve_left fun e'=>e e'.symm)
def chg (Ac F:Nat)(g:AV)(B:Nat):Prop:=B=Ac\/B=F\/Blk g B
def Adv (Ac F:Nat)(H:AH)(g:AV)(H':AH)(g':AV):Prop:=Stp (chg Ac F g) H H'/\ ∀B,Blk g' B->Blk g B\/H.next<=B
def kC (H:AH)(g v:AV)(nd:Nd.Node):Prop:=y9 H v nd/\ ∀B,xJ v B-> ¬Blk g B
theorem Adv.prs {Ac F:Nat}{H H':AH}(g:AV)(s:Prs H H'):Adv Ac F H g H' g:=⟨s.mono (fun _ _ x=>x.elim),fun _ h=> .inl h⟩
theorem Adv.trans {Ac F:Nat}{H H1 H2:AH}{g g1 g2:AV}(hA:Ac<H.next)(hF:F<H.next)(h:Adv Ac F H g H1 g1)(k:Adv Ac F H1 g1 H2 g2):Adv Ac F H g H2 g2:=by
 refine⟨⟨k.1.ok,Nat.le_trans h.1.next k.1.next,fun A hA hS=> ?_⟩,fun B hB=> ?_⟩
 ·rw[k.1.keep A (zV hA h.1.next) (fun hc=> ?_),h.1.keep A hA hS]
  rcases hc with e | e | e
  ·exact hS (.inl e)
  ·exact hS (.inr (.inl e))
  ·rcases h.2 A e with e | e
   ·exact hS (.inr (.inr e))
   ·omega
 ·have:=h.1.next
  rcases k.2 B hB with e | e
  ·exact h.2 B e
  ·exact .inr (by omega)
theorem Ch.ltC {H0 H:AH}{At Ac F:Nat}{fes:List (AV×AV)}{f:PN}{g:AV}{gl:List Ptr}{last0 last:Nat}(h:Ch H0 H At Ac F fes f g gl last0 last):Ac<H.next:=h.prs.ok.lt h.gC
theorem Ch.ltF {H0 H:AH}{At Ac F:Nat}{fes:List (AV×AV)}{f:PN}{g:AV}{gl:List Ptr}{last0 last:Nat}(h:Ch H0 H At Ac F fes f g gl last0 last):F<H.next:=h.prs.ok.lt h.gF
theorem Ch.keep {H0 H H':AH}{At Ac F:Nat}{fes:List (AV×AV)}{f:PN}{g v:AV}{gl:List Ptr}{last0 last:Nat}{nd:Nd.Node}(h:Ch H0 H At Ac F fes f g gl last0 last)(hv:kC H g v nd)(s:Stp (chg Ac F g) H H'):y9 H' v nd:=
 hv.1.stp s fun A hA hc=>by
  rcases hc with rfl | rfl | e
  ·exact hv.1.nblk h.gC (.inl ⟨_,_,_,_,rfl,fun _ _ e=>by cases e⟩) hA
  ·exact hv.1.nblk h.gF (.inr (.inl ⟨_,_,rfl⟩)) hA
  ·exact hv.2 A hA e
theorem Ch.next {H0 H H':AH}{At Ac F:Nat}{fes:List (AV×AV)}{f:PN}{g g' v:AV}{gl:List Ptr}{last0 last:Nat}{nd:Nd.Node}(h:Ch H0 H At Ac F fes f g gl last0 last)(hv:kC H g v nd)(s:Adv Ac F H g H' g'):kC H' g' v nd:=
 ⟨h.keep hv s.1,fun B hB hg=>by
  rcases s.2 B hg with e | e
  ·exact hv.2 B hB e
  ·have:=hv.1.lt hB;omega⟩
theorem Ch.step {H0 H H':AH}{At Ac F:Nat}{fes:List (AV×AV)}{f:PN}{g:AV}{gl:List Ptr}{last0 last:Nat}(h:Ch H0 H At Ac F fes f g gl last0 last)(s:Prs H H'):Ch H0 H' At Ac F fes f g gl last0 last:=
 ⟨h.prs.trans s,Prs.get s h.prs.ok h.gC,Prs.get s h.prs.ok h.gF,h.pf.frame fun kv _ nd hn=>hn.prs s,h.gg.mono s (fun _ _ x=>x),h.gN,h.gf,h.dC,h.dF,h.ne,h.fs,h.le,h.few,h.fd,h.fl⟩
theorem kC.prs {H H':AH}{g v:AV}{nd:Nd.Node}(h:kC H g v nd)(s:Prs H H'):kC H' g v nd:=⟨h.1.prs s,h.2⟩
theorem wE.hand {H0 H H':AH}{At Ac F:Nat}{fes:List (AV×AV)}{f:PN}{g v:AV}{gl:List Ptr}{last0 last:Nat}{nd:Nd.Node}(h:Ch H0 H At Ac F fes f g gl last0 last){N:Nat}(hN:H.next<=N)(hv:wE N H' v nd):kC H' g v nd:=
 ⟨hv.1,fun B hB hg=>by have:=hv.2 B hB;have:=Rw.blk h.gg.row hg;omega⟩
theorem y9.hand {H0 H H':AH}{At Ac F:Nat}{fes:List (AV×AV)}{f:PN}{g v:AV}{gl:List Ptr}{last0 last:Nat}{nd:Nd.Node}(h:Ch H0 H At Ac F fes f g gl last0 last)(hv:y9 H' v nd)(ho: ∀B,xJ v B->B<H0.next):kC H' g v nd:=
 ⟨hv,fun B hB hg=>by have:=ho B hB;have:=h.gN B hg;omega⟩
theorem bldP (e:TypeId)(p:Ptr)(z:List AV)(hz:z.length=3):wQ e 3 1 z [(0, .agg (y6 p))]=some (.cells (y6 p) e 3 false,fun A=> .slice A 0 1 2):=by
 match z,hz with
 | [_,_,_],_=>rfl
theorem zKr (p:Ptr):vY (y6 p) 0 3=some (y6 p):=rfl
theorem zF8 (D:Dyn)(n:Nat){H0 H:AH}{At Ac F:Nat}{fes:List (AV×AV)}{f:PN}{g:AV}{gl:List Ptr}{last0 last:Nat}(h:Ch H0 H At Ac F fes f g gl last0 last)(p:Ptr)(hl:gl.length+1<=last+1000)(hb:last<=900000000):
  ∃g' H',f69 D n [.ptr Ac 0, .agg (y6 p)] H=some (.tuple [],H')/\Ch H0 H' At Ac F fes f g' (gl++[p]) last0 last/\Adv Ac F H g H' g':=by
 obtain⟨H1,A3,b1,p1,g1,m1,n1⟩:=box h.prs.ok (.cells (y6 p) 59 1 false);obtain⟨H2,A4,b2,p2,g2,m2,n2⟩:=box p1.ok (.cells (y6 p) 59 3 false);have P2:=p1.trans p2;have h2:=h.step P2;have hsrc:srcOf 3 (.slice A4 0 1 2) H2=some (1,y6 p):=by
  simp only[srcOf,g2];rfl
 obtain⟨g',H3,e3,o3,s3,w3,f3⟩:=zM5 (bytes:=24) h2.prs.ok (by decide) h2.gg hsrc rfl rfl (by omega) (by decide);have nC: ¬Blk g Ac:=fun hB=>by
  obtain⟨_,⟨rfl,_⟩ | ⟨A,rfl,_,hg⟩⟩:=h2.gg
  ·exact Blk.nil.1 hB
  ·rw[<-Blk.slice.1 hB,h2.gC]at hg;simp at hg
 have nF: ¬Blk g F:=fun hB=>by
  obtain⟨_,⟨rfl,_⟩ | ⟨A,rfl,_,hg⟩⟩:=h2.gg
  ·exact Blk.nil.1 hB
  ·rw[<-Blk.slice.1 hB,h2.gF]at hg;simp at hg
 have gC3:H3.h.get Ac=some (.cells [.ptr At 0, .int .u64 (last:Nat), .map F,g] 120 1 false):=by rw[s3.keep _ h2.ltC nC];exact h2.gC
 have gF3:H3.h.get F=some (.map [10] fes):=by rw[s3.keep _ h2.ltF nF];exact h2.gF
 obtain⟨H4,e4,g4,s4,n4⟩:=Q6 s3.ok gC3 (o:=3) (x:=g') o3.row.isCell (by simp);have lt4: ∀B,Blk g' B->B<H3.next:=fun B hB=>Rw.blk o3.row hB
 have nC': ¬Blk g' Ac:=fun hB=>by
  rcases f3 Ac hB with e | e
  ·exact nC e
  ·have:=h2.ltC;omega
 have S2:Stp (chg Ac F g) H2 H4:=(s3.mono (fun _ _ x=> .inr (.inr x))).trans (s4.mono (fun _ _ x=> .inl x));have S:Stp (chg Ac F g) H H4:=(P2.mono (fun _ _ x=>x.elim)).trans S2;have hadv:Adv Ac F H g H4 g':=⟨S,fun B hB=>by
  rcases f3 B hB with e | e
  ·exact .inl e
  ·have:=P2.next;exact .inr (by omega)⟩
 have hfl:(gl++[p]).flatMap y6=gl.flatMap y6++y6 p:=by simp
 refine⟨g',H4, ?_,⟨?_, ?_, ?_, ?_, ?_, ?_, ?_,h.dC,h.dF,h.ne,h.fs,h.le,by simpa using hl,h.fd,h.fl⟩,hadv⟩
 ·have e1:=bldP 59 p [.int .i64 ((0:Nat):Int), .int .i64 ((0:Nat):Int), .int .u64 ((0:Nat):Int)] rfl;simp(disch:=omega) only[f69,eZ,b1,qL (Prs.get p1 h.prs.ok h.gC),qQ g1,zKr,Option.map_some,e1,b2,e3,e4]
 ·exact h.prs.fresh S (fun B hB=>by
   have:=h.dC;have:=h.dF;rcases hB with e | e | e
   ·omega
   ·omega
   ·exact h.gN B e)
 ·exact g4
 ·rw[s4.keep _ (by have:=s3.next;have:=h2.ltF;omega) (fun e=>h.ne e.symm)];exact gF3
 ·exact h.pf.frame fun kv hkv nd hn=>h.keep ⟨hn,h.gf kv hkv⟩ S
 ·rw[hfl];have:=o3.mono s4 (fun B hB e=>nC' (e▸hB));simpa using this
 ·intro B hB;rcases f3 B hB with e | e
  ·exact h.gN B e
  ·have:=h2.prs.next;omega
 ·intro kv hkv B hB hg;obtain⟨i,hi⟩:=List.mem_iff_getElem.1 hkv;have hlt:B<H.next:=by
   have hp: ∀ {es:List (AV×AV)} {q:PN},xZ H es q-> ∀kv∈es,∃nd,y9 H kv.2 nd:=by
    intro es
    induction es with
    | nil=>intro q _ kv h;simp at h
    | cons e es ih=>
     intro q hq kv hk
     match q,hq with
     | (t,nd)::q,hq=>
      rcases List.mem_cons.1 hk with rfl | hk
      ·exact⟨nd,hq.1.2⟩
      ·exact ih hq.2 kv hk
   obtain⟨nd,hn⟩:=hp h.pf kv hkv;exact hn.lt hB
  rcases f3 B hg with e | e
  ·exact h.gf kv hkv B hB e
  ·have:=P2.next;omega
theorem zGP (D:Dyn)(n:Nat){H0 H:AH}{At Ac F:Nat}{fes:List (AV×AV)}{f:PN}{g v:AV}{gl:List Ptr}{last0 last:Nat}{nd:Nd.Node}(h:Ch H0 H At Ac F fes f g gl last0 last)(hv:kC H g v nd)(hb:last<=900000000):
  ∃H',f66 D n [.ptr Ac 0,v] H=some (.agg (y6 (pp (last+1))),H')/\Ch H0 H' At Ac F (fes++[(.int .u64 ((last+1:Nat):Int),v)]) (f++[(last+1,nd)]) g gl last0 (last+1)/\Adv Ac F H g H' g:=by
 obtain⟨l,rfl,ll,lc⟩:=hv.1.cells;obtain⟨H1,A3,b1,p1,g1,m1,n1⟩:=box h.prs.ok (.cells l 93 1 false);obtain⟨H2,A4,b2,p2,g2,m2,n2⟩:=box p1.ok (.cells [.int .i64 ((0:Nat):Int), .int .i64 ((0:Nat):Int), .int .u64 ((0:Nat):Int)] 59 1 false);have P2:=p1.trans p2;have h2:=h.step P2;obtain⟨H3,e3,g3,s3,n3⟩:=Q6 h2.prs.ok h2.gC (o:=1) (x:= .int .u64 ((last+1:Nat):Int)) rfl (by simp);have g3:H3.h.get Ac=some (.cells [.ptr At 0, .int .u64 ((last+1:Nat):Int), .map F,g] 120 1 false):=g3;have gF3:H3.h.get F=some (.map [10] fes):=by rw[s3.keep _ h2.ltF (fun e=>h.ne e.symm)];exact h2.gF
 have hno:vV (.int .u64 ((last+1:Nat):Int)) fes=none:=(h.pf.find (last+1)).2 (by
  cases hk:qV (last+1) f with
  | none=>rfl
  | some nd'=>have:=h.fs _ _ hk;omega)
 have e4:upM [10] (.map F) (.int .u64 ((last+1:Nat):Int)) (.agg l) H3=some (qM,H3.put F (.map [10] (fes++[(.int .u64 ((last+1:Nat):Int), .agg l)]))):=by
  simp only[upM,zNb,cond_true,gF3,show aZ [10] [10]=true from rfl,setA_none hno,yY]
 have gF4:(H3.put F (.map [10] (fes++[(.int .u64 ((last+1:Nat):Int), .agg l)]))).h.get F=some (.map [10] (fes++[(.int .u64 ((last+1:Nat):Int), .agg l)])):=by rw[AH.put_get,if_pos rfl]
 have s4:Stp (fun B=>B=F) H3 (H3.put F (.map [10] (fes++[(.int .u64 ((last+1:Nat):Int), .agg l)]))):=(Stp.refl s3.ok).put (s3.ok.lt gF3) _ (.inr rfl);generalize H3.put F (.map [10] (fes++[(.int .u64 ((last+1:Nat):Int), .agg l)]))=H4 at e4 gF4 s4;have gC4:H4.h.get Ac=some (.cells [.ptr At 0, .int .u64 ((last+1:Nat):Int), .map F,g] 120 1 false):=by rw[s4.keep _ (s3.ok.lt g3) h.ne];exact g3
 have hC0:=h.ltC;have hF0:=h.ltF;have N1:=p1.next;have N2:=p2.next;have N3:=s3.next;have N4:=s4.next
 have g44:H4.h.get A4=some (.cells [.int .i64 ((0:Nat):Int), .int .i64 ((0:Nat):Int), .int .u64 ((0:Nat):Int)] 59 1 false):=by
  rw[s4.keep _ (by omega) (by omega),s3.keep _ n2 (by omega)];exact g2
 have g33:ldN 4 (.ptr A3 0) H3=some (.agg l):=xY (e:=93) (by rw[s3.keep _ (by omega) (by omega)];exact Prs.get p2 p1.ok g1) ll;obtain⟨H5,e5,g5,s5,n5⟩:=yF s4.ok g44 (l':=y6 (pp (last+1))) rfl rfl;have e5':stN 3 (.ptr A4 0) (.agg (y6 (pp (last+1)))) H4=some (qM,H5):=e5;have S4:Stp (chg Ac F g) H H4:=((P2.mono (fun _ _ x=>x.elim)).trans (s3.mono (fun _ _ x=> .inl x))).trans (s4.mono (fun _ _ x=> .inr (.inl x)));have S5:Stp (chg Ac F g) H H5:=⟨s5.ok,Nat.le_trans S4.next s5.next,fun A hA hS=>by rw[s5.keep A (by omega) (by omega),S4.keep A hA hS]⟩
 have hadv:Adv Ac F H g H5 g:=⟨S5,fun B hB=> .inl hB⟩;have hwr:IntKind.wrap .u64 (((last:Nat):Int)+((1:Nat):Int))=((last+1:Nat):Int):=by rw[wrap_u64];omega
 have bs:wB [(0,1),(1,1),(2,1)] [.int .i64 ((0:Nat):Int), .int .i64 ((0:Nat):Int), .int .u64 ((0:Nat):Int)] [(0, .int .i64 ((1:Nat):Int)),(2, .int .u64 ((last+1:Nat):Int))]=some (.agg (y6 (pp (last+1)))):=rfl;have r5:ldN 3 (.ptr A4 0) H5=some (.agg (y6 (pp (last+1)))):=by rw[qQ g5];rfl
 have hv':=h.keep hv S5;refine⟨H5, ?_,⟨?_, ?_, ?_, ?_, ?_,h.gN, ?_,h.dC,h.dF,h.ne, ?_,by have:=h.le;omega,by have:=h.few;omega, ?_,by have:=h.fl;simp;omega⟩,hadv⟩
 ·simp(maxSteps:=999999)(disch:=omega) only[f66,eZ,b1,b2,qL h2.gC,hwr,e3,qL g3,g33,e4,qL gC4,bs,e5',r5]
 ·exact h.prs.fresh S5 (fun B hB=>by
   have:=h.dC;have:=h.dF;rcases hB with e | e | e
   ·omega
   ·omega
   ·exact h.gN B e)
 ·rw[s5.keep _ (by omega) (by omega)];exact gC4
 ·rw[s5.keep _ (by omega) (by omega)];exact gF4
 ·exact xZ.snoc hv' (h.pf.frame fun kv hkv nd hn=>h.keep ⟨hn,h.gf kv hkv⟩ S5)
 ·have nC: ∀B,Blk g B-> ¬B=Ac:=fun B hB e=>by
   subst e;obtain⟨_,⟨rfl,_⟩ | ⟨A,rfl,_,hg⟩⟩:=h.gg
   ·exact Blk.nil.1 hB
   ·rw[<-Blk.slice.1 hB,h.gC]at hg;simp at hg
  have nF: ∀B,Blk g B-> ¬B=F:=fun B hB e=>by
   subst e;obtain⟨_,⟨rfl,_⟩ | ⟨A,rfl,_,hg⟩⟩:=h.gg
   ·exact Blk.nil.1 hB
   ·rw[<-Blk.slice.1 hB,h.gF]at hg;simp at hg
  exact(((h2.gg.mono s3 nC).mono s4 nF).mono s5 (fun B hB e=>by have:=Rw.blk h.gg.row hB;omega))
 ·intro kv hkv B hB;rcases List.mem_append.1 hkv with hkv | hkv
  ·exact h.gf kv hkv B hB
  ·simp only[List.mem_singleton]at hkv;subst hkv;exact hv.2 B hB
 ·intro s nd' hs;rw[kI]at hs
  cases hk:qV s f with
  | some nd2=>have:=h.fs _ _ hk;omega
  | none=>
   rw[hk]at hs;simp only[qV]at hs;split at hs
   ·have:=h.le;omega
   ·cases hs
 ·rw[List.map_append,List.nodup_append];refine⟨h.fd,by simp,fun a ha b hb e=> ?_⟩;simp only[List.map_cons,List.map_nil,List.mem_singleton]at hb;subst hb;subst e;obtain⟨nd2,h2⟩:=vU ha;have:=h.fs _ _ h2;omega
open Go.Nd (cutOk cutA fT)
inductive CutsN:Nd.Node->List Nd.Node->List Str->Prop
 | one {nd:Nd.Node} :Nd.size nd<=500->CutsN nd [nd] []
 | more {nd:Nd.Node} {k:Nat} {ps:List Nd.Node} {ss:List Str} :500<Nd.size nd->cutOk nd k->hbnd nd k->CutsN (fT nd k) ps ss->CutsN nd (cutA nd k::ps) (nd.keys.getD k []::ss)
def Par (H:AH):List (List AV)->List Nd.Node->Prop
 | [],[]=>True
 | l::vs,nd::nds=>(l.length=4/\qN l=true/\y9 H (.agg l) nd)/\Par H vs nds
 | _,_=>False
theorem Par.len {H:AH} : ∀ {vs:List (List AV)} {nds:List Nd.Node},Par H vs nds->vs.length=nds.length/\vs.flatten.length=nds.length*4/\qN vs.flatten=true
 | [],[],_=>⟨rfl,rfl,rfl⟩
 | l::vs,_::nds,h=>by
  obtain⟨a,b,c⟩:=Par.len h.2;refine⟨by simp[a], ?_, ?_⟩
  ·rw[List.flatten_cons,zI,b,h.1.1,zJ];omega
  ·rw[List.flatten_cons,j5];intro x hx;rcases List.mem_append.1 hx with hx | hx
   ·exact j5.1 h.1.2.1 x hx
   ·exact j5.1 c x hx
 | [],_::_,h=>h.elim
 | _::_,[],h=>h.elim
theorem Par.frame {H H':AH} : ∀ {vs:List (List AV)} {nds:List Nd.Node},Par H vs nds->(∀l∈vs,∀nd,y9 H (.agg l) nd->y9 H' (.agg l) nd)->Par H' vs nds
 | [],[],_,_=>trivial
 | l::vs,nd::nds,h,hf=>⟨⟨h.1.1,h.1.2.1,hf l (zC ..) nd h.1.2.2⟩,Par.frame h.2 fun l hl=>hf l (zA _ hl)⟩
 | [],_::_,h,_=>h.elim
 | _::_,[],h,_=>h.elim
theorem Par.snoc {H:AH}{l:List AV}{nd:Nd.Node}(hv:l.length=4/\qN l=true/\y9 H (.agg l) nd): ∀ {vs:List (List AV)} {nds:List Nd.Node},Par H vs nds->Par H (vs++[l]) (nds++[nd])
 | [],[],_=>⟨hv,trivial⟩
 | _::vs,_::nds,h=>⟨h.1,Par.snoc hv h.2⟩
 | [],_::_,h=>h.elim
 | _::_,[],h=>h.elim
theorem Par.mem {H:AH} : ∀ {vs:List (List AV)} {nds:List Nd.Node} {l:List AV},Par H vs nds->l∈vs-> ∃nd,y9 H (.agg l) nd
 | [],[],_,_,hl=>by simp at hl
 | k::vs,nd::nds,l,h,hl=>by
  rcases List.mem_cons.1 hl with rfl | hl
  ·exact⟨nd,h.1.2.2⟩
  ·exact Par.mem h.2 hl
 | [],_::_,_,h,_=>h.elim
 | _::_,[],_,h,_=>h.elim
theorem zOp (e:TypeId)(l:List AV)(hl:l.length=4)(z:List AV)(hz:z.length=4):wQ e 4 1 z [(0, .agg l)]=some (.cells l e 4 false,fun A=> .slice A 0 1 2):=by
 match z,hz with
 | [_,_,_,_],_=>match l,hl with
  | [_,_,_,_],_=>rfl
theorem src4 {H:AH}{A e:Nat}{l:List AV}{g:Bool}(h:H.h.get A=some (.cells l e 4 g))(hl:l.length=4)(cc:Nat):srcOf 4 (.slice A 0 1 cc) H=some (1,l):=by
 simp only[srcOf,h,jJ _ _ _ (.inr (show 0+1*4<=l.length by omega)),List.drop_zero,zK (show l.length<=1*4 by omega)]
theorem Q9 {nd:Nd.Node}(h:Nd.shaped ltS nd=true)(hz:500<Nd.size nd):vD nd:=by
 have hk: ∀k∈nd.keys,k.length<=40:=fun k hk=>by
  simp only[Nd.shaped,z8,List.all_eq_true]at h;have:=h.1.1 k hk;simp only[Nd.mayK,z8,zF]at this;omega
 have b1: ∀(c:Nat) (l:List Str),(∀k∈l,k.length<=c)->yH l<=(c+1)*l.length:=by
  intro c l
  induction l with
  | nil=>simp[yH]
  | cons a l ih=>
   intro h;have:=ih fun k hk=>h k (zA _ hk)
   have:=h a (zC ..);rw[Nd.sumL_cons,zJ,Nat.mul_succ];omega
 have k1:=b1 40 nd.keys hk;simp only[Nd.size]at hz
 cases hl:nd.leaf with
 | true=>
  simp only[Nd.shaped,hl,if_true,z8,zF,List.all_eq_true]at h;have k2:=b1 200 nd.vals fun v hv=>h.2.2 v hv
  rw[h.2.1.2,zX]at hz;rw[h.2.1.1]at k2;exact⟨by omega, .inl hl⟩
 | false=>
  simp only[Nd.shaped,hl,Bool.false_eq_true,if_false,z8,zF]at h;rw[h.2.1.1.2]at hz;have:yH []=0:=rfl;rw[h.2.1.2]at hz;exact⟨by omega, .inr (by omega)⟩
theorem wI {nd:Nd.Node}(h:Nd.size nd<=10000):small nd:=by
 simp only[Nd.size]at h;exact⟨by omega,by omega,by omega⟩
theorem UQ (D:Dyn)(n:Nat)(hn:200000000<=n){H:AH}(hk:H.ok){v:AV}{nd:Nd.Node}(h:y9 H v nd)(hsh:Nd.shaped ltS nd=true)(hz:Nd.size nd<=10000):
  ∃pv sv H' vs nds ss,f92 D n [v] H=some (.tuple [pv,sv, .int .i64 ((0:Nat):Int)],H')/\Prs H H'/\CutsN nd nds ss/\Own 4 93 H' pv nds.length vs.flatten/\Par H' vs nds/\Own 1 9 H' sv ss.length (ss.map S)/\
   (∀B,Blk pv B->H.next<=B)/\(∀B,Blk sv B->H.next<=B)/\ ∀l∈vs,∀B,xJ (.agg l) B->xJ v B\/H.next<=B:=by
 obtain⟨l0,rfl,l0l,l0c⟩:=h.cells;obtain⟨H1,A1,b1,p1,g1,m1,n1⟩:=box hk (.cells l0 93 1 false);have lp:Fin (qW n (zIu D n) [.ptr A1 0, .nilSlice, .nilSlice] H1) fun x H'=> ∃l nd' vs nds ss pv sv,x= .exit 0 [.ptr A1 0,pv,sv]/\Prs H H'/\H'.h.get A1=some (.cells l 93 1 false)/\l.length=4/\qN l=true/\y9 H' (.agg l) nd'/\Nd.size nd'<=500/\
   (∀ps' ss',CutsN nd' ps' ss'->CutsN nd (nds++ps') (ss++ss'))/\Own 4 93 H' pv nds.length vs.flatten/\Par H' vs nds/\Own 1 9 H' sv ss.length (ss.map S)/\(∀B,Blk pv B->H.next<=B)/\(∀B,Blk sv B->H.next<=B)/\
   (∀B,xJ (.agg l) B->xJ (.agg l0) B\/H.next<=B)/\(∀l∈vs,∀B,xJ (.agg l) B->xJ (.agg l0) B\/H.next<=B)/\nds.length<=10000:=by
  refine Fin.loop (fun k us H'=> ∃l nd' vs nds ss pv sv,us=[.ptr A1 0,pv,sv]/\Prs H H'/\H'.h.get A1=some (.cells l 93 1 false)/\l.length=4/\qN l=true/\y9 H' (.agg l) nd'/\Nd.shaped ltS nd'=true/\
   (∀ps' ss',CutsN nd' ps' ss'->CutsN nd (nds++ps') (ss++ss'))/\Own 4 93 H' pv nds.length vs.flatten/\Par H' vs nds/\Own 1 9 H' sv ss.length (ss.map S)/\(∀B,Blk pv B->H.next<=B)/\(∀B,Blk sv B->H.next<=B)/\
   (∀B,xJ (.agg l) B->xJ (.agg l0) B\/H.next<=B)/\(∀l∈vs,∀B,xJ (.agg l) B->xJ (.agg l0) B\/H.next<=B)/\(∀B,xJ (.agg l) B-> ¬Blk sv B)/\(∀l∈vs,∀B,xJ (.agg l) B-> ¬Blk sv B)/\ss.length=nds.length/\nds.length+Nd.size nd'<=10000/\k=Nd.size nd') ?_ n (Nd.size nd) _ H1
   ⟨l0,nd,[],[],[], .nilSlice, .nilSlice,rfl,p1,g1,l0l,l0c,h.prs p1,hsh,fun _ _ h=>h,Own.nil ..,trivial,Own.nil ..,fun B hB=>(Blk.nil.1 hB).elim,fun B hB=>(Blk.nil.1 hB).elim,fun B hB=> .inl hB,by simp,fun B _ hB=>(Blk.nil.1 hB).elim,by simp,rfl,by simpa using hz,rfl⟩ (by omega)
  rintro k us H' ⟨l,nd',vs,nds,ss,pv,sv,rfl,P,gA,ll,lc,hG,hsh',hcut,oP,hPar,oS,bP,bS,bl,bvs,al,avs,hlen,hsum,rfl⟩
  have hsm:small nd':=wI (by omega);obtain⟨z,H2,e2,rfl,p2⟩:=BW D n P.ok hG.node hsm hn;have P2:=P.trans p2;have g2:=Prs.get p2 P.ok gA;by_cases hbig:500<Nd.size nd'
  case neg=>
   have hbI: ¬((500:Nat):Int)< ((Nd.size nd':Nat):Int):=by omega
   refine⟨.exit 0 [.ptr A1 0,pv,sv],H2, ?_,l,nd',vs,nds,ss,pv,sv,rfl,P2,g2,ll,lc,hG.prs p2,by omega,hcut,oP.mono p2 (fun _ _ x=>x),hPar.frame (fun l hl nd hn=>hn.prs p2),oS.mono p2 (fun _ _ x=>x),bP,bS,bl,bvs,by omega⟩;simp(disch:=omega) only[zIu,eZ,xY gA ll,e2,hbI]
  case pos=>
  have hbI:((500:Nat):Int)< ((Nd.size nd':Nat):Int):=by omega
  have hcb:=Q9 hsh' hbig;obtain⟨va,sep,vb,e,H3,e3,p3,hc⟩:=zOh D n hn P2.ok (hG.prs p2) hsm;rcases hc with⟨rfl,k,_,hck,hb,rfl,ga,gb⟩ | ⟨_,_,hno,_⟩
  case inr=>exact absurd ⟨hsh',hcb⟩ hno
  have P3:=P2.trans p3;have p13:Prs H' H3:=p2.trans p3;obtain⟨la,rfl,lal,lac⟩:=ga.1.cells;obtain⟨lb,rfl,lbl,lbc⟩:=gb.1.cells;obtain⟨H4,A7,b4,p4,g4,m4,n4⟩:=box P3.ok (.cells [.bool false, .nilSlice, .nilSlice, .nilSlice] 93 1 false);obtain⟨H5,A9,b5,p5,g5,m5,n5⟩:=box p4.ok (.cells [.bool false, .nilSlice, .nilSlice, .nilSlice] 93 1 false);obtain⟨H6,e6,g6,s6,n6⟩:=yF p5.ok (Prs.get p5 p4.ok g4) (l':=la) lal lac;have e6':stN 4 (.ptr A7 0) (.agg la) H5=some (qM,H6):=e6;obtain⟨H7,e7,g7,s7,n7⟩:=yF s6.ok (show H6.h.get A9=some (.cells [.bool false, .nilSlice, .nilSlice, .nilSlice] 93 1 false)by rw[s6.keep _ n5 (by omega)];exact g5) (l':=lb) lbl lbc;have e7':stN 4 (.ptr A9 0) (.agg lb) H6=some (qM,H7):=e7;have N3:=p13.next;have N4:=p4.next;have N5:=p5.next
  have q37:Prs H3 H7:=((p4.trans p5).fresh s6 (fun B hB=>by omega)).fresh s7 (fun B hB=>by omega);have g77:H7.h.get A7=some (.cells la 93 1 false):=by rw[s7.keep _ (by omega) (by omega)];exact g6
  obtain⟨H8,A10,b8,p8,g8,m8,n8⟩:=box q37.ok (.cells la 93 4 false);have q38:Prs H3 H8:=q37.trans p8;have q18:Prs H' H8:=p13.trans q38;obtain⟨H9,e9,o9,s9,n9⟩:=YF (bytes:=80) q38.ok (by decide) (oP.mono q18 (fun _ _ x=>x)) (src4 g8 lal 2) (by omega) lac (by omega) (by omega) (by decide);have N8:=q38.next
  have nP: ∀(l:List AV) (nd:Nd.Node),y9 H8 (.agg l) nd-> ∀B,xJ (.agg l) B-> ¬Blk pv B:=fun l nd hg B hB hp=>by
   obtain⟨_,⟨rfl,_⟩ | ⟨C,rfl,_,hgC⟩⟩:=oP.mono q18 (fun _ _ x=>x)
   ·exact Blk.nil.1 hp
   ·rw[Blk.slice.1 hp]at hB;exact hg.nblk hgC (.inr (.inr ⟨_,_,_,_,rfl,by decide,by decide⟩)) hB
  have oS8:=oS.mono q18 (fun _ _ x=>x);have nSP: ∀B,Blk sv B-> ¬Blk pv B:=fun B hB hp=>by
   obtain⟨_,⟨rfl,_⟩ | ⟨C,rfl,_,hgC⟩⟩:=oP.mono q18 (fun _ _ x=>x)
   ·exact Blk.nil.1 hp
   ·obtain⟨_,⟨rfl,_⟩ | ⟨E,rfl,_,hgE⟩⟩:=oS8
    ·exact Blk.nil.1 hB
    ·rw[<-Blk.slice.1 hp,Blk.slice.1 hB,hgE]at hgC;simp at hgC
  obtain⟨H10,A29,b10,p10,g10,m10,n10⟩:=box s9.ok (.cells [S (nd'.keys.getD k [])] 9 1 false);have oS10:=(oS8.mono s9 nSP).mono p10 (fun _ _ x=>x);have hsrc:srcOf 1 (.slice A29 0 1 2) H10=some (1,[S (nd'.keys.getD k [])]):=by
   have:=Rw.srcOf (Rw.lit (cc:=2) p10.ok g10);exact this
  obtain⟨H11,e11,o11,s11,n11⟩:=YF (bytes:=16) p10.ok (by decide) oS10 hsrc rfl rfl (by omega) (by omega) (by decide);have A1lt:A1<H'.next:=P.ok.lt gA
  have fr: ∀(l:List AV) (nd:Nd.Node),y9 H8 (.agg l) nd->(∀B,xJ (.agg l) B-> ¬Blk sv B)->y9 H11 (.agg l) nd:=fun l nd hg ha=>
   ((hg.stp s9 (nP l nd hg)).prs p10).stp s11 ha
  have svlt: ∀B,Blk sv B->B<H3.next:=fun B hB=>by have:=Rw.blk oS.row hB;omega
  have ga8:=ga.1.prs q38;have gb8:=gb.1.prs q38;have fA: ∀B,xJ (.agg la) B-> ¬Blk sv B:=fun B hB hs=>by have:=ga.2 B hB;have:=Rw.blk oS.row hs;have:=p2.next;omega
  have fB: ∀B,xJ (.agg lb) B-> ¬Blk sv B:=fun B hB hs=>by have:=gb.2 B hB;have:=Rw.blk oS.row hs;have:=p2.next;omega
  have ga11:=fr la _ ga8 fA;have gb11:=fr lb _ gb8 fB;have lt8: ∀(l:List AV) (nd:Nd.Node),y9 H8 (.agg l) nd-> ∀B,xJ (.agg l) B->B<H10.next:=fun l nd hg B hB=>by have:=hg.lt hB;have:=s9.next;have:=p10.next;omega
  have gA11:H11.h.get A1=some (.cells l 93 1 false):=by
   have e8:H8.h.get A1=some (.cells l 93 1 false):=Prs.get q18 P.ok gA;have np: ¬Blk pv A1:=fun hp=>by
    obtain⟨_,⟨rfl,_⟩ | ⟨C,rfl,_,hgC⟩⟩:=oP
    ·exact Blk.nil.1 hp
    ·rw[<-Blk.slice.1 hp,gA]at hgC;simp at hgC
   have ns: ¬Blk sv A1:=fun hp=>by
    obtain⟨_,⟨rfl,_⟩ | ⟨C,rfl,_,hgC⟩⟩:=oS
    ·exact Blk.nil.1 hp
    ·rw[<-Blk.slice.1 hp,gA]at hgC;simp at hgC
   rw[s11.keep _ (by have:=s9.next;have:=p10.next;omega) ns,p10.keep _ (by have:=s9.next;omega) (fun x=>x),s9.keep _ (by omega) np];exact e8
  obtain⟨H12,e12,g12,s12,n12⟩:=yF s11.ok gA11 (l':=lb) (by omega) lbc;have e12':stN 4 (.ptr A1 0) (.agg lb) H11=some (qM,H12):=by rw[ll]at e12;exact e12
  have r9:ldN 4 (.ptr A9 0) H11=some (.agg lb):=xY (e:=93) (by
   have np: ¬Blk pv A9:=fun hp=>by have:=Rw.blk oP.row hp;omega
   have ns: ¬Blk sv A9:=fun hp=>by have:=svlt _ hp;omega
   rw[s11.keep _ (by have:=s9.next;have:=p10.next;have:=p8.next;omega) ns,p10.keep _ (by have:=s9.next;have:=p8.next;omega) (fun x=>x),s9.keep _ (by have:=p8.next;omega) np,p8.keep _ (by omega) (fun x=>x)];exact g7) lbl
  have fin: ∀(l2:List AV) (nd2:Nd.Node),y9 H11 (.agg l2) nd2->y9 H12 (.agg l2) nd2:=fun l2 nd2 hg=>hg.stp s12 (fun B hB e=>by
   subst e;have: ∃x r,l=x::r/\ ∀a b,x≠ .str a b:=by
    obtain⟨ks,vs',ps,ee,_⟩:=hG;simp only[AV.agg.injEq]at ee;exact⟨_,_,ee,fun _ _ e=>by cases e⟩
   obtain⟨x,r,rfl,hx⟩:=this;exact hg.nblk gA11 (.inl ⟨x,r,_,_,rfl,hx⟩) hB)
  have Pn:Prs H H12:=by
   have a1:Prs H H9:=(P3.trans q38).fresh s9 bP;have a2:Prs H H11:=(a1.trans p10).fresh s11 bS;exact a2.fresh s12 (fun B hB=>by omega)
  have hdec:=Nd.cut_size hsh' hck;have hsc:=Nd.cut_shaped hsh' hck;have N9:=s9.next;have N10:=p10.next;have N11:=s11.next
  have PN:=P.next
  refine⟨.norm [.ptr A1 0, .slice H8.next 0 (nds.length+1) 1, .slice H10.next 0 (ss.length+1) 1],H12, ?_,Nd.size (fT nd' k),hdec.2,lb,fT nd' k,vs++[la],nds++[cutA nd' k],ss++[nd'.keys.getD k []], .slice H8.next 0 (nds.length+1) 1, .slice H10.next 0 (ss.length+1) 1,rfl,Pn,g12,lbl,lbc,fin _ _ gb11,hsc.2,fun ps' ss' hcc=> ?_, ?_, ?_, ?_,fun B hB=> ?_,fun B hB=> ?_,fun B hB=> ?_,fun l2 hl2 B hB=> ?_,fun B hB hs=> ?_,fun l2 hl2 B hB hs=> ?_,by simp[hlen], ?_,rfl⟩
  ·simp(maxSteps:=999999)(disch:=omega) only[zIu,eZ,xY gA ll,e2,hbI,xY g2 ll,e3,qK,nth,b4,b5,e6',e7',ne_eq,not_true_eq_false,xY g77 lal,zOp 93 la lal [.bool false, .nilSlice, .nilSlice, .nilSlice] rfl,zJ,zX,b8,e9,zMh 9 (.str 0 0) (Z4 (nd'.keys.getD k [])),b10,e11,r9,e12']
  ·rw[List.append_assoc,List.append_assoc];exact hcut _ _ (.more hbig hck hb hcc)
  ·have o9':=((o9.mono p10 (fun _ _ x=>x)).mono s11 (fun B hB hs=>by rw[Blk.slice.1 hB]at hs;have:=svlt _ hs;omega)).mono s12 (fun B hB e=>by rw[Blk.slice.1 hB]at e;omega);simpa using o9'
  ·refine Par.snoc ⟨lal,lac,fin _ _ ga11⟩ (hPar.frame fun l2 hl2 nd2 hg=>fin _ _ (fr l2 nd2 (hg.prs q18) (avs l2 hl2)))
  ·have o11':=o11.mono s12 (fun B hB e=>by rw[Blk.slice.1 hB]at e;omega);simpa using o11'
  ·rw[Blk.slice.1 hB];omega
  ·rw[Blk.slice.1 hB];omega
  ·exact .inr (by have:=gb.2 B hB;have:=p2.next;omega)
  ·rcases List.mem_append.1 hl2 with hl2 | hl2
   ·exact bvs l2 hl2 B hB
   ·simp only[List.mem_singleton]at hl2;subst hl2;exact .inr (by have:=ga.2 B hB;have:=p2.next;omega)
  ·rw[Blk.slice.1 hs]at hB;have:=lt8 _ _ gb8 _ hB;omega
  ·rw[Blk.slice.1 hs]at hB;rcases List.mem_append.1 hl2 with hl2 | hl2
   ·obtain⟨nd2,hg2⟩:=hPar.mem hl2;have:=lt8 _ _ (hg2.prs q18) _ hB;omega
   ·simp only[List.mem_singleton]at hl2;subst hl2;have:=lt8 _ _ ga8 _ hB;omega
  ·simp only[zI,zJ,zX];omega
 obtain⟨x,H2,e2,l,nd',vs,nds,ss,pv,sv,rfl,P,gA,ll,lc,hG,hsz,hcut,oP,hPar,oS,bP,bS,bl,bvs,hcount⟩:=lp;obtain⟨H3,A3,b3,p3,g3,m3,n3⟩:=box P.ok (.cells l 93 4 false);obtain⟨H4,e4,o4,s4,n4⟩:=YF (bytes:=80) p3.ok (by decide) (oP.mono p3 (fun _ _ x=>x)) (src4 g3 ll 2) (by omega) lc (by omega) (by omega) (by decide);have nP: ∀(l:List AV) (nd:Nd.Node),y9 H3 (.agg l) nd-> ∀B,xJ (.agg l) B-> ¬Blk pv B:=fun l nd hg B hB hp=>by
  obtain⟨_,⟨rfl,_⟩ | ⟨C,rfl,_,hgC⟩⟩:=oP.mono p3 (fun _ _ x=>x)
  ·exact Blk.nil.1 hp
  ·rw[Blk.slice.1 hp]at hB;exact hg.nblk hgC (.inr (.inr ⟨_,_,_,_,rfl,by decide,by decide⟩)) hB
 have nSP: ∀B,Blk sv B-> ¬Blk pv B:=fun B hB hp=>by
  obtain⟨_,⟨rfl,_⟩ | ⟨C,rfl,_,hgC⟩⟩:=oP
  ·exact Blk.nil.1 hp
  ·obtain⟨_,⟨rfl,_⟩ | ⟨E,rfl,_,hgE⟩⟩:=oS
   ·exact Blk.nil.1 hB
   ·rw[<-Blk.slice.1 hp,Blk.slice.1 hB,hgE]at hgC;simp at hgC
 have fin: ∀(l2:List AV) (nd2:Nd.Node),y9 H2 (.agg l2) nd2->y9 H4 (.agg l2) nd2:=fun l2 nd2 hg=>(hg.prs p3).stp s4 (nP l2 nd2 (hg.prs p3))
 have N3:=p3.next;have PN:=P.next
 refine⟨.slice H3.next 0 (nds.length+1) 1,sv,H4,vs++[l],nds++[nd'],ss, ?_,(P.trans p3).fresh s4 bP, ?_, ?_,Par.snoc ⟨ll,lc,fin _ _ hG⟩ (hPar.frame fun l2 hl2 nd2 hg=>fin _ _ hg),(oS.mono p3 (fun _ _ x=>x)).mono s4 nSP,fun B hB=> ?_,bS,fun l2 hl2 B hB=> ?_⟩
 ·simp(maxSteps:=999999)(disch:=omega) only[f92,eZ,b1,e2,zNz,xY gA ll,zOp 93 l ll [.bool false, .nilSlice, .nilSlice, .nilSlice] rfl,zJ,zX,b3,e4]
 ·have:=hcut [nd'] [] (.one hsz);rwa[List.append_nil]at this
 ·simpa using o4
 ·rw[Blk.slice.1 hB];omega
 ·rcases List.mem_append.1 hl2 with hl2 | hl2
  ·exact bvs l2 hl2 B hB
  ·simp only[List.mem_singleton]at hl2;subst hl2;exact bl B hB
end Go.Eng.Sh
end
section
namespace Go.Eng
theorem Own.get {k e n:Nat}{H:AH}{v:AV}{l:List AV}(h:Own k e H v n l){B:Nat}(hB:Blk v B):H.h.get B=some (.cells l e k true):=by
 obtain⟨_,⟨rfl,_⟩ | ⟨C,rfl,_,hg⟩⟩:=h
 ·exact(Blk.nil.1 hB).elim
 ·rw[Blk.slice.1 hB];exact hg
end Go.Eng
namespace Go.Eng.Sh
open Go.Nd (Ptr yH)
def kJ (last:Nat):List Nd.Node->PN
 | []=>[]
 | nd::nds=>(last+1,nd)::kJ (last+1) nds
def YJ (last:Nat):List (List AV)->List (AV×AV)
 | []=>[]
 | l::vs=>(.int .u64 ((last+1:Nat):Int), .agg l)::YJ (last+1) vs
def pps (last:Nat):Nat->List Ptr
 | 0=>[]
 | n+1=>pp (last+1)::pps (last+1) n
theorem KA (x:Nd.Node): ∀(l:List Nd.Node) (last:Nat),kJ last (l++[x])=kJ last l++[(last+l.length+1,x)]
 | [],last=>rfl
 | a::l,last=>by
  simp only[List.cons_append,kJ,KA x l,zJ];rw[show last+1+l.length+1=last+(l.length+1)+1 from by omega]
theorem KC (x:List AV): ∀(l:List (List AV)) (last:Nat),YJ last (l++[x])=YJ last l++[(.int .u64 ((last+l.length+1:Nat):Int), .agg x)]
 | [],last=>rfl
 | a::l,last=>by
  simp only[List.cons_append,YJ,KC x l,zJ];rw[show last+1+l.length+1=last+(l.length+1)+1 from by omega]
theorem zB3: ∀(n last:Nat),pps last (n+1)=pps last n++[pp (last+n+1)]
 | 0,last=>rfl
 | n+1,last=>by
  rw[pps,zB3 n (last+1),pps,List.cons_append,show last+1+n+1=last+(n+1)+1 from by omega]
theorem cU: ∀(n last:Nat),(pps last n).length=n
 | 0,_=>rfl
 | n+1,last=>by simp[pps,cU n (last+1)]
theorem VS: ∀ {vs:List (List AV)} {last:Nat} {kv:AV×AV},kv∈YJ last vs-> ∃l∈vs,kv.2= .agg l
 | [],_,_,h=>by simp[YJ]at h
 | l::vs,last,kv,h=>by
  rcases List.mem_cons.1 h with rfl | h
  ·exact⟨l,zC ..,rfl⟩
  ·obtain⟨l',h1,h2⟩:=VS h;exact⟨l',zA _ h1,h2⟩
theorem Ch.other {H0 H H':AH}{At Ac F:Nat}{fes:List (AV×AV)}{f:PN}{g:AV}{gl:List Ptr}{last0 last:Nat}{S:Nat->Prop}(h:Ch H0 H At Ac F fes f g gl last0 last)(s:Stp S H H')(hA: ¬S Ac)(hF: ¬S F)(hg: ∀B,Blk g B-> ¬S B)(hn: ∀kv∈fes,∀B,xJ kv.2 B-> ¬S B)(h0: ∀B,S B->H0.next<=B):Ch H0 H' At Ac F fes f g gl last0 last:=
 ⟨h.prs.fresh s h0,by rw[s.keep _ h.ltC hA];exact h.gC,by rw[s.keep _ h.ltF hF];exact h.gF,h.pf.frame fun kv hkv nd hn'=>hn'.stp s (hn kv hkv),h.gg.mono s hg,h.gN,h.gf,h.dC,h.dF,h.ne,h.fs,h.le,h.few,h.fd,h.fl⟩
theorem xZ.mem {H:AH} : ∀ {es:List (AV×AV)} {q:PN},xZ H es q-> ∀kv∈es,∃nd,y9 H kv.2 nd
 | [],[],_,_,hk=>by simp at hk
 | e::es,(t,nd)::q,hq,kv,hk=>by
  rcases List.mem_cons.1 hk with rfl | hk
  ·exact⟨nd,hq.1.2⟩
  ·exact xZ.mem hq.2 kv hk
 | [],_::_,h,_,_=>h.elim
 | _::_,[],h,_,_=>h.elim
theorem zJz {H:AH} : ∀ {vs:List (List AV)} {nds:List Nd.Node} {i:Nat} (_:Par H vs nds) (hi:i<nds.length),∃l nd,vs[i]? =some l/\nds[i]? =some nd/\l.length=4/\qN l=true/\y9 H (.agg l) nd/\(vs.flatten.drop (i*4)).take 4=l/\vs.take (i+1)=vs.take i++[l]/\nds.take (i+1)=nds.take i++[nd]
 | [],[],_,_,hi=>by simp at hi
 | l::vs,nd::nds,0,h,_=>⟨l,nd,rfl,rfl,h.1.1,h.1.2.1,h.1.2.2,by simp[List.take_append_of_le_length,h.1.1,zK],rfl,rfl⟩
 | k::vs,m::nds,i+1,h,hi=>by
  obtain⟨l,nd,h1,h2,h3,h4,h5,h6,h7,h8⟩:=zJz h.2 (by simpa using hi);refine⟨l,nd,h1,h2,h3,h4,h5, ?_,by simp[h7],by simp[h8]⟩;rw[List.flatten_cons,List.drop_append,show(i+1)*4 - k.length=i*4 from by rw[h.1.1];omega,zO (by rw[h.1.1];omega),List.nil_append];exact h6
 | [],_::_,_,h,_=>h.elim
 | _::_,[],_,h,_=>h.elim
theorem BK (D:Dyn)(n:Nat)(hn:200000000<=n){H0 H:AH}{At Ac F:Nat}{fes:List (AV×AV)}{f:PN}{g pv:AV}{gl:List Ptr}{last0 last:Nat}{vs:List (List AV)}{nds:List Nd.Node}(h:Ch H0 H At Ac F fes f g gl last0 last)
  (hp:Own 4 93 H pv nds.length vs.flatten) (hv:Par H vs nds) (hg: ∀l∈vs,∀B,xJ (.agg l) B-> ¬Blk g B) (hb:last+nds.length<=900000000) (hm:nds.length<=10000):
  ∃kv H',f94 D n [.ptr Ac 0,pv] H=some (kv,H')/\Ch H0 H' At Ac F (fes++YJ last vs) (f++kJ last nds) g gl last0 (last+nds.length)/\Adv Ac F H g H' g/\Own 3 59 H' kv nds.length ((pps last nds.length).flatMap y6)/\ ∀B,Blk kv B->H.next<=B:=by
 have hlen:=hv.len.1;have lp:=vB (b:=zFe D n) nds.length (fun i us H'=> ∃kv,us=[.ptr Ac 0,kv,pv, .int .i64 (nds.length:Nat), .int .i64 (i:Nat)]/\Ch H0 H' At Ac F (fes++YJ last (vs.take i)) (f++kJ last (nds.take i)) g gl last0 (last+i)/\Adv Ac F H g H' g/\
   Own 3 59 H' kv i ((pps last i).flatMap y6)/\ ∀B,Blk kv B->H.next<=B) (fun i us H' hi ⟨kv,hus,hc,ha,ho,hB⟩=>by
  subst hus;obtain⟨l,nd,v1,v2,ll,lc,hG,hfl,ht1,ht2⟩:=zJz hv hi;have hvl:i<vs.length:=by omega
  have hlm:l∈vs:=List.mem_of_getElem? v1;have hA:=h.next ⟨hG,hg l hlm⟩ ha
  have hp':Own 4 93 H' pv nds.length vs.flatten:=hp.mono ha.1 (fun B hB hx=>by
   have hgB:=hp.get hB;rcases hx with rfl | rfl | e
   ·rw[h.gC]at hgB;simp at hgB
   ·rw[h.gF]at hgB;simp at hgB
   ·rw[h.gg.get e]at hgB;simp at hgB)
  obtain⟨q,i1,i2⟩:=Rw.ldN hp'.row hi;rw[hfl]at i2;obtain⟨H1,A7,b1,p1,g1,m1,n1⟩:=box hc.prs.ok (.cells [.bool false, .nilSlice, .nilSlice, .nilSlice] 93 1 false);obtain⟨H2,e2,g2,s2,n2⟩:=yF p1.ok g1 (l':=l) ll lc;have e2':stN 4 (.ptr A7 0) (.agg l) H1=some (qM,H2):=e2;have p2:Prs H' H2:=p1.fresh s2 (fun B hB=>by omega);have hc2:=hc.step p2;obtain⟨H3,e3,hc3,ha3⟩:=zGP D n hc2 (hA.prs p2) (by omega);obtain⟨H4,A8,b4,p4,g4,m4,n4⟩:=box hc3.prs.ok (.cells (y6 (pp (last+i+1))) 59 3 false);have hc4:=hc3.step p4;have hsrc:srcOf 3 (.slice A8 0 1 2) H4=some (1,y6 (pp (last+i+1))):=by
   simp only[srcOf,g4];rfl
  have NH:=ha.1.next;have N2:=p2.next;have N3:=ha3.1.next;have N4:=p4.next
  have hkg: ∀B,Blk kv B-> ¬Blk g B:=fun B hB' hgB=>by have:=hB B hB';have:=Rw.blk h.gg.row hgB;omega
  have ho4:Own 3 59 H4 kv i ((pps last i).flatMap y6):=((ho.mono p2 (fun _ _ x=>x)).mono ha3.1 (fun B hB' hx=>by
   rcases hx with rfl | rfl | e
   ·have:=hB _ hB';have:=h.ltC;omega
   ·have:=hB _ hB';have:=h.ltF;omega
   ·exact hkg B hB' e)).mono p4 (fun _ _ x=>x)
  obtain⟨H5,e5,o5,s5,n5⟩:=YF (bytes:=24) hc4.prs.ok (by decide) ho4 hsrc rfl rfl (by omega) (by omega) (by decide);have hc5:=hc4.other s5 (fun hx=>by have:=hB _ hx;have:=h.ltC;omega) (fun hx=>by have:=hB _ hx;have:=h.ltF;omega) (fun B hgB hx=>hkg B hx hgB) (fun e he B hBe hx=>by
   have hlt:B<H.next:=by
    rcases List.mem_append.1 he with he | he
    ·rcases List.mem_append.1 he with he | he
     ·obtain⟨nd2,hn2⟩:=h.pf.mem e he;exact hn2.lt hBe
     ·obtain⟨l2,hl2,e2⟩:=VS he;obtain⟨nd2,hn2⟩:=hv.mem (List.mem_of_mem_take hl2);rw[e2]at hBe;exact hn2.lt hBe
    ·simp only[List.mem_singleton]at he;subst he;exact hG.lt hBe
   have:=hB B hx;omega) (fun B hx=>by have:=hB B hx;have:=h.prs.next;omega)
  have a05:Adv Ac F H g H5 g:=by
   have a3:Adv Ac F H g H4 g:=((ha.trans h.ltC h.ltF (Adv.prs g p2)).trans h.ltC h.ltF ha3).trans h.ltC h.ltF (Adv.prs g p4);refine⟨⟨s5.ok,by have:=s5.next;omega,fun B hB' hS=> ?_⟩,fun B hB'=> .inl hB'⟩
   rw[s5.keep B (by omega) (fun hx=>by have:=hB B hx;omega)];exact a3.1.keep B hB' hS
  refine⟨_,H5, ?_, .slice H4.next 0 (i+1) 1,rfl, ?_,a05, ?_,fun B hB'=>by rw[Blk.slice.1 hB'];omega⟩
  ·have hiI:((i:Nat):Int)< ((nds.length:Nat):Int):=by omega
   have e1:=bldP 59 (pp (last+i+1)) [.int .i64 ((0:Nat):Int), .int .i64 ((0:Nat):Int), .int .u64 ((0:Nat):Int)] rfl;simp(maxSteps:=999999)(disch:=omega) only[zFe,eZ,hiI,i1,i2,b1,e2',xY g2 ll,e3,e1,b4,e5,Int.natCast_add]
  ·rw[ht1,ht2,KC,KA,zH,zH,Nat.min_eq_left (by omega),Nat.min_eq_left (by omega),<-List.append_assoc,<-List.append_assoc];exact hc5
  ·rw[zB3];simpa using o5) n [.ptr Ac 0, .nilSlice,pv, .int .i64 (nds.length:Nat), .int .i64 ((0:Nat):Int)] H ⟨.nilSlice,rfl,by simpa[YJ,kJ]using h,Adv.prs g (Prs.refl h.prs.ok),Own.nil ..,fun B hB=>(Blk.nil.1 hB).elim⟩ (by omega)
 obtain⟨m,us,H',e,kv,rfl,hc,ha,ho,hB⟩:=lp;rw[q9]at hc;rw[<-hlen,q9,hlen]at hc;refine⟨kv,H', ?_,hc,ha,ho,hB⟩;have last:qW (m+1) (zFe D n) [.ptr Ac 0,kv,pv, .int .i64 (nds.length:Nat), .int .i64 (nds.length:Nat)] H'=some (.exit 0 [kv],H'):=qY (by simp only[zFe,eZ,qA]);simp only[f94,eZ,hp.row.lnSl,e,last,zNv]
end Go.Eng.Sh
end
section
namespace Go.Bt
open Go.Nd (Str Kvs Ptr lookP putP delP Srt qP mayK rising yH cutA fT gL shaped)
open Go.Eng (ltS)
def wD {α:Type}(Q:Ptr->Option Nd.Node)(R:Nd.Node->α->List Ptr->Prop):List Ptr->List α->List Ptr->Prop
 | [],[],S=>S=[]
 | p::ps,t::ts,S=> ∃nd S1 S2,Q p=some nd/\R nd t S1/\wD Q R ps ts S2/\S=p::(S1++S2)
 | _,_,_=>False
def jF (Q:Ptr->Option Nd.Node):(h:Nat)->Nd.Node->Tr h->List Ptr->Prop
 | 0,nd,l,S=>nd=qP l/\S=[]
 | h+1,nd,t,S=>nd.leaf=false/\nd.keys=t.1/\nd.vals=[]/\wD Q (jF Q h) nd.kids t.2 S
theorem wD.len {α:Type}{Q:Ptr->Option Nd.Node}{R:Nd.Node->α->List Ptr->Prop} : ∀ {ps:List Ptr} {ts:List α} {S:List Ptr},wD Q R ps ts S->ps.length=ts.length
 | [],[],_,_=>rfl
 | _::ps,_::ts,_,⟨_,_,_,_,_,h,_⟩=>by simp[wD.len h]
 | [],_::_,_,h=>h.elim
 | _::_,[],_,h=>h.elim
theorem wD.app {α:Type}{Q:Ptr->Option Nd.Node}{R:Nd.Node->α->List Ptr->Prop}{ps':List Ptr}{ts':List α}{S':List Ptr}(h':wD Q R ps' ts' S'): ∀ {ps:List Ptr} {ts:List α} {S:List Ptr},wD Q R ps ts S->wD Q R (ps++ps') (ts++ts') (S++S')
 | [],[],_,h=>by subst h;exact h'
 | p::ps,t::ts,_,⟨nd,S1,S2,a,b,c,e⟩=>⟨nd,S1,S2++S',a,b,wD.app h' c,by rw[e];simp⟩
 | [],_::_,_,h=>h.elim
 | _::_,[],_,h=>h.elim
theorem wD.split {α:Type}{Q:Ptr->Option Nd.Node}{R:Nd.Node->α->List Ptr->Prop} : ∀(k:Nat) {ps:List Ptr} {ts:List α} {S:List Ptr},wD Q R ps ts S-> ∃S1 S2,wD Q R (ps.take k) (ts.take k) S1/\wD Q R (ps.drop k) (ts.drop k) S2/\S=S1++S2
 | 0,ps,ts,S,h=>⟨[],S,by simp[wD],h,rfl⟩
 | k+1,[],[],_,h=>⟨[],[],by simp[wD],by simp[wD],by subst h;rfl⟩
 | k+1,p::ps,t::ts,_,⟨nd,S1,S2,a,b,c,e⟩=>by
  obtain⟨T1,T2,d1,d2,rfl⟩:=wD.split k c;exact⟨p::(S1++T1),T2,⟨nd,S1,T1,a,b,d1,rfl⟩,d2,by rw[e];simp⟩
 | _+1,[],_::_,_,h=>h.elim
 | _+1,_::_,[],_,h=>h.elim
theorem wD.at {α:Type}{Q:Ptr->Option Nd.Node}{R:Nd.Node->α->List Ptr->Prop}{i:Nat}{ps:List Ptr}{ts:List α}{S:List Ptr}(h:wD Q R ps ts S){t:α}(ht:ts[i]? =some t):
  ∃p nd Sa Si Sb,ps[i]? =some p/\Q p=some nd/\R nd t Si/\wD Q R (ps.take i) (ts.take i) Sa/\wD Q R (ps.drop (i+1)) (ts.drop (i+1)) Sb/\S=Sa++(p::Si++Sb):=by
 obtain⟨Sa,S2,h1,h2,rfl⟩:=h.split i;obtain⟨hi,rfl⟩:=List.getElem?_eq_some_iff.1 ht;have hl:=h.len;rw[zL hi,zL (show i<ps.length by omega)]at h2;obtain⟨nd,Si,Sb,a,b,c,rfl⟩:=h2;exact⟨_,nd,Sa,Si,Sb,zB (by omega),a,b,h1,c,by simp⟩
theorem wD.mono {α:Type}{Q Q':Ptr->Option Nd.Node}{R R':Nd.Node->α->List Ptr->Prop} : ∀ {ps:List Ptr} {ts:List α} {S:List Ptr},wD Q R ps ts S->(∀p∈S,∀nd,Q p=some nd->Q' p=some nd)->(∀nd t S1,(∀p∈S1,p∈S)->R nd t S1->R' nd t S1)->wD Q' R' ps ts S
 | [],[],_,h,_,_=>h
 | p::ps,t::ts,_,⟨nd,S1,S2,a,b,c,e⟩,hq,hr=>by
  subst e;refine⟨nd,S1,S2,hq p (zC ..) nd a,hr nd t S1 (fun p hp=>zA _ (zY _ hp)) b,wD.mono c (fun p hp=>hq p (zA _ (qB _ hp))) (fun nd t S1 hs=>hr nd t S1 fun p hp=>zA _ (qB _ (hs p hp))),rfl⟩
 | [],_::_,_,h,_,_=>h.elim
 | _::_,[],_,h,_,_=>h.elim
theorem jF.mono {Q Q':Ptr->Option Nd.Node} : ∀ {h:Nat} {nd:Nd.Node} {t:Tr h} {S:List Ptr},jF Q h nd t S->(∀p∈S,∀nd,Q p=some nd->Q' p=some nd)->jF Q' h nd t S
 | 0,_,_,_,w,_=>w
 | h+1,_,_,_,w,hq=>⟨w.1,w.2.1,w.2.2.1,w.2.2.2.mono hq fun nd t S1 hs hr=>jF.mono hr fun p hp=>hq p (hs p hp)⟩
theorem wD.kids {α:Type}{Q:Ptr->Option Nd.Node}{R:Nd.Node->α->List Ptr->Prop} : ∀ {ps:List Ptr} {ts:List α} {S:List Ptr},wD Q R ps ts S-> ∀p∈ps,p∈S
 | [],[],_,_=>by simp
 | q::ps,_::ts,_,⟨nd,S1,S2,_,_,c,e⟩=>fun p hp=>by
  subst e;rcases List.mem_cons.1 hp with rfl | hp
  ·exact zC ..
  ·exact zA _ (qB _ (wD.kids c p hp))
 | [],_::_,_,h=>h.elim
 | _::_,[],_,h=>h.elim
theorem jF.size {Q:Ptr->Option Nd.Node}{h:Nat}{nd:Nd.Node}{t:Tr h}{S:List Ptr}(w:jF Q h nd t S):Nd.size nd=j9 h t:=by
 cases h with
 | zero=>obtain⟨rfl,_⟩:=w;rfl
 | succ h=>
  obtain⟨_,w2,w3,w4⟩:=w;simp only[Nd.size,j9,jH,w2,w3,w4.len,sumL_nil];omega
theorem jF.leaf {Q:Ptr->Option Nd.Node}{h:Nat}{nd:Nd.Node}{t:Tr h}{S:List Ptr}(w:jF Q h nd t S):nd.leaf=decide (h=0):=by
 cases h with
 | zero=>obtain⟨rfl,_⟩:=w;rfl
 | succ h=>rw[w.1];simp
theorem jF.shaped {Q:Ptr->Option Nd.Node}{h:Nat}{nd:Nd.Node}{t:Tr h}{S:List Ptr}{lo hi:Bd}(w:jF Q h nd t S)(g:Gen h lo hi t)(hne:0<h->nd.keys≠[])(hk: ∀p∈S,Nd.kidOk p=true):shaped ltS nd=true:=by
 cases h with
 | zero=>
  obtain⟨rfl,_⟩:=w;exact Nd.leaf_shaped g.1 fun p hp=>(g.2 p hp).2.2
 | succ h=>
  obtain⟨w1,w2,w3,w4⟩:=w;obtain⟨g1,g2,g3⟩:=g;have hl:=g3.len;simp only[Nd.shaped,w1,Bool.false_eq_true,if_false,z8,zF,List.all_eq_true];refine⟨⟨fun k hk=> ?_,by rw[w2];exact g2⟩,⟨⟨hne (by omega),w3⟩,by rw[w4.len,hl,w2]⟩,fun p hp=>hk p (w4.kids p hp)⟩;rw[w2]at hk;exact(g1 k hk).1
def zC2 (Q:Ptr->Option Nd.Node)(h:Nat):List Nd.Node->List (Tr h)->List Ptr->Prop
 | [],[],S=>S=[]
 | nd::nds,t::ts,S=> ∃S1 S2,jF Q h nd t S1/\zC2 Q h nds ts S2/\S=S1++S2
 | _,_,_=>False
theorem zC2.len {Q:Ptr->Option Nd.Node}{h:Nat} : ∀ {nds:List Nd.Node} {ts:List (Tr h)} {S:List Ptr},zC2 Q h nds ts S->nds.length=ts.length
 | [],[],_,_=>rfl
 | _::nds,_::ts,_,⟨_,_,_,h,_⟩=>by simp[zC2.len h]
 | [],_::_,_,h=>h.elim
 | _::_,[],_,h=>h.elim
theorem zCz (l:Kvs)(k:Nat):Nd.size (cutA (qP l) k)=jC (l.take k):=by
 simp[cutA,qP,jC,Nd.size]
theorem zId {l:Kvs}{k:Nat}(hk:Nd.cutOk (qP l) k)(hb:Go.Eng.Sh.hbnd (qP l) k):zMp 0 l (l.take k) ((qP l).keys.getD k []) (l.drop k)/\cutA (qP l) k=qP (l.take k)/\fT (qP l) k=qP (l.drop k):=by
 obtain⟨k1,k2⟩:=hk;obtain⟨b1,b2⟩:=hb;have e0:(qP l).keys=l.map Prod.fst:=rfl;simp only[show(qP l).leaf=true from rfl,if_true,e0,qG]at k2 b2;rw[zCz]at b1 b2;refine⟨⟨k,⟨k1,k2,b1,b2⟩,rfl,rfl,rfl⟩, ?_, ?_⟩
 ·simp[cutA,qP]
 ·simp[fT,qP]
theorem jF.cut {Q:Ptr->Option Nd.Node}{h:Nat}{nd:Nd.Node}{t:Tr h}{S:List Ptr}{lo hi:Bd}{k:Nat}(w:jF Q h nd t S)(g:Gen h lo hi t)(hk:Nd.cutOk nd k)(hb:Go.Eng.Sh.hbnd nd k):
  ∃ta tb Sa Sb,zMp h t ta (nd.keys.getD k []) tb/\jF Q h (cutA nd k) ta Sa/\jF Q h (fT nd k) tb Sb/\S=Sa++Sb:=by
 obtain⟨k1,k2⟩:=hk;obtain⟨b1,b2⟩:=hb;have hz:=w.size
 cases h with
 | zero=>
  obtain⟨rfl,rfl⟩:=w;obtain⟨c1,c2,c3⟩:=zId ⟨k1,k2⟩ ⟨b1,b2⟩;exact⟨_,_,[],[],c1,⟨c2,rfl⟩,⟨c3,rfl⟩,rfl⟩
 | succ h=>
  obtain⟨w1,w2,w3,w4⟩:=w;obtain⟨Sa,Sb,r1,r2,rfl⟩:=w4.split (k+1);have hl:=g.2.2.len;have hkl:=w4.len;simp only[w1,Bool.false_eq_true,if_false,w2]at k2 b2;have sz: ∀j,j<=t.1.length->Nd.size (cutA nd j)=jH (t.1.take j) (j+1):=fun j hj=>by
   simp only[cutA,w1,Bool.false_eq_true,if_false,Nd.size,jH,w2,zH,sumL_nil];rw[hkl,hl,Nat.min_eq_left (by omega)];omega
  have hm2:min (h+1+1) 2=2:=by omega
  refine⟨(t.1.take k,t.2.take (k+1)),(t.1.drop (k+1),t.2.drop (k+1)),Sa,Sb,⟨k,⟨k1, ?_, ?_, ?_⟩,rfl,by rw[w2],rfl⟩, ?_, ?_,rfl⟩
  ·simp only[YT,hm2];exact k2
  ·rcases b1 with b1 | b1
   ·exact .inl b1
   ·rw[sz k (by omega),hz]at b1;exact .inr b1
  ·rcases b2 with b2 | b2
   ·exact .inl (by simp only[YT,hm2];exact b2)
   ·rw[sz (k+1) (by omega),hz]at b2;exact .inr b2
  ·simp only[jF,cutA,w1,Bool.false_eq_true,if_false,w2,true_and];exact r1
  ·simp only[jF,fT,w1,Bool.false_eq_true,if_false,w2,true_and];exact r2
theorem XA {Q:Ptr->Option Nd.Node}{h:Nat}{nd:Nd.Node}{nds:List Nd.Node}{ss:List Str}(hc:Go.Eng.Sh.CutsN nd nds ss): ∀ {t:Tr h} {S:List Ptr} {lo hi:Bd},jF Q h nd t S->WX h lo hi t-> ∃ts,Cuts h t ts ss/\zC2 Q h nds ts S:=by
 induction hc with
 | one hz=>
  intro t S lo hi w _;exact⟨[t], .one (by rw[<-w.size];exact hz),S,[],w,rfl,by simp⟩
 | @more nd k ps ss hz hk hb _ ih=>
  intro t S lo hi w hx;have hz':500<j9 h t:=by rw[<-w.size];exact hz
  obtain⟨ta,tb,Sa,Sb,c1,c2,c3,rfl⟩:=w.cut hx.gen hk hb;obtain⟨_,wb,_⟩:=zGm hx hz' c1;obtain⟨ts,d1,d2⟩:=ih c3 wb;exact⟨ta::ts, .more hz' c1 d1,Sa,Sb,c2,d2,rfl⟩
theorem zC2.kids {Q:Ptr->Option Nd.Node}{h:Nat} : ∀ {nds:List Nd.Node} {ts:List (Tr h)} {S:List Ptr} (last:Nat),zC2 Q h nds ts S->(∀i nd,nds[i]? =some nd->Q (Go.Eng.Sh.pp (last+1+i))=some nd)->
  ∃S',wD Q (jF Q h) (Go.Eng.Sh.pps last nds.length) ts S'/\S'.Perm (Go.Eng.Sh.pps last nds.length++S)
 | [],[],S,last,h,_=>⟨[],rfl,by subst h;exact List.Perm.refl _⟩
 | nd::nds,t::ts,_,last,⟨S1,S2,w,hp,e⟩,hq=>by
  subst e;obtain⟨S',r,pm⟩:=zC2.kids (last+1) hp fun i n hi=>by
   have:=hq (i+1) n (by simpa using hi);rwa[show last+1+(i+1)=last+1+1+i from by omega]at this
  refine⟨Go.Eng.Sh.pp (last+1)::(S1++S'),⟨nd,S1,S',hq 0 nd rfl,w,r,rfl⟩, ?_⟩;simp only[zJ,Go.Eng.Sh.pps,List.cons_append];refine List.Perm.cons _ ?_;have:(S1++S').Perm (S1++(Go.Eng.Sh.pps (last+1) nds.length++S2)):=List.Perm.append_left _ pm;refine this.trans ?_;rw[<-List.append_assoc,<-List.append_assoc];exact List.Perm.append_right _ List.perm_append_comm
 | [],_::_,_,_,h,_=>h.elim
 | _::_,[],_,_,h,_=>h.elim
theorem jF.join {Q:Ptr->Option Nd.Node}{h:Nat}{a b:Nd.Node}{ta tb:Tr h}{Sa Sb:List Ptr}(wa:jF Q h a ta Sa)(wb:jF Q h b tb Sb)(s:Str):jF Q h (gL a s b) (dQ h ta s tb) (Sa++Sb):=by
 cases h with
 | zero=>
  obtain⟨rfl,rfl⟩:=wa;obtain⟨rfl,rfl⟩:=wb;have key: ∀a b:Kvs,gL (qP a) s (qP b)=qP (a++b):=fun a b=>by simp[gL,qP]
  exact⟨key ta tb,rfl⟩
 | succ h=>
  obtain⟨a1,a2,a3,a4⟩:=wa;obtain⟨b1,b2,b3,b4⟩:=wb;simp only[jF,gL,a1,Bool.false_eq_true,if_false,dQ,a2,b2,true_and];exact wD.app b4 a4
theorem zBo {Q:Ptr->Option Nd.Node}{h:Nat}{a b:Nd.Node}{ta tb:Tr h}{Sa Sb:List Ptr}{lo hi:Bd}{s:Str}(wa:jF Q h a ta Sa)(wb:jF Q h b tb Sb)(ga:Gen h lo (some s) ta)(gb:Gen h (some s) hi tb)(hs:mayK s=true)(na:0<h->a.keys≠[])(nb:0<h->b.keys≠[])
  (ka: ∀p∈Sa,Nd.kidOk p=true) (kb: ∀p∈Sb,Nd.kidOk p=true):Go.Eng.Sh.joinOk a s b=true:=by
 have h1:=wa.shaped ga na ka;have h2:=wb.shaped gb nb kb;simp only[Go.Eng.Sh.joinOk,h1,h2,Bool.true_and,Nd.partedN,hs,wa.leaf,wb.leaf,beq_self_eq_true];have gl: ∀(l:List Str),l.length≠0->l.getD (l.length - 1) []∈l:=fun l hl=>by
  rw[zE,zB (by omega)];exact zU _
 have g0: ∀(l:List Str),l.length≠0->l.getD 0 []∈l:=fun l hl=>by
  rw[zE,zB (by omega)];exact zU _
 cases h with
 | zero=>
  obtain⟨rfl,_⟩:=wa;obtain⟨rfl,_⟩:=wb;simp only[z8,Bool.or_eq_true,zF];refine⟨?_, ?_⟩
  ·by_cases e:(qP (ta:Kvs)).keys.length=0
   ·exact .inl e
   ·refine .inr ?_;have:=gl _ e;obtain⟨p,hp,he⟩:=List.mem_map.1 this;rw[<-he];exact(ga.2 p hp).2.1
  ·by_cases e:(qP (tb:Kvs)).keys.length=0
   ·exact .inl (.inl e)
   ·have:=g0 _ e;obtain⟨p,hp,he⟩:=List.mem_map.1 this;rw[<-he];rcases(gb.2 p hp).1 with e | e
    ·exact .inr ⟨trivial,e⟩
    ·exact .inl (.inr e)
 | succ h=>
  simp only[z8,Bool.or_eq_true,zF];refine⟨.inr ?_, .inl (.inr ?_)⟩
  ·have hm:=gl a.keys (fun e=>na (by omega) (zG e));rw[wa.2.1]at hm⊢;exact(ga.1 _ hm).2.2
  ·have hm:=g0 b.keys (fun e=>nb (by omega) (zG e));rw[wb.2.1]at hm⊢;exact(gb.1 _ hm).2.1
end Go.Bt
end
section
namespace Go.Eng
theorem zJc {A off len cc sz room:Nat}{lo hi mx:Option Nat}{r:AV}(h:aO A off len cc sz room lo hi mx=some r): ∀B,Blk r B->B=A:=by
 intro B hB;unfold aO at h;simp only[yE]at h;split at h
 ·split at h
  ·rw[cond_eq_ite]at h;split at h
   ·simp only[z7]at h;subst h;exact Blk.slice.1 hB
   ·cases h
  ·cases h
 ·rw[cond_eq_ite]at h;split at h
  ·rw[cond_eq_ite]at h;split at h
   ·simp only[z7]at h;subst h;exact Blk.slice.1 hB
   ·rw[cond_eq_ite]at h;split at h
    ·simp only[z7]at h;subst h;exact Blk.slice.1 hB
    ·rw[cond_eq_ite]at h;split at h
     ·simp only[z7]at h;subst h;exact Blk.slice.1 hB
     ·simp only[z7]at h;subst h;obtain⟨_,_,_,hB⟩:=hB;cases hB
  ·cases h
theorem zAX {sz:Nat}{v:AV}{lo hi mx:Option AV}{H:AH}{r:AV}(h:j8 sz v lo hi mx H=some r): ∀B,Blk r B->Blk v B:=by
 intro B hB;unfold j8 at h;split at h
 ·split at h
  ·rw[cond_eq_ite]at h;split at h
   ·simp only[z7]at h;subst h;exact hB
   ·cases h
  ·split at h
   ·rw[cond_eq_ite]at h;split at h
    ·rw[zJc h B hB];exact⟨_,_,_,rfl⟩
    ·cases h
   ·cases h
  ·split at h
   ·rw[cond_eq_ite]at h;split at h
    ·simp only[z7]at h;subst h;obtain⟨_,_,_,hB⟩:=hB;cases hB
    ·cases h
   ·cases h
  ·cases h
 ·cases h
end Go.Eng
namespace Go.Eng.Sh
open Go.Nd (Ptr yH)
theorem hi3 {H:AH}{v:AV}{l:List Ptr}(h:j7 3 59 H v l.length (l.flatMap y6)){i:Nat}(hi:i<=l.length):
  ∃r,j8 3 v none (some (.int .i64 (i:Nat))) (some (.int .i64 (i:Nat))) H=some r/\uP H r (l.take i):=by
 obtain⟨r,e1,w,_⟩:=KN h (by decide) hi .i64 .i64;rw[Y0]at w;have hlen:(l.take i).length=i:=by rw[zH];omega
 exact⟨r,e1,by rw[uP,hlen];exact w⟩
theorem lo3 {H:AH}{v:AV}{l:List Ptr}(h:j7 3 59 H v l.length (l.flatMap y6)){i:Nat}(hi:i<=l.length)(h0:0<l.length):
  ∃r,j8 3 v (some (.int .i64 (i:Nat))) none none H=some r/\uP H r (l.drop i):=by
 by_cases hlt:i<l.length
 ·obtain⟨r,e1,w,_⟩:=slSl_lo h (by decide) hlt .i64;rw[Y1]at w;have hlen:(l.drop i).length=l.length - i:=by rw[zN]
  exact⟨r,e1,by rw[uP,hlen];exact w⟩
 ·obtain rfl:i=l.length:=by omega
  obtain⟨r,e1,w⟩:=ZE h (by decide) h0 .i64;exact⟨r,e1,by rw[List.drop_length];exact w⟩
theorem conP3 (D:Dyn)(n:Nat){H:AH}{A cc:Nat}{x y z:AV}{l m k:List Ptr}(hk:H.ok)(hg:H.h.get A=some (.cells [x,y,z] 91 1 false))(h1:uP H x l)(h2:uP H y m)(h3:uP H z k)(hb:l.length+m.length+k.length<=1000000000)(hn:100<=n):
  ∃w H',f93 D n [.slice A 0 3 cc] H=some (w,H')/\Prs H H'/\Own 3 59 H' w (l++(m++k)).length ((l++(m++k)).flatMap y6)/\ ∀B,Blk w B->H.next<=B:=by
 obtain⟨w,H',e,p,o,f⟩:=zGx D n hk (v:= .slice A 0 3 cc) (vs:=[x,y,z]) (rs:=[(l.length,l.flatMap y6),(m.length,m.flatMap y6),(k.length,k.flatMap y6)]) (Rw.lit hk hg) ⟨⟨h1,xI _⟩,⟨h2,xI _⟩,⟨h3,xI _⟩,trivial⟩ (by simp[vK];omega) (by simp) (by simp;omega)
  (fun B hB=>by rw[Blk.slice.1 hB];exact hk.lt hg) (fun z hz B hB=>by
   simp only[List.mem_cons,List.not_mem_nil,or_false]at hz;rcases hz with rfl | rfl | rfl
   ·exact Rw.blk h1 hB
   ·exact Rw.blk h2 hB
   ·exact Rw.blk h3 hB)
 exact⟨w,H',e,p,by simpa[vK,zCK]using o,f⟩
theorem zKW (D:Dyn)(n:Nat)(hn:200000000<=n){H0 H:AH}{At Ac F A5 A7 A8 i m:Nat}{fes:List (AV×AV)}{f:PN}{g:AV}{gl:List Ptr}{last0 last:Nat}{ln lk:List AV}{nd kd:Nd.Node}
  (h:Ch H0 H At Ac F fes f g gl last0 last) (g5:H.h.get A5=some (.cells ln 93 1 false)) (g7:H.h.get A7=some (.cells lk 93 1 false)) (g8:H.h.get A8=some (.cells [.bool false, .nilSlice, .nilSlice, .nilSlice] 93 1 false))
  (hA5:H0.next<=A5) (hA7:H0.next<=A7) (hA8:H0.next<=A8) (h58:A5≠A8) (h5c:A5≠Ac) (h8c:A8≠Ac)
  (hv:kC H g (.agg ln) nd) (hkd:kC H g (.agg lk) kd) (hsk:Nd.shaped ltS kd=true) (hz:Nd.size kd<=10000) (hs:small nd) (hkl:nd.kids.length=nd.keys.length+1) (hne:nd.keys≠[]) (him:i+m<nd.kids.length)
  (hlim: ∀nds ss,CutsN kd nds ss->nds.length<=1000/\ss.length<=1000) (hb:last<=800000000):
  ∃u H' nds ss vs,zFs D n [.ptr Ac 0, .ptr A5 0, .ptr A7 0, .ptr A8 0, .int .i64 (i:Nat), .int .i64 ((i+m+1:Nat):Int)] H=some (.ret (.tuple [u, .int .i64 ((0:Nat):Int)]),H')/\CutsN kd nds ss/\
   Ch H0 H' At Ac F (fes++YJ last vs) (f++kJ last nds) g gl last0 (last+nds.length)/\Stp (fun B=>chg Ac F g B\/B=A8) H H'/\
   kC H' g u ⟨false,nd.keys.take i++(ss++nd.keys.drop (i+m)),[],nd.kids.take i++(pps last nds.length++nd.kids.drop (i+m+1))⟩/\ ∀B,xJ u B->H.next<=B:=by
 obtain⟨ks,vs0,ps,hln,k1,k2,k3⟩:=id hv.1;simp only[AV.agg.injEq]at hln;subst hln;have hll:lk.length=4:=by obtain⟨_,_,_,e,_⟩:=hkd.1;simp only[AV.agg.injEq]at e;rw[e];rfl
 have hkeys:0<nd.keys.length:=by
  rcases Nat.eq_zero_or_pos nd.keys.length with e | e
  ·exact absurd (zG e) hne
  ·exact e
 obtain⟨s1,s2,s3⟩:=hs;have hkl1:=Nd.sumL_ge nd.keys;obtain⟨pv,sv,H1,vs,nds,ss,e1,p1,hcut,oP,hpar,oS,bP,bS,bvs⟩:=UQ D n hn h.prs.ok hkd.1 hsk hz;obtain⟨c1,c2⟩:=hlim nds ss hcut;have h1:=h.step p1;have G5 {Hx:AH} (p:Prs H Hx):=Prs.get p h.prs.ok g5;have q1 {Hx:AH} (p:Prs H Hx):j7 1 9 Hx ks nd.keys.length (nd.keys.map S):=k1.mono p (fun _ _ x=>x);have q3 {Hx:AH} (p:Prs H Hx):j7 3 59 Hx ps nd.kids.length (nd.kids.flatMap y6):=k3.mono p (fun _ _ x=>x);obtain⟨r1,c1',x1⟩:=hi1 (q1 p1) (i:=i) (by omega);obtain⟨r2,c2',x2⟩:=lo1 (q1 p1) (i:=i+m) (by omega) hkeys;obtain⟨H2,A2,b2,p2,g2,m2,n2⟩:=box p1.ok (.cells [r1,sv,r2] 90 1 false);have P2:=p1.trans p2;obtain⟨r3,c3',x3⟩:=hi3 (q3 P2) (i:=i) (by omega);obtain⟨r4,c4',x4⟩:=lo3 (q3 P2) (i:=i+m+1) (by omega) (by omega);have hss:Strs H2 sv ss:=(oS.mono p2 (fun _ _ x=>x)).row;obtain⟨w3,H3,e3,p3,o3,f3⟩:=zOk D n (cc:=6) p2.ok g2 (x1.prs p2) hss (x2.prs p2) (by simp only[zH,zN];omega) (by omega);have P3:=P2.trans p3;have h3:=h.step P3;have N1:=p1.next;have N2:=p2.next;have N3:=p3.next
 obtain⟨kv,H4,e4,h4,a4,o4,f4⟩:=BK D n hn h3 (oP.mono (p2.trans p3) (fun _ _ x=>x)) (hpar.frame fun l hl nd hg=>hg.prs (p2.trans p3)) (fun l hl B hB hgB=>by
  rcases bvs l hl B hB with e | e
  ·exact hkd.2 B e hgB
  ·have:=Rw.blk h.gg.row hgB;omega) (by omega) (by omega)
 have hv3:kC H3 g (.agg [.bool nd.leaf,ks,vs0,ps]) nd:=hv.prs P3;have hv4:=h3.next hv3 a4
 obtain⟨ks',vs',ps',ee,j1,j2,j3⟩:=id hv4.1;simp only[AV.agg.injEq,List.cons.injEq,and_true,true_and]at ee;obtain⟨rfl,rfl,rfl⟩:=ee;have nb3: ∀B,Blk ps B-> ¬chg Ac F g B:=fun B hB hc=>by
  have hB':xJ (.agg [.bool nd.leaf,ks,vs0,ps]) B:=kB.2 (.inr (.inr hB));rcases hc with rfl | rfl | e
  ·exact hv3.1.nblk h3.gC (.inl ⟨_,_,_,_,rfl,fun _ _ e=>by cases e⟩) hB'
  ·exact hv3.1.nblk h3.gF (.inr (.inl ⟨_,_,rfl⟩)) hB'
  ·exact hv3.2 B hB' e
 have y3:uP H4 r3 (nd.kids.take i):=Rw.stp (x3.prs p3) a4.1 (fun B hB=>nb3 B (zAX c3' B hB));have y4:uP H4 r4 (nd.kids.drop (i+m+1)):=Rw.stp (x4.prs p3) a4.1 (fun B hB=>nb3 B (zAX c4' B hB));obtain⟨H5,A9,b5,p5,gg5,m5,n5⟩:=box h4.prs.ok (.cells [r3,kv,r4] 91 1 false);have okv:uP H5 kv (pps last nds.length):=by
  have:=(o4.mono p5 (fun _ _ x=>x)).row;rw[uP,cU];exact this
 obtain⟨w6,H6,e6,p6,o6,f6⟩:=conP3 D n (cc:=6) p5.ok gg5 (y3.prs p5) okv (y4.prs p5) (by rw[cU];simp only[zH,zN];omega) (by omega);have p46:Prs H4 H6:=p5.trans p6;have h6:=h4.step p46;have N4:=a4.1.next;have N6:=p46.next;have N0:=h.prs.next
 have lt8:A8<H.next:=h.prs.ok.lt g8
 have lt5:A5<H.next:=h.prs.ok.lt g5
 have n8: ¬chg Ac F g A8:=fun hc=>by
  rcases hc with e | e | e
  ·exact h8c e
  ·rw[e,h.gF]at g8;cases g8
  ·rw[h.gg.get e]at g8;simp at g8
 have n5': ¬chg Ac F g A5:=fun hc=>by
  rcases hc with e | e | e
  ·exact h5c e
  ·rw[e,h.gF]at g5;cases g5
  ·rw[h.gg.get e]at g5;simp at g5
 have g86:H6.h.get A8=some (.cells [.bool false, .nilSlice, .nilSlice, .nilSlice] 93 1 false):=by
  rw[p46.keep _ (by omega) (fun x=>x),a4.1.keep _ (by omega) n8];exact Prs.get P3 h.prs.ok g8
 have g54:H4.h.get A5=some (.cells [.bool nd.leaf,ks,vs0,ps] 93 1 false):=by rw[a4.1.keep _ (by omega) n5'];exact G5 P3
 have o36:Own 1 9 H6 w3 (nd.keys.take i++(ss++nd.keys.drop (i+m))).length ((nd.keys.take i++(ss++nd.keys.drop (i+m))).map S):=(o3.mono a4.1 (fun B hB hc=>by
  have:=f3 B hB;rcases hc with e | e | e
  ·have:=h.ltC;omega
  ·have:=h.ltF;omega
  ·have:=Rw.blk h.gg.row e;omega)).mono p46 (fun _ _ x=>x)
 obtain⟨H7,e7,g77,s7,n7⟩:=yF h6.prs.ok g86 (l':=[.bool false,w3, .nilSlice,w6]) rfl (by simp only[qN,o36.row.isCell,o6.row.isCell];rfl);have e7':stN 4 (.ptr A8 0) (.agg [.bool false,w3, .nilSlice,w6]) H6=some (qM,H7):=e7;have n8': ∀B,Blk g B-> ¬B=A8:=fun B hB e=>n8 (.inr (.inr (e▸hB)))
 have h7:Ch H0 H7 At Ac F (fes++YJ last vs) (f++kJ last nds) g gl last0 (last+nds.length):=h6.other s7 (fun e=>h8c e.symm) (fun e=>n8 (.inr (.inl e.symm))) n8' (fun kv' hkv B hB e=>by
  subst e;obtain⟨nd2,hn2⟩:=h6.pf.mem kv' hkv;exact hn2.nblk g86 (.inl ⟨_,_,_,_,rfl,fun _ _ e=>by cases e⟩) hB) (fun B hB=>by omega)
 have hi2:j8 1 ks (some (.int .i64 ((i+m:Nat):Int))) none none H1=some r2:=c2';have hsub:((i+m+1:Nat):Int) - ((1:Nat):Int)=((i+m:Nat):Int):=by omega
 refine⟨.agg [.bool false,w3, .nilSlice,w6],H7,nds,ss,vs, ?_,hcut,h7, ?_,⟨⟨w3, .nilSlice,w6,rfl, .inl (o36.mono s7 (fun B hB e=>by have:=f3 B hB;omega)), .inl (Own.nil ..), .inl (o6.mono s7 (fun B hB e=>by have:=f6 B hB;have:=p5.next;omega))⟩,fun B hB hgB=> ?_⟩,fun B hB=> ?_⟩
 ·have t00: ¬(((0:Nat):Int)≠((0:Nat):Int)):=by omega
  simp(config:= { maxSteps:=2000000}) (disch:=omega) only[zFs,eZ,xY g7 hll,e1,qK,nth,t00,qL (G5 p1),c1',hsub,hi2,row3 90 .nilSlice x1.isCell oS.row.isCell x2.isCell,b2,qL (G5 P2),c3',c4',e3,jA (qL (G5 P3) 3) (yL k3.row),vO (q3 P2) (q3 P3) (by decide),jA rfl (yL x3),jA rfl (yL x4),e4,jA (qL g54 3) (yL k3.row),vO (q3 P2) j3 (by decide),
   row3 91 .nilSlice x3.isCell o4.row.isCell x4.isCell,b5,e6,zM2 o3.row.isCell o6.row.isCell,e7',xY g77 rfl]
 ·have a1:Stp (fun B=>chg Ac F g B\/B=A8) H H4:=(P3.mono (fun _ _ x=>x.elim)).trans (a4.1.mono (fun _ _ x=> .inl x));exact(a1.trans (p46.mono (fun _ _ x=>x.elim))).trans (s7.mono (fun _ _ x=> .inr x))
 ·have:=Rw.blk h.gg.row hgB;rcases kB.1 hB with e | e | e
  ·have:=f3 B e;omega
  ·exact(Blk.nil.1 e).elim
  ·have:=f6 B e;have:=p5.next;omega
 ·rcases kB.1 hB with e | e | e
  ·have:=f3 B e;omega
  ·exact(Blk.nil.1 e).elim
  ·have:=f6 B e;have:=p5.next;omega
open Go.Nd (gL)
open Go.Bt
def Qf (q f:PN)(p:Ptr):Option Nd.Node:=if p=pp p.sum.toNat then(match qV p.sum.toNat f with | some n=>some n | none=>qV p.sum.toNat q)else none
theorem YL (q f:PN)(s:Nat):Qf q f (pp s)=match qV s f with | some n=>some n | none=>qV s q:=by simp[Qf,pp]
theorem uI {q f:PN}{p:Ptr}{nd:Nd.Node}(h:Qf q f p=some nd): ∃s,p=pp s/\(qV s f=some nd\/(qV s f=none/\qV s q=some nd)):=by
 simp only[Qf]at h;split at h
 ·rename_i e;refine⟨_,e, ?_⟩;split at h
  ·rename_i n hn;exact .inl (hn.trans h)
  ·rename_i hn;exact .inr ⟨hn,h⟩
 ·cases h
theorem aS {s t:Nat}(h:pp s=pp t):s=t:=by simp only[pp,Ptr.mk.injEq]at h;omega
theorem zIh (s:Nat):Nd.kidOk (pp s)=true:=by simp[Nd.kidOk,pp]
theorem aC: ∀ {nds:List Nd.Node} {last i:Nat} {nd:Nd.Node},nds[i]? =some nd->qV (last+1+i) (kJ last nds)=some nd
 | [],_,_,_,h=>by simp at h
 | a::nds,last,0,nd,h=>by simp at h;subst h;simp[kJ,qV]
 | a::nds,last,i+1,nd,h=>by
  simp only[List.getElem?_cons_succ]at h;rw[kJ,qV,if_neg (by omega),show last+1+(i+1)=last+1+1+i from by omega];exact aC h
theorem YI: ∀ {nds:List Nd.Node} {last s:Nat} {nd:Nd.Node},qV s (kJ last nds)=some nd->last<s/\s<=last+nds.length
 | [],_,_,_,h=>by simp[kJ,qV]at h
 | a::nds,last,s,nd,h=>by
  rw[kJ,qV]at h;split at h
  ·simp only[zJ];omega
  ·have:=YI h;simp only[zJ];omega
theorem XM {q f new:PN}{last0:Nat}(hq: ∀s nd,qV s q=some nd->s<=last0)(hn: ∀s nd,qV s new=some nd->last0<s){p:Ptr}{nd:Nd.Node}(h:Qf q f p=some nd):Qf q (f++new) p=some nd:=by
 obtain⟨s,rfl,h1 | ⟨h1,h2⟩⟩:=uI h
 ·rw[YL,kI,h1]
 ·rw[YL,kI,h1];simp only
  cases hk:qV s new with
  | none=>exact h2
  | some n2=>have:=hq _ _ h2;have:=hn _ _ hk;omega
theorem wD.kidOk {α:Type}{q f:PN}{R:Nd.Node->α->List Ptr->Prop}(hr: ∀nd t S,R nd t S-> ∀p∈S,Nd.kidOk p=true): ∀ {ps:List Ptr} {ts:List α} {S:List Ptr},wD (Qf q f) R ps ts S-> ∀p∈S,Nd.kidOk p=true
 | [],[],_,h=>by subst h;simp
 | p::ps,t::ts,_,⟨nd,S1,S2,a,b,c,e⟩=>fun x hx=>by
  subst e;rcases List.mem_cons.1 hx with rfl | hx
  ·obtain⟨s,rfl,_⟩:=uI a;exact zIh s
  ·rcases List.mem_append.1 hx with hx | hx
   ·exact hr _ _ _ b x hx
   ·exact wD.kidOk hr c x hx
 | [],_::_,_,h=>h.elim
 | _::_,[],_,h=>h.elim
theorem jF.kidOk {q f:PN} : ∀ {h:Nat} {nd:Nd.Node} {t:Bt.Tr h} {S:List Ptr},jF (Qf q f) h nd t S-> ∀p∈S,Nd.kidOk p=true
 | 0,_,_,_,w=>by obtain⟨_,rfl⟩:=w;simp
 | h+1,_,_,_,w=>wD.kidOk (fun _ _ _ hr=>jF.kidOk hr) w.2.2.2
theorem VI (D:Dyn)(n:Nat)(hn:200000000<=n){H0 H:AH}{At Ac F A5 A7 A8 i m h:Nat}{q:PN}{fes:List (AV×AV)}{f:PN}{g:AV}{gl:List Ptr}{last0 last:Nat}{ln lk:List AV}{nd kd:Nd.Node}{t:Bt.Tr (h+1)}{x:Bt.Tr h}{Sa Sb Sx:List Ptr}{lo hi:Bd}
  (ch:Ch H0 H At Ac F fes f g gl last0 last) (g5:H.h.get A5=some (.cells ln 93 1 false)) (g7:H.h.get A7=some (.cells lk 93 1 false)) (g8:H.h.get A8=some (.cells [.bool false, .nilSlice, .nilSlice, .nilSlice] 93 1 false))
  (hA5:H0.next<=A5) (hA7:H0.next<=A7) (hA8:H0.next<=A8) (h58:A5≠A8) (h5c:A5≠Ac) (h8c:A8≠Ac)
  (hv:kC H g (.agg ln) nd) (hkd:kC H g (.agg lk) kd) (hq: ∀s nd,qV s q=some nd->s<=last0)
  (n1:nd.leaf=false) (n2:nd.keys=t.1) (n3:nd.vals=[]) (n4:nd.kids.length=t.2.length) (wi:Inn (WF h) lo hi t) (hne:t.1≠[]) (hz:jH t.1 t.2.length<=500) (him:i+m<t.2.length)
  (ra:wD (Qf q f) (jF (Qf q f) h) (nd.kids.take i) (t.2.take i) Sa) (rb:wD (Qf q f) (jF (Qf q f) h) (nd.kids.drop (i+m+1)) (t.2.drop (i+m+1)) Sb)
  (rx:jF (Qf q f) h kd x Sx) (wx:WX h (YP lo t.1 i) (cL t.1 hi (i+m)) x) (fx:Full h x) (kne:0<h->kd.keys≠[]) (hb:last<=800000000):
  ∃u H' fes' f' last' nd' t' S',zFs D n [.ptr Ac 0, .ptr A5 0, .ptr A7 0, .ptr A8 0, .int .i64 (i:Nat), .int .i64 ((i+m+1:Nat):Int)] H=some (.ret (.tuple [u, .int .i64 ((0:Nat):Int)]),H')/\
   Ch H0 H' At Ac F fes' f' g gl last0 last'/\Stp (fun B=>chg Ac F g B\/B=A8) H H'/\kC H' g u nd'/\(∀B,xJ u B->H.next<=B)/\jF (Qf q f') (h+1) nd' t' S'/\Inn (WF h) lo hi t'/\
   con (h+1) t'=(t.2.take i).flatMap (con h)++con h x++(t.2.drop (i+m+1)).flatMap (con h)/\jH t'.1 t'.2.length<=jH t.1 t.2.length+285/\t.1.length<=t'.1.length+m/\last<=last'/\last'<=last+6/\
   S'.Perm (pps last (last' - last)++(Sa++Sb++Sx))/\ ∀p nd,Qf q f p=some nd->Qf q f' p=some nd:=by
 have hl:=wi.2.2.len;have hsz:small nd:=by
  have:Nd.size nd<=10000:=by
   simp only[Nd.size,n2,n3,n4,Bt.sumL_nil];simp only[jH]at hz;omega
  exact wI this
 have hsk:=rx.shaped wx.gen kne (jF.kidOk rx);have hzk:Nd.size kd<=10000:=by rw[rx.size];have:=wx.sz;omega
 have hlim: ∀nds ss,CutsN kd nds ss->nds.length<=6/\ss.length<=6:=fun nds ss hc=>by
  obtain⟨ts,c1,c2⟩:=XA hc rx wx;obtain⟨d1,_,d3,_⟩:=WZ c1 wx (.inl fx);have l1:=c2.len;have l2:=d1.2.2.len;simp only at l2;omega
 obtain⟨u,H',nds,ss,vs,e1,hcut,hc',st,hu,hfr⟩:=zKW D n hn (i:=i) (m:=m) ch g5 g7 g8 hA5 hA7 hA8 h58 h5c h8c hv hkd hsk hzk hsz (by rw[n4,hl,n2]) (by rw[n2];exact hne) (by rw[n4];exact him) (fun nds ss hc=>by have:=hlim nds ss hc;omega) hb;obtain⟨ts,c1,c2⟩:=XA hcut rx wx;obtain⟨p1,p2,p3,p4⟩:=zHX (ks:=t.1) (ts:=t.2) wi him wx fx c1;have hnew: ∀s nd',qV s (kJ last nds)=some nd'->last0<s:=fun s nd' hs=>by have:=YI hs;have:=ch.le;omega
 have more: ∀p nd,Qf q f p=some nd->Qf q (f++kJ last nds) p=some nd:=fun p nd hp=>XM hq hnew hp
 have moreL: ∀ {ps:List Ptr} {ts:List (Bt.Tr h)} {S:List Ptr},wD (Qf q f) (jF (Qf q f) h) ps ts S->wD (Qf q (f++kJ last nds)) (jF (Qf q (f++kJ last nds)) h) ps ts S:=fun r=>r.mono (fun p _ nd hp=>more p nd hp) (fun nd t S1 _ hr=>hr.mono fun p _ nd hp=>more p nd hp)
 have c2':zC2 (Qf q (f++kJ last nds)) h nds ts Sx:=by
  have mono: ∀ {nds':List Nd.Node} {ts':List (Bt.Tr h)} {S':List Ptr},zC2 (Qf q f) h nds' ts' S'->zC2 (Qf q (f++kJ last nds)) h nds' ts' S':=by
   intro nds'
   induction nds' with
   | nil=>intro ts' S' hp;cases ts' with
    | nil=>exact hp
    | cons=>exact hp.elim
   | cons a nds' ih=>intro ts' S' hp;cases ts' with
    | nil=>exact hp.elim
    | cons b ts'=>
     obtain⟨S1,S2,a1,a2,a3⟩:=hp;exact⟨S1,S2,a1.mono fun p _ nd hp=>more p nd hp,ih a2,a3⟩
  exact mono c2
 have hnone: ∀j,qV (last+1+j) f=none:=fun j=>by
  cases hk:qV (last+1+j) f with
  | none=>rfl
  | some n2=>have:=ch.fs _ _ hk;omega
 obtain⟨S2,r2,pm2⟩:=c2'.kids last (fun j nd' hj=>by rw[YL,kI,hnone];simp only[aC hj]);have rl:=wD.app (wD.app (moreL rb) r2) (moreL ra);have hlen:=hlim nds ss hcut;refine⟨u,H',_,_,last+nds.length,_,(t.1.take i++ss++t.1.drop (i+m),t.2.take i++ts++t.2.drop (i+m+1)),Sa++(S2++Sb),e1,hc',st,hu,hfr,⟨rfl,by simp[n2],rfl, ?_⟩,p1,p2,p3,p4,by omega,by omega, ?_,more⟩
 ·simp only[List.append_assoc];exact rl
 ·rw[show last+nds.length - last=nds.length by omega];rw[List.perm_iff_count]at pm2⊢;intro a;have:=pm2 a;simp only[List.count_append]at this⊢;omega
theorem Ch.stb {H0 H H':AH}{At Ac F A:Nat}{fes:List (AV×AV)}{f:PN}{g:AV}{gl:List Ptr}{last0 last e:Nat}{b:Bool}{r:List AV}(h:Ch H0 H At Ac F fes f g gl last0 last)(gA:H.h.get A=some (.cells (.bool b::r) e 1 false))(s:Stp (fun B=>B=A) H H')(h0:H0.next<=A)(hc:A≠Ac):Ch H0 H' At Ac F fes f g gl last0 last:=
 h.other s (fun e=>hc e.symm) (fun e=>by subst e;rw[h.gF]at gA;cases gA) (fun B hB e=>by subst e;rw[h.gg.get hB]at gA;simp at gA) (fun kv hkv B hB e=>by
  subst e;obtain⟨nd2,hn2⟩:=h.pf.mem kv hkv;exact hn2.nblk gA (.inl ⟨_,_,_,_,rfl,fun _ _ e=>by cases e⟩) hB) (fun B hB=>by subst hB;exact h0)
theorem kC.stb {H H':AH}{A:Nat}{g v:AV}{nd:Nd.Node}{e:Nat}{b:Bool}{r:List AV}(h:kC H g v nd)(gA:H.h.get A=some (.cells (.bool b::r) e 1 false))(s:Stp (fun B=>B=A) H H'):kC H' g v nd:=
 ⟨h.1.stp s fun B hB e=>by subst e;exact h.1.nblk gA (.inl ⟨_,_,_,_,rfl,fun _ _ e=>by cases e⟩) hB,h.2⟩
theorem XN.free {H0 H:AH}{v:AV}{nd:Nd.Node}(h:XN H0 H v nd):wE H0.next H v nd:=by
 obtain⟨ks,vs,ps,rfl,h1,h2,h3,h4,_⟩:=h;exact⟨⟨ks,vs,ps,rfl, .inl h1, .inl h2, .inl h3⟩,fun B hB=>h4 B (kB.1 hB)⟩
theorem uZ {l:List AV}{H:AH}{nd:Nd.Node}(h:y9 H (.agg l) nd): ∃r,l= .bool nd.leaf::r/\l.length=4/\qN l=true:=by
 obtain⟨ks,vs,ps,e,h1,h2,h3⟩:=h;simp only[AV.agg.injEq]at e;subst e;exact⟨_,rfl,rfl,cJ _ _ _ _ h1.row.isCell h2.row.isCell h3.row.isCell⟩
theorem zCu (D:Dyn)(n:Nat)(hn:200000000<=n){H0 H:AH}{At Ac F M i h:Nat}{d c dr:AV}{root:Ptr}{es:List (AV×AV)}{q:PN}{fes:List (AV×AV)}{f:PN}{g:AV}{gl:List Ptr}{last0 last:Nat}{ln lk:List AV}{nd kd:Nd.Node}{t:Bt.Tr (h+1)}{x tk:Bt.Tr h}{Sa Sb Sx:List Ptr}{lo hi:Bd}
  (ti:TI H0 At M d c root es q last0 dr) (hold: ∀kv∈es,∀B,xJ kv.2 B->B<H0.next) (hq: ∀s nd,qV s q=some nd->s<=last0) (ch:Ch H0 H At Ac F fes f g gl last0 last)
  (hv:kC H g (.agg ln) nd) (hkd:kC H g (.agg lk) kd)
  (n1:nd.leaf=false) (n2:nd.keys=t.1) (n3:nd.vals=[]) (n4:nd.kids.length=t.2.length) (wi:Inn (WF h) lo hi t) (hne:t.1≠[]) (hz:jH t.1 t.2.length<=500) (him:t.2[i]? =some tk)
  (ra:wD (Qf q []) (jF (Qf q []) h) (nd.kids.take i) (t.2.take i) Sa) (rb:wD (Qf q []) (jF (Qf q []) h) (nd.kids.drop (i+1)) (t.2.drop (i+1)) Sb)
  (rx:jF (Qf q f) h kd x Sx) (wx:WX h (YP lo t.1 i) (cL t.1 hi i) x) (kne:0<h->kd.keys≠[]) (hb:last<=700000000) (hgl:gl.length+1<=last+1000):
  ∃u H' fes' f' g' gl' last' nd' t' S' G R,f68 D n [.ptr Ac 0, .agg ln, .int .i64 (i:Nat), .agg lk] H=some (.tuple [u, .int .i64 ((0:Nat):Int)],H')/\
   Ch H0 H' At Ac F fes' f' g' gl' last0 last'/\Adv Ac F H g H' g'/\kC H' g' u nd'/\jF (Qf q f') (h+1) nd' t' S'/\Inn (WF h) lo hi t'/\
   con (h+1) t'=(t.2.take i).flatMap (con h)++con h x++(t.2.drop (i+1)).flatMap (con h)/\jH t'.1 t'.2.length<=jH t.1 t.2.length+285/\t.1.length<=t'.1.length+1/\last<=last'/\last'<=last+6/\gl'=gl++G/\
   S'.Perm (pps last (last' - last)++(R++Sx))/\(Sa++Sb).Perm (G++R)/\(∀p nd,Qf q f p=some nd->Qf q f' p=some nd)/\G.length<=1:=by
 obtain⟨hi',rfl⟩:=List.getElem?_eq_some_iff.1 him;have hlen:=wi.2.2.len;obtain⟨rn,hln,lnl,lnc⟩:=uZ hv.1;obtain⟨rk,hlk,lkl,lkc⟩:=uZ hkd.1;obtain⟨H1,A5,b1,p1,g1,m1,n1'⟩:=box ch.prs.ok (.cells ln 93 1 false);obtain⟨H2,A7,b2,p2,g2,m2,n2'⟩:=box p1.ok (.cells lk 93 1 false);obtain⟨H3,A8,b3,p3,g3,m3,n3'⟩:=box p2.ok (.cells [.bool false, .nilSlice, .nilSlice, .nilSlice] 93 1 false);have P3:Prs H H3:=(p1.trans p2).trans p3;have g13:=Prs.get p3 p2.ok (Prs.get p2 p1.ok g1);have g23:=Prs.get p3 p2.ok g2;have hsm:small kd:=wI (by rw[rx.size];have:=wx.sz;omega);obtain⟨z,H4,e4,rfl,p4⟩:=BW D n P3.ok (hkd.1.prs P3).node hsm hn;have P4:=P3.trans p4;have g14:=Prs.get p4 P3.ok g13;have g24:=Prs.get p4 P3.ok g23;have g34:=Prs.get p4 P3.ok g3;have ch4:=ch.step P4;have N0:=ch.prs.next
 have cc:=ch.ltC;have hqf: ∀p nd,Qf q [] p=some nd->Qf q f p=some nd:=fun p nd hp=>by
  have:=XM (new:=f) hq (fun s nd' hs=>(ch.fs s nd' hs).1) hp;simpa using this
 have moreL: ∀ {ps:List Ptr} {ts:List (Bt.Tr h)} {S:List Ptr},wD (Qf q []) (jF (Qf q []) h) ps ts S->wD (Qf q f) (jF (Qf q f) h) ps ts S:=fun r=>r.mono (fun p _ nd hp=>hqf p nd hp) (fun nd t S1 _ hr=>hr.mono fun p _ nd hp=>hqf p nd hp)
 have hii:((i:Nat):Int)+((1:Nat):Int)=((i+1:Nat):Int):=by omega
 have hiz:i<=1000:=by simp only[jH]at hz;omega
 have hsize:=rx.size;by_cases hthin:j9 h x<160
 case neg=>
  have hthI: ¬((Nd.size kd:Nat):Int)< ((160:Nat):Int):=by omega
  have fx:Full h x:=by
   cases h with
   | zero=>
    intro e;have e:x=([]:Nd.Kvs):=e;rw[e]at hthin;exact hthin (by decide)
   | succ h=>exact Nat.le_of_not_lt hthin
  obtain⟨u,H5,fes',f',last',nd',t',S',e5,hc5,st,hu,hfr,r5,w5,c5,z5,k5,l1,l2,pm,more⟩:=VI D n hn (i:=i) (m:=0) (h:=h) ch4 g14 g24 g34 (by omega) (by have:=p1.next;omega) (by have:=p1.next;have:=p2.next;omega) (by have:=p2.next;omega) (by omega) (by have:=p1.next;have:=p2.next;omega)
   (hv.prs P4) (hkd.prs P4) hq n1 n2 n3 n4 wi hne hz (by simpa using hi') (moreL ra) (by simpa using moreL rb) rx (by simpa using wx) fx kne (by omega)
  refine⟨u,H5,fes',f',g,gl,last',nd',t',S',[],Sa++Sb, ?_,hc5, ?_,hu,r5,w5,by simpa using c5,z5,by omega,l1,l2,by simp, ?_,by simp,more,by simp⟩
  ·simp(maxSteps:=999999)(disch:=omega) only[f68,eZ,b1,b2,b3,hii,xY g23 lkl,e4,hthI];simp only[Nat.add_zero]at e5;rw[e5];rfl
  ·refine⟨⟨st.ok,by have:=st.next;have:=P4.next;omega,fun B hB hS=> ?_⟩,fun B hB=> .inl hB⟩
   rw[st.keep B (by have:=P4.next;omega) (fun hx=>by
    rcases hx with hx | hx
    ·exact hS hx
    ·have:=p1.next;have:=p2.next;omega)]
   exact P4.keep B hB (fun x=>x)
  ·exact pm
 case pos=>
 have hthI:((Nd.size kd:Nat):Int)< ((160:Nat):Int):=by omega
 have side: ∃b ndb tb Sbb s,nd.kids[b]? =some (pp s)/\qV s q=some ndb/\jF (Qf q []) h ndb tb Sbb/\t.2[b]? =some tb/\
   ((b+1=i/\ ∃Sa',wD (Qf q []) (jF (Qf q []) h) (nd.kids.take b) (t.2.take b) Sa'/\Sa=Sa'++(pp s::Sbb))\/(i=0/\b=1/\ ∃Sb',wD (Qf q []) (jF (Qf q []) h) (nd.kids.drop 2) (t.2.drop 2) Sb'/\Sb=pp s::(Sbb++Sb'))):=by
  have hkl:0<t.1.length:=by
   rcases Nat.eq_zero_or_pos t.1.length with e | e
   ·exact absurd (zG e) hne
   ·exact e
  cases i with
  | zero=>
   have h1:1<t.2.length:=by omega
   rw[show(0+1:Nat)=1 from rfl,zL h1,zL (show 1<nd.kids.length by omega)]at rb;obtain⟨ndb,S1,S2,q1,q2,q3,e⟩:=rb;obtain⟨s,es,hs⟩:=uI q1;rcases hs with hs | ⟨_,hs⟩
   ·simp[qV]at hs
   ·exact⟨1,ndb,t.2[1],S1,s,by rw[zB (by omega),es],hs,q2,zB h1, .inr ⟨rfl,rfl,S2,q3,by rw[e,es]⟩⟩
  | succ j=>
   have h1:j<t.2.length:=by omega
   rw[zQ h1,zQ (show j<nd.kids.length by omega)]at ra;obtain⟨T1,T2,r1,r2,e⟩:=ra.split j;have e1:(nd.kids.take j++[nd.kids[j]'(by omega)]).take j=nd.kids.take j:=List.take_left' (by rw[zH];omega);have e2:(nd.kids.take j++[nd.kids[j]'(by omega)]).drop j=[nd.kids[j]'(by omega)]:=List.drop_left' (by rw[zH];omega);have e3:(t.2.take j++[t.2[j]]).take j=t.2.take j:=List.take_left' (by rw[zH];omega);have e4:(t.2.take j++[t.2[j]]).drop j=[t.2[j]]:=List.drop_left' (by rw[zH];omega);rw[e1,e3]at r1;rw[e2,e4]at r2;obtain⟨ndb,S1,S2,q1,q2,q3,e5⟩:=r2;have q3:S2=[]:=q3;subst q3;obtain⟨s,es,hs⟩:=uI q1;rcases hs with hs | ⟨_,hs⟩
   ·simp[qV]at hs
   ·exact⟨j,ndb,t.2[j],S1,s,by rw[zB (by omega),es],hs,q2,zB h1, .inl ⟨rfl,T1,r1,by rw[e,e5,es,List.append_nil]⟩⟩
 obtain⟨b,ndb,tb,Sbb,s,kb,hs,rbb,htb,hcase⟩:=side;obtain⟨hbl,rfl⟩:=List.getElem?_eq_some_iff.1 htb;have hbk:b<nd.kids.length:=by omega
 have hkb:nd.kids[b]=pp s:=by rw[zB hbk]at kb;exact Option.some.inj kb
 have wb:WF h (YP lo t.1 b) (cL t.1 hi b) t.2[b]:=KB.at wi.2.2 htb;have ti4:=ti.prs ch4.prs;obtain⟨ks,vs0,ps,hle,k1,k2,k3⟩:=id (hv.prs P4).1;simp only[AV.agg.injEq]at hle;obtain⟨H5,A13,b5,p5,g5,m5,n5⟩:=box ch4.prs.ok (.cells [.bool false, .nilSlice, .nilSlice, .nilSlice] 93 1 false);obtain⟨vb,H6,e6,p6,hgb,hmem⟩:=KW D n (ti4.prs p5) hs;obtain⟨kk,hmem⟩:=hmem;obtain⟨lb,rfl,lbl,lbc⟩:=hgb.cells;obtain⟨H7,e7,g7,s7,n7⟩:=yF p6.ok (Prs.get p6 p5.ok g5) (l':=lb) lbl lbc;have e7':stN 4 (.ptr A13 0) (.agg lb) H6=some (qM,H7):=e7;have N4:=P4.next;have N5:=p5.next;have N6:=p6.next
 have p47:Prs H4 H7:=(p5.trans p6).fresh s7 (fun B hB=>by omega);have ch7:=ch4.step p47;have hgb7:y9 H7 (.agg lb) ndb:=hgb.stp s7 (fun B hB e=>by
  subst e;exact hgb.nblk (Prs.get p6 p5.ok g5) (.inl ⟨_,_,_,_,rfl,fun _ _ e=>by cases e⟩) hB)
 have hb7:kC H7 g (.agg lb) ndb:=hgb7.hand ch7 (fun B hB=>hold _ hmem B hB);obtain⟨g',H8,e8,ch8,a8⟩:=zF8 D n ch7 (pp s) hgl (by omega);have hv8:=ch7.next (hv.prs (P4.trans p47)) a8
 have hk8:=ch7.next (hkd.prs (P4.trans p47)) a8
 have hb8:=ch7.next hb7 a8
 have np: ∀ {A:Nat} {l:List AV} {e:Nat},H7.h.get A=some (.cells l e 1 false)->A≠Ac-> ¬chg Ac F g A:=fun {A l e} hg hne hc=>by
  rcases hc with e | e | e
  ·exact hne e
  ·rw[e,ch7.gF]at hg;cases hg
  ·rw[ch7.gg.get e]at hg;simp at hg
 have M1:=p1.next;have M2:=p2.next;have M3:=p3.next;have M4:=p4.next;have M7:=p47.next
 have g57:=Prs.get p47 P4.ok g14;have g77:=Prs.get p47 P4.ok g24;have g87:=Prs.get p47 P4.ok g34;have g58:H8.h.get A5=some (.cells ln 93 1 false):=by rw[a8.1.keep _ (by omega) (np g57 (by omega))];exact g57
 have g78:H8.h.get A7=some (.cells lk 93 1 false):=by rw[a8.1.keep _ (by omega) (np g77 (by omega))];exact g77
 have g88:H8.h.get A8=some (.cells [.bool false, .nilSlice, .nilSlice, .nilSlice] 93 1 false):=by rw[a8.1.keep _ (by omega) (np g87 (by omega))];exact g87
 have g138:H8.h.get A13=some (.cells lb 93 1 false):=by rw[a8.1.keep _ (by omega) (np g7 (by omega))];exact g7
 have k34:uP H4 ps nd.kids:=k3.row;obtain⟨q4,i4,i4'⟩:=k34.at hbk;obtain⟨q7,i7,i7'⟩:=(k34.prs p47).at hbk;rw[hkb]at i4' i7';obtain rfl:q7=q4:=by
  have e1:=i4 .i64 b rfl;rw[i7 .i64 b rfl]at e1;exact Option.some.inj e1
 have hsmb:small ndb:=wI (by rw[rbb.size];have:=wb.sz;omega);have rbf:jF (Qf q f) h ndb t.2[b] Sbb:=rbb.mono fun p _ nd hp=>hqf p nd hp
 have neb:0<h->ndb.keys≠[]:=fun hh=>by
  cases h with
  | zero=>omega
  | succ h=>
   have:=QP wb;rw[rbb.2.1];intro e;rw[e]at this;simp at this
 have t00: ¬(((0:Nat):Int)≠((0:Nat):Int)):=by omega
 have hcells: ∀Hx:AH,Hx.h.get A5=some (.cells ln 93 1 false)->ld1 (.ptr A5 3) Hx=some ps/\ld1 (.ptr A5 1) Hx=some ks:=fun Hx hg=>by
  rw[qL hg,qL hg,hle];exact⟨rfl,rfl⟩
 have hK8:Strs H8 ks nd.keys:=by
  obtain⟨ks',vs',ps',hle',j1,j2,j3⟩:=id hv8.1;simp only[AV.agg.injEq]at hle';rw[hle]at hle';simp only[List.cons.injEq,and_true]at hle';obtain⟨_,rfl,_,_⟩:=hle';exact j1.row
 have fin: ∀(j m:Nat) (sep:Str) (u:AV) (jn':Nd.Node) (x':Bt.Tr h) (Sx' Sa' Sb':List Ptr) (H9:AH),Prs H8 H9->XN H8 H9 u jn'->jF (Qf q f) h jn' x' Sx'->WX h (YP lo t.1 j) (cL t.1 hi (j+m)) x'->Full h x'->(0<h->jn'.keys≠[])->j+m<t.2.length->
   wD (Qf q f) (jF (Qf q f) h) (nd.kids.take j) (t.2.take j) Sa'->wD (Qf q f) (jF (Qf q f) h) (nd.kids.drop (j+m+1)) (t.2.drop (j+m+1)) Sb'->
   ∃H10,stN 4 (.ptr A7 0) u H9=some (qM,H10)/\ ∃u H' fes' f' last' nd' t' S',zFs D n [.ptr Ac 0, .ptr A5 0, .ptr A7 0, .ptr A8 0, .int .i64 (j:Nat), .int .i64 ((j+m+1:Nat):Int)] H10=some (.ret (.tuple [u, .int .i64 ((0:Nat):Int)]),H')/\
    Ch H0 H' At Ac F fes' f' g' (gl++[pp s]) last0 last'/\Adv Ac F H g H' g'/\kC H' g' u nd'/\jF (Qf q f') (h+1) nd' t' S'/\Inn (WF h) lo hi t'/\
    con (h+1) t'=(t.2.take j).flatMap (con h)++con h x'++(t.2.drop (j+m+1)).flatMap (con h)/\jH t'.1 t'.2.length<=jH t.1 t.2.length+285/\t.1.length<=t'.1.length+m/\last<=last'/\last'<=last+6/\
    S'.Perm (pps last (last' - last)++(Sa'++Sb'++Sx'))/\ ∀p nd,Qf q f p=some nd->Qf q f' p=some nd:=by
  intro j m sep u jn' x' Sx' Sa' Sb' H9 p9 w9 rx' wx' fx' kne' hjm ra' rb';have wf9:=w9.free;obtain⟨lu,rfl,lul,luc⟩:=wf9.1.cells;have ch9:=ch8.step p9;have ha9:kC H9 g' (.agg lu) jn':=wE.hand ch8 (Nat.le_refl _) wf9;have g79:=Prs.get p9 ch8.prs.ok g78;obtain⟨H10,e10,g10,s10,n10⟩:=yF p9.ok g79 (l':=lu) (by omega) luc;have e10':stN 4 (.ptr A7 0) (.agg lu) H9=some (qM,H10):=by rw[lkl]at e10;exact e10
  rw[hlk]at g79;have ch10:=ch9.stb g79 s10 (by omega) (by omega);have N8:=a8.1.next;have N9:=p9.next
  have g5x:H10.h.get A5=some (.cells ln 93 1 false):=by rw[s10.keep _ (by omega) (by omega)];exact Prs.get p9 ch8.prs.ok g58
  have g8x:H10.h.get A8=some (.cells [.bool false, .nilSlice, .nilSlice, .nilSlice] 93 1 false):=by rw[s10.keep _ (by omega) (by omega)];exact Prs.get p9 ch8.prs.ok g88
  obtain⟨u',H',fes',f',last',nd',t',S',e5,hc5,st,hu,hfr,r5,w5,c5,z5,k5,l1,l2,pm,more⟩:=VI D n hn (i:=j) (m:=m) (h:=h) ch10 g5x g10 g8x (by omega) (by omega) (by omega) (by omega) (by omega) (by omega)
   ((hv8.prs p9).stb g79 s10) (ha9.stb g79 s10) hq n1 n2 n3 n4 wi hne hz hjm ra' rb' rx' wx' fx' kne' (by omega)
  refine⟨H10,e10',u',H',fes',f',last',nd',t',S',e5,hc5, ?_,hu,r5,w5,c5,z5,k5,l1,l2,pm,more⟩;refine⟨⟨st.ok,by have:=st.next;omega,fun B hB hS=> ?_⟩,fun B hB=> ?_⟩
  ·have a1:H8.h.get B=H.h.get B:=by
    rw[a8.1.keep B (by omega) hS,p47.keep B (by omega) (fun x=>x)];exact P4.keep B hB (fun x=>x)
   rw[st.keep B (by omega) (fun hx=>by
    rcases hx with hx | hx
    ·rcases hx with e | e | e
     ·exact hS (.inl e)
     ·exact hS (.inr (.inl e))
     ·rcases a8.2 B e with e | e
      ·exact hS (.inr (.inr e))
      ·omega
    ·omega),s10.keep B (by omega) (by omega),p9.keep B (by omega) (fun x=>x)]
   exact a1
  ·rcases a8.2 B hB with e | e
   ·exact .inl e
   ·exact .inr (by omega)
 rcases hcase with⟨hbi,Sa',ra',rfl⟩ | ⟨rfl,rfl,Sb',rb',rfl⟩
 ·
  subst hbi;have hkey:b<t.1.length:=by omega
  have hsep:=wi.1 _ (zU hkey);have hgk:t.1.getD b []=t.1[b]:=by rw[zE,zB hkey];rfl
  have hs1:cL t.1 hi b=some t.1[b]:=by simp only[cL,zB hkey]
  have hs2:YP lo t.1 (b+1)=some t.1[b]:=by simp only[YP,zB hkey]
  rw[hs1]at wb;rw[hs2]at wx;have hjm:=zBo rbf rx wb.gen wx.gen hsep.1 neb kne (jF.kidOk rbf) (jF.kidOk rx);obtain⟨u,H9,e9,p9,w9⟩:=zER D n hn ch8.prs.ok (sep:=t.1[b]) hb8.1.node hk8.1.node hsmb hsm;rw[hjm]at e9 w9;simp only[if_true]at e9 w9;have hls:=JK hsep.1;have js:=QX h t.2[b] t.1[b] x hls;have wj:WX h (YP lo t.1 b) (cL t.1 hi (b+1)) (dQ h t.2[b] t.1[b] x):=Gen.wx (zBp wb.gen wx.gen ⟨hsep.1,by
   have hmono:=KB.at wi.2.2 (zB hbl)
   cases b with
   | zero=>exact hsep.2.1
   | succ b'=>
    simp only[YP,zB (show b'<t.1.length by omega)];have:=(Nd.rising_ix ltS t.1).1 wi.2.1 b' hkey;exact this,by
   by_cases e:b+1<t.1.length
   ·simp only[cL,zB e];exact(Nd.rising_ix ltS t.1).1 wi.2.1 b e
   ·simp only[cL,List.getElem?_eq_none (show t.1.length<=b+1 by omega)];exact hsep.2.2⟩) (by have:=wb.sz;omega)
  obtain⟨H10,e10,u',H',fes',f',last',nd',t',S',e5,hc5,adv,hu,r5,w5,c5,z5,k5,l1,l2,pm,more⟩:=fin b 1 t.1[b] u _ _ (Sbb++Sx) Sa' Sb H9 p9 w9 (jF.join rbf rx t.1[b]) wj (U5 hls (.inl wb.full)) (fun hh e=>by
   cases h with
   | zero=>omega
   | succ h=>
    have:(gL ndb t.1[b] kd).keys=ndb.keys++([t.1[b]]++kd.keys):=by simp only[gL,rbf.1,Bool.false_eq_true,if_false]
    rw[this]at e;simp at e) (by omega) (moreL ra') (moreL rb)
  refine⟨u',H',fes',f',g',gl++[pp s],last',nd',t',S',[pp s],Sa'++(Sbb++Sb), ?_,hc5,adv,hu,r5,w5, ?_,z5,k5,l1,l2,rfl, ?_, ?_,more,by simp⟩
  ·have hb1:((b+1:Nat):Int) - ((1:Nat):Int)=((b:Nat):Int):=by omega
   have hb0: ¬((b+1:Nat):Int)=((0:Nat):Int):=by omega
   have hmn:mn2 (.int .i64 ((b+1:Nat):Int)) (.int .i64 ((b:Nat):Int))=some (.int .i64 ((b:Nat):Int)):=by
    have:ilt ((b:Nat):Int) ((b+1:Nat):Int)=true:=by rw[wY];simp;omega
    simp only[mn2,this,cond_true]
   have hmx:mx2 (.int .i64 ((b+1:Nat):Int)) (.int .i64 ((b:Nat):Int))=some (.int .i64 ((b+1:Nat):Int)):=by
    have:ilt ((b+1:Nat):Int) ((b:Nat):Int)=false:=by rw[wY];simp;omega
    simp only[mx2,this,cond_false]
   have hlss:((b:Nat):Int)< ((b+1:Nat):Int):=by omega
   have hii':((b+1:Nat):Int)+((1:Nat):Int)=((b+1+1:Nat):Int):=by omega
   obtain⟨qk,ik,ik'⟩:=hK8.at (i:=b) (by rw[n2];exact hkey);have hnk:nd.keys[b]'(by rw[n2];exact hkey)=t.1[b]:=by simp[n2]
   rw[hnk]at ik';simp(config:= { maxSteps:=2000000}) (disch:=omega) only[f68,eZ,b1,b2,b3,hii',xY g23 lkl,e4,hthI,hb1,hb0,zLu,qL ch4.gC,(hcells H4 g14).1,i4,i4',b5,e6,qK,nth,e7',t00,(hcells H7 g57).1,i7,i7',e8,hmn,hmx,hlss,xY g138 lbl,(hcells H8 g58).2,ik,ik',xY g78 lkl,e9,e10,zLv,e5]
  ·rw[c5,zBQ,zQ hbl,zZ,zP,List.flatMap_nil,List.append_nil];simp only[List.append_assoc]
  ·rw[List.perm_iff_count]at pm⊢;intro a;have:=pm a;simp only[List.count_append,List.count_cons]at this⊢;omega
  ·rw[List.perm_iff_count];intro a;simp only[List.count_append,List.count_cons,List.count_nil];omega
 ·
  have hkey:0<t.1.length:=by omega
  have hsep:=wi.1 _ (zU hkey);have hs1:cL t.1 hi 0=some t.1[0]:=by simp only[cL,zB hkey]
  have hs2:YP lo t.1 1=some t.1[0]:=by simp only[YP,zB hkey]
  rw[hs2]at wb;rw[hs1]at wx;have hjm:=zBo rx rbf wx.gen wb.gen hsep.1 kne neb (jF.kidOk rx) (jF.kidOk rbf);obtain⟨u,H9,e9,p9,w9⟩:=zER D n hn ch8.prs.ok (sep:=t.1[0]) hk8.1.node hb8.1.node hsm hsmb;rw[hjm]at e9 w9;simp only[if_true]at e9 w9;have hls:=JK hsep.1;have js:=QX h x t.1[0] t.2[1] hls;have wj:WX h (YP lo t.1 0) (cL t.1 hi (0+1)) (dQ h x t.1[0] t.2[1]):=Gen.wx (zBp wx.gen wb.gen ⟨hsep.1,hsep.2.1,by
   by_cases e:1<t.1.length
   ·simp only[cL,zB (show 0+1<t.1.length by omega)];exact(Nd.rising_ix ltS t.1).1 wi.2.1 0 (by omega)
   ·simp only[cL,List.getElem?_eq_none (show t.1.length<=0+1 by omega)];exact hsep.2.2⟩) (by have:=wb.sz;omega)
  obtain⟨H10,e10,u',H',fes',f',last',nd',t',S',e5,hc5,adv,hu,r5,w5,c5,z5,k5,l1,l2,pm,more⟩:=fin 0 1 t.1[0] u _ _ (Sx++Sbb) Sa Sb' H9 p9 w9 (jF.join rx rbf t.1[0]) wj (U5 hls (.inr wb.full)) (fun hh e=>by
   cases h with
   | zero=>omega
   | succ h=>
    have:(gL kd t.1[0] ndb).keys=kd.keys++([t.1[0]]++ndb.keys):=by simp only[gL,rx.1,Bool.false_eq_true,if_false]
    rw[this]at e;simp at e) (by omega) (moreL ra) (moreL rb')
  refine⟨u',H',fes',f',g',gl++[pp s],last',nd',t',S',[pp s],Sa++(Sbb++Sb'), ?_,hc5,adv,hu,r5,w5, ?_,z5,k5,l1,l2,rfl, ?_, ?_,more,by simp⟩
  ·have hmn:mn2 (.int .i64 ((0:Nat):Int)) (.int .i64 ((1:Nat):Int))=some (.int .i64 ((0:Nat):Int)):=rfl;have hmx:mx2 (.int .i64 ((0:Nat):Int)) (.int .i64 ((1:Nat):Int))=some (.int .i64 ((1:Nat):Int)):=rfl;have hlss: ¬((1:Nat):Int)< ((0:Nat):Int):=by omega
   have h11:((1:Nat):Int)+((1:Nat):Int)=((0+1+1:Nat):Int):=by omega
   obtain⟨qk,ik,ik'⟩:=hK8.at (i:=0) (by rw[n2];exact hkey);have hnk:nd.keys[0]'(by rw[n2];exact hkey)=t.1[0]:=by simp[n2]
   rw[hnk]at ik';simp(config:= { maxSteps:=2000000}) (disch:=omega) only[f68,eZ,b1,b2,b3,xY g23 lkl,e4,hthI,zLu,qL ch4.gC,(hcells H4 g14).1,i4,i4',b5,e6,qK,nth,e7',t00,(hcells H7 g57).1,i7,i7',e8,hmn,hmx,hlss,h11,xY g138 lbl,(hcells H8 g58).2,ik,ik',xY g78 lkl,e9,e10,zLv,e5]
  ·have e1:t.2.drop (0+1)=t.2[1]::t.2.drop 2:=zL hbl;rw[c5,zBQ,e1];simp only[List.take_zero,List.flatMap_nil,List.nil_append,zP,List.append_assoc,show 0+1+1=2 from rfl]
  ·rw[List.perm_iff_count]at pm⊢;intro a;have:=pm a;simp only[List.count_append,List.count_cons]at this⊢;omega
  ·rw[List.perm_iff_count];intro a;simp only[List.count_append,List.count_cons,List.count_nil];omega
end Go.Eng.Sh
end
section
namespace Go.Bt
open Go.Nd (Str Kvs lookP putP delP qP mayK)
open Go.Eng (ltS)
inductive Ed
 | put (k v:Str)
 | del (k:Str)
def Ed.key:Ed->Str
 | .put k _=>k
 | .del k=>k
def Ed.run:Ed->Kvs->Option Kvs
 | .put k v,l=>some (putP k v l)
 | .del k,l=>if(lookP k l).isSome then some (delP k l)else none
def Ed.ok:Ed->Prop
 | .put k v=>mayK k=true/\v.length<=200
 | .del k=>mayK k=true
theorem Ed.run_mid (ed:Ed){A C B:Kvs}(hA: ∀p∈A,ltS p.1 ed.key=true)(hB: ∀p∈B,ltS ed.key p.1=true):ed.run (A++C++B)=(ed.run C).map fun c=>A++c++B:=by
 cases ed with
 | put k v=>simp only[Ed.run,Option.map_some,zKT (k:=k) hA hB]
 | del k=>
  simp only[Ed.run,zBi (k:=k) hA hB,zLR (k:=k) hA hB];split<;>rfl
theorem Ed.leaf {ed:Ed}{lo hi:Bd}{l l':Kvs}(hw:Lf lo hi l)(hl:zEH lo ed.key)(hh:hiB hi ed.key)(ho:ed.ok)(hr:ed.run l=some l'):Lf lo hi l'/\jC l'<=jC l+242:=by
 cases ed with
 | put k v=>
  simp only[Ed.run,z7]at hr;subst hr;exact zIb hw hl hh ho.1 ho.2
 | del k=>
  simp only[Ed.run]at hr;split at hr
  ·simp only[z7]at hr;subst hr;have:=zIc k hw;exact⟨this.1,by omega⟩
  ·cases hr
end Go.Bt
namespace Go.Eng.Sh
open Go.Nd (Ptr yH qP Kvs)
open Go.Bt
def edF (ed:Ed)(K V:Nat):AV:=match ed with
 | .put _ _=> .func 45 [] [.ptr K 0, .ptr V 0]
 | .del _=> .func 60 [] [.ptr K 0]
def edB (H:AH)(ed:Ed)(K V:Nat):Prop:=match ed with
 | .put k v=>Box H K (S k)/\Box H V (S v)
 | .del k=>Box H K (S k)
theorem edB.prs {H H':AH}{ed:Ed}{K V:Nat}(h:edB H ed K V)(hk:H.ok)(s:Prs H H'):edB H' ed K V:=by
 cases ed with
 | put k v=>exact⟨h.1.mono hk s (fun x=>x),h.2.mono hk s (fun x=>x)⟩
 | del k=>exact Box.mono h hk s (fun x=>x)
def edL (ed:Ed)(l:Kvs):Nd.Node×Nat:=match ed.run l with
 | some l'=>(qP l',0)
 | none=>(nd0,5)
theorem zIH (m:Nat)(hm:200000000<=m){H:AH}(hk:H.ok){ed:Ed}{K V:Nat}{v:AV}{l:Kvs}{lo hi:Bd}(hv:y9 H v (qP l))(hw:Lf lo hi l)(hz:jC l<=10000)(ho:ed.ok)(hb:edB H ed K V):
  ∃u H',(match ed with | .put _ _=>f45 (dy m) m [v, .ptr K 0, .ptr V 0] H | .del _=>f60 (dy m) m [v, .ptr K 0] H)=some (.tuple [u, .int .i64 (((edL ed l).2:Nat):Int)],H')/\Prs H H'/\wE H.next H' u (edL ed l).1:=by
 have hsh:Nd.shaped ltS (qP l)=true:=Nd.leaf_shaped hw.1 fun p hp=>(hw.2 p hp).2.2
 obtain⟨lv,rfl,lvl,lvc⟩:=hv.cells;obtain⟨H1,A3,b1,p1,g1,m1,n1⟩:=box hk (.cells lv 93 1 false);obtain⟨H2,A4,b2,p2,g2,m2,n2⟩:=box p1.ok (.cells [.bool false, .nilSlice, .nilSlice, .nilSlice] 93 1 false);have P2:=p1.trans p2;have hsm:small (qP l):=wI hz;have N1:=p1.next;have N2:=p2.next
 have fin: ∀ {u:AV} {nd:Nd.Node} {H3:AH},Prs H2 H3->wE H2.next H3 u nd-> ∃H4,stN 4 (.ptr A4 0) u H3=some (qM,H4)/\Prs H H4/\wE H.next H4 u nd/\ldN 4 (.ptr A4 0) H4=some u:=fun {u nd H3} p3 hu=>by
  obtain⟨lu,rfl,lul,luc⟩:=hu.1.cells;obtain⟨H4,e4,g4,s4,n4⟩:=yF p3.ok (Prs.get p3 P2.ok g2) (l':=lu) lul luc;refine⟨H4,e4,(P2.trans p3).fresh s4 (fun B hB=>by omega),⟨hu.1.stp s4 (fun B hB e=> ?_),fun B hB=>by have:=hu.2 B hB;omega⟩,xY g4 lul⟩;have:=hu.2 B hB;omega
 cases ed with
 | put k x=>
  obtain⟨u,H3,e3,p3,w3⟩:=zHU (dy m) m hm P2.ok (key:=k) (value:=x) (hv.prs P2) hsm;have hpo:zCs (qP l) k x=true:=by simp only[zCs,hsh,show(qP l).leaf=true from rfl,ho.1,ho.2,Bool.true_and,decide_true]
  rw[hpo]at e3 w3;simp only[if_true,Nd.put_leaf _ _ hw.1]at e3 w3;obtain⟨H4,e4,P4,w4,l4⟩:=fin p3 w3;refine⟨u,H4, ?_,P4,w4⟩;simp(maxSteps:=999999)(disch:=omega) only[f45,eZ,b1,b2,xY (Prs.get p2 p1.ok g1) lvl,(hb.1.mono hk P2 (fun x=>x)).ld,(hb.2.mono hk P2 (fun x=>x)).ld,e3,qK,nth,e4,l4,edL,Ed.run]
 | del k=>
  obtain⟨u,H3,e3,p3,w3⟩:=zIM (dy m) m hm P2.ok (key:=k) (hv.prs P2) hsm;have hde:zMm (qP l) k=if(Nd.lookP k l).isSome then 0 else 5:=by
   simp only[zMm,hsh,show(qP l).leaf=true from rfl,Bool.and_self,if_true,Nd.here_look _ hw.1]
  obtain⟨H4,e4,P4,w4,l4⟩:=fin p3 w3
  cases hs:(Nd.lookP k l).isSome with
  | true=>
   rw[hs]at hde;simp only[if_true]at hde;rw[hde]at e3;simp only[hde,if_true,Nd.del_leaf _ hw.1 ((Nd.here_look _ hw.1).trans hs)]at w4;have hel:edL (.del k) l=(qP (Nd.delP k l),0):=by simp only[edL,Ed.run,hs,if_true]
   refine⟨u,H4, ?_,P4,by rw[hel];exact w4⟩;rw[hel];simp(maxSteps:=999999)(disch:=omega) only[f60,eZ,b1,b2,xY (Prs.get p2 p1.ok g1) lvl,(Box.mono hb hk P2 (fun x=>x)).ld,e3,qK,nth,e4,l4]
  | false=>
   rw[hs]at hde;simp only[Bool.false_eq_true,if_false]at hde;rw[hde]at e3;have h5: ¬(5:Nat)=0:=by decide
   simp only[hde,h5,if_false]at w4;have hel:edL (.del k) l=(nd0,5):=by simp only[edL,Ed.run,hs,Bool.false_eq_true,if_false]
   refine⟨u,H4, ?_,P4,by rw[hel];exact w4⟩;rw[hel];simp(maxSteps:=999999)(disch:=omega) only[f60,eZ,b1,b2,xY (Prs.get p2 p1.ok g1) lvl,(Box.mono hb hk P2 (fun x=>x)).ld,e3,qK,nth,e4,l4]
theorem zGd (m n:Nat)(hm:200000000<=m){H:AH}(hk:H.ok){ed:Ed}{K V:Nat}{v:AV}{l:Kvs}{lo hi:Bd}(hv:y9 H v (qP l))(hw:Lf lo hi l)(hz:jC l<=10000)(ho:ed.ok)(hb:edB H ed K V):
  ∃u H',callV (s67 (dy (m+1)) n).S (dy (m+1)) (edF ed K V) [v] H=some (.tuple [u, .int .i64 (((edL ed l).2:Nat):Int)],H')/\callV (s44 (dy (m+1)) n).S (dy (m+1)) (edF ed K V) [v] H=some (.tuple [u, .int .i64 (((edL ed l).2:Nat):Int)],H')/\Prs H H'/\wE H.next H' u (edL ed l).1:=by
 obtain⟨u,H',e,p,w⟩:=zIH m hm hk hv hw hz ho hb;refine⟨u,H', ?_, ?_,p,w⟩
 ·cases ed with
  | put k x=>exact e
  | del k=>exact e
 ·cases ed with
  | put k x=>exact e
  | del k=>exact e
def zCI (Bd Bt Be Bk Bf Bc:Nat):AV:= .func 67 [] [.ptr Bd 0, .ptr Bt 0, .ptr Be 0, .ptr Bk 0, .ptr Bf 0, .ptr Bc 0]
structure Cl (H0 H:AH)(At Ac K V:Nat)(ed:Ed)(Bd Bt Be Bk Bf Bc d:Nat):Prop where
 bd:Box H Bd (.int .i64 (d:Nat))
 bt:Box H Bt (.ptr At 0)
 be:Box H Be (edF ed K V)
 bk:Box H Bk (S ed.key)
 bf:Box H Bf (zCI Bd Bt Be Bk Bf Bc)
 bc:Box H Bc (.ptr Ac 0)
 eb:edB H0 ed K V
 fr:H0.next<=Bd
 n1:Bt≠Bd
 n2:Be≠Bd
 n3:Bk≠Bd
 n4:Bf≠Bd
 n5:Bc≠Bd
theorem _root_.Go.Eng.Box.nchg {H0 H:AH}{At Ac F:Nat}{fes:List (AV×AV)}{f:PN}{g v:AV}{gl:List Ptr}{last0 last A:Nat}(h:Box H A v)(ch:Ch H0 H At Ac F fes f g gl last0 last): ¬chg Ac F g A:=fun hc=>by
 obtain⟨e,h⟩:=h;rcases hc with rfl | rfl | hc
 ·rw[ch.gC]at h;simp at h
 ·rw[ch.gF]at h;cases h
 ·rw[ch.gg.get hc]at h;simp at h
theorem Cl.keep {H0 H H':AH}{At Ac F K V:Nat}{ed:Ed}{Bd Bt Be Bk Bf Bc d:Nat}{fes:List (AV×AV)}{f:PN}{g:AV}{gl:List Ptr}{last0 last:Nat}(h:Cl H0 H At Ac K V ed Bd Bt Be Bk Bf Bc d)(ch:Ch H0 H At Ac F fes f g gl last0 last)(s:Stp (chg Ac F g) H H'):Cl H0 H' At Ac K V ed Bd Bt Be Bk Bf Bc d:=
 ⟨h.bd.mono ch.prs.ok s (h.bd.nchg ch),h.bt.mono ch.prs.ok s (h.bt.nchg ch),h.be.mono ch.prs.ok s (h.be.nchg ch),h.bk.mono ch.prs.ok s (h.bk.nchg ch),h.bf.mono ch.prs.ok s (h.bf.nchg ch),h.bc.mono ch.prs.ok s (h.bc.nchg ch),h.eb,h.fr,h.n1,h.n2,h.n3,h.n4,h.n5⟩
theorem Cl.prs {H0 H H':AH}{At Ac K V:Nat}{ed:Ed}{Bd Bt Be Bk Bf Bc d:Nat}(h:Cl H0 H At Ac K V ed Bd Bt Be Bk Bf Bc d)(hk:H.ok)(s:Prs H H'):Cl H0 H' At Ac K V ed Bd Bt Be Bk Bf Bc d:=
 ⟨h.bd.mono hk s (fun x=>x),h.bt.mono hk s (fun x=>x),h.be.mono hk s (fun x=>x),h.bk.mono hk s (fun x=>x),h.bf.mono hk s (fun x=>x),h.bc.mono hk s (fun x=>x),h.eb,h.fr,h.n1,h.n2,h.n3,h.n4,h.n5⟩
theorem Cl.deeper {H0 H:AH}{At Ac F K V:Nat}{ed:Ed}{Bd Bt Be Bk Bf Bc d:Nat}{fes:List (AV×AV)}{f:PN}{g:AV}{gl:List Ptr}{last0 last:Nat}(h:Cl H0 H At Ac K V ed Bd Bt Be Bk Bf Bc d)(ch:Ch H0 H At Ac F fes f g gl last0 last):
  ∃H',stN 1 (.ptr Bd 0) (.int .i64 ((d+1:Nat):Int)) H=some (qM,H')/\Cl H0 H' At Ac K V ed Bd Bt Be Bk Bf Bc (d+1)/\Ch H0 H' At Ac F fes f g gl last0 last/\Stp (fun B=>B=Bd) H H':=by
 obtain⟨H',e,b,s⟩:=h.bd.st ch.prs.ok (x:= .int .i64 ((d+1:Nat):Int)) rfl;have hn:=h.bd.nchg ch;obtain⟨e1,hg⟩:=h.bd;refine⟨H',e,⟨b,h.bt.mono ch.prs.ok s h.n1,h.be.mono ch.prs.ok s h.n2,h.bk.mono ch.prs.ok s h.n3,h.bf.mono ch.prs.ok s h.n4,h.bc.mono ch.prs.ok s h.n5,h.eb,h.fr,h.n1,h.n2,h.n3,h.n4,h.n5⟩, ?_,s⟩;exact ch.other s (fun e=>hn (.inl e.symm)) (fun e=>hn (.inr (.inl e.symm))) (fun B hB e=>hn (.inr (.inr (e▸hB)))) (fun kv hkv B hB e=>by
  subst e;obtain⟨nd2,hn2⟩:=ch.pf.mem kv hkv;exact hn2.nblk hg (.inl ⟨_,_,_,_,rfl,fun _ _ e=>by cases e⟩) hB) (fun B hB=>by rw[hB];exact h.fr)
theorem xM {nd:Nd.Node}{ks:List Str}(hl:nd.leaf=false)(hk:nd.keys=ks)(key:Str):Nd.whereN nd key=qZ ks key:=by
 simp only[Nd.whereN,qZ,hl,hk,Bool.not_false,Bool.true_and]
theorem fE: ∀ {n last:Nat} {p:Ptr},p∈pps last n-> ∃j,p=pp j/\last<j/\j<=last+n
 | 0,_,_,h=>by simp[pps]at h
 | n+1,last,p,h=>by
  rcases List.mem_cons.1 h with rfl | h
  ·exact⟨last+1,rfl,by omega,by omega⟩
  ·obtain⟨j,e,h1,h2⟩:=fE h;exact⟨j,e,by omega,by omega⟩
theorem QE: ∀(n last:Nat),(pps last n).Nodup
 | 0,_=>by simp[pps]
 | n+1,last=>by
  rw[pps,List.nodup_cons];refine⟨fun h=> ?_,QE n (last+1)⟩;obtain⟨j,e,h1,_⟩:=fE h;have:=aS e;omega
def zMf (H0 H H':AH)(At Ac F K V:Nat)(ed:Ed)(B1 B2 B3 B4 B5 B6 d:Nat)(q:PN)(f:PN)(g g':AV)(gl:List Ptr)(last0 last:Nat)(h:Nat)(lo hi:Bd)(t:Bt.Tr h)(S:List Ptr)(p:Ptr)(u:AV)(c':Kvs):Prop:=
 ∃fes' f' gl' last' d' nd' S' G R Fr,∃t':Bt.Tr h,Ch H0 H' At Ac F fes' f' g' gl' last0 last'/\Cl H0 H' At Ac K V ed B1 B2 B3 B4 B5 B6 d'/\kC H' g' u nd'/\jF (Qf q f') h nd' t' S'/\WX h lo hi t'/\con h t'=c'/\(0<h->YT h t<=YT h t'+1)/\gl'=gl++G/\G.length<=2*(h+1)/\
  last<=last'/\last'<=last+6*h/\d'<=d+h+1/\S'.Perm (Fr++R)/\(p::S).Perm (G++R)/\Fr.Nodup/\(∀p∈Fr,∃j,p=pp j/\last<j/\j<=last')/\(∀p nd,Qf q f p=some nd->Qf q f' p=some nd)/\ ∀B,Blk g' B->Blk g B\/H.next<=B
theorem zDn (D:Dyn)(n:Nat){H0 H:AH}{At Ac F K V:Nat}{ed:Ed}{B1 B2 B3 B4 B5 B6 d A7 A8 A10 e7:Nat}{fes:List (AV×AV)}{f:PN}{g:AV}{gl:List Ptr}{last0 last:Nat}{lu:List AV}{nd:Nd.Node}{p:Ptr}
  (ch:Ch H0 H At Ac F fes f g gl last0 last) (cl:Cl H0 H At Ac K V ed B1 B2 B3 B4 B5 B6 d) (g7:H.h.get A7=some (.cells (y6 p) e7 1 false)) (g8:H.h.get A8=some (.cells [.bool false, .nilSlice, .nilSlice, .nilSlice] 93 1 false)) (g10:H.h.get A10=some (.cells lu 93 1 false))
  (hu:kC H g (.agg lu) nd) (h8:H0.next<=A8) (h8c:A8≠Ac) (h7c:A7≠Ac) (h10c:A10≠Ac) (hl:gl.length+1<=last+1000) (hb:last<=900000000):
  ∃g' H',UB D n [.ptr B6 0, .ptr A7 0, .ptr A8 0, .ptr A10 0, .int .i64 ((0:Nat):Int)] H=some (.ret (.tuple [.agg lu, .int .i64 ((0:Nat):Int)]),H')/\Ch H0 H' At Ac F fes f g' (gl++[p]) last0 last/\Cl H0 H' At Ac K V ed B1 B2 B3 B4 B5 B6 d/\kC H' g' (.agg lu) nd/\
   Stp (fun B=>chg Ac F g B\/B=A8) H H'/\ ∀B,Blk g' B->Blk g B\/H.next<=B:=by
 obtain⟨lul,luc⟩:lu.length=4/\qN lu=true:=by
  obtain⟨_,_,a,b⟩:=uZ hu.1;exact⟨a,b⟩
 obtain⟨g',H1,e1,ch1,a1⟩:=zF8 D n ch p hl hb;have np: ∀ {A:Nat} {l:List AV} {e:Nat},H.h.get A=some (.cells l e 1 false)->A≠Ac-> ¬chg Ac F g A:=fun {A l e} hg hne hc=>by
  rcases hc with e | e | e
  ·exact hne e
  ·rw[e,ch.gF]at hg;cases hg
  ·rw[ch.gg.get e]at hg;simp at hg
 have lt: ∀ {A:Nat} {l:List AV} {e:Nat},H.h.get A=some (.cells l e 1 false)->A<H.next:=fun hg=>ch.prs.ok.lt hg
 have g81:H1.h.get A8=some (.cells [.bool false, .nilSlice, .nilSlice, .nilSlice] 93 1 false):=by rw[a1.1.keep _ (lt g8) (np g8 h8c)];exact g8
 have g101:H1.h.get A10=some (.cells lu 93 1 false):=by rw[a1.1.keep _ (lt g10) (np g10 h10c)];exact g10
 have hu1:=ch.next hu a1
 have cl1:=cl.keep ch a1.1;obtain⟨H2,e2,g82,s2,n2⟩:=yF ch1.prs.ok g81 (l':=lu) lul luc;have e2':stN 4 (.ptr A8 0) (.agg lu) H1=some (qM,H2):=e2;have ch2:=ch1.stb g81 s2 h8 h8c;have nb: ∀ {A:Nat} {x:AV},Box H1 A x->(∀b,x≠ .bool b)->A≠A8:=fun {A x} hb hx e=>by
  obtain⟨_,hb⟩:=hb;rw[e,g81]at hb;simp at hb
 have cl2:Cl H0 H2 At Ac K V ed B1 B2 B3 B4 B5 B6 d:=by
  have m: ∀ {A:Nat} {x:AV},Box H1 A x->Box H2 A x:=fun {A x} hb=>hb.mono ch1.prs.ok s2 (fun e=>by
   obtain⟨_,hb⟩:=hb;rw[e,g81]at hb;simp at hb)
  exact⟨m cl1.bd,m cl1.bt,m cl1.be,m cl1.bk,m cl1.bf,m cl1.bc,cl1.eb,cl1.fr,cl1.n1,cl1.n2,cl1.n3,cl1.n4,cl1.n5⟩
 refine⟨g',H2, ?_,ch2,cl2,hu1.stb g81 s2,(a1.1.mono fun _ _ x=> .inl x).trans (s2.mono fun _ _ x=> .inr x),a1.2⟩;have t00: ¬(((0:Nat):Int)≠((0:Nat):Int)):=by omega
 simp(maxSteps:=999999)(disch:=omega) only[UB,eZ,t00,cl.bc.ld,qQ g7,zKr,Option.map_some,e1,xY g101 lul,e2',xY g82 lul]
theorem zDo (D:Dyn)(n:Nat){H:AH}{A8 B6 e:Nat}(x y:AV)(hk:H.ok)(g8:H.h.get A8=some (.cells [.bool false, .nilSlice, .nilSlice, .nilSlice] 93 1 false))(he:e≠0):
  ∃H',UB D n [.ptr B6 0,x, .ptr A8 0,y, .int .i64 (e:Nat)] H=some (.ret (.tuple [.agg [.bool false, .nilSlice, .nilSlice, .nilSlice], .int .i64 (e:Nat)]),H')/\Stp (fun B=>B=A8) H H':=by
 obtain⟨H2,e2,g82,s2,n2⟩:=yF hk g8 (l':=[.bool false, .nilSlice, .nilSlice, .nilSlice]) rfl rfl;have e2':stN 4 (.ptr A8 0) (.agg [.bool false, .nilSlice, .nilSlice, .nilSlice]) H=some (qM,H2):=e2;refine⟨H2, ?_,s2⟩;have t00:((e:Nat):Int)≠((0:Nat):Int):=by omega
 simp(maxSteps:=999999)(disch:=omega) only[UB,eZ,t00,ne_eq,not_false_eq_true,fM,e2',xY g82 rfl]
theorem zIZ (M n B1 B2 B3 B4 B5 B6:Nat)(x:AV)(H:AH):callV (s67 (dy (M+1)) n).S (dy (M+1)) (zCI B1 B2 B3 B4 B5 B6) [x] H=f67 (dy M) M [x, .ptr B1 0, .ptr B2 0, .ptr B3 0, .ptr B4 0, .ptr B5 0, .ptr B6 0] H:=rfl
noncomputable def zLP (D:Dyn)(n:Nat)(x3 x4 x5 x6 x7 x8 x10:AV)(H:AH):Rs:=
 bV (fAd 0 x10) fun x31=>
 bV (ld1 x31 H) fun x32=>
 jn (cnd x32 (bV (ld1 x3 H) fun x34=>
 bV (ldN 4 x10 H) fun x35=>
 bR (callV (s67 D n).S D x34 [x35] H) fun x36 H=>
 bV (qK x36 0) fun x37=>
 bV (qK x36 1) fun x38=>
 bR (stN 4 x10 x37 H) fun _ H=>
 some (.norm [x6,x7,x8,x10,x38],H))
 (bV (ldN 4 x10 H) fun x39=>
 bV (ld1 x4 H) fun x40=>
 bR (f50 D n [x39,x40] H) fun x41 H=>
 bA (bxV 93 (.agg [(.bool false), .nilSlice, .nilSlice, .nilSlice])) H fun x13 H=>
 bV (ld1 x5 H) fun x43=>
 bV (fAd 3 x10) fun x44=>
 bV (ld1 x44 H) fun x45=>
 bV (jL 3 x45 x41) fun x47=>
 bV (ldN 3 x47 H) fun x48=>
 bR (callV (s67 D n).S D x43 [x48] H) fun x49 H=>
 bV (qK x49 0) fun x50=>
 bV (qK x49 1) fun x51=>
 bR (stN 4 x13 x50 H) fun _ H=>
 bV (qO .eql x51 (.int .i64 (.ofNat 0))) fun x53=>
 jn (cnd x53 (bV (ld1 x6 H) fun x55=>
 bV (ldN 4 x10 H) fun x56=>
 bV (ldN 4 x13 H) fun x58=>
 bR (f68 D n [x55,x56,x41,x58] H) fun x59 H=>
 bV (qK x59 0) fun x60=>
 bV (qK x59 1) fun x61=>
 bR (stN 4 x10 x60 H) fun _ H=>
 some (.norm [x6,x7,x8,x10,x61],H))
 (some (.norm [x6,x7,x8,x10,x51],H))) (zFt D n))) (UB D n)
theorem UM (D:Dyn)(n:Nat){H0 H:AH}{At Ac F M0 K V:Nat}{ed:Ed}{B1 B2 B3 B4 B5 B6 d s:Nat}{dk cch dr:AV}{root:Ptr}{es:List (AV×AV)}{q fr:PN}{fes:List (AV×AV)}{g:AV}{gl:List Ptr}{last0 last:Nat}{nd:Nd.Node}(ti:TI H0 At M0 dk cch root es q last0 dr)(hold: ∀kv∈es,∀B,xJ kv.2 B->B<H0.next)
  (ch:Ch H0 H At Ac F fes fr g gl last0 last) (cl:Cl H0 H At Ac K V ed B1 B2 B3 B4 B5 B6 d) (hs:qV s q=some nd) (hd:d+1<=8192):
  ∃lv A7 A8 A10 H6,f67 D n [.agg (y6 (pp s)), .ptr B1 0, .ptr B2 0, .ptr B3 0, .ptr B4 0, .ptr B5 0, .ptr B6 0] H=yR (zLP D n (.ptr B3 0) (.ptr B4 0) (.ptr B5 0) (.ptr B6 0) (.ptr A7 0) (.ptr A8 0) (.ptr A10 0) H6)/\
   Ch H0 H6 At Ac F fes fr g gl last0 last/\Cl H0 H6 At Ac K V ed B1 B2 B3 B4 B5 B6 (d+1)/\kC H6 g (.agg lv) nd/\(∃r,lv= .bool nd.leaf::r/\lv.length=4/\qN lv=true)/\
   H6.h.get A7=some (.cells (y6 (pp s)) 59 1 false)/\H6.h.get A8=some (.cells [.bool false, .nilSlice, .nilSlice, .nilSlice] 93 1 false)/\H6.h.get A10=some (.cells lv 93 1 false)/\
   H.next<=A7/\H.next<=A8/\H.next<=A10/\A7≠A8/\A7≠A10/\A8≠A10/\Stp (fun B=>B=B1) H H6:=by
 obtain⟨H1,A7,b1,p1,g1,m1,n1⟩:=box ch.prs.ok (.cells (y6 (pp s)) 59 1 false);obtain⟨H2,A8,b2,p2,g2,m2,n2⟩:=box p1.ok (.cells [.bool false, .nilSlice, .nilSlice, .nilSlice] 93 1 false);have P2:=p1.trans p2;have ch2:=ch.step P2;have cl2:=cl.prs ch.prs.ok P2;obtain⟨H3,e3,cl3,ch3,s3⟩:=cl2.deeper ch2;have ti3:=ti.prs ch3.prs;have hmost:=zEF D n ti3;have N1:=p1.next;have N2:=p2.next;have N3:=s3.next
 have hB1:B1<H.next:=cl.bd.lt ch.prs.ok
 have g73:H3.h.get A7=some (.cells (y6 (pp s)) 59 1 false):=by rw[s3.keep _ (by omega) (by omega)];exact Prs.get p2 p1.ok g1
 have g83:H3.h.get A8=some (.cells [.bool false, .nilSlice, .nilSlice, .nilSlice] 93 1 false):=by rw[s3.keep _ (by omega) (by omega)];exact g2
 obtain⟨v,H4,e4,p4,hg4,kk,hmem⟩:=KW D n ti3 hs;obtain⟨lv,rfl,lvl,lvc⟩:=hg4.cells;obtain⟨H5,A10,b5,p5,g5,m5,n5⟩:=box p4.ok (.cells [.bool false, .nilSlice, .nilSlice, .nilSlice] 93 1 false);obtain⟨H6,e6,g6,s6,n6⟩:=yF p5.ok g5 (l':=lv) lvl lvc;have e6':stN 4 (.ptr A10 0) (.agg lv) H5=some (qM,H6):=e6;have N4:=p4.next;have N5:=p5.next
 have p36:Prs H3 H6:=(p4.trans p5).fresh s6 (fun B hB=>by omega);have ch6:=ch3.step p36;have hg6:y9 H6 (.agg lv) nd:=(hg4.prs p5).stp s6 (fun B hB e=>by
  subst e;have:=hg4.lt hB;omega)
 have hA6:kC H6 g (.agg lv) nd:=hg6.hand ch6 (fun B hB=>hold _ hmem B hB);obtain⟨r,hr1,hr2,hr3⟩:=uZ hg6;refine⟨lv,A7,A8,A10,H6, ?_,ch6,cl3.prs ch3.prs.ok p36,hA6,⟨r,hr1,hr2,hr3⟩,Prs.get p36 ch3.prs.ok g73,Prs.get p36 ch3.prs.ok g83,g6,by omega,by omega,by omega,by omega,by omega,by omega,((P2.mono fun _ _ x=>x.elim).trans s3).trans (p36.mono fun _ _ x=>x.elim)⟩;have hd1:((d:Nat):Int)+((1:Nat):Int)=((d+1:Nat):Int):=by omega
 have hgt: ¬((8192+q.length:Nat):Int)< ((d+1:Nat):Int):=by omega
 have hav:aveq (.int .i64 ((d+1:Nat):Int)) (.int .i64 ((d+1:Nat):Int))=true:=by
  have:keq .i64 .i64=true:=by rw[kQ];simp
  simp only[aveq,this,Bool.true_and,kR];simp
 have t00: ¬(((0:Nat):Int)≠((0:Nat):Int)):=by omega
 simp(maxSteps:=999999)(disch:=omega) only[f67,fH,zEC,bVs,bRs,show ∀(e:TypeId) (l:List AV),bxV e (.agg l)=some (.cells l e 1 false,fun A=> .ptr A 0)from fun _ _=>rfl,b1,b2,cl2.bd.ld,ZP,wrap_i64,Int.ofNat_eq_natCast,hd1,e3,cl3.bd.ld,cl3.bt.ld,hmost,(fun K=>jA rfl hav: ∀K:Rs,chk (some (AV.int .i64 ((d+1:Nat):Int))) (.int .i64 ((d+1:Nat):Int)) K=K),zBU,hgt,decide_false,zCJ,Bool.false_eq_true,if_false,qQ g73,zKr,Option.map_some,e4,qK,nth,b5,e6',zBS,t00];rfl
theorem Cl.stb {H0 H H':AH}{At Ac K V A e:Nat}{ed:Ed}{B1 B2 B3 B4 B5 B6 d:Nat}{l:List AV}(h:Cl H0 H At Ac K V ed B1 B2 B3 B4 B5 B6 d)(hk:H.ok)(gA:H.h.get A=some (.cells l e 1 false))(hl:l.length=4)(s:Stp (fun B=>B=A) H H'):Cl H0 H' At Ac K V ed B1 B2 B3 B4 B5 B6 d:=by
 have m: ∀ {B:Nat} {x:AV},Box H B x->Box H' B x:=fun {B x} hb=>hb.mono hk s (fun e=>by
  obtain⟨_,hb⟩:=hb;rw[e,gA]at hb;simp only[z7,AObj.cells.injEq]at hb;rw[hb.1]at hl;simp at hl)
 exact⟨m h.bd,m h.bt,m h.be,m h.bk,m h.bf,m h.bc,h.eb,h.fr,h.n1,h.n2,h.n3,h.n4,h.n5⟩
theorem zLO {H0:AH}{At Ac F M0 K V:Nat}{ed:Ed}{B1 B2 B3 B4 B5 B6:Nat}{dk cch dr:AV}{root:Ptr}{es:List (AV×AV)}{q:PN}{last0:Nat}(ti:TI H0 At M0 dk cch root es q last0 dr)(hold: ∀kv∈es,∀B,xJ kv.2 B->B<H0.next)(hq: ∀s nd,qV s q=some nd->s<=last0)(ho:ed.ok):
  ∀(h M n:Nat),200000000+h<=M->200000000<=n-> ∀ {H:AH} {d s last:Nat} {fes:List (AV×AV)} {f:PN} {g:AV} {gl:List Ptr} {nd:Nd.Node} {t:Bt.Tr h} {S:List Ptr} {lo hi:Bd},
   Ch H0 H At Ac F fes f g gl last0 last->Cl H0 H At Ac K V ed B1 B2 B3 B4 B5 B6 d->qV s q=some nd->jF (Qf q []) h nd t S->Gen h lo hi t->j9 h t<=500->(0<h->nd.keys≠[])->zEH lo ed.key->hiB hi ed.key->d+h+1<=8192->last+6*h<=600000000->gl.length+2*(h+1)<=last+1000->
   ∃u e g' H',f67 (dy (M+1)) n [.agg (y6 (pp s)), .ptr B1 0, .ptr B2 0, .ptr B3 0, .ptr B4 0, .ptr B5 0, .ptr B6 0] H=some (.tuple [u, .int .i64 ((e:Nat):Int)],H')/\Stp (fun B=>chg Ac F g B\/B=B1) H H'/\(∃l,u= .agg l/\l.length=4/\qN l=true)/\
    match ed.run (con h t)with
    | none=>e=5
    | some c'=>e=0/\zMf H0 H H' At Ac F K V ed B1 B2 B3 B4 B5 B6 d q f g g' gl last0 last h lo hi t S (pp s) u c':=by
 intro h
 induction h with
 | zero=>
  intro M n hM hn H d s last fes f g gl nd t S lo hi ch cl hs rn wg hz _ hlo hhi hd hb hgl;obtain⟨rfl,rfl⟩:=rn;obtain⟨lv,A7,A8,A10,H6,e6,ch6,cl6,hA6,⟨r,hr1,hr2,hr3⟩,g7,g8,g10,m7,m8,m10,n78,n710,n810,st6⟩:=UM (dy (M+1)) n ti hold ch cl hs (by omega);have N0:=ch.prs.next;have hAc:=ch.ltC;have N6:=st6.next
  have hz':jC (t:Kvs)<=10000:=by simp only[j9]at hz;omega
  obtain⟨u,H7,e7,_,p7,w7⟩:=zGd M n (by omega) ch6.prs.ok hA6.1 wg hz' ho (cl6.eb.prs ti.ok ch6.prs);obtain⟨lu,rfl,lul,luc⟩:=w7.1.cells;have ch7:=ch6.step p7;have cl7:=cl6.prs ch6.prs.ok p7;have g107:=Prs.get p7 ch6.prs.ok g10;obtain⟨H8,e8,g108,s8,n8⟩:=yF p7.ok g107 (l':=lu) (by omega) luc;have e8':stN 4 (.ptr A10 0) (.agg lu) H7=some (qM,H8):=by rw[hr2]at e8;exact e8
  have cl8:=cl7.stb p7.ok g107 hr2 s8;have hu7:kC H7 g (.agg lu) (edL ed t).1:=wE.hand ch6 (Nat.le_refl _) w7;rw[hr1]at g107;have ch8:=ch7.stb g107 s8 (by omega) (by omega);have hu8:=hu7.stb g107 s8;have N7:=p7.next;have N8:=s8.next
  have g78:H8.h.get A7=some (.cells (y6 (pp s)) 59 1 false):=by rw[s8.keep _ (by have:=ch6.prs.ok.lt g7;omega) (by omega)];exact Prs.get p7 ch6.prs.ok g7
  have g88:H8.h.get A8=some (.cells [.bool false, .nilSlice, .nilSlice, .nilSlice] 93 1 false):=by rw[s8.keep _ (by have:=ch6.prs.ok.lt g8;omega) (by omega)];exact Prs.get p7 ch6.prs.ok g8
  have S8:Stp (fun B=>chg Ac F g B\/B=B1) H H8:=⟨s8.ok,by omega,fun B hB hS=>by
   rw[s8.keep B (by omega) (by omega),p7.keep B (by omega) (fun x=>x),st6.keep B hB (fun e=>hS (.inr e))]⟩
  have t00: ¬(((0:Nat):Int)≠((0:Nat):Int)):=by omega
  have hlf:(qP (t:Kvs)).leaf=true:=rfl;have run: ∀ {x:Option (AV×AH)} {code:Nat},(edL ed t).2=code->yR (UB (dy (M+1)) n [.ptr B6 0, .ptr A7 0, .ptr A8 0, .ptr A10 0, .int .i64 ((code:Nat):Int)] H8)=x->f67 (dy (M+1)) n [.agg (y6 (pp s)), .ptr B1 0, .ptr B2 0, .ptr B3 0, .ptr B4 0, .ptr B5 0, .ptr B6 0] H=x:=by
   intro x code hc hx;rw[hc]at e7;rw[e6];simp(maxSteps:=999999)(disch:=omega) only[zLP,eZ,qL g10,hr1,hlf,cl6.be.ld];simp(maxSteps:=999999)(disch:=omega) only[eZ,xY g10 hr2,e7,qK,nth,e8'];exact hx
  cases hr:ed.run t with
  | none=>
   have hel:edL ed t=(nd0,5):=by simp only[edL,hr]
   obtain⟨H9,e9,s9⟩:=zDo (dy (M+1)) n (B6:=B6) (.ptr A7 0) (.ptr A10 0) ch8.prs.ok g88 (e:=5) (by decide);refine⟨.agg [.bool false, .nilSlice, .nilSlice, .nilSlice],5,g,H9,run (by rw[hel]) (by rw[e9];rfl),⟨s9.ok,by have:=s9.next;omega,fun B hB hS=>by rw[s9.keep B (by omega) (by omega)];exact S8.keep B hB hS⟩,⟨_,rfl,rfl,rfl⟩, ?_⟩
   simp only[con,hr]
  | some l'=>
   have hel:edL ed t=(qP l',0):=by simp only[edL,hr]
   rw[hel]at hu8;obtain⟨g',H9,e9,ch9,cl9,hu9,s9,b9⟩:=zDn (dy (M+1)) n ch8 cl8 g78 g88 g108 hu8 (by omega) (by omega) (by omega) (by omega) (by omega) (by omega);obtain⟨w1,w2⟩:=Ed.leaf wg hlo hhi ho hr;refine⟨.agg lu,0,g',H9,run (by rw[hel]) (by rw[e9];rfl),⟨s9.ok,by have:=s9.next;omega,fun B hB hS=> ?_⟩,⟨_,rfl,lul,luc⟩, ?_⟩
   ·rw[s9.keep B (by omega) (fun hx=>by
     rcases hx with hx | hx
     ·exact hS (.inl hx)
     ·omega)]
    exact S8.keep B hB hS
   ·simp only[con,hr];refine⟨trivial,_,_,_,_,_,_,[],[pp s],[],[],l',ch9,cl9,hu9,⟨rfl,rfl⟩,⟨w1,by simp only[j9]at hz;omega⟩,rfl,fun hh=>absurd hh (by omega),rfl,by simp,by omega,by omega,by omega,by simp,by simp,by simp,by simp,fun _ _ hp=>hp,fun B hB=> ?_⟩;rcases b9 B hB with e | e
    ·exact .inl e
    ·exact .inr (by omega)
 | succ h ih=>
  intro M n hM hn H d s last fes f g gl nd t S lo hi ch cl hs rn wg hz hne hlo hhi hd hb hgl;obtain⟨r1,r2,r3,r4⟩:=rn;obtain⟨w1,w2,w3⟩:=id wg;have hlen:=w3.len;have hklen:=r4.len;obtain⟨lv,A7,A8,A10,H6,e6,ch6,cl6,hA6,⟨r,hr1,hr2,hr3⟩,g7,g8,g10,m7,m8,m10,n78,n710,n810,st6⟩:=UM (dy (M+1)) n ti hold ch cl hs (by omega);have N0:=ch.prs.next;have hAc:=ch.ltC;have N6:=st6.next
  have hz0:jH t.1 t.2.length<=500:=hz;have hsm:small nd:=wI (by
   have:Nd.size nd=j9 (h+1) t:=jF.size (Q:=Qf q []) (S:=S) ⟨r1,r2,r3,r4⟩;rw[this];simp only[j9];omega)
  have hwN:Nd.whereN nd ed.key=qZ t.1 ed.key:=xM r1 r2 _;have hile:qZ t.1 ed.key<=t.1.length:=xN _ _;have hil:qZ t.1 ed.key<t.2.length:=by omega
  obtain⟨sA,sB⟩:=gY (key:=ed.key) (ks:=t.1) (ts:=t.2) wg;have klo:=KI (lo:=lo) w2 hlo;have khi:=KJ (hi:=hi) w2 hhi;generalize hidef:qZ t.1 ed.key=i at hwN hile hil sA sB klo khi;have htk:=zB hil;obtain⟨pk,ndk,Sa,Si,Sb,k1,k2,k3,k4,k5,k6⟩:=r4.at htk;obtain⟨sk,rfl,hsk⟩:=uI k2;have hsk:qV sk q=some ndk:=by
   rcases hsk with hsk | ⟨_,hsk⟩
   ·simp[qV]at hsk
   ·exact hsk
  have wk:=KB.at w3 htk;have kne:0<h->ndk.keys≠[]:=fun hh=>by
   cases h with
   | zero=>omega
   | succ h=>
    have:=QP wk;rw[k3.2.1];intro e;rw[e]at this;simp at this
  obtain⟨H7,e7,p7⟩:=bN (dy (M+1)) n hn ch6.prs.ok (key:=ed.key) hA6.1.node hsm;rw[hwN]at e7;obtain⟨H8,A13,b8,p8,g13,m13,n13⟩:=box p7.ok (.cells [.bool false, .nilSlice, .nilSlice, .nilSlice] 93 1 false);have P68:=p7.trans p8;have ch8:=ch6.step P68;have cl8:=cl6.prs ch6.prs.ok P68;have cl7:=cl6.prs ch6.prs.ok p7;have hA8:=hA6.prs P68;have g78:=Prs.get P68 ch6.prs.ok g7;have g88:=Prs.get P68 ch6.prs.ok g8;have g108:=Prs.get P68 ch6.prs.ok g10;obtain⟨ks,vs0,ps,hle,j1,j2,j3⟩:=id hA8.1;simp only[AV.agg.injEq]at hle;obtain⟨qk,ik,ik'⟩:=uP.at (l:=nd.kids) j3.row (i:=i) (by omega);have hkk:nd.kids[i]'(by omega)=pp sk:=by
   rw[zB (by omega)]at k1;exact Option.some.inj k1
  rw[hkk]at ik';have N7:=p7.next;have N8:=p8.next
  obtain⟨M',rfl⟩: ∃M',M=M'+1:=⟨M - 1,by omega⟩;obtain⟨u1,e1,g1,H9,e9,s9,⟨l1,rfl,l1l,l1c⟩,hout⟩:=ih M' (M'+1) (by omega) (by omega) ch8 cl8 hsk k3 wk.gen wk.sz kne klo khi (by omega) (by omega) (by omega);have ltA: ∀ {A:Nat} {o:AObj},H8.h.get A=some o->A<H8.next:=fun hg=>ch8.prs.ok.lt hg
  have np: ∀ {A:Nat} {l:List AV} {e:Nat},H8.h.get A=some (.cells l e 1 false)->l.length≠1->A≠Ac-> ¬(chg Ac F g A\/A=B1):=fun {A l e} hg hl hne hc=>by
   rcases hc with(e | e | e) | e
   ·exact hne e
   ·rw[e,ch8.gF]at hg;cases hg
   ·rw[ch8.gg.get e]at hg;simp at hg
   ·obtain⟨_,hb⟩:=cl8.bd;rw[e,hb]at hg;simp only[z7,AObj.cells.injEq]at hg;rw[<-hg.1]at hl;simp at hl
  have l10:lv.length≠1:=by omega
  have g79:H9.h.get A7=some (.cells (y6 (pp s)) 59 1 false):=by rw[s9.keep _ (ltA g78) (np g78 (by simp[y6]) (by omega))];exact g78
  have g89:H9.h.get A8=some (.cells [.bool false, .nilSlice, .nilSlice, .nilSlice] 93 1 false):=by rw[s9.keep _ (ltA g88) (np g88 (by simp) (by omega))];exact g88
  have g109:H9.h.get A10=some (.cells lv 93 1 false):=by rw[s9.keep _ (ltA g108) (np g108 l10 (by omega))];exact g108
  have g139:H9.h.get A13=some (.cells [.bool false, .nilSlice, .nilSlice, .nilSlice] 93 1 false):=by rw[s9.keep _ n13 (np g13 (by simp) (by omega))];exact g13
  obtain⟨H10,e10,g1310,s10,n10⟩:=yF s9.ok g139 (l':=l1) l1l l1c;have e10':stN 4 (.ptr A13 0) (.agg l1) H9=some (qM,H10):=e10;have N9:=s9.next;have N10:=s10.next
  have t7:=ltA g78;have t8:=ltA g88;have t10:=ltA g108;have a13:ch6.prs.ok.lt g7=ch6.prs.ok.lt g7:=rfl;have u7:=ch6.prs.ok.lt g7;have u8:=ch6.prs.ok.lt g8;have u10:=ch6.prs.ok.lt g10;have g710:H10.h.get A7=some (.cells (y6 (pp s)) 59 1 false):=by rw[s10.keep _ (by omega) (by omega)];exact g79
  have g810:H10.h.get A8=some (.cells [.bool false, .nilSlice, .nilSlice, .nilSlice] 93 1 false):=by rw[s10.keep _ (by omega) (by omega)];exact g89
  have g1010:H10.h.get A10=some (.cells lv 93 1 false):=by rw[s10.keep _ (by omega) (by omega)];exact g109
  have S10:Stp (fun B=>chg Ac F g B\/B=B1) H H10:=⟨s10.ok,by omega,fun B hB hS=>by
   rw[s10.keep B (by omega) (by omega),s9.keep B (by omega) hS,P68.keep B (by omega) (fun x=>x),st6.keep B hB (fun e=>hS (.inr e))]⟩
  have hrun:=Ed.run_mid ed (A:=(t.2.take i).flatMap (con h)) (C:=con h t.2[i]) (B:=(t.2.drop (i+1)).flatMap (con h)) sA sB;have hcon:con (h+1) t=(t.2.take i).flatMap (con h)++con h t.2[i]++(t.2.drop (i+1)).flatMap (con h):=by
   have:t.2=t.2.take i++[t.2[i]]++t.2.drop (i+1):=zAV htk;simp only[con]
   conv=>lhs;rw[this]
   simp only[zZ,zP,List.flatMap_nil,List.append_nil]
  rw[<-hcon]at hrun;have t00: ¬(((0:Nat):Int)≠((0:Nat):Int)):=by omega
  have hps:lv=[.bool nd.leaf,ks,vs0,ps]:=hle;have head: ∀ {x:Option (AV×AH)},yR (jn (bV (qO .eql (.int .i64 ((e1:Nat):Int)) (.int .i64 (.ofNat 0))) fun x53=>jn (cnd x53 (bV (ld1 (.ptr B6 0) H10) fun x55=>bV (ldN 4 (.ptr A10 0) H10) fun x56=>bV (ldN 4 (.ptr A13 0) H10) fun x58=>bR (f68 (dy (M'+1+1)) n [x55,x56, .int .i64 (i:Nat),x58] H10) fun x59 H=>
    bV (qK x59 0) fun x60=>bV (qK x59 1) fun x61=>bR (stN 4 (.ptr A10 0) x60 H) fun _ H=>some (.norm [.ptr B6 0, .ptr A7 0, .ptr A8 0, .ptr A10 0,x61],H)) (some (.norm [.ptr B6 0, .ptr A7 0, .ptr A8 0, .ptr A10 0, .int .i64 ((e1:Nat):Int)],H10))) (zFt (dy (M'+1+1)) n)) (UB (dy (M'+1+1)) n))=x->
    f67 (dy (M'+1+1)) n [.agg (y6 (pp s)), .ptr B1 0, .ptr B2 0, .ptr B3 0, .ptr B4 0, .ptr B5 0, .ptr B6 0] H=x:=by
   intro x hx;rw[e6,<-hx];have h0:ld1 (.ptr A10 0) H6=some (.bool false):=by rw[qL g10,hps,r1];rfl
   have h3:ld1 (.ptr A10 3) H8=some ps:=by rw[qL g108,hps];rfl
   simp(maxSteps:=999999)(disch:=omega) only[zLP,eZ,h0,xY g10 hr2,cl6.bk.ld,e7,b8,cl8.bf.ld,h3,ik,ik',zIZ,e9,qK,nth,e10']
  cases hr:ed.run (con h t.2[i])with
  | none=>
   rw[hr]at hout hrun;simp only[Option.map_none]at hrun;have hout:e1=5:=hout;subst hout;obtain⟨H11,e11,s11⟩:=zDo (dy (M'+1+1)) n (B6:=B6) (.ptr A7 0) (.ptr A10 0) s10.ok g810 (e:=5) (by decide);have h50: ¬((5:Nat):Int)=((0:Nat):Int):=by omega
   refine⟨.agg [.bool false, .nilSlice, .nilSlice, .nilSlice],5,g,H11,head ?_,⟨s11.ok,by have:=s11.next;omega,fun B hB hS=>by rw[s11.keep B (by omega) (by omega)];exact S10.keep B hB hS⟩,⟨_,rfl,rfl,rfl⟩, ?_⟩
   ·simp(maxSteps:=999999)(disch:=omega) only[eZ,h50,zFt,e11]
   ·rw[hrun]
  | some c1=>
   rw[hr]at hout hrun;simp only[Option.map_some]at hrun;obtain⟨rfl,fes1,f1,gl1,last1,d1,nd1,S1,G1,R1,Fr1,t1,ch9,cl9,hA9,rn9,wx9,con9,nk9,hgl1,hG1,hl1,hl1',hd1,pm1,pm1',nd1',fr1,more1,bg1⟩:=hout;have ch10:=ch9.stb g139 s10 (by omega) (by omega);have cl10:=cl9.stb s9.ok g139 rfl s10;have hk10:=hA9.stb g139 s10;have hv9:kC H9 g1 (.agg lv) nd:=⟨hA8.1.stp s9 (fun B hB hc=>by
    rcases hc with(e | e | e) | e
    ·subst e;exact hA8.1.nblk ch8.gC (.inl ⟨_,_,_,_,rfl,fun _ _ e=>by cases e⟩) hB
    ·subst e;exact hA8.1.nblk ch8.gF (.inr (.inl ⟨_,_,rfl⟩)) hB
    ·exact hA8.2 B hB e
    ·obtain⟨_,hb⟩:=cl8.bd;subst e;exact hA8.1.nblk hb (.inl ⟨_,_,_,_,rfl,fun _ _ e=>by cases e⟩) hB),fun B hB hg=>by
    rcases bg1 B hg with e | e
    ·exact hA8.2 B hB e
    ·have:=hA8.1.lt hB;omega⟩
   have hv10:=hv9.stb g139 s10;have kne':0<h->nd1.keys≠[]:=fun hh=>by
    have hnk:=nk9 hh
    cases h with
    | zero=>omega
    | succ h=>
     have:=QP wk;simp only[YT]at hnk;rw[rn9.2.1];intro e;rw[e]at hnk;simp at hnk;omega
   have hG1l:gl1.length=gl.length+G1.length:=by rw[hgl1,zI]
   obtain⟨u2,H11,fes2,f2,g2,gl2,last2,nd2,t2,S2,G2,R2,e11,ch11,adv11,hu11,rn11,w11,con11,z11,k11,l11,l12,hgl2,pm2,pm2',more2,hG2⟩:=zCu (dy (M'+1+1)) n hn ti hold hq ch10 hv10 hk10 r1 r2 r3 hklen wg (by rw[<-r2];exact hne (by omega)) hz0 htk k4 k5 rn9 wx9 kne' (by omega) (by omega);obtain⟨l2,rfl,l2l,l2c⟩:=hu11.1.cells;have np10: ∀ {A:Nat} {l:List AV} {e:Nat},H10.h.get A=some (.cells l e 1 false)->A≠Ac-> ¬chg Ac F g1 A:=fun {A l e} hg hne hc=>by
    rcases hc with e | e | e
    ·exact hne e
    ·rw[e,ch10.gF]at hg;cases hg
    ·rw[ch10.gg.get e]at hg;simp at hg
   have N11:=adv11.1.next
   have g711:H11.h.get A7=some (.cells (y6 (pp s)) 59 1 false):=by rw[adv11.1.keep _ (by omega) (np10 g710 (by omega))];exact g710
   have g811:H11.h.get A8=some (.cells [.bool false, .nilSlice, .nilSlice, .nilSlice] 93 1 false):=by rw[adv11.1.keep _ (by omega) (np10 g810 (by omega))];exact g810
   have g1011:H11.h.get A10=some (.cells lv 93 1 false):=by rw[adv11.1.keep _ (by omega) (np10 g1010 (by omega))];exact g1010
   obtain⟨H12,e12,g1012,s12,n12⟩:=yF ch11.prs.ok g1011 (l':=l2) (by omega) l2c;have e12':stN 4 (.ptr A10 0) (.agg l2) H11=some (qM,H12):=by rw[hr2]at e12;exact e12
   have cl11:=cl10.keep ch10 adv11.1;have cl12:=cl11.stb ch11.prs.ok g1011 hr2 s12;have g1011':=g1011;rw[hr1]at g1011';have ch12:=ch11.stb g1011' s12 (by omega) (by omega);have hu12:=hu11.stb g1011' s12;have N12:=s12.next
   have g712:H12.h.get A7=some (.cells (y6 (pp s)) 59 1 false):=by rw[s12.keep _ (by omega) (by omega)];exact g711
   have g812:H12.h.get A8=some (.cells [.bool false, .nilSlice, .nilSlice, .nilSlice] 93 1 false):=by rw[s12.keep _ (by omega) (by omega)];exact g811
   have hG2l:gl2.length=gl1.length+G2.length:=by rw[hgl2,zI]
   obtain⟨g3,H13,e13,ch13,cl13,hu13,s13,b13⟩:=zDn (dy (M'+1+1)) n ch12 cl12 g712 g812 g1012 hu12 (by omega) (by omega) (by omega) (by omega) (by omega) (by omega);have g2old: ∀B,Blk g2 B->Blk g B\/H8.next<=B:=fun B hB=>by
    rcases adv11.2 B hB with e | e
    ·exact bg1 B e
    ·exact .inr (by omega)
   refine⟨.agg l2,0,g3,H13,head ?_,⟨s13.ok,by have:=s13.next;omega,fun B hB hS=> ?_⟩,⟨_,rfl,l2l,l2c⟩, ?_⟩
   ·simp(maxSteps:=999999)(disch:=omega) only[eZ,cl10.bc.ld,xY g1010 hr2,xY g1310 l1l,e11,qK,nth,e12',zFt,e13]
   ·rw[s13.keep B (by omega) (fun hx=>by
     rcases hx with(e | e | e) | e
     ·exact hS (.inl (.inl e))
     ·exact hS (.inl (.inr (.inl e)))
     ·rcases g2old B e with e | e
      ·exact hS (.inl (.inr (.inr e)))
      ·omega
     ·omega),s12.keep B (by omega) (by omega),adv11.1.keep B (by omega) (fun hx=>by
     rcases hx with e | e | e
     ·exact hS (.inl (.inl e))
     ·exact hS (.inl (.inr (.inl e)))
     ·rcases bg1 B e with e | e
      ·exact hS (.inl (.inr (.inr e)))
      ·omega)]
    exact S10.keep B hB hS
   ·rw[hrun];refine⟨rfl,fes2,f2,gl2++[pp s],last2,d1,nd2,S2,G1++G2++[pp s],R2++R1,pps last1 (last2 - last1)++Fr1,t2,ch13,cl13,hu13,rn11,⟨w11,by omega⟩,by rw[con11,con9],fun _=>by simp only[YT];exact k11,by rw[hgl2,hgl1];simp,by simp;omega,by omega,by omega,by omega, ?_, ?_, ?_, ?_,fun p nd hp=>more2 p nd (more1 p nd hp),fun B hB=> ?_⟩
    ·rw[List.perm_iff_count]at pm1 pm2⊢;intro a;have x1:=pm1 a;have x2:=pm2 a;simp only[List.count_append]at x1 x2⊢;omega
    ·rw[k6];rw[List.perm_iff_count]at pm1' pm2'⊢;intro a;have x1:=pm1' a;have x2:=pm2' a;simp only[List.count_append,List.count_cons,List.count_nil]at x1 x2⊢;omega
    ·rw[List.nodup_append];refine⟨QE _ _,nd1',fun a ha b hb e=> ?_⟩;obtain⟨j,rfl,q1,q2⟩:=fE ha;obtain⟨j',e',q3,q4⟩:=fr1 b hb;rw[e']at e;have:=aS e;omega
    ·intro p hp;rcases List.mem_append.1 hp with hp | hp
     ·obtain⟨j,rfl,q1,q2⟩:=fE hp;exact⟨j,rfl,by omega,by omega⟩
     ·obtain⟨j,rfl,q1,q2⟩:=fr1 p hp;exact⟨j,rfl,by omega,by omega⟩
    ·rcases b13 B hB with e | e
     ·rcases g2old B e with e | e
      ·exact .inl e
      ·exact .inr (by omega)
     ·exact .inr (by omega)
end Go.Eng.Sh
end
