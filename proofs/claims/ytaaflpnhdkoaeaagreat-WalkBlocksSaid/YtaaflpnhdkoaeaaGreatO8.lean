/- A checked evaluator for the program, and what it tells, part 8: no condition. -/
import Derived.Test.YtaaflpnhdkoaeaaGreatO7
import Derived.Test.YtaaflpnhdkoaeaaGreatRows
import Derived.ProofKit
import Derived.OpenShut
import Derived.Carry
set_option linter.all false
set_option linter.unusedVariables false
set_option linter.unusedSimpArgs false
set_option maxHeartbeats 8000000
set_option maxRecDepth 20000
section
set_option maxRecDepth 20000
namespace Go.Nd
open Go.Eng (ltS kV kR fX bH d7)
theorem filt_del (k:Str): ∀ {l:Kvs},Srt l->(l.filter fun p=>decide (p.1≠k))=delP k l
 | [],_=>rfl
 | (a,b)::l,h=>by
  by_cases e:a=k
  .subst e;rw[List.filter_cons_of_neg (by simp),delP,if_pos rfl];exact List.filter_eq_self.2 fun p hp=>decide_eq_true fun e=>by have:=h.1 p hp;rw[e,kV]at this;cases this
  .rw[List.filter_cons_of_pos (by simpa using e),delP,if_neg e,filt_del k h.2]
theorem del_not (k:Str){l:Kvs}(h:Srt l): ∀q∈delP k l,q.1≠k:=by
 rw[<-filt_del k h];intro q a;simpa using(List.mem_filter.1 a).2
theorem put_del (k v:Str){l:Kvs}(h:Srt l):putP k v (delP k l)=putP k v l:=
 Go.Eng.Sh.srt_ext (srt_put k v (srt_del k h)) (srt_put k v h) fun x=>by
  rw[zAs,zAs,zEz k x h];by_cases e:x=k<;>simp[e]
theorem del_len (k:Str){l:Kvs}(h:Srt l):(delP k l).length=if(lookP k l).isSome then l.length - 1 else l.length:=by
 cases hl:lookP k l with
 | none=>simp only[Option.isSome_none,zL,qC];rw[Go.Bt.del_none (Go.Eng.Sh.look_not hl)]
 | some v=>
  obtain⟨a,e⟩:=(Go.Eng.Sh.here_split h).2 v hl;rw[Go.Eng.Sh.del_at h a e];simp only[jK,if_true,zT,qA,qK];omega
theorem ins_put (k v:Str): ∀l:Kvs,(∀q∈l,q.1≠k)->l.take (l.findIdx fun p=> !ltS p.1 k)++(k,v)::l.drop (l.findIdx fun p=> !ltS p.1 k)=putP k v l
 | [],_=>rfl
 | (a,b)::l,h=>by
  have f:=ins_put k v l fun q i=>h q (zC _ i)
  have j: ¬a=k:=h (a,b) (zK ..);simp only[putP,if_neg j]
  cases hl:ltS a k with
  | true=>
   have:((a,b)::l).findIdx (fun p=> !ltS p.1 k)=(l.findIdx fun p=> !ltS p.1 k)+1:=by rw[List.findIdx_cons];simp[hl]
   rw[this,List.take_succ_cons,List.drop_succ_cons,qF,f];rfl
  | false=>
   have:((a,b)::l).findIdx (fun p=> !ltS p.1 k)=0:=by rw[List.findIdx_cons];simp[hl]
   rw[this];rfl
end Go.Nd
namespace Go.Eng
end Go.Eng
namespace Go.Eng.Sh
open Go.Nd (Ptr sumL leafOf Kvs Srt Str putP delP lookP mayK)
open Go.Bt
theorem zD8 (D:Dyn)(n:Nat){H:AH}(Z:H.ok){v:AV}{l:Kvs}(h:zFz H v l)(hl:l.length<=1000000)(hn:l.length<n)(key:Str):
  ∃H' u,f69 D n [v,S key] H=some (u,H')/\Prs H H'/\PrG H' u (l.filter fun p=>decide (p.1≠key))/\ ∀B,Blk u B->H.next<=B:=by
 have t:lnSl v=some (.int .i64 ((l.length:Nat):Int)):=zRm h;have lp:=vJ (b:=VX D n) l.length (fun i y H'=> ∃w,y=[v,S key,w, .int .i64 ((i:Nat):Int)]/\Prs H H'/\PrG H' w ((l.take i).filter fun p=>decide (p.1≠key))/\ ∀B,Blk w B->H.next<=B) (fun i y H' hi ⟨w,hus,P,g,f⟩=>by
  subst hus;have h':zFz H' v l:=Rw.stp h P fun _ _ x=>x
  obtain⟨A,o,L,i2,i3,_⟩:=h'.at hi;have F:Eng.ld1 (.ptr A (o+0)) H'=some (S l[i].1):=i3;have J:((i:Nat):Int)< ((l.length:Nat):Int):=by omega
  have hi1:((i:Nat):Int)+((1:Nat):Int)=((i+1:Nat):Int):=by omega
  have K:l.take (i+1)=l.take i++[l[i]]:=qJ hi;by_cases a:l[i].1≠key
  .have j:(l.take (i+1)).filter (fun p=>decide (p.1≠key))=(l.take i).filter (fun p=>decide (p.1≠key))++[l[i]]:=by rw[K,jF,List.filter_cons_of_pos (by simpa using a)];rfl
   have T:=List.length_filter_le (fun p=>decide (p.1≠key)) (l.take i);rw[qA]at T;obtain⟨H1,A2,b1,s,g1,m1,n1⟩:=box P.ok (.cells (prV l[i]) 48 2 false);have U:srcOf 2 (.slice A2 0 1 2) H1=some (1,prV l[i]):=by simp only[srcOf,g1];rfl
   obtain⟨w',H2,e2,W,s2,f2⟩:=kZ.app (bytes:=32) (m:=1) s.ok (by decide) (kZ.mono g.1 s fun _ _ x=>x) U rfl rfl (by omega) (by decide);have N:=P.next;have N1:=s.next
   have Y:dL 48 2 1 [S [],S []] [(0, .agg (prV l[i]))]=some (.cells (prV l[i]) 48 2 false,fun A=> .slice A 0 1 2):=rfl;have hS:(AV.str 0 0)=S []:=rfl;refine⟨_,H2, ?_,w',rfl,(P.trans s).fresh s2 f,⟨?_,fun e=> ?_⟩,fun B z=> ?_⟩
   .simp(maxSteps:=999999)(disch:=omega) only[VX,zCa,eZ,t,J,L,F,uT,a,ne_eq,j6,i2,hS,Y,b1,e2,hi1]
   .rw[j,zT,yZ];have e1:[l[i]].flatMap prV=prV l[i]:=by simp
    rw[e1];exact W
   .rw[j]at e;simp at e
   .rcases f2 B z with e | e
    .exact f B e
    .omega
  .have j:(l.take (i+1)).filter (fun p=>decide (p.1≠key))=(l.take i).filter (fun p=>decide (p.1≠key)):=by rw[K,jF,List.filter_cons_of_neg (by simpa using a)];simp
   refine⟨_,H', ?_,w,rfl,P,by rw[j];exact g,f⟩;simp(maxSteps:=999999)(disch:=omega) only[VX,zCa,eZ,t,J,L,F,uT,a,hi1]) n _ H ⟨.nilSlice,rfl,zRf Z,⟨.inl (zRo ..),fun _=>rfl⟩,fun B z=>(zRl.1 z).elim⟩ (by omega)
 obtain⟨q,y,C,e5,w,rfl,P5,O,f5⟩:=lp;rw[j8]at O;refine⟨C,w, ?_,P5,O,f5⟩;have V:jY (q+1) (VX D n) [v,S key,w, .int .i64 ((l.length:Nat):Int)] C=some (.exit 0 [w],C):=jU (by simp only[VX,eZ,t,yA]);simp(maxSteps:=999999)(disch:=omega) only[f69,eZ,e5,V,zIK]
theorem zNO (D:Dyn)(n:Nat){H:AH}(Z:H.ok){v:AV}{l:Kvs}(m:Srt l)(h:zFz H v l)(hl:l.length<=1000000)(hn:l.length<n)(key x:Str):
  ∃H' L,f68 D n [v,S key,S x] H=some (L,H')/\Prs H H'/\PrG H' L (putP key x l):=by
 obtain⟨f,w,e1,y,z,f1⟩:=zD8 D n Z h hl hn key;rw[Nd.filt_del key m]at z;have O:=Nd.del_not key m;have a0:(delP key l).length<=l.length:=by have:=Nd.del_len key m;split at this<;>omega
 have N1:=y.next
 have hr:zFz f w (delP key l):=z.row;have t:lnSl w=some (.int .i64 (((delP key l).length:Nat):Int)):=zRm hr;obtain⟨K,s⟩: ∃K,K=(delP key l).findIdx fun p=> !ltS p.1 key:=⟨_,rfl⟩
 have T:K<=(delP key l).length:=by rw[s];exact List.findIdx_le_length
 have lp:jY n (zAF D n) [w,S key,S x, .int .i64 ((0:Nat):Int)] f=some (.exit 0 [w,S key,S x, .int .i64 ((K:Nat):Int)],f):=by
  refine vK (fun i=>[w,S key,S x, .int .i64 ((i:Nat):Int)]) K (fun i hi=> ?_) (fun q=> ?_) n (by omega)
  .have U:i< (delP key l).length:=by omega
   obtain⟨A,o,C,_,F,_⟩:=hr.at U;have u:Eng.ld1 (.ptr A (o+0)) f=some (S (delP key l)[i].1):=F;have a:((i:Nat):Int)< (((delP key l).length:Nat):Int):=by omega
   have hi1:((i:Nat):Int)+((1:Nat):Int)=((i+1:Nat):Int):=by omega
   have j:ltS (delP key l)[i].1 key=true:=by
    rw[s]at hi;have:=List.not_of_lt_findIdx hi;simpa using this
   simp(maxSteps:=999999)(disch:=omega) only[zAF,eZ,t,a,C,u,Y6,j,hi1]
  .refine jU ?_;by_cases j:K< (delP key l).length
   .obtain⟨A,o,C,_,F,_⟩:=hr.at j;have u:Eng.ld1 (.ptr A (o+0)) f=some (S (delP key l)[K].1):=F;have a:((K:Nat):Int)< (((delP key l).length:Nat):Int):=by omega
    have V:ltS (delP key l)[K].1 key=false:=by
     subst s;have:=List.findIdx_getElem (xs:=delP key l) (p:=fun p=> !ltS p.1 key) (w:=j);simpa using this
    simp(maxSteps:=999999)(disch:=omega) only[zAF,eZ,t,a,C,u,Y6,V]
   .have a: ¬((K:Nat):Int)< (((delP key l).length:Nat):Int):=by omega
    simp(maxSteps:=999999)(disch:=omega) only[zAF,eZ,t,a]
 obtain⟨H2,A1,r1,r2,w1,H3,A2,H4,w2,H5,w3,H6,b2,c2,c3,e3,_,_,b4,e5,c5,e6,P2,P3,P6,N⟩:=zQv y.ok z T (by omega) key x;have J:=Nd.ins_put key x (delP key l) O;rw[<-s]at J;rw[J,Nd.put_del key x m]at N;refine⟨H6,w3, ?_,y.trans P6,N⟩;have hS:(AV.str 0 0)=S []:=rfl;have W:dL 48 2 0 [S [],S []] []=some (.cells [] 48 2 false,fun A=> .slice A 0 0 0):=rfl;have bs:vR [(0,1),(1,1)] [S [],S []] [(0,S key),(1,S x)]=some (.agg [S key,S x]):=rfl;have Y:dL 48 2 1 [S [],S []] [(0, .agg [S key,S x])]=some (.cells [S key,S x] 48 2 false,fun A=> .slice A 0 1 2):=rfl;simp(maxSteps:=999999)(disch:=omega) only[f68,eZ,e1,lp,zIL,hS,W,b2,c2,e3,bs,Y,b4,e5,c5,e6]
theorem zNR (D:Dyn)(n:Nat){H:AH}(j:H.ok){v:AV}{l:Kvs}(f:Srt l)(h:zFz H v l)(hl:l.length<=1000000)(m:l.length<n)(key:Str):
  ∃H',f111 D n [v,S key] H=some (.bool (lookP key l).isSome,H')/\Prs H H':=by
 obtain⟨o,w,p,q,i,u⟩:=zD8 D n j h hl m key;rw[Nd.filt_del key f]at i;have l1:lnSl w=some (.int .i64 (((delP key l).length:Nat):Int)):=zRm i.row;have s:lnSl v=some (.int .i64 ((l.length:Nat):Int)):=zRm h;have hd:=Nd.del_len key f;have hb:decide (¬(((delP key l).length:Nat):Int)=((l.length:Nat):Int))=(lookP key l).isSome:=by
  cases a:(lookP key l).isSome with
  | false=>rw[a]at hd;simp only[zL,qC]at hd;rw[hd];simp
  | true=>
   rw[a]at hd;simp only[if_true]at hd;obtain⟨x,t⟩:=qO.1 a;obtain⟨y,_⟩:=(here_split f).2 x t;exact decide_eq_true (by omega)
 refine⟨o, ?_,q⟩;simp(maxSteps:=999999)(disch:=omega) only[f111,eZ,p,l1,s,ne_eq,hb]
theorem zQG (p:Str×Str):eqA [2,2] (.agg (prV p)) (.agg (prV p))=some true:=by
 have a: ∀s:Str,VB 2 (S s) (S s)=some true:=fun s=>by simp[VB,S]
 simp only[eqA,prV,Z4,Nat.succ_eq_add_one,yF,zW,yJ,qN,zM,u5,a]
theorem zFK (D:Dyn)(n:Nat){H:AH}{v w:AV}{l:Kvs}(a:zFz H v l)(f:zFz H w l)(hl:l.length<n)(z:l.length<=1000000):f55 D n [v,w] H=some (.bool true,H):=by
 have l1:lnSl v=some (.int .i64 ((l.length:Nat):Int)):=zRm a;have m:lnSl w=some (.int .i64 ((l.length:Nat):Int)):=zRm f;have p:jY n (zDs D n) [v,w, .int .i64 ((0:Nat):Int)] H=some (.exit 0 [],H):=by
  refine vK (fun i=>[v,w, .int .i64 ((i:Nat):Int)]) l.length (fun i hi=> ?_) (fun k=> ?_) n (by omega)
  .have j:((i:Nat):Int)< ((l.length:Nat):Int):=by omega
   have hi1:((i:Nat):Int)+((1:Nat):Int)=((i+1:Nat):Int):=by omega
   obtain⟨A,o,q,s,_⟩:=a.at hi;obtain⟨C,o',u,x,_⟩:=f.at hi;have y:bZ .neq (eqA [2,2] (.agg (prV l[i])) (.agg (prV l[i])))=some (.bool false):=by rw[zQG];rfl
   simp(maxSteps:=999999)(disch:=omega) only[zDs,eZ,l1,j,q,s,u,x,y,hi1]
  .refine jU ?_;simp(maxSteps:=999999)(disch:=omega) only[zDs,eZ,l1,yA]
 have t: ¬(((l.length:Nat):Int)≠((l.length:Nat):Int)):=fun h=>h rfl
 simp(maxSteps:=999999)(disch:=omega) only[f55,eZ,l1,m,t,p,zLw]
end Go.Eng.Sh
end
section
set_option maxRecDepth 20000
namespace Go.Bt
open Go.Nd (Str Kvs Srt)
open Go.Eng (ltS kR bH kV fX)
open Go.Eng.Sh (uH)
end Go.Bt
end
section
set_option maxRecDepth 20000
namespace Go.Eng.Sh
open Go.Nd (Ptr sumL leafOf Kvs Srt mayK putP delP lookP)
open Go.Bt Go.Bk
structure Sw where
 kd:Nat
 k:Str
 v:Str
def swV (a:Sw):List AV:=[.int .u8 ((a.kd:Nat):Int),S a.k,S a.v]
def SwR (H:AH)(v:AV)(l:List Sw):Prop:=Rw 3 H v l.length (l.flatMap swV)
theorem zC8: ∀(l:List Sw) (i:Nat) (h:i<l.length),((l.flatMap swV).drop (i*3)).take 3=swV l[i]
 | p::l,0,_=>by rw[Nat.zero_mul,yB,qG,j9 (show(swV p).length=3 from rfl)];rfl
 | p::l,i+1,h=>by
  rw[qG,show(i+1)*3=3+i*3 by omega,<-List.drop_drop,yY (show(swV p).length=3 from rfl)];exact zC8 l i (by simpa using h)
theorem SwR.at {H:AH}{v:AV}{l:List Sw}(h:SwR H v l){i:Nat}(hi:i<l.length): ∃A o,(∀κ (z:Int),z=(i:Int)->uX 3 v (.int κ z)=some (.ptr A o))/\ldN 3 (.ptr A o) H=some (.agg (swV l[i]))/\Eng.ld1 (.ptr A (o+0)) H=some (.int .u8 ((l[i].kd:Nat):Int))/\Eng.ld1 (.ptr A (o+1)) H=some (S l[i].k)/\Eng.ld1 (.ptr A (o+2)) H=some (S l[i].v):=by
 obtain⟨A,o,c,e,sz,g,p,a,t,q,f⟩:=Rw.at h hi;rw[zC8 l i hi]at f;have m: ∀j,j<3->c[o+j]? =(swV l[i])[j]? :=fun j s=>by
  have:=congrArg (fun x=>x[j]?) f;simp only[jG s,jE]at this;exact this
 exact⟨A,o,p,by rw[YW a q,f],xT a (m 0 (by omega)),xT a (m 1 (by omega)),xT a (m 2 (by omega))⟩
theorem SwR.lnSl {H:AH}{v:AV}{l:List Sw}(h:SwR H v l):Eng.lnSl v=some (.int .i64 ((l.length:Nat):Int)):=zRm h
theorem SwR.prs {H H':AH}{v:AV}{l:List Sw}(h:SwR H v l)(s:Prs H H'):SwR H' v l:=Rw.prs h s
def YK (s:Sw)(kv:Kvs):Kvs:=if s.kd=0 then(if WO s.k s.v then putP s.k s.v kv else kv)else if s.kd=1 then delP s.k kv else kv
theorem zEn (k v:Str): ∀kv:Kvs,(putP k v kv).length<=kv.length+1
 | []=>by simp[putP]
 | (a,b)::l=>by
  have:=zEn k v l;rw[putP];split
  .simp
  .split
   .simp only[zW];omega
   .simp
theorem zH7 (s:Sw)(kv:Kvs)(h:Srt kv):(YK s kv).length<=kv.length+1:=by
 rw[YK];split
 .split
  .exact zEn ..
  .omega
 .split
  .have:=Nd.del_len s.k h;split at this<;>omega
  .omega
theorem zLf (D:Dyn)(n:Nat)(F:100<=n){H:AH}{v:AV}{l:List Sw}(q:SwR H v l): ∃b,f50 D n [v] H=some (.bool b,H)/\(b=false->l.length<=60):=by
 have f:=q.lnSl;by_cases h60:60<l.length
 .have m:((60:Nat):Int)< ((l.length:Nat):Int):=by omega
  refine⟨true, ?_,fun h=>by cases h⟩;simp(maxSteps:=999999)(disch:=omega) only[f50,eZ,f,m]
 .have m: ¬((60:Nat):Int)< ((l.length:Nat):Int):=by omega
  have y: ∀(j i a:Nat),i+j=l.length->j<a-> ∃b,jb 0 (jY a (zCb D n) [v, .int .i64 ((i:Nat):Int)] H) (zIQ D n)=some (.ret (.bool b),H):=by
   intro j
   induction j with
   | zero=>
    intro i a z C;obtain⟨k,rfl⟩: ∃k,a=k+1:=⟨a - 1,by omega⟩;have x: ¬((i:Nat):Int)< ((l.length:Nat):Int):=by omega
    refine⟨false, ?_⟩;rw[jU (i:=0) (vs':=[]) (H':=H) (by simp(maxSteps:=999999)(disch:=omega) only[zCb,eZ,f,x])];simp(maxSteps:=999999)(disch:=omega) only[jb,yF,zM,zIQ,eZ]
   | succ j ih=>
    intro i a z C;obtain⟨k,rfl⟩: ∃k,a=k+1:=⟨a - 1,by omega⟩;have p:((i:Nat):Int)< ((l.length:Nat):Int):=by omega
    have hi1:((i:Nat):Int)+((1:Nat):Int)=((i+1:Nat):Int):=by omega
    obtain⟨A,o,s,_,_,t,u⟩:=q.at (show i<l.length by omega);by_cases hb:(decide (((1000:Nat):Int)< ((l[i].k.length:Nat):Int))||decide (((1000:Nat):Int)< ((l[i].v.length:Nat):Int)))=true
    .refine⟨true, ?_⟩;rw[fY (v:= .bool true) (H':=H) (by
      simp(maxSteps:=999999)(disch:=omega) only[zCb,eZ,f,p,s,t,u,cG,hb,if_true])]
     rfl
    .obtain⟨b,e⟩:=ih (i+1) k (by omega) (by omega);refine⟨b, ?_⟩;rw[wR (vs':=[v, .int .i64 ((i+1:Nat):Int)]) (H':=H) (by simp(maxSteps:=999999)(disch:=omega) only[zCb,eZ,f,p,s,t,u,cG,hb,hi1,qC]),e]
  obtain⟨b,e⟩:=y l.length 0 n (by omega) (by omega);refine⟨b, ?_,fun _=>by omega⟩;simp(maxSteps:=999999)(disch:=omega) only[f50,eZ,f,m,e]
structure Gst (E:Ev)(H:AH)(Gd Ad As At M L txg la:Nat)(is:Nat->Nat)(V W:Nat->Prop)(root:Ptr)(q:PN)(kv:Kvs)(T:List Ptr):Prop where
 tx:uE (.ptr Ad 0) .nilPtr E H At M L W root q kv T
 ds:Dsk H Ad As E.nb E.ws la is V
 us: ∀r∈dsk T++E.dl,is r.at_.toNat≠0
 gG: ∃lv,H.h.get Gd=some (.cells [.ptr At 0,lv, .ptr Ad 0, .ptr As 0, .int .i64 ((txg:Nat):Int)] 104 1 false)/\GrP H lv kv
theorem zBF {E:Ev}{H:AH}{Ad m At M L p nb:Nat}{s:Ws}{is:Nat->Nat}{V W:Nat->Prop}{d c:AV}{root:Ptr}{q:PN}{kv:Kvs}{T:List Ptr}(t:uE d c E H At M L W root q kv T)(u:Dsk H Ad m nb s p is V){B:Nat}{o:AObj}(a:H.h.get B=some o)(h:(∃l e g,o= .cells l e 2 g)\/ ∃l,o= .cells l 104 1 false): ¬W B/\ ¬V B:=by
 obtain⟨Z,es,Y,_,f,_,_,_,_,_,v⟩:=t;obtain⟨On,Nw,wv,dm,i,x,y,_⟩:=u;obtain⟨c8,z⟩:=x.bk;have C: ∀l e g,o≠ .cells l e 3 g:=by rcases h with⟨_,_,_,rfl⟩ | ⟨_,rfl⟩<;>simp
 have F: ∀l e g,o≠ .cells l e 513 g:=by rcases h with⟨_,_,_,rfl⟩ | ⟨_,rfl⟩<;>simp
 have j: ∀l e,o≠ .map l e:=by rcases h with⟨_,_,_,rfl⟩ | ⟨_,rfl⟩<;>simp
 have J: ∀l,o≠ .cells l 140 1 false:=by rcases h with⟨_,_,_,rfl⟩ | ⟨_,rfl⟩<;>simp
 have K: ∀l,o≠ .cells l 145 1 false:=by rcases h with⟨_,_,_,rfl⟩ | ⟨_,rfl⟩<;>simp
 have N: ∀l,o≠ .cells l 151 1 false:=by rcases h with⟨_,_,_,rfl⟩ | ⟨_,rfl⟩<;>simp
 constructor
 .intro O;rcases(v B).1 O with rfl | rfl | e
  .exact J _ (yD (a.symm.trans f.gT))
  .exact j _ _ (yD (a.symm.trans f.gM))
  .exact zRk f.dg a (fun S g=>C _ S g) e
 .intro U;rcases(y B).1 U with rfl | rfl | rfl | e
  .exact K _ (yD (a.symm.trans z))
  .exact N _ (yD (a.symm.trans i.gD))
  .exact j _ _ (yD (a.symm.trans i.gN))
  .exact F _ _ _ (yD (a.symm.trans (i.ow.get e)))
theorem Gst.prs {E:Ev}{H H':AH}{Gd Ad a At M L txg f:Nat}{is:Nat->Nat}{V W:Nat->Prop}{root:Ptr}{q:PN}{kv:Kvs}{T:List Ptr}(w:Gst E H Gd Ad a At M L txg f is V W root q kv T)(s:Prs H H'):Gst E H' Gd Ad a At M L txg f is V W root q kv T:=by
 obtain⟨j,m,gl⟩:=w.gG;have h:=w.tx.d.okH;obtain⟨o,es,i,p,t,u⟩:=w.tx;exact⟨⟨o,es,i,p,t.prs s,u⟩,w.ds.prs h s,w.us,j,zRn s h m,gl.prs s⟩
theorem DskG.stp {S:Nat->Prop}{H H':AH}{Ad i nb j:Nat}{m:Ws}{is:Nat->Nat}{V:Nat->Prop}(d:Dsk H Ad i nb m j is V)(o:H.ok)(s:Stp S H H')(f: ∀B,V B-> ¬S B)(q: ∀B ks es,H.h.get B=some (.map ks es)->S B->ks=[10]):Dsk H' Ad i nb m j is V:=by
 obtain⟨t,u,v,x,p,y,a,r⟩:=d;exact⟨t,u,v,x,p.stp o s (f _ ((a _).2 (.inr (.inl rfl)))) (fun h=>by have:=q _ _ _ p.gO h;simp at this) (f _ ((a _).2 (.inr (.inr (.inl rfl))))) (fun B z=>f _ ((a _).2 (.inr (.inr (.inr z))))),y.stp o s (f _ ((a _).2 (.inl rfl))),a,r⟩
theorem TreeG.dsk {E:Ev}{H:AH}{Ad m At M L o nb:Nat}{p:Ws}{is:Nat->Nat}{V W:Nat->Prop}{d c:AV}{root:Ptr}{q:PN}{kv:Kvs}{T:List Ptr}(s:uE d c E H At M L W root q kv T)(t:Dsk H Ad m nb p o is V):(∀B,V B-> ¬W B)/\ ∀B ks es,H.h.get B=some (.map ks es)->W B->ks=[10]:=by
 obtain⟨x,es,v,_,f,_,_,_,_,_,j⟩:=s;have h:=zE5 f t;refine⟨fun B u i=>h B ?_ u,fun B ks es' a i=> ?_⟩
 .rcases(j B).1 i with e | e | e
  .exact .inl e
  .exact .inr (.inl e)
  .exact .inr (.inr (.inl e))
 .rcases(j B).1 i with rfl | rfl | e
  .rw[f.gT]at a;cases a
  .rw[f.gM]at a;cases a;rfl
  .exact absurd e (zRk f.dg a (fun y g=>by simp))
theorem Gst.tree {E f:Ev}{H H':AH}{Gd Ad i At M L x txg p:Nat}{is:Nat->Nat}{V W s:Nat->Prop}{root u:Ptr}{q y:PN}{kv v:Kvs}{T m:List Ptr}(w:Gst E H Gd Ad i At M L txg p is V W root q kv T)(J:uE (.ptr Ad 0) .nilPtr f H' At M x s u y v m)(a:AdT W H s H')(c:Chd E f T m){j:AV}(o:H.h.get Gd=some (.cells [.ptr At 0,j, .ptr Ad 0, .ptr i 0, .int .i64 ((txg:Nat):Int)] 104 1 false))(gl:GrP H j kv):
  Dsk H' Ad i f.nb f.ws p is V/\(∀r∈dsk m++f.dl,is r.at_.toNat≠0)/\H'.h.get Gd=some (.cells [.ptr At 0,j, .ptr Ad 0, .ptr i 0, .int .i64 ((txg:Nat):Int)] 104 1 false)/\GrP H' j kv:=by
 have t:=w.tx.d.okH;obtain⟨z,C⟩:=TreeG.dsk w.tx w.ds;refine⟨?_,fun r hr=>w.us r (c.pm.mem_iff.1 hr), ?_, ?_⟩
 .rw[c.nb,c.ws];exact DskG.stp w.ds t a.1 z C
 .rw[a.1.keep _ (t.lt o) (zBF w.tx w.ds o (.inr ⟨_,rfl⟩)).1];exact o
 .exact gl.mono a.1 fun B F=>by
   obtain⟨l,e,g,h⟩:=kZ.get2 gl F;exact(zBF w.tx w.ds h (.inl ⟨_,_,_,rfl⟩)).1
theorem Gst.note {E:Ev}{H H':AH}{Gd Ad m At M L t v:Nat}{is:Nat->Nat}{V W:Nat->Prop}{root:Ptr}{q:PN}{kv:Kvs}{T:List Ptr}{f:AV}(o:uE (.ptr Ad 0) .nilPtr E H At M L W root q kv T)(x:Dsk H Ad m E.nb E.ws v is V)(N: ∀r∈dsk T++E.dl,is r.at_.toNat≠0){O:Nat}{S:List AV}(i:H.h.get Gd=some (.cells (.ptr O 0::S) 104 1 false))(s:Stp (fun B=>B=Gd) H H')(U:H'.h.get Gd=some (.cells [.ptr At 0,f, .ptr Ad 0, .ptr m 0, .int .i64 ((t:Nat):Int)] 104 1 false))(gl:GrP H f kv):Gst E H' Gd Ad m At M L t v is V W root q kv T:=by
 have Y:=o.d.okH;obtain⟨p,Z⟩:=zBF o x i (.inr ⟨_,rfl⟩);have F: ∀B,Blk f B-> ¬B=Gd:=fun B a e=>by
  obtain⟨l,e',g,h⟩:=kZ.get2 gl a;rw[e,i]at h;simp at h
 obtain⟨dr,es,C,h1,y,h3,h4,h5,h6,h7,j⟩:=o;have u:=DskG.stp x Y s (fun B a e=>Z (e▸a)) (fun B ks es' z e=>by rw[e,i]at z;cases z);refine⟨⟨dr,es,C,h1, ?_,h3,h4,h5,h6,h7,j⟩,u,N,f,U,gl.mono s F⟩;obtain⟨On,Nw,wv,dm,dk,sp,hV,_⟩:=u;refine y.wr s (fun B a e=> ?_) dk;subst e;rcases a with e | e | e | ⟨kv,J,e⟩
 .exact p ((j _).2 (.inl e))
 .exact p ((j _).2 (.inr (.inl e)))
 .exact p ((j _).2 (.inr (.inr e)))
 .obtain⟨nd,K⟩:=y.pq.node kv J;exact K.nblk i (.inl ⟨_,_,_,_,rfl,fun _ _ h=>by cases h⟩) e
theorem stG {H:AH}(f:H.ok){Gd:Nat}{a b c d x y:AV}(i:Nat)(l':List AV)(hl:l'=[a,b,c,d,x].set i y)(hi:i<5)(g:H.h.get Gd=some (.cells [a,b,c,d,x] 104 1 false))(j:isCell y=true): ∃H',stN 1 (.ptr Gd i) y H=some (jO,H')/\H'.h.get Gd=some (.cells l' 104 1 false)/\Stp (fun B=>B=Gd) H H'/\H'.next=H.next:=by
 subst hl;exact xU f g (o:=i) (x:=y) j (by simpa using hi)
end Go.Eng.Sh
end
section
set_option maxRecDepth 20000
namespace Go.Eng.Sh
open Go.Nd (Ptr sumL leafOf Kvs Srt mayK putP delP lookP)
open Go.Bt Go.Bk
theorem zJw (k:Str)(kv:Kvs):J0 k kv=if mayK k then(if(lookP k kv).isSome then 0 else 5)else 1:=rfl
theorem zLK {k:Str}{kv:Kvs}(h: ∀p∈kv,mayK p.1=true):decide (((J0 k kv:Nat):Int)=((0:Nat):Int))=(lookP k kv).isSome:=by
 rw[zJw]
 cases hl:lookP k kv with
 | none=>cases mayK k<;>simp
 | some v=>
  have hm:mayK k=true:=by
   by_cases e:mayK k=true
   .exact e
   .rw[Nd.look_none (fun p hp a=>e (by rw[<-a];exact h p hp))]at hl;cases hl
  simp[hm]
theorem Gst.srt {E:Ev}{H:AH}{Gd Ad a At M L txg f:Nat}{is:Nat->Nat}{V W:Nat->Prop}{root:Ptr}{q:PN}{kv:Kvs}{T:List Ptr}(w:Gst E H Gd Ad a At M L txg f is V W root q kv T):Srt kv/\ ∀p∈kv,mayK p.1=true/\p.2.length<=200:=by
 obtain⟨_,_,_,_,_,_,_,_,_,hr,_⟩:=w.tx;exact hr.srt
theorem zKM (D:Dyn)(n:Nat){E:Ev}{H:AH}{At M L:Nat}{W:Nat->Prop}{d c:AV}{root:Ptr}{q:PN}{kv:Kvs}{T:List Ptr}(a:uE d c E H At M L W root q kv T): ∃H',f19 D n [.ptr At 0] H=some (.agg (jR root),H')/\Prs H H':=by
 obtain⟨_,_,_,_,f,_⟩:=a;exact K6 D n f
theorem Gst.side {E:Ev}{H H':AH}{Gd Ad p At M L txg t:Nat}{is:Nat->Nat}{V W:Nat->Prop}{root:Ptr}{q:PN}{kv:Kvs}{T:List Ptr}(w:Gst E H Gd Ad p At M L txg t is V W root q kv T){A e:Nat}{x:AV}{r:List AV}(m:H.h.get A=some (.cells (x::r) e 1 false))(N: ∀a b,x≠ .str a b)(i: ¬(W A\/V A))(O:A≠Gd)(s:Stp (fun B=>B=A) H H'):Gst E H' Gd Ad p At M L txg t is V W root q kv T:=by
 obtain⟨u,S,U,Y,v,gl⟩:=w;have y:=u.d.okH;have o:=DskG.stp S y s (fun B f e=>i (.inr (e▸f))) (fun B ks es' z e=>by rw[e,m]at z;cases z);obtain⟨Z,es,F,h1,C,h3,h4,h5,h6,h7,j⟩:=u;refine⟨⟨Z,es,F,h1, ?_,h3,h4,h5,h6,h7,j⟩,o,U,Y,by rw[s.keep _ (y.lt v) (fun e=>O e.symm)];exact v,gl.mono s fun B f e=> ?_⟩
 .obtain⟨On,Nw,wv,dm,dk,sp,hV,_⟩:=o;refine C.wr s (fun B f e=> ?_) dk;subst e;rcases f with e | e | e | ⟨kv,J,e⟩
  .exact i (.inl ((j _).2 (.inl e)))
  .exact i (.inl ((j _).2 (.inr (.inl e))))
  .exact i (.inl ((j _).2 (.inr (.inr e))))
  .obtain⟨nd,K⟩:=C.pq.node kv J;exact K.nblk m (.inl ⟨_,_,_,_,rfl,N⟩) e
 .obtain⟨l,e',g,h⟩:=kZ.get2 gl f;subst e;rw[m]at h;simp at h
def GS (H0:AH)(Gd i:Nat)(kv:Kvs)(H:AH):Prop:= ∃E Ad a At M L txg f is V W root q T,Gst E H Gd Ad a At M L txg f is V W root q kv T/\(L<=200*i/\E.nb=1024)/\txg<=i/\kv.length<=i/\Prs H0 H/\ ∀B,(W B\/V B\/B=Gd)->H0.next<=B
theorem GS.prs {H0 H H':AH}{Gd i:Nat}{kv:Kvs}(g:GS H0 Gd i kv H)(p:Prs H H'):GS H0 Gd i kv H':=by
 obtain⟨E,Ad,f,At,M,L,txg,h,is,V,W,root,q,T,w,a,b,c,d,e⟩:=g;exact⟨E,Ad,f,At,M,L,txg,h,is,V,W,root,q,T,w.prs p,a,b,c,d.trans p,e⟩
theorem zG2 (m n:Nat)(hm:400000000<=m)(hn:300000000<=n){H0 H:AH}(k1:H0.ok){v:AV}{l:List Sw}(hv:SwR H0 v l){Gd i:Nat}(hi:i<l.length)(hl:l.length<=100){kv:Kvs}(g:GS H0 Gd i kv H):
  ∃H',QO (dy (m+2)) n [.ptr Gd 0,v, .int .i64 ((i:Nat):Int)] H=some (.norm [.ptr Gd 0,v, .int .i64 ((i+1:Nat):Int)],H')/\GS H0 Gd (i+1) (YK l[i] kv) H':=by
 obtain⟨E,Ad,C,At,M,L,txg,la,is,V,W,root,q,T,w,⟨hL,a9⟩,k2,k3,p0,j⟩:=g;have e1:SwR H v l:=hv.prs p0;have b0:=e1.lnSl;have b2:((i:Nat):Int)< ((l.length:Nat):Int):=by omega
 have hi1:((i:Nat):Int)+((1:Nat):Int)=((i+1:Nat):Int):=by omega
 obtain⟨A,o,i1,i2,_,_,_⟩:=e1.at hi;have b3:=i1 .i64 _ rfl;generalize l[i]=s at*
 obtain⟨hs,h1⟩:=w.srt;have hk:=w.tx.d.okH;obtain⟨H1,F,b1,p1,g1,m1,n1⟩:=box hk (.cells [.int .u8 ((0:Nat):Int), .str 0 0, .str 0 0] 113 1 false);obtain⟨H2,e2,g2,s2,n2⟩:=jW p1.ok g1 (l':=swV s) rfl rfl;have b5:stN 3 (.ptr F 0) (.agg (swV s)) H1=some (jO,H2):=e2;have b6:bxV 113 (.agg [.int .u8 ((0:Nat):Int), .str 0 0, .str 0 0])=some (.cells [.int .u8 ((0:Nat):Int), .str 0 0, .str 0 0] 113 1 false,fun A=> .ptr A 0):=rfl;have P2:Prs H H2:=p1.fresh s2 fun B a=>by omega
 have N1:=p1.next;have N2:=s2.next;have N0:=p0.next
 have w2:=w.prs P2;have d0:=p0.trans P2;have f1:=P2.ok;obtain⟨N,a2,d1⟩:=w2.gG;have l6:F<H2.next:=f1.lt g2
 have z6: ¬(W F\/V F):=fun h=>by
  rcases h with h | h
  .have:=w.tx.d.lt F h;omega
  .have:=w.ds.lt hk F h;omega
 have rd: ∀ {G:AH},G.h.get F=some (.cells (swV s) 113 1 false)->Eng.ld1 (.ptr F 0) G=some (.int .u8 ((s.kd:Nat):Int))/\Eng.ld1 (.ptr F 1) G=some (S s.k)/\Eng.ld1 (.ptr F 2) G=some (S s.v):=fun h=>⟨by rw[jL h];rfl,by rw[jL h];rfl,by rw[jL h];rfl⟩
 obtain⟨y0,y1,y2⟩:=rd g2;have rg: ∀ {G:AH} {at_:Nat} {N:AV} {t:Nat},G.h.get Gd=some (.cells [.ptr at_ 0,N, .ptr Ad 0, .ptr C 0, .int .i64 ((t:Nat):Int)] 104 1 false)->Eng.ld1 (.ptr Gd 0) G=some (.ptr at_ 0)/\Eng.ld1 (.ptr Gd 1) G=some N/\Eng.ld1 (.ptr Gd 2) G=some (.ptr Ad 0)/\Eng.ld1 (.ptr Gd 3) G=some (.ptr C 0)/\Eng.ld1 (.ptr Gd 4) G=some (.int .i64 ((t:Nat):Int)):=fun h=>⟨by rw[jL h];rfl,by rw[jL h];rfl,by rw[jL h];rfl,by rw[jL h];rfl,by rw[jL h];rfl⟩
 obtain⟨x0,x1,_,x3,x4⟩:=rg a2;have k0:=zH7 s kv hs;have nG:F≠Gd:=fun e=>by rw[e,a2]at g2;simp[swV]at g2
 by_cases c6:s.kd=0
 .have b7:((s.kd:Nat):Int)=((0:Nat):Int):=by omega
  obtain⟨H3,E3,W3,T3,e3,t3,O,c3⟩:=zNY m n (by omega) hn (k:=s.k) (v:=s.v) w2.tx.d (by omega) (by omega);obtain⟨a1,q3,u⟩:=t3.x;obtain⟨b9,c0,a4,a6⟩:=w2.tree u O c3 a2 d1;have N3:=O.1.next
  have c1:Prs H0 H3:=d0.fresh O.1 fun B a=>j B (.inl a)
  have b8: ∀B,(W3 B\/V B\/B=Gd)->H0.next<=B:=fun B a=>by
   rcases a with x | x | x
   .rcases O.2 B x with y | y
    .exact j B (.inl y)
    .omega
   .exact j B (.inr (.inl x))
   .exact j B (.inr (.inr x))
  by_cases hp:WO s.k s.v=true
  .rw[if_pos hp]at e3 u;have g3:=(O.1.keep F l6 (fun h=>z6 (.inl h))).trans g2;obtain⟨_,d2,h2⟩:=rd g3;obtain⟨d3,d4,_⟩:=rg a4;obtain⟨H4,v4,e4,f,g4⟩:=zNO (dy (m+2)) n u.d.okH hs a6.row (by omega) (by omega) s.k s.v;have J:=zRn f u.d.okH a4;obtain⟨H5,e5,g5,s5,n5⟩:=stG f.ok (y:=v4) 1 [.ptr At 0,v4, .ptr Ad 0, .ptr C 0, .int .i64 ((txg:Nat):Int)] rfl (by omega) J g4.1.row.isCell;have a0:YK s kv=putP s.k s.v kv:=by simp only[YK,c6,if_true,hp]
   have h3:uE (.ptr Ad 0) .nilPtr E3 H4 At M (L+200) W3 a1 q3 (putP s.k s.v kv) T3:=by
    obtain⟨dr,es,c7,z1,z2,z3⟩:=u;exact⟨dr,es,c7,z1,z2.prs f,z3⟩
   refine⟨H5, ?_,E3,Ad,C,At,M,L+200,txg,la,is,V,W3,a1,q3,T3, ?_,⟨by omega,c3.nb.trans a9⟩,by omega,by omega,(c1.trans f).fresh s5 fun B a=>j B (.inr (.inr a)),b8⟩
   .simp(maxSteps:=999999)(disch:=omega) only[QO,eZ,b0,b2,b3,i2,b6,b1,b5,y0,b7,x0,y1,y2,e3,d4,d2,h2,e4,e5,XN,XM,XO,hi1]
   .rw[a0];exact Gst.note h3 (b9.prs u.d.okH f) c0 J s5 g5 g4.1
  .rw[if_neg hp]at e3 u;have h10: ¬((1:Nat):Int)=((0:Nat):Int):=by omega
   have a0:YK s kv=kv:=by simp only[YK,c6,if_true,hp,qC];rfl
   refine⟨H3, ?_,E3,Ad,C,At,M,L+200,txg,la,is,V,W3,a1,q3,T3, ?_,⟨by omega,c3.nb.trans a9⟩,by omega,by omega,c1,b8⟩
   .simp(maxSteps:=999999)(disch:=omega) only[QO,eZ,b0,b2,b3,i2,b6,b1,b5,y0,b7,x0,y1,y2,e3,h10,XN,XM,XO,hi1]
   .rw[a0];exact⟨u,b9,c0,N,a4,a6⟩
 .have b7: ¬((s.kd:Nat):Int)=((0:Nat):Int):=by omega
  by_cases f2:s.kd=1
  .have c2:((s.kd:Nat):Int)=((1:Nat):Int):=by omega
   obtain⟨H3,E3,W3,T3,e3,t3,O,c3⟩:=zOZ m n (by omega) hn (k:=s.k) w2.tx.d (by omega) (by omega);obtain⟨a1,q3,u⟩:=t3.x;obtain⟨b9,c0,a4,a6⟩:=w2.tree u O c3 a2 d1;have N3:=O.1.next
   have c1:Prs H0 H3:=d0.fresh O.1 fun B a=>j B (.inl a)
   have b8: ∀B,(W3 B\/V B\/B=Gd)->H0.next<=B:=fun B a=>by
    rcases a with x | x | x
    .rcases O.2 B x with y | y
     .exact j B (.inl y)
     .omega
    .exact j B (.inr (.inl x))
    .exact j B (.inr (.inr x))
   have hd:=zLK (k:=s.k) fun p hp=>(h1 p hp).1
   have g7:(if J0 s.k kv=0 then delP s.k kv else kv)=delP s.k kv:=by
    by_cases e:J0 s.k kv=0
    .rw[if_pos e]
    .rw[if_neg e];have:(lookP s.k kv).isSome=false:=by rw[<-hd];exact decide_eq_false (by omega)
     exact(del_none (look_not (by simpa using this))).symm
   rw[g7]at u;have g3:=(O.1.keep F l6 (fun h=>z6 (.inl h))).trans g2;obtain⟨_,d2,_⟩:=rd g3;obtain⟨_,d4,_⟩:=rg a4;obtain⟨H4,e4,f⟩:=zNR (dy (m+2)) n u.d.okH hs a6.row (by omega) (by omega) s.k;have J:=zRn f u.d.okH a4;obtain⟨_,h4,_⟩:=rg J;obtain⟨_,h5,_⟩:=rd (zRn f u.d.okH g3);obtain⟨H5,v5,e5,U,g5,_⟩:=zD8 (dy (m+2)) n f.ok (a6.prs f).row (by omega) (by omega) s.k;rw[Nd.filt_del s.k hs]at g5;have a7:=zRn U f.ok J;obtain⟨H6,e6,g6,Y,n6⟩:=stG U.ok (y:=v5) 1 [.ptr At 0,v5, .ptr Ad 0, .ptr C 0, .int .i64 ((txg:Nat):Int)] rfl (by omega) a7 g5.1.row.isCell;have a0:YK s kv=delP s.k kv:=by simp only[YK,f2,if_true];rfl
   have c4:uE (.ptr Ad 0) .nilPtr E3 H5 At M (L+200) W3 a1 q3 (delP s.k kv) T3:=by
    obtain⟨dr,es,c7,z1,z2,z3⟩:=u;exact⟨dr,es,c7,z1,z2.prs (f.trans U),z3⟩
   have h6:(!(decide (((J0 s.k kv:Nat):Int)=((0:Nat):Int))==(lookP s.k kv).isSome))=false:=by rw[hd];simp
   have h7: ∀K:Rs,chk (some N) N K=K:=fun K=>wC rfl (kH a6.row)
   have h8: ∀K:Rs,chk (some (S s.k)) (S s.k) K=K:=fun K=>wC rfl (by simp[aveq,S])
   have h9: ∀x y:Rs,cnd (.bool false) x y=y:=fun _ _=>rfl
   have h10: ¬((1:Nat):Int)=((0:Nat):Int):=by omega
   refine⟨H6, ?_,E3,Ad,C,At,M,L+200,txg,la,is,V,W3,a1,q3,T3, ?_,⟨by omega,c3.nb.trans a9⟩,by omega,by omega,((c1.trans f).trans U).fresh Y fun B a=>j B (.inr (.inr a)),b8⟩
   .simp(maxSteps:=999999)(disch:=omega) only[QO,eZ,b0,b2,b3,i2,b6,b1,b5,y0,c2,h10,x0,y1,x1,e3,d4,d2,h7,h8,e4,zCH,h6,h9,h4,h5,e5,e6,VY,XM,XO,hi1]
   .rw[a0];exact Gst.note c4 (b9.prs u.d.okH (f.trans U)) c0 a7 Y g6 g5.1
  .have c2: ¬((s.kd:Nat):Int)=((1:Nat):Int):=by omega
   have a0:YK s kv=kv:=by simp only[YK,c6,f2,qC]
   have f3:((txg:Nat):Int)+((1:Nat):Int)=((txg+1:Nat):Int):=by omega
   obtain⟨H3,e3,g3,s3,n3⟩:=stG f1 (y:= .int .i64 ((txg+1:Nat):Int)) 4 [.ptr At 0,N, .ptr Ad 0, .ptr C 0, .int .i64 ((txg+1:Nat):Int)] rfl (by omega) a2 rfl;have w3:Gst E H3 Gd Ad C At M L (txg+1) la is V W root q kv T:=Gst.note w2.tx w2.ds w2.us a2 s3 g3 d1;obtain⟨H4,A7,b4,f,g4,m4,n4⟩:=box s3.ok (.cells [.int .i64 ((0:Nat):Int), .int .i64 ((0:Nat):Int), .int .u64 ((0:Nat):Int)] 42 1 false);have e0:bxV 42 (.agg [.int .i64 ((0:Nat):Int), .int .i64 ((0:Nat):Int), .int .u64 ((0:Nat):Int)])=some (.cells [.int .i64 ((0:Nat):Int), .int .i64 ((0:Nat):Int), .int .u64 ((0:Nat):Int)] 42 1 false,fun A=> .ptr A 0):=rfl;have Z:=w3.prs f;have J:=zRn f s3.ok g3;have N3:=s3.next;have N4:=f.next
   have f4:Prs H0 H4:=(d0.fresh s3 fun B a=>j B (.inr (.inr a))).trans f;have l7:A7<H4.next:=f.ok.lt g4
   have z7: ¬(W A7\/V A7):=fun h=>by
    rcases h with h | h
    .have:=w3.tx.d.lt A7 h;omega
    .have:=w3.ds.lt s3.ok A7 h;omega
   have d5:A7≠Gd:=fun e=>by rw[e,J]at g4;simp at g4
   obtain⟨_,_,_,_,_⟩:=rg g3;obtain⟨d3,_,_,f5,f6⟩:=rg g3;have k4:=(rg J).1;obtain⟨k5,c8,g8⟩:=Z.gG;have f7:GrP H4 N kv:=by
    rw[J]at c8;simp only[zB,AObj.cells.injEq,yE]at c8;rw[c8.1.2.1];exact g8
   have i0: ¬(((0:Nat):Int)≠((0:Nat):Int)):=by omega
   have i3:((3:Nat):Int)≠((0:Nat):Int):=by omega
   obtain⟨H5,⟨_,e5,U⟩ | ⟨k6,ws',d6,la',V',a8,T',M',W',dr,e5,c4,i4,o5,a5,k8,k9⟩⟩:=zKp (m+2) n (by omega) (by omega) (txg:=txg+1) Z.tx Z.ds (fun r hr d7=>Z.us r (yC _ (V5.2 ⟨hr,d7⟩))) (by omega) (by omega) (by omega)
   .obtain⟨H6,e6,g6,Y,n6⟩:=jW U.ok (zRn U f.ok g4) (l':=[.int .i64 ((0:Nat):Int), .int .i64 ((0:Nat):Int), .int .u64 ((0:Nat):Int)]) rfl rfl;have d8:stN 3 (.ptr A7 0) (.agg [.int .i64 ((0:Nat):Int), .int .i64 ((0:Nat):Int), .int .u64 ((0:Nat):Int)]) H5=some (jO,H6):=e6;refine⟨H6, ?_,E,Ad,C,At,M,L,txg+1,la,is,V,W,root,q,T, ?_,⟨by omega,a9⟩,by omega,by omega,(f4.trans U).fresh Y fun B a=>by omega,j⟩
    .simp(maxSteps:=999999)(disch:=omega) only[QO,eZ,b0,b2,b3,i2,b6,b1,b5,y0,b7,c2,x4,f3,e3,d3,f5,f6,e0,b4,e5,jM,nth,d8,i3,ne_eq,j6,if_true,XO,hi1]
    .rw[a0];exact(Z.prs U).side (zRn U f.ok g4) (fun _ _ h=>by cases h) z7 d5 Y
   .obtain⟨k7,i5,l0⟩:=a5.keep (A:=A7) l7 z7;obtain⟨kG,zG,lG⟩:=a5.keep (A:=Gd) (f.ok.lt J) (fun h=>by
     obtain⟨o1,o2⟩:=zBF Z.tx Z.ds J (.inr ⟨_,rfl⟩);rcases h with h | h;exact o1 h;exact o2 h)
    have a7:=kG.trans J;have g5:=k7.trans g4;have f8:=c4.d.okH;have i6:=o5.used (fun r hr d7=>Z.us r (yC _ (V5.2 ⟨hr,d7⟩)));have i7:GrP H5 N kv:=f7.mono a5.1 fun B a=>by
     obtain⟨l,e,g,h⟩:=kZ.get2 f7 a;obtain⟨y1,y2⟩:=zBF Z.tx Z.ds h (.inl ⟨_,_,_,rfl⟩);exact fun x=>by rcases x with x | x;exact y1 x;exact y2 x
    have w5:Gst { E with ws:=ws',dl:=[] } H5 Gd Ad C At M' L (txg+1) la' d6 V' W' a8 [] kv T':=⟨c4,i4,fun r hr=>by rw[qX]at hr;exact(i6 r (V5.1 hr).1).2,N,a7,i7⟩;obtain⟨H6,e6,g6,Y,n6⟩:=jW f8 g5 (l':=jR a8) rfl rfl;have d8:stN 3 (.ptr A7 0) (.agg (jR a8)) H5=some (jO,H6):=e6;have w6:=w5.side g5 (fun _ _ h=>by cases h) i5 d5 Y;obtain⟨H7,e7,p7⟩:=zKM (dy (m+2)) n w6.tx;have w7:=w6.prs p7;obtain⟨On,Nw,wv,dm,i8,_⟩:=id w7.ds;obtain⟨_,_,_,_,_,_,_,_,_,i9,_⟩:=w7.tx;obtain⟨H8,c5,M8,W8,e8,p8,j0,j1⟩:=zAp (dy (m+2)) n (by omega) (E:= { E with ws:=ws',dl:=[] }) p7.ok (Ad:=Ad) ⟨On,Nw,wv,dm,i8⟩ i9;have w8:=w7.prs p8;have f9:H6.h.get Gd=_:=(Y.keep Gd (f8.lt a7) (fun e=>d5 e.symm)).trans a7;have g0:=zRn p7 Y.ok f9;have d9:=zRn p8 p7.ok g0;obtain⟨j2,_,j3,_,_⟩:=rg f9;obtain⟨_,_,j4,_,_⟩:=rg g0;obtain⟨l1,c9,h0⟩:=w8.gG;have j5:GrP H8 N kv:=by
     rw[d9]at c9;simp only[zB,AObj.cells.injEq,yE]at c9;rw[c9.1.2.1];exact h0
    obtain⟨H9,e9,g9,s9,n9⟩:=stG p8.ok (y:= .ptr c5 0) 0 [.ptr c5 0,N, .ptr Ad 0, .ptr C 0, .int .i64 ((txg+1:Nat):Int)] rfl (by omega) d9 rfl;have w9:Gst { E with ws:=ws',dl:=[] } H9 Gd Ad C c5 M8 0 (txg+1) la' d6 V' W8 a8 [] kv T':=Gst.note j0 w8.ds w8.us d9 s9 g9 j5;have j7: ∀K:Rs,chk (some (.ptr Ad 0)) (.ptr Ad 0) K=K:=fun K=>wC rfl (by simp[aveq])
    have N5:=a5.1.next;have N6:=Y.next;have N7:=p7.next;have N8:=p8.next
    have j8:Prs H0 H5:=f4.fresh a5.1 fun B a=>j B (by rcases a with h | h;exact .inl h;exact .inr (.inl h))
    have j9:Prs H0 H8:=((j8.fresh Y fun B a=>by omega).trans p7).trans p8;refine⟨H9, ?_, { E with ws:=ws',dl:=[] },Ad,C,c5,M8,0,txg+1,la',d6,V',W8,a8,[],T',by rw[a0];exact w9,⟨by omega,a9⟩,by omega,by omega,j9.fresh s9 fun B a=>j B (.inr (.inr a)),fun B a=> ?_⟩
    .simp(maxSteps:=999999)(disch:=omega) only[QO,eZ,b0,b2,b3,i2,b6,b1,b5,y0,b7,c2,x4,f3,e3,d3,f5,f6,e0,b4,e5,jM,nth,d8,i0,j2,j3,e7,j4,j7,e8,e9,VY,XM,XO,hi1]
    .rcases a with x | x | x
     .have:=j1 B x;omega
     .rcases a5.2 B (.inr x)with z | z
      .exact j B (by rcases z with h | h;exact .inl h;exact .inr (.inl h))
      .omega
     .exact j B (.inr (.inr x))
end Go.Eng.Sh
end
section
set_option maxRecDepth 20000
namespace Go.Eng.Sh
open Go.Nd (Ptr sumL leafOf Kvs Srt mayK putP delP lookP)
open Go.Bt Go.Bk
theorem gH {H H':AH}(f:H.ok)(P:Prs H H'){A j:Nat}{x:AV}(h:ld1 (.ptr A j) H=some x):ld1 (.ptr A j) H'=some x:=by
 cases a:H.h.get A with
 | none=>simp[ld1,a]at h
 | some o=>rw[P.ld1 j (f.lt a) (fun x=>x)];exact h
def JB (l:List Sw):Kvs:=l.foldl (fun kv s=>YK s kv) []
theorem grow_ok (m n:Nat)(hm:400000000<=m)(y:300000000<=n){H0 H:AH}(s:H0.ok){v:AV}{l:List Sw}(j:SwR H0 v l){Gd:Nat}(hl:l.length<=100)(g:GS H0 Gd 0 [] H):
  ∃H',f64 (dy (m+2)) n [.ptr Gd 0,v] H=some (.bool true,H')/\GS H0 Gd l.length (JB l) H':=by
 have z:=vJ (b:=QO (dy (m+2)) n) l.length (fun i f H'=>f=[.ptr Gd 0,v, .int .i64 ((i:Nat):Int)]/\GS H0 Gd i (JB (l.take i)) H') (fun i f H' hi ⟨t,g⟩=>by
  subst t;obtain⟨C,F,J⟩:=zG2 m n hm y s j hi hl g;refine⟨_,C,F,rfl, ?_⟩;have:JB (l.take (i+1))=YK l[i] (JB (l.take i)):=by
   rw[JB,qJ hi,List.foldl_append];rfl
  rw[this];exact J) n _ H ⟨rfl,g⟩ (by omega)
 obtain⟨q,f,a,K,rfl,h⟩:=z;rw[j8]at h;have u:SwR a v l:=by
  obtain⟨_,_,_,_,_,_,_,_,_,_,_,_,_,_,_,_,_,_,p,_⟩:=h;exact j.prs p
 have x:=u.lnSl;refine⟨a, ?_,h⟩;have o:jY (q+1) (QO (dy (m+2)) n) [.ptr Gd 0,v, .int .i64 ((l.length:Nat):Int)] a=some (.exit 0 [],a):=jU (by simp only[QO,eZ,x,yA]);simp(maxSteps:=999999)(disch:=omega) only[f64,eZ,K,o,zIM]
theorem zL2 (m n:Nat)(hm:400000000<=m)(S:300000000<=n){H:AH}(u:H.ok){v:AV}{l:List Sw}(U:SwR H v l)(hl:l.length<=100):
  ∃H' Gd,f52 (dy (m+2)) n [v] H=some (.tuple [.ptr Gd 0, .bool true],H')/\GS H Gd l.length (JB l) H':=by
 obtain⟨H1,Ad,y,j,V,h,m1,mO,mN,Y⟩:=zF7 (dy (m+2)) n u (nb:=1024) (by omega) (by omega);obtain⟨Z,a,e2,f,m2,sp⟩:=zNE (dy (m+2)) n (by omega) h.ok (nb:=1024) (by omega) (by omega);have s:=Y.prs h.ok f;obtain⟨H4,At,M,W,e4,o,tx,J⟩:=zAp (dy (m+2)) n (by omega) (E:=⟨1024,[],[]⟩) f.ok (p:=pZ) (kv:=[]) (T:=[]) ⟨y,j,_,_,s⟩ (.inl ⟨rfl,rfl,rfl⟩);obtain⟨q,Gd,b5,z,g5,m5,n5⟩:=box o.ok (.cells [.ptr At 0, .nilSlice, .ptr Ad 0, .ptr a 0, .int .i64 ((0:Nat):Int)] 104 1 false);have N1:=h.next;have N2:=f.next;have N4:=o.next
 have i:=o.trans z;have K:=sp.stp f.ok i fun x=>x
 have L:=s.prs f.ok i;have N:uE (.ptr Ad 0) .nilPtr ⟨1024,[],[]⟩ q At M 0 W pZ [] [] []:=by
  obtain⟨dr,es,F,h1,h2,h3⟩:=tx;exact⟨dr,es,F,h1,h2.prs z,h3⟩
 have w:Gst ⟨1024,[],[]⟩ q Gd Ad a At M 0 0 0 zO8 (fun B=>B=a\/B=Ad\/B=j\/Blk .nilSlice B) W pZ [] [] []:=⟨N,⟨y,j,_,_,L,K,fun B=>Iff.rfl,by decide,by decide,by decide, .inr rfl,⟨by decide,by decide⟩,by
  have:=zFi zO8 0 1024;show 0+cnt zO8 0 1024<=990000;omega⟩,by simp[dsk],⟨.nilSlice,g5, .inl (zRo ..)⟩⟩
 obtain⟨C,e6,g6⟩:=grow_ok m n hm S u U hl (Gd:=Gd) (H:=q) ⟨⟨1024,[],[]⟩,Ad,a,At,M,0,0,0,zO8,_,W,pZ,[],[],w,⟨by omega,rfl⟩,by omega,by simp,(h.trans f).trans i,fun B hB=>by
  rcases hB with e | (e | e | e | e) | e
  .have:=J B e;omega
  .omega
  .omega
  .omega
  .exact(zRl.1 e).elim
  .omega⟩
 have t: ¬(((0:Nat):Int)≠((0:Nat):Int)):=by omega
 have bz:vR [(0,1),(1,1),(2,1)] [.int .i64 ((0:Nat):Int), .int .i64 ((0:Nat):Int), .int .u64 ((0:Nat):Int)] []=some (.agg (jR pZ)):=rfl;have bs:vR [(0,1),(1,1),(2,1),(3,1),(4,1)] [.nilPtr, .nilSlice, .nilPtr, .nilPtr, .int .i64 ((0:Nat):Int)] [(0, .ptr At 0),(2, .ptr Ad 0),(3, .ptr a 0)]=some (.agg [.ptr At 0, .nilSlice, .ptr Ad 0, .ptr a 0, .int .i64 ((0:Nat):Int)]):=rfl;have O:bxV 104 (.agg [.ptr At 0, .nilSlice, .ptr Ad 0, .ptr a 0, .int .i64 ((0:Nat):Int)])=some (.cells [.ptr At 0, .nilSlice, .ptr Ad 0, .ptr a 0, .int .i64 ((0:Nat):Int)] 104 1 false,fun A=> .ptr A 0):=rfl;have hb:f63 (dy (m+2)) n [.ptr Ad 0, .ptr a 0,v] Z=some (.tuple [.ptr Gd 0, .bool true],C):=by
  simp(maxSteps:=999999)(disch:=omega) only[f63,eZ,bz,e4,jM,nth,t,bs,O,b5,e6]
 refine⟨C,Gd, ?_,g6⟩;simp(maxSteps:=999999)(disch:=omega) only[f52,eZ,V,e2,jM,nth,t,hb,decide_false,Bool.or_false]
theorem GS.at {H0 H:AH}{Gd i:Nat}{kv:Kvs}(g:GS H0 Gd i kv H): ∃At Ad E M L W root q T a,Eng.ld1 (.ptr Gd 0) H=some (.ptr At 0)/\Eng.ld1 (.ptr Gd 1) H=some a/\uE (.ptr Ad 0) .nilPtr E H At M L W root q kv T/\L<=200*i/\GrP H a kv/\Srt kv/\kv.length<=i/\Prs H0 H:=by
 obtain⟨E,Ad,p,At,M,L,txg,s,is,V,W,root,q,T,w,hL,o,h,j,m⟩:=g;obtain⟨a,f,gl⟩:=w.gG;exact⟨At,Ad,E,M,L,W,root,q,T,a,by rw[jL f];rfl,by rw[jL f];rfl,w.tx,hL.1,gl,w.srt.1,h,j⟩
end Go.Eng.Sh
end
section
set_option maxRecDepth 20000
namespace Go.Bt
open Go.Nd (Str Kvs Ptr leafOf Srt rising mayK)
open Go.Eng (ltS)
def Ord:List (Ptr×Nd.Node)->Prop
 | []=>True
 | x::L=>(∀k∈x.2.kids,k∈L.map Prod.fst)/\Ord L
theorem Ord.app: ∀ {a b:List (Ptr×Nd.Node)},Ord a->Ord b->Ord (a++b)
 | [],_,_,h=>h
 | x::a,b,ha,hb=>⟨fun k f=>by show k∈(a++b).map Prod.fst;rw[List.map_append];exact yC _ (ha.1 k f),Ord.app ha.2 hb⟩
theorem Ord.at: ∀ {L:List (Ptr×Nd.Node)},Ord L-> ∀i (h:i<L.length),∀k∈L[i].2.kids,k∈(L.drop (i+1)).map Prod.fst
 | x::L,h,0,_,k,hk=>h.1 k hk
 | x::L,h,i+1,hi,k,hk=>Ord.at h.2 i (by simpa using hi) k hk
def vL (L:List (Ptr×Nd.Node)):Nat:=(L.map fun x=>x.2.kids.length).sum
theorem X8 (a b:List (Ptr×Nd.Node)):vL (a++b)=vL a+vL b:=by simp[vL]
theorem zGz {ks:List Str}(h: ∀k∈ks,mayK k=true):kB ks []=0:=by
 rw[kB,List.length_eq_zero_iff,List.filter_eq_nil_iff];intro k f;have:=h k f
 cases k with
 | nil=>simp[mayK]at this
 | cons a k=>simp[ltS,Op.bytesLess]
theorem zJH (ks:List Str):ZX ks [] 0=ks.length+1:=by
 have:kQ []=fun _=>true:=by funext k;rfl
 rw[ZX,this,yB];congr 1;have h: ∀l:List Str,(l.takeWhile fun _=>true)=l:=fun l=>by
  induction l with
  | nil=>rfl
  | cons a l ih=>rw[List.takeWhile_cons,if_pos rfl,ih]
 rw[h]
structure Tell (Q:Ptr->Option Nd.Node)(L:List (Ptr×Nd.Node))(T:List Ptr):Prop where
 fst:L.map Prod.fst=T
 ord:Ord L
 nd: ∀x∈L,Q x.1=some x.2
theorem zBd {h:Nat}{Q:Ptr->Option Nd.Node}(o: ∀ {p:Ptr} {nd:Nd.Node} {t:Tr h} {S:List Ptr} {lo hi:Bd},kU Q h nd t S->WF h lo hi t->Q p=some nd->Tell Q (wU Q [] [] h p nd) (p::S)/\vL (wU Q [] [] h p nd)+1=(wU Q [] [] h p nd).length):
  ∀ {f:List Ptr} {ts:List (Tr h)} {S:List Ptr},xZ Q (kU Q h) f ts S->(∀t∈ts,∃lo hi,WF h lo hi t)->
   Tell Q (f.flatMap (JE Q (wU Q [] [] h))) S/\vL (f.flatMap (JE Q (wU Q [] [] h)))+f.length=(f.flatMap (JE Q (wU Q [] [] h))).length/\ ∀p∈f,p∈S
 | [],[],_,e,_=>by subst e;exact⟨⟨rfl,trivial,by simp⟩,rfl,by simp⟩
 | p::f,t::ts,_,⟨nd,S1,S2,a,b,c,e⟩,hw=>by
  subst e;obtain⟨lo,hi,s⟩:=hw t (zK ..);obtain⟨i,C⟩:=o (p:=p) b s a;obtain⟨j,F,u⟩:=zBd o c fun t v=>hw t (zC _ v)
  have y:(p::f).flatMap (JE Q (wU Q [] [] h))=wU Q [] [] h p nd++f.flatMap (JE Q (wU Q [] [] h)):=by
   rw[qG];congr 1;simp only[JE,a]
  rw[y];refine⟨⟨by rw[List.map_append,i.fst,j.fst];rfl,i.ord.app j.ord,fun x z=> ?_⟩, ?_,fun q m=> ?_⟩
  .rcases qB.1 z with h | h
   .exact i.nd x h
   .exact j.nd x h
  .rw[X8,zT,zW];omega
  .rcases zP.1 m with rfl | m
   .exact zK ..
   .exact zC _ (yR _ (u q m))
 | [],_::_,_,h,_=>h.elim
 | _::_,[],_,h,_=>h.elim
theorem zE8 {h:Nat}{Q:Ptr->Option Nd.Node}(u: ∀ {p:Ptr} {nd:Nd.Node} {t:Tr h} {S:List Ptr} {lo hi:Bd},kU Q h nd t S->WF h lo hi t->Q p=some nd->Tell Q (wU Q [] [] h p nd) (p::S)/\vL (wU Q [] [] h p nd)+1=(wU Q [] [] h p nd).length)
  {p:Ptr} {nd:Nd.Node} {t:Tr (h+1)} {S:List Ptr} {lo hi:Bd} (v:kU Q (h+1) nd t S) (m:Inn (WF h) lo hi t) (hp:Q p=some nd):
  Tell Q (wU Q [] [] (h+1) p nd) (p::S)/\vL (wU Q [] [] (h+1) p nd)+1=(wU Q [] [] (h+1) p nd).length:=by
 obtain⟨J,q,K,s⟩:=v;obtain⟨f,L,y⟩:=zBd u s fun x a=>by
  obtain⟨j,z,rfl⟩:=jH a;exact⟨_,_,KB.at m.2.2 (zJ z)⟩
 have hl:=m.2.2.len;have F:=s.len;have i:zEC nd.keys nd.kids [] []=nd.kids:=by
  rw[zEC,zGz (fun k o=>(m.1 k (by rw[<-q];exact o)).1),yB,zJH,zX (by rw[q];omega)]
 have C:wU Q [] [] (h+1) p nd=(p,nd)::(nd.kids.flatMap (JE Q (wU Q [] [] h))):=by
  rw[<-i];conv=>rhs;rw[i]
  show(p,nd)::((zEC nd.keys nd.kids [] []).flatMap _)=_;rw[i];rfl
 rw[C];refine⟨⟨by rw[yH,f.fst],⟨fun k o=>by rw[f.fst];exact y k o,f.ord⟩,fun x a=> ?_⟩, ?_⟩
 .rcases zP.1 a with rfl | a
  .exact hp
  .exact f.nd x a
 .have:vL ((p,nd)::nd.kids.flatMap (JE Q (wU Q [] [] h)))=nd.kids.length+vL (nd.kids.flatMap (JE Q (wU Q [] [] h))):=by simp[vL]
  rw[this,zW];omega
theorem zBc {Q:Ptr->Option Nd.Node}{p:Ptr}{nd:Nd.Node}{t:Kvs}{S:List Ptr}(f:kU Q 0 nd t S)(hp:Q p=some nd):Tell Q (wU Q [] [] 0 p nd) (p::S)/\vL (wU Q [] [] 0 p nd)+1=(wU Q [] [] 0 p nd).length:=by
 obtain⟨rfl,rfl⟩:=f;exact⟨⟨rfl,⟨fun k h=>by simp[leafOf]at h,trivial⟩,fun x a=>by
  rcases zP.1 a with rfl | a
  .exact hp
  .cases a⟩,rfl⟩
theorem zGM {Q:Ptr->Option Nd.Node} : ∀(h:Nat) {p:Ptr} {nd:Nd.Node} {t:Tr h} {S:List Ptr} {lo hi:Bd},kU Q h nd t S->WF h lo hi t->Q p=some nd->Tell Q (wU Q [] [] h p nd) (p::S)/\vL (wU Q [] [] h p nd)+1=(wU Q [] [] h p nd).length
 | 0,_,_,_,_,_,_,rn,_,hp=>zBc rn hp
 | h+1,_,_,_,_,_,_,rn,hw,hp=>zE8 (fun a b c=>zGM h a b c) rn hw.1 hp
theorem zGN {Q:Ptr->Option Nd.Node}{h:Nat}{p:Ptr}{nd:Nd.Node}{t:Tr h}{S:List Ptr}(f:kU Q h nd t S)(w:WR h t)(hp:Q p=some nd):Tell Q (wU Q [] [] h p nd) (p::S)/\vL (wU Q [] [] h p nd)+1=(wU Q [] [] h p nd).length:=by
 cases h with
 | zero=>exact zBc f hp
 | succ h=>exact zE8 (fun a b c=>zGM h a b c) f w.1 hp
end Go.Bt
end
section
set_option maxRecDepth 20000
namespace Go.Eng.Sh
open Go.Nd (Ptr sumL leafOf Kvs)
open Go.Bt
def lpB (a:Nat):ALoop:=⟨.ready,none,60,0,[5],[.ptr a 0]⟩
def WB (s:List Ptr)(x:Ptr×Nd.Node):Bool×List Ptr:=(true,if x.1.at_=1 then s else s++[x.1])
theorem zHo: ∀(l:List (Ptr×Nd.Node)) (a:List Ptr),(∀x∈l,x.1.at_≠1)->(xH WB l a).2=a++l.map Prod.fst
 | [],a,_=>by simp[xH]
 | x::l,a,h=>by
  have f:=h x (zK ..);simp only[xH,WB,zM,if_neg f];rw[zHo l _ fun y i=>h y (zC _ i)];simp
structure IB (N0 A1 Bl:Nat)(b:Nat)(x:Bool×List Ptr)(H:AH)(W:Nat->Prop):Prop where
 ok:H.ok
 gA:H.h.get A1=some (.loop (lpB Bl))
 bl: ∃v,Box H Bl v/\kZ 3 42 H v x.2.length (x.2.flatMap jR)/\ ¬Blk v A1/\ ¬Blk v Bl/\(∀B,Blk v B->N0<=B)/\ ∀B,W B↔((B=A1\/B=Bl)\/Blk v B)
 lo:N0<=A1/\N0<=Bl
 few:x.2.length+b<=900000000
theorem zLX (m:Nat){H:AH}{A1 a:Nat}(f:H.h.get A1=some (.loop (lpB a)))(az:List AV):(dy (m+1)).yld A1 az H=zAk (dy m) m A1 (lpB a) az H:=by
 show YN (tabR (dy m) m) A1 az H=_;simp only[YN,f];rfl
theorem zGj {N0 A1 i:Nat}{b:Nat}{s:List Ptr}{a:Ptr×Nd.Node}{az:List AV}{H:AH}{W:Nat->Prop}(m:Nat)(hi:IB N0 A1 i (b+1) (true,s) H W)(he:encN H W a az):
  ∃H' W',(dy (m+1)).yld A1 az H=some (.bool (WB s a).1,H')/\IB N0 A1 i b (WB s a) H' W'/\Adw W H W' H':=by
 obtain⟨J,N,⟨v,bl,gv,y,O,v5,p⟩,a5,hf⟩:=hi;obtain⟨w,rfl,_⟩:=he;simp only at gv hf;rw[zLX m N];have lA:=J.lt N;have ll:=bl.lt J;have S:A1≠i:=zDP N bl;obtain⟨H1,L,b1,p1,g1,m1,n1⟩:=box J (.cells [.int .i64 ((0:Nat):Int), .int .i64 ((0:Nat):Int), .int .u64 ((0:Nat):Int)] 42 1 false);obtain⟨q,e2,g2,T,n2⟩:=jW p1.ok g1 (l':=jR a.1) rfl rfl;have a6:stN 3 (.ptr L 0) (.agg (jR a.1)) H1=some (jO,q):=e2;have z:Prs H q:=p1.fresh T fun B f=>by omega
 have N1:=p1.next;have N2:=T.next
 have a7:=zRn z J N;have Z: ∀K:AH->Rs,uM A1 q K=K (q.put A1 (.loop { lpB i with state:= .busy})):=fun K=>by
  simp only[uM,a7,lpB,kO]
 have j:Stp (fun B=>B=A1) q (q.put A1 (.loop { lpB i with state:= .busy})):=(zRf T.ok).put (T.ok.lt a7) _ (.inr rfl);have U:(q.put A1 (.loop { lpB i with state:= .busy})).h.get A1=some (.loop { lpB i with state:= .busy}):=by rw[zRc,if_pos rfl]
 generalize q.put A1 (.loop { lpB i with state:= .busy})=H3 at j U Z;have N3:=j.next
 have a1:Box H3 i v:=(bl.mono J z fun x=>x).mono z.ok j (fun e=>S e.symm);have a8:kZ 3 42 H3 v s.length (s.flatMap jR):=(gv.mono z (fun _ _ x=>x)).mono j fun B f e=>y (e▸f)
 have q3:H3.h.get L=some (.cells (jR a.1) 42 1 false):=by rw[j.keep _ (by omega) (by omega)];exact g2
 have r3:ld1 (.ptr L 0) H3=some (.int .i64 a.1.at_):=by rw[jL q3];rfl
 have hl:QX [5] (lpB i).live=true:=rfl;have a4:(lpB i).vals=[.ptr i 0]:=rfl;have a9:bxV 42 (.agg [.int .i64 ((0:Nat):Int), .int .i64 ((0:Nat):Int), .int .u64 ((0:Nat):Int)])=some (.cells [.int .i64 ((0:Nat):Int), .int .i64 ((0:Nat):Int), .int .u64 ((0:Nat):Int)] 42 1 false,fun A=> .ptr A 0):=rfl;by_cases C:a.1.at_=1
 .have a2: ¬a.1.at_≠((1:Nat):Int):=by simp[C]
  have o:Stp (fun B=>B=A1) H3 (H3.put A1 (.loop (lpB i))):=(zRf j.ok).put (j.ok.lt U) _ (.inr rfl);have a0:YE A1 none H3=some (.bool true,H3.put A1 (.loop (lpB i))):=by simp only[YE,U,kO,lpB]
  have a3:WB s a=(true,s):=by rw[WB,if_pos C]
  rw[a3];refine⟨H3.put A1 (.loop (lpB i)),W, ?_,⟨o.ok,by rw[zRc,if_pos rfl],⟨v,a1.mono j.ok o (fun e=>S e.symm),a8.mono o fun B f e=>y (e▸f),y,O,v5,p⟩,a5,by simp only;omega⟩,⟨((Prs.stp z).trans (j.mono fun B _ f=>(p B).2 (.inl (.inl f)))).trans (o.mono fun B _ f=>(p B).2 (.inl (.inl f))),fun B f=> .inl f⟩⟩;simp(maxSteps:=999999)(disch:=omega) only[zAk,eZ,hl,a4,zM,a9,b1,a6,Z,r3,a2,zGa];exact a0
 .have a2:a.1.at_≠((1:Nat):Int):=by simpa using C
  obtain⟨H4,b3,b4,t,g4,m4,n4⟩:=box j.ok (.cells (jR a.1) 42 3 false);have b2:srcOf 3 (.slice b3 0 1 2) H4=some (1,jR a.1):=by simp only[srcOf,g4];rfl
  obtain⟨V,H5,e5,b0,o,f5⟩:=(a8.mono t (fun _ _ x=>x)).app (bytes:=24) (m:=1) (new:=jR a.1) t.ok (by decide) b2 rfl rfl (by omega) (by decide);have N4:=t.next;have N5:=o.next
  have b5:Box H5 i v:=(a1.mono j.ok t fun x=>x).mono t.ok o O;obtain⟨F,e6,b6,u⟩:=b5.st o.ok (x:=V) b0.isCell;have N6:=u.next
  have g6:F.h.get A1=some (.loop { lpB i with state:= .busy}):=by rw[u.keep _ (by omega) S,o.keep _ (by omega) y,t.keep _ (by omega) (fun x=>x)];exact U
  have Y:Stp (fun B=>B=A1) F (F.put A1 (.loop (lpB i))):=(zRf u.ok).put (u.ok.lt g6) _ (.inr rfl);have a0:YE A1 none F=some (.bool true,F.put A1 (.loop (lpB i))):=by simp only[YE,g6,kO,lpB]
  have nb: ∀ {B:Nat},¬Blk v B->B<H.next-> ¬Blk V B:=fun C h2 f=>by
   rcases f5 _ f with e | e
   .exact C e
   .omega
  have a3:WB s a=(true,s++[a.1]):=by rw[WB,if_neg C]
  have fl:(s++[a.1]).flatMap jR=s.flatMap jR++jR a.1:=by simp[yZ]
  rw[a3];refine⟨F.put A1 (.loop (lpB i)),fun B=>(B=A1\/B=i)\/Blk V B, ?_,⟨Y.ok,by rw[zRc,if_pos rfl],⟨V,b6.mono u.ok Y (fun e=>S e.symm), ?_,nb y lA,nb O ll,fun B f=> ?_,fun B=>Iff.rfl⟩,a5,by simp only[zT,yL];omega⟩,⟨?_,fun B f=> ?_⟩⟩
  .have b7:ldN 3 (.ptr L 0) H3=some (.agg (jR a.1)):=by rw[jQ q3];rfl
   have b8:=bldQ 42 a.1 [.int .i64 ((0:Nat):Int), .int .i64 ((0:Nat):Int), .int .u64 ((0:Nat):Int)] rfl;simp(maxSteps:=999999)(disch:=omega) only[zAk,eZ,hl,a4,zM,a9,b1,a6,Z,r3,a2,ne_eq,j6,a1.ld,b7,b8,b4,e5,e6,zGa];exact a0
  .simp only[fl,zT,yL];exact(b0.mono u fun B f e=>nb O ll (e▸f)).mono Y fun B f e=>nb y lA (e▸f)
  .rcases f5 B f with e | e
   .exact v5 B e
   .omega
  .exact(((((Prs.stp z).trans (j.mono fun B _ f=>(p B).2 (.inl (.inl f)))).trans t.stp).trans (o.mono fun B _ f=>(p B).2 (.inr f))).trans (u.mono fun B _ f=>(p B).2 (.inl (.inr f)))).trans (Y.mono fun B _ f=>(p B).2 (.inl (.inl f)))
  .rcases f with e | e
   .exact .inl ((p B).2 (.inl e))
   .rcases f5 B e with e | e
    .exact .inl ((p B).2 (.inr e))
    .exact .inr (by omega)
theorem zGk (N0 A1 q:Nat):Cns A1 0 N0 encN WB (IB N0 A1 q) where
 ok:=fun h=>h.ok
 lt:=fun {b x H W} h B f=>by
  obtain⟨v,i,j,t,u,o,a⟩:=h.bl;rcases(a B).1 f with(e | e) | e
  .subst e;exact⟨h.ok.lt h.gA,h.lo.1⟩
  .subst e;exact⟨i.lt h.ok,h.lo.2⟩
  .exact⟨j.lt e,o B e⟩
 mono:=fun h hb=>⟨h.ok,h.gA,h.bl,h.lo,by have:=h.few;omega⟩
 frame:=fun {b x H H' W S} h s y=>by
  obtain⟨v,i,j,t,u,o,a⟩:=h.bl;have n: ∀ {B:Nat},(B=A1\/B=q)-> ¬S B:=fun z p=>y _ p ((a _).2 (.inl z))
  exact⟨s.ok,by rw[s.keep _ (h.ok.lt h.gA) (n (.inl rfl))];exact h.gA,⟨v,i.mono h.ok s (n (.inr rfl)),j.mono s fun B f p=>y B p ((a B).2 (.inr f)),t,u,o,a⟩,h.lo,h.few⟩
 run:=fun m _ hi C=>zGj m hi C
set_option maxRecDepth 100000 in
theorem zGm {At N0 k:Nat}{root:Ptr}{Q:Ptr->Option Nd.Node}{G:AH->(Nat->Prop)->Prop}(r:Rdr At N0 k root Q G)(m:Nat)(hm:700000000<=m){H:AH}{T:Nat->Prop}{L:List (Ptr×Nd.Node)}(U:G H T)(c9:N0<=H.next)(hL:Vis Q root [] [] L)(hl:L.length<=8192+k)(d0:k<=1000000):
  ∃H' N v,f60 (dy (m+1)) (m+1) [.ptr At 0] H=some (.tuple [v, .int .i64 ((0:Nat):Int)],H')/\G H' N/\Stp T H H'/\kZ 3 42 H' v (xH WB L []).2.length ((xH WB L []).2.flatMap jR)/\ ∀B,Blk v B->H.next<=B:=by
 have hk:=r.ok U;obtain⟨left,c8⟩: ∃left,left=8192+k:=⟨_,rfl⟩;have ed:=r.dirty (dy (m+1)) (m+1) U;obtain⟨H2,Aw,b2,V,g2,m2,n2⟩:=box hk (.cells [.ptr At 0, .nilMap, .int .i64 ((left:Nat):Int), .int .i64 ((0:Nat):Int)] 215 1 false);obtain⟨H5,j,b4,C,g4,m4,n4⟩:=box V.ok (.cells [.nilSlice] 50 1 false);obtain⟨H6,X4,c4,W,g6,m6,n6⟩:=box C.ok (.cells [.ptr Aw 0] 207 1 false);obtain⟨H7,X5,c5,F,g7,m7,n7⟩:=box W.ok (.cells [S []] 9 1 false);obtain⟨H8,X6,c6,z,g8,m8,n8⟩:=box F.ok (.cells [S []] 9 1 false);obtain⟨o,X7,c7,q,g9,m9,n9⟩:=box z.ok (.cells [.func 106 [] []] 212 1 false);have N2:=V.next;have N4:=C.next;have N6:=W.next;have N7:=F.next;have N8:=z.next;have N9:=q.next
 have p:Prs o (o.push (.loop (lpB j))):=(zRf q.ok).push _;have a2:(o.push (.loop (lpB j))).h.get o.next=some (.loop (lpB j)):=zR8 _ _
 have Y: ∀K:Nat->AH->Rs,VQ o (.loop ⟨.ready,none,60,0,[5],[.ptr j 0]⟩) K=K o.next (o.push (.loop (lpB j))):=fun K=>WV q.ok _ K
 have b5:(o.push (.loop (lpB j))).next=o.next+1:=rfl
 generalize o.push (.loop (lpB j))=H10 at p a2 Y b5;obtain⟨A1,b6⟩: ∃A1,A1=o.next:=⟨_,rfl⟩
 rw[<-b6]at a2 Y;have d1:=p.next
 have Z:Prs H5 H10:=(((W.trans F).trans z).trans q).trans p;have a6:Prs H H10:=(V.trans C).trans Z;have a7:=zRn (C.trans Z) V.ok g2;have a8:Box H10 j .nilSlice:=⟨_,zRn Z C.ok g4⟩;have a3: ∀B,T B->B<H.next:=fun B f=>r.lt U B f
 have J: ∀B,¬Blk .nilSlice B:=fun B f=>zRl.1 f
 have b7:IB N0 A1 j left (true,[]) H10 (fun B=>B=A1\/B=j):=⟨p.ok,a2,⟨.nilSlice,a8, .inl (zRo ..),J _,J _,fun B f=>(J B f).elim,fun B=>⟨fun h=> .inl h,fun h=>h.elim id fun h=>(J B h).elim⟩⟩,by omega,by simp;omega⟩;have wk:Wk N0 At Aw G (IB N0 A1 j) H10 T (fun B=>B=A1\/B=j) left left (true,[]):=⟨r.prs U a6,b7,⟨_,a7⟩,by omega,fun w=>by have:=a3 _ w;omega,fun w=>by rcases w with w | w<;>omega,fun B f w=>by have:=a3 _ w;rcases f with w | w<;>omega⟩;obtain⟨t,N,d2,left',b8,a0,O⟩:=zBK r (zGk N0 A1 j) m (by omega) wk hL (by omega) (by omega) (Xw:=X4) (Xt:=X6) (Xf:=X5) (Xp:=X7)
  ⟨_,zRn (((F.trans z).trans q).trans p) W.ok g6⟩ ⟨_,zRn (q.trans p) z.ok g8⟩ ⟨_,zRn ((z.trans q).trans p) F.ok g7⟩ ⟨_,zRn p q.ok g9⟩
 have y:=a0.i;obtain⟨ek,a4⟩:=a0.w;have d3:=O.s.next
 have a1:=y.gA;obtain⟨v,a5,gv,v1,v3,v5,hW⟩:=y.bl;have u:Stp (fun B=>B=A1) t (t.put A1 .dead):=(zRf y.ok).put (y.ok.lt a1) _ (.inr rfl);have a9: ∀K:Option Code->AH->Rs,fQ A1 t K=K (lpB j).pending (t.put A1 .dead):=fun K=>by
  simp only[fQ,a1,lpB,kO]
 have b9: ¬N A1:=fun w=>by
  rcases O.g _ w with w | w
  .have:=a3 _ w;omega
  .omega
 have b0:=a5.mono y.ok u (fun e=>zDP a1 a5 e.symm);have b1:(t.put A1 .dead).h.get Aw=some (.cells [.ptr At 0, .nilMap, .int .i64 ((left':Nat):Int), .int .i64 ((0:Nat):Int)] ek 1 false):=by rw[u.keep _ (y.ok.lt a4) (by omega)];exact a4
 refine⟨t.put A1 .dead,N,v, ?_,r.frame a0.g u (fun B f=>by subst f;exact⟨by omega,b9⟩), ?_,gv.mono u fun B f e=>v1 (e▸f),fun B f=> ?_⟩
 .have c0:rfC [(104,f104 (dy (m+1)) (m+1)),(107,f107 (dy (m+1)) (m+1))] (dy (m+1)) (.func 165 [] [.ptr X4 0, .ptr X6 0, .ptr X5 0, .ptr X7 0]) A1 H10=some (.tuple [],t):=b8;have x1:jT (.ptr Aw 0)=[.ptr Aw 0]:=rfl;have x2: ∀a,jT (S a)=[S a]:=fun _=>rfl
  have x3:jT (.func 106 [] [])=[.func 106 [] []]:=rfl;have x5:jT .nilSlice=[.nilSlice]:=rfl;have hS:(AV.str 0 0)=S []:=rfl;have hf:f107 (dy (m+1)) (m+1) [.ptr Aw 0,S [],S [], .func 106 [] []] H5=some (.func 165 [] [.ptr X4 0, .ptr X6 0, .ptr X5 0, .ptr X7 0],o):=by
   simp only[f107,eZ,x1,x2,x3,c4,c5,c6,c7]
  have b3:((8192:Nat):Int)+((k:Nat):Int)=((left:Nat):Int):=by omega
  have c1:vR [(0,1),(1,1),(2,1),(3,1)] [.nilPtr, .nilMap, .int .i64 ((0:Nat):Int), .int .i64 ((0:Nat):Int)] [(0, .ptr At 0),(2, .int .i64 ((left:Nat):Int))]=some (.agg [.ptr At 0, .nilMap, .int .i64 ((left:Nat):Int), .int .i64 ((0:Nat):Int)]):=rfl;have c2:f104 (dy (m+1)) (m+1) [.ptr At 0] H=some (.ptr Aw 0,H2):=by
   simp(maxSteps:=999999)(disch:=omega) only[f104,eZ,ed,b3,c1,b2]
  have c3: ¬(((0:Nat):Int)≠((0:Nat):Int)):=by omega
  simp(maxSteps:=999999)(disch:=omega) only[f60,eZ,cq,c2,x5,b4,hS,hf,Y,c0,a9,lpB,zEG,jL b1,c3,b0.ld]
 .refine⟨u.ok,by have:=u.next;omega,fun B f hS=> ?_⟩
  rw[u.keep B (by omega) (by omega),O.s.keep B (by omega) (fun w=> ?_),a6.keep B f fun x=>x];rcases w with w | (w | w) | w
  .exact hS w
  all_goals omega
 .rcases O.i B ((hW B).2 (.inr f))with(e | e) | e<;>omega
end Go.Eng.Sh
end
section
set_option maxRecDepth 20000
namespace Go.Bt
theorem zI7 {α:Type}{l:List α}(h:l.Nodup){i j:Nat}(hi:i<l.length)(f:j<l.length)(e:l[i]=l[j]):i=j:=by
 have m:=List.pairwise_iff_getElem.1 h;rcases Nat.lt_trichotomy i j with a | a | a
 .exact absurd e (m i j hi f a)
 .exact a
 .exact absurd e.symm (m j i f hi a)
theorem wr_ne {h:Nat}{t:Tr h}(w:WR h t):con h t≠[]:=by
 cases h with
 | zero=>exact w.2.1
 | succ h=>
  obtain⟨a,_,_⟩:=w;have hl:=a.2.2.len;have f:0<t.2.length:=by omega
  have j:=con_ne (KB.at a.2.2 (zJ f));intro e;refine j (zV ?_);have i:(t.2.flatMap (con h)).length=0:=by
   have:con (h+1) t=t.2.flatMap (con h):=rfl;rw[<-this,e];rfl
  rw[List.length_flatMap]at i;have:=List.sum_eq_zero_iff_forall_eq_nat.1 i _ (qU.2 ⟨t.2[0],qY f,rfl⟩);exact this
end Go.Bt
namespace Go.Eng.Sh
open Go.Nd (Ptr sumL leafOf Kvs Srt mayK putP delP lookP)
open Go.Bt Go.Bk
theorem zEN: ∀(l:List Ptr) (i:Nat) (h:i<l.length),((l.flatMap jR).drop (i*3)).take 3=jR l[i]
 | p::l,0,_=>by rw[Nat.zero_mul,yB,qG,j9 (show(jR p).length=3 from rfl)];rfl
 | p::l,i+1,h=>by
  rw[qG,show(i+1)*3=3+i*3 by omega,<-List.drop_drop,yY (show(jR p).length=3 from rfl)];exact zEN l i (by simpa using h)
theorem vS.fld {H:AH}{v:AV}{l:List Ptr}(h:vS H v l){i:Nat}(hi:i<l.length): ∃A o,(∀κ (z:Int),z=(i:Int)->uX 3 v (.int κ z)=some (.ptr A o))/\ldN 3 (.ptr A o) H=some (.agg (jR l[i]))/\Eng.ld1 (.ptr A (o+0)) H=some (.int .i64 l[i].at_):=by
 obtain⟨A,o,c,e,sz,g,j,f,p,m,a⟩:=Rw.at h hi;rw[zEN l i hi]at a;refine⟨A,o,j,by rw[YW f m,a],xT f ?_⟩;have:=congrArg (fun x=>x[0]?) a;simp only[jG (show 0<3 by omega),jE]at this;exact this
theorem gP.keepB {E:Ev}{ws':Ws}{i:List Ptr}{p:Ptr}{kv:Kvs}{T:List Ptr}(h:gP E [] p kv T)(hb: ∀r∈T,blkAt r.at_.toNat ws'=blkAt r.at_.toNat E.ws):gP { E with ws:=ws',dl:=i} [] p kv T:=by
 rcases h with⟨a,b,c⟩ | ⟨h,nd,t,S,j,m,o,q,u,rfl⟩
 .exact .inl ⟨a,b,c⟩
 .have key: ∀r∈p::S,∀nd,Qf E [] [] r=some nd->Qf { E with ws:=ws',dl:=i} [] [] r=some nd:=fun r hr nd f=>by
   have:=zKg (ws':=ws') f fun _=>hb r hr
   obtain⟨s,rfl,h⟩ | ⟨hp,v⟩:=vQ this
   .rcases h with h | ⟨_,h⟩<;>simp[jV]at h
   .rw[J8 hp];exact zRi.2 (zRi.1 v)
  exact .inr ⟨h,nd,t,S,key p (zK ..) nd j,m.mono fun r hr nd f=>key r (zC _ hr) nd f,o,q,u,rfl⟩
theorem zQ6 {E:Ev}{p:Ptr}{nd:Nd.Node}(h:Qf E [] [] p=some nd):E.K p=some nd:=by
 rcases vQ h with⟨s,e,a | ⟨_,a⟩⟩ | ⟨hp,f⟩
 .simp[jV]at a
 .simp[jV]at a
 .exact f
structure AllN (E:Ev)(root:Ptr)(kv:Kvs)(T:List Ptr)(L0:List (Ptr×Nd.Node)):Prop where
 vis:Vis (Qf E [] []) root [] [] L0
 tell:Tell (Qf E [] []) L0 T
 nod:T.Nodup
 cnt:vL L0+(if kv=[]then 0 else 1)=L0.length
 hd:T=[]\/T.head?=some root
 few:L0.length<=8192
theorem allN {E:Ev}{H:AH}{At M L Ad:Nat}{W:Nat->Prop}{root:Ptr}{kv:Kvs}{T:List Ptr}(t:uE (.ptr Ad 0) .nilPtr E H At M L W root [] kv T)(j:kv.length<=1000000000): ∃o,AllN E root kv T o:=by
 obtain⟨y,es,u,_,z,C,F,J,v,p,_⟩:=t;rcases p with⟨rfl,rfl,rfl⟩ | ⟨h,nd,t,q,a,f,wr,nd0,rfl,rfl⟩
 .exact⟨[], .inl ⟨.inl rfl,rfl⟩,⟨rfl,trivial,by simp⟩,by simp,rfl, .inl rfl,by simp⟩
 .obtain⟨i,s⟩:=zGN f wr a;obtain⟨_,m⟩:=UC a f wr nd0;have x:=zMn a;have hl:(wU (Qf E [] []) [] [] h root nd).length=(root::q).length:=by rw[<-i.fst,jB]
  refine⟨_, .inr ⟨by omega, .inl rfl,h,nd,by have:=wr.low j;omega,a,zGC f wr,rfl⟩,i,nd0, ?_, .inr rfl,by
   rw[hl];simpa[Nat.add_comm]using m⟩
  rw[if_neg (wr_ne wr)];exact s
theorem AllN.K {E:Ev}{root:Ptr}{kv:Kvs}{T:List Ptr}{f:List (Ptr×Nd.Node)}(a:AllN E root kv T f): ∀x∈f,E.K x.1=some x.2:=fun x h=>zQ6 (a.tell.nd x h)
theorem AllN.Kt {E:Ev}{root:Ptr}{kv:Kvs}{T:List Ptr}{f:List (Ptr×Nd.Node)}(a:AllN E root kv T f): ∀r∈T,∃nd,E.K r=some nd:=fun r hr=>by
 rw[<-a.tell.fst]at hr;obtain⟨x,h,rfl⟩:=qU.1 hr;exact⟨_,a.K x h⟩
theorem zGl (m:Nat)(hm:700000000<=m){E:Ev}{H:AH}{At M L Ad:Nat}{W:Nat->Prop}{root:Ptr}{kv:Kvs}{T:List Ptr}(t:uE (.ptr Ad 0) .nilPtr E H At M L W root [] kv T)(i:kv.length<=1000000000){f:List (Ptr×Nd.Node)}(a:AllN E root kv T f):
  ∃H' v,f60 (dy (m+1)) (m+1) [.ptr At 0] H=some (.tuple [v, .int .i64 ((0:Nat):Int)],H')/\Prs H H'/\vS H' v T:=by
 obtain⟨_,j,_⟩:=visD t i (fr:=[]) (to:=[]);obtain⟨H',p,v,e,_,s,g,_⟩:=zGm (zEm H.next At M Ad E root []) m hm j (zQ _) a.vis (by have:=a.few;simpa using this) (by simp)
 have hr:=zHo f [] fun x o h=>by
  have:=(uG (a.K x o)).2;omega
 rw[qS,a.tell.fst]at hr;rw[hr]at g;exact⟨H',v,e,s,g.row⟩
theorem AllN.blk {E:Ev}{root:Ptr}{kv:Kvs}{T:List Ptr}{h:List (Ptr×Nd.Node)}(a:AllN E root kv T h){r:Ptr}(hr:r∈T): ∃k:Nat,r.at_=((k:Nat):Int)/\k<E.nb/\(zDR k E.ws).length=512/\blkAt k E.ws=some (zDR k E.ws):=by
 obtain⟨nd,i⟩:=a.Kt r hr;obtain⟨k,birth,kind,body,rfl,m,j,_,_,hl,hb,_⟩:=zRi.1 i;have f:zDR k E.ws=sealB kind birth body:=by rw[zDR,hb];rfl
 exact⟨k,rfl,j,by rw[f];exact sealB_len hl,by rw[f];exact hb⟩
structure Oth (E:Ev)(T:List Ptr)(H1:AH)(Ao On Nw Mt i:Nat)(H:AH):Prop where
 prs:Prs H1 H
 dk: ∃ws wv es,DkI H Ao E.nb ws On Nw wv es/\ws.length=i/\(∀r∈T.take i,blkAt r.at_.toNat ws=blkAt r.at_.toNat E.ws)/\ ∀B,Blk wv B->H1.next<=B
 tm: ∃et,H.h.get Mt=some (.map [6] et)/\ ∀j:Int,xJ (.int .i64 j) et=if j∈(T.take i).map (·.at_)then some (.int .i64 ((1:Nat):Int))else none
 lo:H1.next<=Ao/\H1.next<=On/\H1.next<=Nw/\H1.next<=Mt
 ne:Mt≠On/\Mt≠Nw
theorem zHZ (m n:Nat)(hm:400000000<=m)(hn:300000000<=n){E:Ev}{root:Ptr}{kv:Kvs}{T:List Ptr}{L0:List (Ptr×Nd.Node)}(a:AllN E root kv T L0){f H:AH}{Gd Ad z O S u i:Nat}{v:AV}(hT:vS f v T)(hx:Eng.ld1 (.ptr Gd 2) f=some (.ptr Ad 0))(a3:f.ok){b8 b9:Nat}{c0:AV}{c1:List (AV×AV)}(c2:DkI f Ad E.nb E.ws b8 b9 c0 c1)(hi:i<T.length)(e7:T.length<=8192)(o:Oth E T f z O S u i H):
  ∃H',V3 (dy (m+2)) n [.ptr Gd 0,v, .ptr z 0, .map u, .int .i64 ((i:Nat):Int)] H=some (.norm [.ptr Gd 0,v, .ptr z 0, .map u, .int .i64 ((i+1:Nat):Int)],H')/\Oth E T f z O S u (i+1) H':=by
 obtain⟨P,⟨ws,wv,es,dk,c3,c4,a4⟩,⟨et,J,hf⟩,⟨lo1,lo2,lo3,c5⟩,a5,V⟩:=o;have a6:vS H v T:=Rw.prs hT P;have c6:lnSl v=some (.int .i64 ((T.length:Nat):Int)):=zRm a6;have c7:((i:Nat):Int)< ((T.length:Nat):Int):=by omega
 have hi1:((i:Nat):Int)+((1:Nat):Int)=((i+1:Nat):Int):=by omega
 have hr:T[i]∈T:=qY hi;obtain⟨k,K,a7,W,c8⟩:=a.blk hr;obtain⟨A,q,i1,i2,i3⟩:=a6.fld hi;have a8:=i1 .i64 _ rfl;rw[K]at i3;have Y:=P.ok;have a2: ∀ {G:AH},Prs f G->Eng.ld1 (.ptr A (q+0)) G=some (.int .i64 ((k:Nat):Int)):=fun {G} h=>by
  obtain⟨A',q',j1,_,j3⟩:=(show vS G v T from Rw.prs hT h).fld hi;have:=(j1 .i64 _ rfl).symm.trans a8;simp only[zB,AV.ptr.injEq]at this;rw[<-this.1,<-this.2,j3,K]
 have b6:xJ (.int .i64 ((k:Nat):Int)) et=none:=by
  rw[hf,if_neg];intro b7;obtain⟨r,a9,c9⟩:=qU.1 b7;obtain⟨e8,h1⟩:=a.Kt r (List.mem_of_mem_take a9);obtain⟨e9,h2⟩:=a.Kt T[i] hr;have e:=K_at h1 h2 (by rw[c9,K]);obtain⟨j,hj,b0⟩:=jH a9;rw[qA]at hj;rw[List.getElem_take]at b0;have:=zI7 a.nod (show j<T.length by omega) hi (b0.trans e);omega
 have d0:lkM [6] (.int .i64 ((0:Nat):Int)) false (.map u) (.int .i64 ((k:Nat):Int)) H=some (.int .i64 ((0:Nat):Int)):=by
  simp only[lkM,zOh,zM,J,show QX [6] [6]=true from rfl,b6,Option.map_none];rfl
 have d1:((0:Nat):Int)+((1:Nat):Int)=((1:Nat):Int):=rfl;obtain⟨H2,a0,e2,g2,f2,s2,n2⟩:=zMu Y J rfl (m:=((k:Nat):Int)) (zOh _) (.int .i64 ((1:Nat):Int));have p:Prs f H2:=P.fresh s2 fun B s=>by omega
 have f1:=Y.lt J;have C:DkI H2 z E.nb ws O S wv es:=dk.stp Y s2 (fun e=>by have:=dk.gD;rw[e,J]at this;cases this) (fun e=>a5 e.symm) (fun e=>V e.symm) (fun B s e=>by have:=dk.ow.get s;rw[e,J]at this;cases this);obtain⟨Z,hZ⟩: ∃Z:Str,Z=List.replicate 512 0:=⟨_,rfl⟩;have d2:Z.length=512:=by rw[hZ];exact List.length_replicate
 have d3:rep 512 [AV.int .u8 ((0:Nat):Int)]=jN Z:=by rw[dZ,hZ]
 obtain⟨H3,b1,b3,y,g3,m3,n3⟩:=box p.ok (.cells (jN Z) 55 1 false);have d4:bxV 55 (.agg (jN Z))=some (.cells (jN Z) 55 1 false,fun A=> .ptr A 0):=by
  simp only[bxV,jT]
 have P3:=p.trans y;obtain⟨H4,e4,t⟩:=zCp (dy (m+2)) n y.ok (c2.prs a3 P3) a7;have P4:=P3.trans t;obtain⟨U,e5,g5,L⟩:=stR t.ok (zRn t y.ok g3) d2 W;have N2:=p.next;have N3:=y.next;have N4:=t.next;have N5:=L.next
 have P5:Prs f U:=P4.fresh L fun B s=>by omega
 have f3:b1<H4.next:=t.ok.lt (zRn t y.ok g3)
 have F: ∀B,B<H2.next->B≠b1:=fun B s=>by omega
 have b2:=p.ok.lt g2;have N:U.h.get u=some (.map [6] a0):=by rw[L.keep _ (by omega) (F _ b2),t.keep _ (by omega) (fun x=>x),y.keep _ b2 (fun x=>x)];exact g2
 have d5:lkM [6] (.int .i64 ((0:Nat):Int)) false (.map u) (.int .i64 ((k:Nat):Int)) U=some (.int .i64 ((1:Nat):Int)):=by
  have h:=f2 ((k:Nat):Int);rw[if_pos rfl]at h;simp only[lkM,zOh,zM,N,show QX [6] [6]=true from rfl,h,zZ];rfl
 have a1:DkI U z E.nb ws O S wv es:=(C.prs p.ok (y.trans t)).stp t.ok L (fun e=>F _ (p.ok.lt C.gD) e) (fun e=>F _ (p.ok.lt C.gO) e) (fun e=>F _ (p.ok.lt C.gN) e) (fun B s e=>F _ (zRq C.ow s) e);have r5:=ldR g5 W;obtain⟨H6,d6,d7,e6,d8,s6,f6⟩:=BN (dy (m+2)) n L.ok a1 a7 W (by omega);have N6:=s6.next
 have d9:H6.h.get u=some (.map [6] a0):=by
  rw[s6.keep _ (by omega) (fun e=> ?_)];exact N;rcases e with e | e | e
  .have:=a1.gD;rw[<-e,N]at this;cases this
  .exact V e
  .have:=a1.ow.get e;rw[N]at this;cases this
 have f4: ¬(((0:Nat):Int)≠((0:Nat):Int)):=by omega
 have e0:decide (((0:Nat):Int)≠((0:Nat):Int))=false:=decide_eq_false fun h=>h rfl
 have e1:decide (((1:Nat):Int)≠((1:Nat):Int))=false:=decide_eq_false fun h=>h rfl
 have e3: ∀ {G:AH},Prs f G->Eng.ld1 (.ptr Gd 2) G=some (.ptr Ad 0):=fun h=>gH a3 h hx
 have b4:T.take (i+1)=T.take i++[T[i]]:=qJ hi;refine⟨H6, ?_,P5.fresh s6 (fun B s=> ?_),⟨_,d6,d7,d8,by simp[c3],fun r b5=> ?_,fun B s=> ?_⟩,⟨a0,d9,fun j=> ?_⟩,⟨lo1,lo2,lo3,c5⟩,a5,V⟩
 .simp(maxSteps:=999999)(disch:=omega) only[V3,eZ,c6,c7,a8,i3,d0,d1,e2,e3 p,a2 p,d3,d4,b3,e4,jM,nth,e5,a2 P5,d5,e0,e1,decide_false,Bool.or_false,eq_self,zL,if_true,qC,r5,e6,hi1]
 .rcases s with e | e | e
  .omega
  .omega
  .exact a4 B e
 .rw[aN];rw[b4]at b5;by_cases e:k=r.at_.toNat
  .rw[if_pos e,<-e,c8]
  .rw[if_neg e];rcases qB.1 b5 with h | h
   .exact c4 r h
   .rw[y6.1 h,K]at e;exact absurd (y7 k).symm e
 .rcases f6 B s with e | e
  .exact a4 B e
  .omega
 .rw[f2,hf,b4,List.map_append,List.map_singleton,K];by_cases e:j=((k:Nat):Int)
  .simp[e]
  .simp[e]
end Go.Eng.Sh
end
section
set_option maxRecDepth 20000
namespace Go.Eng.Sh
open Go.Nd (Ptr sumL leafOf Kvs Srt mayK putP delP lookP)
open Go.Bt Go.Bk
theorem K_may {E:Ev}{p:Ptr}{nd:Nd.Node}(h:E.K p=some nd):Nd.may ltS nd=true/\Nd.size nd<=500:=by
 obtain⟨k,birth,kind,body,rfl,a,f,_,_,hl,hb,_,hd⟩:=zRi.1 h;have:=(Nd.encN_decN hd).1;refine⟨this, ?_⟩;simp only[Nd.may,zE,zR]at this;exact this.2
theorem AllN.len {E:Ev}{root:Ptr}{kv:Kvs}{T:List Ptr}{f:List (Ptr×Nd.Node)}(a:AllN E root kv T f):f.length=T.length:=by rw[<-a.tell.fst,jB]
theorem AllN.at {E:Ev}{root:Ptr}{kv:Kvs}{T:List Ptr}{f:List (Ptr×Nd.Node)}(a:AllN E root kv T f){i:Nat}(hi:i<f.length)(h:i<T.length):T[i]=f[i].1:=by
 have:=List.getElem_of_eq a.tell.fst (by simpa using hi);rw[List.getElem_map]at this;exact this.symm
theorem AllN.kid {E:Ev}{root:Ptr}{kv:Kvs}{T:List Ptr}{f:List (Ptr×Nd.Node)}(a:AllN E root kv T f){i:Nat}(hi:i<f.length){p:Ptr}(hp:p∈f[i].2.kids): ∃j,∃s:j<T.length,i<j/\T[j]=p/\ ∀x,∀o:x<T.length,x<j->T[x]≠p:=by
 have h:=a.tell.ord.at i hi p hp;rw[List.map_drop,a.tell.fst]at h;obtain⟨d,hd,m⟩:=jH h;rw[qK]at hd;rw[List.getElem_drop]at m;refine⟨i+1+d,by omega,by omega,m,fun x o q e=> ?_⟩;have:=zI7 a.nod o (show i+1+d<T.length by omega) (e.trans m.symm);omega
theorem zIj (D:Dyn)(n:Nat){E:Ev}{root:Ptr}{kv:Kvs}{T:List Ptr}{f:List (Ptr×Nd.Node)}(a:AllN E root kv T f){H:AH}{v x:AV}{h i:Nat}(y:vS H v T)(a0:T.length<=8192)(hn:20000<=n)(hi:i<f.length)(K:vS H x f[i].2.kids)(hr:Eng.ld1 (.ptr h 3) H=some x)(a1:f[i].2.kids.length<=500)(s m p:AV):
  jY n (zCh D n) [s,v,m,p, .int .i64 ((i:Nat):Int), .ptr h 0, .int .i64 ((0:Nat):Int)] H=some (.exit 4 [s,v,m,p, .int .i64 ((i:Nat):Int)],H):=by
 have t:lnSl v=some (.int .i64 ((T.length:Nat):Int)):=zRm y;have L:lnSl x=some (.int .i64 ((f[i].2.kids.length:Nat):Int)):=zRm K;refine vK (fun k=>[s,v,m,p, .int .i64 ((i:Nat):Int), .ptr h 0, .int .i64 ((k:Nat):Int)]) f[i].2.kids.length (fun k O=> ?_) (fun q=> ?_) n (by omega)
 .obtain⟨j,hj,a2,U,V⟩:=a.kid hi (qY O);obtain⟨B,b,k1,S,_⟩:=K.fld O;have N:=k1 .i64 _ rfl;have hs:jY n (zCi D n) [s,v,m,p, .int .i64 ((i:Nat):Int), .ptr h 0, .int .i64 ((k:Nat):Int), .int .i64 ((0:Nat):Int)] H=some (.exit 6 [s,v,m,p, .int .i64 ((i:Nat):Int), .ptr h 0, .int .i64 ((k:Nat):Int), .int .i64 ((j:Nat):Int)],H):=by
   refine vK (fun at_=>[s,v,m,p, .int .i64 ((i:Nat):Int), .ptr h 0, .int .i64 ((k:Nat):Int), .int .i64 ((at_:Nat):Int)]) j (fun at_ W=> ?_) (fun q=> ?_) n (by omega)
   .have z:((at_:Nat):Int)< ((T.length:Nat):Int):=by omega
    have h1:((at_:Nat):Int)+((1:Nat):Int)=((at_+1:Nat):Int):=by omega
    obtain⟨A,o,C,F,_⟩:=y.fld (show at_<T.length by omega);have u:=C .i64 _ rfl;have J:bZ .neq (eqA [6,6,10] (.agg (jR (T[at_]'(by omega)))) (.agg (jR f[i].2.kids[k])))=some (.bool true):=by
     rw[zAM,decide_eq_false (V at_ (by omega) W)];rfl
    simp(maxSteps:=999999)(disch:=omega) only[zCi,eZ,t,z,u,F,hr,N,S,J,decide_true,Bool.true_and,if_true,h1]
   .have z:((j:Nat):Int)< ((T.length:Nat):Int):=by omega
    obtain⟨A,o,C,F,_⟩:=y.fld hj;have u:=C .i64 _ rfl;have J:bZ .neq (eqA [6,6,10] (.agg (jR T[j])) (.agg (jR f[i].2.kids[k])))=some (.bool false):=by
     rw[zAM,decide_eq_true U];rfl
    exact jU (by simp(maxSteps:=999999)(disch:=omega) only[zCi,eZ,t,z,u,F,hr,N,S,J,decide_true,Bool.true_and,zL,qC])
  have Y:((k:Nat):Int)< ((f[i].2.kids.length:Nat):Int):=by omega
  have Z:((k:Nat):Int)+((1:Nat):Int)=((k+1:Nat):Int):=by omega
  have q1: ¬((j:Nat):Int)=((T.length:Nat):Int):=by omega
  have q2: ¬((j:Nat):Int)<=((i:Nat):Int):=by omega
  simp(maxSteps:=999999)(disch:=omega) only[zCh,eZ,hr,L,Y,hs,zJj,t,q1,q2,decide_false,Bool.or_false,Z]
 .exact jU (by simp(maxSteps:=999999)(disch:=omega) only[zCh,eZ,hr,L,yA])
theorem zFU (m n:Nat)(hn:300000000<=n){E:Ev}{root:Ptr}{kv:Kvs}{T:List Ptr}{f:List (Ptr×Nd.Node)}(a:AllN E root kv T f){p H:AH}{At M L:Nat}{W:Nat->Prop}{d:AV}(tx:uE d .nilPtr E p At M L W root [] kv T){Gd i:Nat}{v:AV}(U:vS p v T)(P:Prs p H)(a4:T.length<=8192)(hi:i<T.length){w:Nat}(hw:w<=8192*500):
  ∃H',V2 (dy (m+1)) n [.ptr Gd 0,v, .ptr At 0, .int .i64 ((w+vL (f.take i):Nat):Int), .int .i64 ((i:Nat):Int)] H=some (.norm [.ptr Gd 0,v, .ptr At 0, .int .i64 ((w+vL (f.take (i+1)):Nat):Int), .int .i64 ((i+1:Nat):Int)],H')/\Prs p H':=by
 have J:vS H v T:=Rw.prs U P;have b5:=a.len;have q:i<f.length:=by omega
 have a5:lnSl v=some (.int .i64 ((T.length:Nat):Int)):=zRm J;have a6:((i:Nat):Int)< ((T.length:Nat):Int):=by omega
 have hi1:((i:Nat):Int)+((1:Nat):Int)=((i+1:Nat):Int):=by omega
 obtain⟨A,o,i1,V,_⟩:=J.fld hi;have a7:=i1 .i64 _ rfl;rw[a.at q hi]at V;have F:f[i]∈f:=qY q;have hK:=a.K _ F;obtain⟨a2,Y⟩:=K_may hK;obtain⟨dr,es,b3,hc,ti,_⟩:=tx;obtain⟨v1,H3,e3,x,u,_⟩:=zIf m n (by omega) (ti.prs P) (a.tell.nd _ F) Y;obtain⟨ks,vs,j,rfl,_⟩:=id u;obtain⟨H4,N,b4,y,g4,m4,n4⟩:=box x.ok (.cells [.bool false, .nilSlice, .nilSlice, .nilSlice] 119 1 false);have a0:jP [.bool f[i].2.leaf,ks,vs,j]=true:=by obtain⟨_,h1,_,z⟩:=cB u;exact z
 obtain⟨Z,e5,g5,s5,n5⟩:=jW y.ok g4 (l':=[.bool f[i].2.leaf,ks,vs,j]) rfl a0;have a8:stN 4 (.ptr N 0) (.agg [.bool f[i].2.leaf,ks,vs,j]) H4=some (jO,Z):=e5;have N3:=x.next;have N4:=y.next;have N5:=s5.next
 have s:Prs H3 Z:=y.fresh s5 fun B hB=>by omega
 have a9:bxV 119 (.agg [.bool false, .nilSlice, .nilSlice, .nilSlice])=some (.cells [.bool false, .nilSlice, .nilSlice, .nilSlice] 119 1 false,fun A=> .ptr A 0):=rfl;have O:=u.prs s;obtain⟨t,e6,C⟩:=zIb (dy (m+1)) n s.ok O.node (xN (by omega)) (by omega);rw[a2]at e6;have P6:Prs p t:=((P.trans x).trans s).trans C;obtain⟨b6,vs',b7,he,_,_,z⟩:=O.prs C;simp only[AV.agg.injEq,yE,and_true,true_and]at he;obtain⟨rfl,rfl,rfl⟩:=he;have g6:=zRn C s.ok g5;have hr:Eng.ld1 (.ptr N 3) t=some j:=by rw[jL g6];rfl
 have S:vS t j f[i].2.kids:=z.row;have b0:lnSl j=some (.int .i64 ((f[i].2.kids.length:Nat):Int)):=zRm S;obtain⟨_,_,b1⟩:=aG Y;have a1:=zIj (dy (m+1)) n a (Rw.prs U P6) a4 (by omega) q S hr b1 (.ptr Gd 0) (.ptr At 0) (.int .i64 ((w+vL (f.take (i+1)):Nat):Int));have a3:((w+vL (f.take i):Nat):Int)+((f[i].2.kids.length:Nat):Int)=((w+vL (f.take (i+1)):Nat):Int):=by
  rw[qJ q,X8];simp[vL];omega
 have b8:vL (f.take (i+1))<=8192*500:=by
  have h1:=a.cnt;have h2:vL f=vL (f.take (i+1))+vL (f.drop (i+1)):=by rw[<-X8,qM]
  omega
 have b2:decide (((0:Nat):Int)≠((0:Nat):Int))=false:=decide_eq_false fun h=>h rfl
 refine⟨t, ?_,P6⟩;simp(maxSteps:=999999)(disch:=omega) only[V2,eZ,a5,a6,a7,V,e3,jM,nth,a9,b4,a8,b2,bY g5 rfl,e6,eq_self,zL,if_true,qC,Bool.not_true,Bool.or_false,hr,b0,a3,a1,zJi,hi1]
theorem zDQ (m n:Nat)(hn:300000000<=n){E O:Ev}{root:Ptr}{kv:Kvs}{T:List Ptr}{H:AH}{At M L f M2 L2:Nat}{W W2:Nat->Prop}{d h:AV}(S:uE d .nilPtr E H At M L W root [] kv T)(a1:uE h .nilPtr O H f M2 L2 W2 root [] kv T){j:List (Ptr×Nd.Node)}(a:AllN O root kv T j){Gd:Nat}{v:AV}(U:vS H v T)(x0:Eng.ld1 (.ptr Gd 0) H=some (.ptr At 0)):
  ∃H',zCj (dy (m+1)) n [.ptr Gd 0,v, .ptr f 0, .int .i64 ((if kv=[]then 0 else 1:Nat):Int)] H=some (.ret (.bool true),H')/\Prs H H':=by
 have a7:=a.len;have a2:T.length<=8192:=by have:=a.few;omega
 obtain⟨w,z⟩: ∃w:Nat,w=if kv=[]then 0 else 1:=⟨_,rfl⟩
 rw[<-z];have a0:=a.cnt;rw[<-z]at a0;have a8:w<=1:=by rw[z];split<;>omega
 have lp:=vJ (b:=V2 (dy (m+1)) n) T.length (fun i C H'=>C=[.ptr Gd 0,v, .ptr f 0, .int .i64 ((w+vL (j.take i):Nat):Int), .int .i64 ((i:Nat):Int)]/\Prs H H') (fun i C H' hi ⟨a3,P⟩=>by
  subst a3;obtain⟨H2,e2,P2⟩:=zFU m n hn a a1 (Gd:=Gd) U P a2 hi (w:=w) (by omega);exact⟨_,H2,e2,rfl,P2⟩) n [.ptr Gd 0,v, .ptr f 0, .int .i64 ((w:Nat):Int), .int .i64 ((0:Nat):Int)] H ⟨rfl,zRf S.d.okH⟩ (by omega)
 obtain⟨q,C,s,F,rfl,p⟩:=lp;have u:vS s v T:=Rw.prs U p;have x:lnSl v=some (.int .i64 ((T.length:Nat):Int)):=zRm u;have t:jY (q+1) (V2 (dy (m+1)) n) [.ptr Gd 0,v, .ptr f 0, .int .i64 ((w+vL (j.take T.length):Nat):Int), .int .i64 ((T.length:Nat):Int)] s=some (.exit 2 [.ptr Gd 0,v, .int .i64 ((w+vL (j.take T.length):Nat):Int)],s):=jU (by simp only[V2,eZ,x,yA]);have V:w+vL (j.take T.length)=T.length:=by rw[zX (by omega)];omega
 rw[V]at t;rw[V]at F;have Y:decide (((T.length:Nat):Int)=((T.length:Nat):Int))=true:=decide_eq_true rfl;by_cases Z:T.length=0
 .have h:decide (((T.length:Nat):Int)=((0:Nat):Int))=true:=decide_eq_true (by omega);refine⟨s, ?_,p⟩;simp(maxSteps:=999999)(disch:=omega) only[zCj,eZ,F,t,zF4,x,Y,h,eq_self,if_true,qC,Bool.true_eq_false,Bool.true_or,Bool.true_and]
 .have h:decide (((T.length:Nat):Int)=((0:Nat):Int))=false:=decide_eq_false (by omega);obtain⟨A,o,i1,i2,_⟩:=u.fld (show 0<T.length by omega);have N:=i1 .i64 ((0:Nat):Int) rfl;have J:T[0]'(by omega)=root:=by
   rcases a.hd with e | e
   .rw[e]at Z;exact absurd rfl Z
   .rw[List.head?_eq_getElem?,zJ (by omega)]at e;exact yD e
  rw[J]at i2;obtain⟨dr,es,a6,hc,ti,_⟩:=S;obtain⟨H6,e6,p6⟩:=K6 (dy (m+1)) n (ti.prs p);have a4:=gH ti.ok p x0;obtain⟨A',o',j1,j2,_⟩:=(show vS H6 v T from Rw.prs u p6).fld (show 0<T.length by omega);have y:=(j1 .i64 ((0:Nat):Int) rfl).symm.trans N;simp only[zB,AV.ptr.injEq]at y;rw[y.1,y.2,J]at j2;have ck: ∀K:Rs,chk (some (.agg (jR root))) (.agg (jR root)) K=K:=fun K=>wC rfl (by simp[aveq,YA,jR,xP,xQ])
  have a5:bZ .eql (eqA [6,6,10] (.agg (jR root)) (.agg (jR root)))=some (.bool true):=by rw[zAM];simp[bZ];rfl
  refine⟨H6, ?_,p.trans p6⟩;simp(maxSteps:=999999)(disch:=omega) only[zCj,eZ,F,t,zF4,x,Y,h,eq_self,if_true,qC,Bool.true_eq_false,zL,Bool.true_or,Bool.false_or,Bool.true_and,N,i2,a4,e6,j2,ck,a5]
end Go.Eng.Sh
end
section
set_option maxRecDepth 20000
namespace Go.Eng.Sh
open Go.Nd (Ptr sumL leafOf Kvs Srt mayK putP delP lookP)
open Go.Bt Go.Bk
theorem uE.prsX {d c:AV}{E:Ev}{H H':AH}{At M L:Nat}{W:Nat->Prop}{root:Ptr}{q:PN}{kv:Kvs}{T:List Ptr}(h:uE d c E H At M L W root q kv T)(s:Prs H H'):uE d c E H' At M L W root q kv T:=by
 obtain⟨f,es,a,i,j,m⟩:=h;exact⟨f,es,a,i,j.prs s,m⟩
theorem Y5 (kv:Kvs):uH [] [] kv=kv:=List.filter_eq_self.2 fun p _=>by
 have h:ltS p.1 []=false:=by
  obtain⟨a,b⟩:=p
  cases a<;>rfl
 simp[inP,kQ,h]
theorem zKz (l:List Sw):jP (l.flatMap swV)=true:=by
 rw[kY];intro x a;obtain⟨p,_,a⟩:=List.mem_flatMap.1 a;simp only[swV,zP,List.not_mem_nil,or_false]at a;rcases a with rfl | rfl | rfl<;>rfl
theorem zHR (m n:Nat)(hm:400000000<=m)(T:300000000<=n){H:AH}(U:H.ok){v:AV}{l:List Sw}(V:SwR H v l)(hl:l.length<=60):
  ∃h A1 i q j o a f s Gd,(∀(p:Nat->AV) (K:AV->AH->Rs),bA (some (.cells [] 113 3 false,p)) H K=K (p A1) h)/\apP 113 3 40 (.slice A1 0 0 0) v h=some (q,i)/\(∀(p:Nat->AV) (K:AV->AH->Rs),bA (some (.cells [.int .u8 ((2:Nat):Int), .str 0 0, .str 0 0] 113 3 false,p)) i K=K (p o) j)/\apP 113 3 40 q (.slice o 0 1 2) j=some (f,a)/\f52 (dy (m+2)) n [f] a=some (.tuple [.ptr Gd 0, .bool true],s)/\Prs H a/\GS a Gd (l.length+1) (JB (l++[⟨2,[],[]⟩])) s:=by
 obtain⟨h,A1,b1,t,W,C,Y⟩:=box U (.cells [] 113 3 false);have Z:kZ 3 113 h (.slice A1 0 0 0) 0 []:= .inr ⟨rfl,A1,113,false,rfl,Y,W,rfl⟩;have z:=V.prs t;obtain⟨q,i,e2,G2,F,f2⟩:=Z.app (bytes:=40) t.ok (by decide) (Rw.srcOf z) (Rw.len z) (zKz _) (by omega) (by decide);have N1:=t.next;have N2:=F.next
 have J:Prs H i:=t.fresh F fun B y=>by rw[zRd.1 y];exact C
 obtain⟨j,o,b3,u,g3,m3,n3⟩:=box J.ok (.cells [.int .u8 ((2:Nat):Int), .str 0 0, .str 0 0] 113 3 false);have O:srcOf 3 (.slice o 0 1 2) j=some (1,[.int .u8 ((2:Nat):Int), .str 0 0, .str 0 0]):=by simp only[srcOf,g3];rfl
 obtain⟨f,a,e4,G4,s4,f4⟩:=(G2.mono u fun _ _ x=>x).app (bytes:=40) (m:=1) (new:=[.int .u8 ((2:Nat):Int), .str 0 0, .str 0 0]) u.ok (by decide) O rfl rfl (by omega) (by decide);have N3:=u.next
 have L:Prs H a:=(J.trans u).fresh s4 fun B y=>by
  rcases f2 B y with e | e
  .rw[zRd.1 e];exact C
  .omega
 have S:SwR a f (l++[⟨2,[],[]⟩]):=by
  have:=G4.row;have e1:[]++l.flatMap swV++[.int .u8 ((2:Nat):Int), .str 0 0, .str 0 0]=(l++[(⟨2,[],[]⟩:Sw)]).flatMap swV:=by
   rw[yZ,qS,qG,List.flatMap_nil,qX];rfl
  rw[e1]at this;show Rw 3 a f (l++[(⟨2,[],[]⟩:Sw)]).length _;rw[zT,yL];rw[yW]at this;exact this
 obtain⟨s,Gd,e5,N⟩:=zL2 m n hm T L.ok S (by rw[zT,yL];omega);rw[zT,yL]at N;exact⟨h,A1,i,q,j,o,a,f,s,Gd,b1,e2,b3,e4,e5,L,N⟩
theorem walkBlocks_walk (m:Nat)(hm:800000000<=m){H:AH}(hk:H.ok){v:AV}{l:List Sw}(hv:SwR H v l)(d6: ∀s∈l,s.kd<256):
  ∃H',zPz (dy (m+3)) (m+3) [v] H=some (.bool true,H')/\Prs H H':=by
 have Z: ∀H:AH,z51 (dy (m+3)) (m+3) [] H=some (.bool true,H):=fun _=>rfl
 obtain⟨b,e1,hb⟩:=zLf (dy (m+3)) (m+3) (by omega) hv
 cases b with
 | true=>
  refine⟨H, ?_,zRf hk⟩;simp(maxSteps:=999999)(disch:=omega) only[zPz,eZ,e1,Z,Bool.true_or,Bool.or_true,eq_self,if_true]
 | false=>
  have hl:=hb rfl;obtain⟨H1,A1,H2,w1,H3,A3,H4,w2,y,Gd,b1,e2,b3,e4,e5,P4,g5⟩:=zHR (m+1) (m+3) (by omega) (by omega) hk hv hl;have b0:dL 113 3 0 [.int .u8 ((0:Nat):Int), .str 0 0, .str 0 0] []=some (.cells [] 113 3 false,fun A=> .slice A 0 0 0):=rfl;have bs:vR [(0,1),(1,1),(2,1)] [.int .u8 ((0:Nat):Int), .str 0 0, .str 0 0] [(0, .int .u8 ((2:Nat):Int))]=some (.agg [.int .u8 ((2:Nat):Int), .str 0 0, .str 0 0]):=rfl;have b2:dL 113 3 1 [.int .u8 ((0:Nat):Int), .str 0 0, .str 0 0] [(0, .agg [.int .u8 ((2:Nat):Int), .str 0 0, .str 0 0])]=some (.cells [.int .u8 ((2:Nat):Int), .str 0 0, .str 0 0] 113 3 false,fun A=> .slice A 0 1 2):=rfl;obtain⟨E,Ad,As,At,M,L,txg,la,is,V,W,root,q,T,w,⟨hL,c4⟩,d7,d8,p0,d5⟩:=g5;generalize JB (l++[⟨2,[],[]⟩])=kv at*
  obtain⟨lv,gW,gl⟩:=w.gG;have t:=w.tx.d.okH;have F:Eng.ld1 (.ptr Gd 0) y=some (.ptr At 0):=by rw[jL gW];rfl
  have x1:Eng.ld1 (.ptr Gd 1) y=some lv:=by rw[jL gW];rfl
  have x2:Eng.ld1 (.ptr Gd 2) y=some (.ptr Ad 0):=by rw[jL gW];rfl
  have a6:f24 (dy (m+3)) (m+3) [.ptr At 0] y=some (.int .i64 ((q.length:Nat):Int),y):=by
   obtain⟨_,_,_,_,ti,_⟩:=w.tx;exact zF8 _ _ ti
  by_cases hq:0<q.length
  .have a0:((0:Nat):Int)< ((q.length:Nat):Int):=by omega
   refine⟨y, ?_,P4.trans p0⟩;simp(maxSteps:=999999)(disch:=omega) only[zPz,eZ,e1,Z,Bool.not_true,Bool.or_false,zL,qC,b0,b1,e2,bs,b2,b3,e4,e5,jM,nth,F,a6,a0]
  .obtain rfl:q=[]:=zV (by omega);have a0: ¬((0:Nat):Int)< ((([]:PN).length:Nat):Int):=by simp
   obtain⟨L0,a⟩:=allN w.tx (by omega);obtain⟨H6,z,e6,J,hT⟩:=zGl (m+2) (by omega) w.tx (by omega) a;obtain⟨H7,f,On,Nw,e7,C,m7,mO,mN,a1⟩:=zF7 (dy (m+3)) (m+3) J.ok (nb:=1024) (by omega) (by omega);obtain⟨H8,K,b8,p8,g8,m8,n8⟩:=box C.ok (.map [6] []);have N7:=C.next
   have b4:=a1.prs C.ok p8;rw[<-c4]at b4;have c5:T.length<=8192:=by
    have:=a.few;rw[<-a.tell.fst,jB];exact this
   have d9:=C.ok.lt a1.gO;have e0:=C.ok.lt a1.gN;have o0:Oth E T H6 f On Nw K 0 H8:=⟨C.trans p8,⟨[], .nilSlice,[],b4,rfl,fun r hr=>by simp at hr,fun B hB=>(zRl.1 hB).elim⟩,⟨[],g8,fun j=>by simp[xJ]⟩,⟨m7,mO,mN,by omega⟩,by omega,by omega⟩;obtain⟨e3,e8,f1,f2,c6,_⟩:=id w.ds;have lp:=vJ (b:=V3 (dy (m+3)) (m+3)) T.length (fun i us H'=>us=[.ptr Gd 0,z, .ptr f 0, .map K, .int .i64 ((i:Nat):Int)]/\Oth E T H6 f On Nw K i H') (fun i us H' hi ⟨c7,o⟩=>by
    subst c7;obtain⟨u,e9,o9⟩:=zHZ (m+1) (m+3) (by omega) (by omega) a hT (gH t J x2) J.ok (c6.prs t J) hi c5 o;exact⟨_,u,e9,rfl,o9⟩) (m+3) [.ptr Gd 0,z, .ptr f 0, .map K, .int .i64 ((0:Nat):Int)] H8 ⟨rfl,o0⟩ (by omega)
   obtain⟨q9,f3,u,e9,rfl,o9⟩:=lp;obtain⟨P9,⟨ws,wv,es,c8,_,b5,_⟩,_,_,_⟩:=o9;rw[j8]at b5;have c9:lnSl z=some (.int .i64 ((T.length:Nat):Int)):=zRm hT;have c3:jY (q9+1) (V3 (dy (m+3)) (m+3)) [.ptr Gd 0,z, .ptr f 0, .map K, .int .i64 ((T.length:Nat):Int)] u=some (.exit 0 [.ptr Gd 0,z, .ptr f 0],u):=jU (by simp only[V3,eZ,c9,yA]);have N:=J.trans P9;have d0:=w.tx.prsX N;have c2: ∃H',f19 (dy (m+3)) (m+3) [.ptr At 0] u=some (.agg (jR root),H')/\Prs u H':=by
    obtain⟨_,_,_,_,ti,_⟩:=d0;exact K6 _ _ ti
   obtain⟨f4,b6,O⟩:=c2;have d1:gP E [] root kv T:=by
    obtain⟨_,_,_,_,_,_,_,_,_,hr,_⟩:=w.tx;exact hr
   obtain⟨f5,f6,M2,W2,b7,b9,a8,_⟩:=zAp (dy (m+3)) (m+3) (by omega) (E:= { E with ws:=ws}) O.ok (Ad:=f) (p:=root) (kv:=kv) (T:=T) ⟨On,Nw,wv,es,c8.prs P9.ok O⟩ (d1.keepB b5);obtain⟨d2,vm,a3,a4,gm,_⟩:=zHB (m+2) (by omega) a8 (by omega) (by omega) [] [] (most:=999) (Nat.zero_le _);rw[Y5,decide_eq_false (show ¬999<kv.length by omega)]at a3;rw[Y5,zX (by omega)]at gm;have x:=((N.trans O).trans b9).trans a4;have a7:=zFK (dy (m+3)) (m+3) (H:=d2) (v:=vm) (w:=lv) (l:=kv) gm.row ((gl.prs x).row) (by omega) (by omega);have a9:=a8.prsX a4;obtain⟨L2,a2⟩:=allN a9 (by omega);obtain⟨c0,U,d3⟩:=zDQ (m+2) (m+3) (by omega) (w.tx.prsX x) a9 a2 (Gd:=Gd) (Rw.prs hT (((P9.trans O).trans b9).trans a4)) (gH t x F);have c1:lnSl lv=some (.int .i64 ((kv.length:Nat):Int)):=zRm gl.row;have hS:(AV.str 0 0)=S []:=rfl;have a5:decide (((0:Nat):Int)≠((0:Nat):Int))=false:=decide_eq_false fun h=>h rfl
   have d4:zCk (dy (m+3)) (m+3) [.ptr Gd 0,z, .ptr f 0] u=some (.ret (.bool true),c0):=by
    by_cases Y:kv=[]
    .have hI: ¬((0:Nat):Int)< ((kv.length:Nat):Int):=by rw[Y];simp
     rw[if_pos Y]at U;simp(maxSteps:=999999)(disch:=omega) only[zCk,eZ,gH t N F,b6,b7,hS,a3,jM,nth,a5,gH t x x1,a7,Bool.not_true,Bool.or_false,eq_self,zL,if_true,qC,c1,hI,U]
    .have hI:((0:Nat):Int)< ((kv.length:Nat):Int):=by have:=List.length_pos_iff.2 Y;omega
     rw[if_neg Y]at U;simp(maxSteps:=999999)(disch:=omega) only[zCk,eZ,gH t N F,b6,b7,hS,a3,jM,nth,a5,gH t x x1,a7,Bool.not_true,Bool.or_false,eq_self,zL,if_true,qC,c1,hI,U]
   refine⟨c0, ?_,(P4.trans p0).trans (x.trans d3)⟩;simp(maxSteps:=999999)(disch:=omega) only[zPz,eZ,e1,Z,Bool.not_true,Bool.or_false,zL,qC,b0,b1,e2,bs,b2,b3,e4,e5,jM,nth,F,a6,a0,e6,e7,a5,eq_self,if_true,mkM,b8,e9,c3,d4]
end Go.Eng.Sh
end
section
namespace Go.Proofs.YtaaflpnhdkoaeaaGreat.steps14
open Go.ChangeShapes Go.WideShapes Go.ChangeAt Go.RowKit
theorem zFj: Tryz.prog.cellsOf 113=3:=by kernel_rfl
theorem zLT: Tryz.prog.cellsOf 5=1:=by kernel_rfl
theorem zFk: Tryz.prog.cellsOf 9=1:=by kernel_rfl
abbrev Raw:=Int×ByteArray×ByteArray
def zFD (s:Raw):List Value:=[.int .u8 s.1, .string s.2.1, .string s.2.2]
def zG3 (s:Raw):Prop:=0<=s.1/\s.1<256
open Go.Eng.Sh (Sw swV SwR)
def zNv (s:Raw):Sw:=⟨s.1.toNat,s.2.1.data.toList,s.2.2.data.toList⟩
theorem zPT (N:Nat){s:Raw}(h:zG3 s):swV (zNv s)=(zFD s).map (Go.Eng.cellAV N):=by
 have a:((s.1.toNat:Nat):Int)=s.1:=Int.toNat_of_nonneg h.1;simp only[zFD,yH,List.map_nil,Go.Eng.cellAV_string,swV,zNv,a];rfl
set_option maxRecDepth 100000 in
theorem zNz {H:Type}{enc:TypeId×Value->H}{w:World}{base:Nat}{a:Bool}{j:Nat}{cs:List Value}{x:DataW H×List MemPlace}(h:DataW.trod enc Tryz.prog w base (fun _=>true) a j 113 cs=some x): ∃s:Raw,cs=zFD s/\zG3 s:=by
 obtain⟨xs,n,_,_,hl,m,f⟩:=DataW.trod_struct Tryz.underlying113 h;rw[zFj]at hl
 match cs,hl with
 | [c0,c1,c2],_=>
  match xs,m with
  | [y0,y1,y2],_=>
   have o:DataW.trod enc Tryz.prog w base (fun _=>true) a n 5 [c0]=some y0:=by
    have this:DataW.trod enc Tryz.prog w base (fun _=>true) a n 5 (List.take (Tryz.prog.cellsOf 5) (List.drop 0 [c0,c1,c2]))=some y0:=f 0 _ rfl;rw[zLT]at this;exact this
   have p:DataW.trod enc Tryz.prog w base (fun _=>true) a n 9 [c1]=some y1:=by
    have this:DataW.trod enc Tryz.prog w base (fun _=>true) a n 9 (List.take (Tryz.prog.cellsOf 9) (List.drop 1 [c0,c1,c2]))=some y1:=f 1 _ rfl;rw[zFk]at this;exact this
   have q:DataW.trod enc Tryz.prog w base (fun _=>true) a n 9 [c2]=some y2:=by
    have this:DataW.trod enc Tryz.prog w base (fun _=>true) a n 9 (List.take (Tryz.prog.cellsOf 9) (List.drop 2 [c0,c1,c2]))=some y2:=f 2 _ rfl;rw[zFk]at this;exact this
   clear f h;obtain⟨t,u,_,i⟩:=DataW.trod_int Tryz.underlying5 o;obtain⟨v,y,_⟩:=DataW.trod_string Tryz.underlying9 p;obtain⟨z,C,_⟩:=DataW.trod_string Tryz.underlying9 q;obtain rfl:=(List.cons.inj u).1;obtain rfl:=(List.cons.inj y).1;obtain rfl:=(List.cons.inj C).1;refine⟨(t,v,z),rfl, ?_⟩;simp only[Lit.wf,IntKind.min,IntKind.max,IntKind.signed,IntKind.bits,zE,zR]at i;simp only[zG3];simp at i;omega
instance:Inhabited Raw:=⟨(0, .empty, .empty)⟩
set_option maxRecDepth 100000 in
theorem steps_in {H:Type}{enc:TypeId×Value->H}{w:World}{base:Nat}{m:Bool}{v:Value}{d:DataW H}{o:List MemPlace}(p: ∃a len cap,v= .slice a len cap)(h:DataW.Trod enc Tryz.prog w base (fun _=>true) m 96 v d o):
  ∃l:List Sw,SwR (Go.Eng.H0 w) (Go.Eng.argAV w.heap.size v) l/\ ∀s∈l,s.kd<256:=by
 obtain⟨z,u,x,rfl⟩:=p;obtain⟨y,q⟩:=h;obtain⟨l,t,i⟩:=Go.Eng.srows_arg (α:=Raw) (k:=3) (by decide) (vals:=zFD) (fun _=>rfl) (good:=zG3) Tryz.underlying96 zFj (fun h=>zNz h) q;refine⟨l.map zNv, ?_,fun s f=> ?_⟩
 .have e:(l.map zNv).flatMap swV=l.flatMap fun s=>(zFD s).map (Go.Eng.cellAV w.heap.size):=by
   have: ∀l:List Raw,(∀s∈l,zG3 s)->(l.map zNv).flatMap swV=l.flatMap fun s=>(zFD s).map (Go.Eng.cellAV w.heap.size):=by
    intro l
    induction l with
    | nil=>intro _;rfl
    | cons s l ih=>
     intro j;rw[yH,qG,qG,zPT w.heap.size (j s (zK ..)),ih fun s f=>j s (zC _ f)]
   exact this l i
  show Go.Eng.Rw 3 _ _ (l.map zNv).length _;rw[e,jB];exact t
 .obtain⟨r,hr,rfl⟩:=qU.1 f;have:=i r hr;simp only[zNv];simp only[zG3]at this;omega
end Go.Proofs.YtaaflpnhdkoaeaaGreat.steps14
end
section
namespace Go.Proofs.YtaaflpnhdkoaeaaGreat.walkBlocks
open Go.ChangeShapes Go.WideShapes Go.ChangeAt Go.RowKit
open Go.ChangeMaps (open_string shut_string)
theorem own:ownKnob Tryz.prog.godebug=none:=by kernel_rfl
theorem laid:laidOutB Tryz.prog=true:=by kernel_rfl
set_option maxRecDepth 100000 in
theorem contract (H:Type)(enc:TypeId×Value->H)(W:World)(base:Nat)(args:Array Value)(y U:List (DataW H))(K:List MemPlace)
  (o: ∀(j:Nat) t v, Tryz.f10.params[j]? =some t->args[j]? =some v->Value.okWide Tryz.prog W .any base t v)
  (z:DataW.Whole enc Tryz.prog Tryz.f10.params.toList Rows.walkBlocksSpec.vars false W args.toList y U K):
  Calls Tryz.prog 10 args W fun e C=> ∃v,e= .returned v/\Rows.walkBlocksSpec.post enc Tryz.prog Tryz.f10 false true false false W args v C:=by
 have f:=z;obtain⟨p,q,u,V,rfl,a1,a2⟩:=z;have a:DataW.TrodAll enc Tryz.prog W 0 (fun _=>true) true Tryz.f10.params.toList args.toList y p:=u;rw[Tryz.params10]at a o;obtain⟨i,a3,d0,a4,F,q0,a0,rfl,rfl,J,Y⟩:=trodAll_cons a;obtain⟨rfl,rfl,rfl⟩:=trodAll_nil Y;obtain rfl:args= #[i]:=by cases args;simp_all
 obtain⟨rfl,rfl⟩:=trodVars_none V;clear u;have N: ∀x∈F,x.block<W.heap.size:=fun x Z=>f.lt x (by simp[Z])
 obtain⟨l,hN,T⟩:=steps14.steps_in (okWide_slice Tryz.underlying96 (o 0 96 i rfl rfl)) J;obtain⟨m,hm⟩: ∃m:Nat,800000000<=m:=⟨_,zQ _⟩;obtain⟨H',O,hP⟩:=Go.Eng.Sh.walkBlocks_walk m hm (Go.Eng.H0_ok W) hN T;have L:=Go.Eng.calls_param (Go.Eng.Sh.f10z_ok (Go.Eng.Sh.dy_ok (m+3)) (m+3)) W (args:= #[i]) (H':=H') (by
  have e2: ∀s:ByteArray,Go.Eng.argAV W.heap.size (.string s)=Go.Eng.S s.data.toList:=fun s=>Go.Eng.cellAV_string W.heap.size s
  simp only[yH,List.map_nil,e2];exact O) (fun A a=>hP.keep A a (fun x=>x))
 refine L.mono fun e C ⟨he,hb⟩=> ?_
 subst he;simp only[qX]at f;refine⟨_,rfl,_,_,_,[],F++[],[],f, ?_, ?_,rfl,hb.frame _,fun h=>by cases h⟩
 .exact trodAll_cons_mk (shut_bool Tryz.underlying4 _) trodAll_mk0
 .exact trodAll_cons_mk (Below.trod laid (by kernel_rfl) (of_decide_eq_true (by kernel_rfl)) J hb N) trodAll_mk0
set_option maxRecDepth 100000 in
theorem lifted (a:Os)(f:a.Started)(H:Type)(enc:TypeId×Value->H):
  ReturnsInHanded {} Tryz.checked a 10 .any (Rows.walkBlocksSpec.pre6 enc Tryz.prog Tryz.f10 Rows.walkBlocksRow.domain false) (Rows.walkBlocksSpec.post enc Tryz.prog Tryz.f10 false true false false):=by
 refine returnsInHanded_of_change (C:= Tryz.checked) own f (by kernel_rfl) Tryz.func10
  (ChangeSpec.witness6 (enc:=enc) (C:= Tryz.checked) false ⟨#[], #[.slice none 0 0],[]⟩ 8 (by kernel_rfl) (by kernel_rfl) (by kernel_rfl) (by kernel_rfl)) ?_
 intro W base args j m h i o _ _;exact contract H enc W base args j m h i o
theorem holds:Rows.WalkBlocksSaid:=
 OpenClaim.holds_of_wide 10 Tryz.f10 rfl rfl rfl rfl rfl rfl rfl ⟨rfl,rfl,rfl,rfl,rfl⟩ rfl rfl rfl rfl rfl (by kernel_rfl) Tryz.func10 (by kernel_rfl)
  (of_decide_eq_true (by kernel_rfl)) (by unfold Func.isWrapper;first | (rw[if_pos (by decide+kernel)];kernel_rfl) | (rw[if_neg (by decide+kernel)];exact⟨rfl,rfl⟩))
  (fun f a H enc _=>lifted f a H enc)
end Go.Proofs.YtaaflpnhdkoaeaaGreat.walkBlocks
namespace Go.Proofs.YtaaflpnhdkoaeaaGreat
theorem walkBlocks_holds:Rows.WalkBlocksSaid:=walkBlocks.holds
end Go.Proofs.YtaaflpnhdkoaeaaGreat
end

