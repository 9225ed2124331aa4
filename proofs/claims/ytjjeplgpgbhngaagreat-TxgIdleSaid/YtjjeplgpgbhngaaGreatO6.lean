/- A checked evaluator for the program, and what it tells, part 6: no condition. -/
import Derived.Test.YtjjeplgpgbhngaaGreatO5
set_option linter.all false
set_option linter.unusedVariables false
set_option linter.unusedSimpArgs false
set_option maxHeartbeats 8000000
set_option maxRecDepth 20000
variable (D:Go.Eng.Dyn)(n:Nat){H F:List (Go.Eng.AV×Go.Eng.AV)}{h M Y:List Go.Nd.Ptr}{k C z:Go.Eng.AH}{i A p s I L R V m r:Nat}{v:Nat->Nat}{w W:Go.Nd.Node}{l J U f:Go.Eng.AV}{t:Nat->Prop}{q g:List Go.Eng.AV}{e Q:Go.Eng.Sh.PN}{B:Go.Nd.Ptr->Option Go.Nd.Node}{G:Go.Nd.Ptr}{N:Go.Nd.Kvs}{P:List Go.Nd.Node}{a c:Go.Bt.Bd}{j:Bool}{u:Go.IntKind}
section
namespace Go.Eng
theorem Own.ne (h:Own i A k l p q){o:AObj}(a:k.h.get s=some o)(e: ∀q A g,o≠ .cells q A i g): ¬Blk l s:=fun f=>by
 obtain⟨_,⟨rfl,_⟩ | ⟨B,rfl,_,j⟩⟩:=h
 .exact jZ.1 f
 .rw[jS.1 f]at a;rw[j]at a;exact e _ _ _ (y0 a).symm
theorem Own.get {k e n:Nat}{H:AH}{v:AV}{l:List AV}(h:Own k e H v n l){B:Nat}(a:Blk v B):H.h.get B=some (.cells l e k true):=by
 obtain⟨_,⟨rfl,_⟩ | ⟨C,rfl,_,f⟩⟩:=h
 .exact(jZ.1 a).elim
 .rw[jS.1 a];exact f
def kC:=@Own.get
end Go.Eng
namespace Go.Eng.Sh
open Go.Nd (Ptr sumL)
variable {X:Nat->Prop}
def addsN (last:Nat):List Nd.Node->PN
 | []=>[]
 | nd::nds=>(last+1,nd)::addsN (last+1) nds
def addsE (last:Nat):List (List AV)->List (AV×AV)
 | []=>[]
 | l::vs=>(.int .u64 (last+1:Nat), .agg l)::addsE (last+1) vs
def pps (last:Nat):Nat->List Ptr
 | 0=>[]
 | n+1=>pp (last+1)::pps (last+1) n
theorem addsN_snoc (x:Nd.Node): ∀(l:List Nd.Node) (last:Nat),addsN last (l++[x])=addsN last l++[(last+l.length+1,x)]
 | [],last=>rfl
 | a::l,last=>by
  simp only[qB,addsN,addsN_snoc x l,zV];rw[show last+1+l.length+1=last+(l.length+1)+1 from by omega]
theorem addsE_snoc (x:List AV): ∀(l:List (List AV)) (last:Nat),addsE last (l++[x])=addsE last l++[(.int .u64 (last+l.length+1:Nat), .agg x)]
 | [],last=>rfl
 | a::l,last=>by
  simp only[qB,addsE,addsE_snoc x l,zV];rw[show last+1+l.length+1=last+(l.length+1)+1 from by omega]
theorem pps_snoc: ∀(n last:Nat),pps last (n+1)=pps last n++[pp (last+n+1)]
 | 0,last=>rfl
 | n+1,last=>by
  rw[pps,pps_snoc n (last+1),pps,qB,show last+1+n+1=last+(n+1)+1 from by omega]
theorem pps_len: ∀(n last:Nat),(pps last n).length=n
 | 0,_=>rfl
 | n+1,last=>by simp[pps,pps_len n (last+1)]
theorem mem_addsE: ∀ {vs:List (List AV)} {last:Nat} {kv:AV×AV},kv∈addsE last vs-> ∃l∈vs,kv.2= .agg l
 | [],_,_,h=>by simp[addsE]at h
 | l::vs,last,kv,h=>by
  rcases zM.1 h with rfl | h
  .exact⟨l,zH ..,rfl⟩
  .obtain⟨l',a,f⟩:=mem_addsE h;exact⟨l',zC _ a,f⟩
theorem Ch.other (H':Ch X k C i A p H e l h s I)(At:Stp t C z)(H0: ¬t A)(q: ¬t p)(F: ∀B,Blk l B-> ¬t B)(u: ∀kv∈H,∀B,blkN kv.2 B-> ¬t B)(v: ∀B,t B->k.next<=B):Ch X k z i A p H e l h s I:=
 ⟨H'.prs.fresh At v,by rw[At.keep _ H'.ltC H0];exact H'.gC,by rw[At.keep _ H'.ltF q];exact H'.gF,H'.pf.frame fun kv m x o=>o.stp At (u kv m),H'.gg.mono At F,H'.gN,H'.gf,H'.dC,H'.dF,H'.ne,H'.fs,H'.le,H'.few,H'.fd,H'.fl,H'.gx,H'.xo⟩
theorem Pend.mem {H:AH} : ∀ {es:List (AV×AV)} {q:PN},Pend H es q-> ∀kv∈es,∃f,NodeG H kv.2 f
 | [],[],_,_,a=>by simp at a
 | e::es,(t,f)::q,hq,kv,a=>by
  rcases zM.1 a with rfl | a
  .exact⟨f,hq.1.2⟩
  .exact Pend.mem hq.2 kv a
 | [],_::_,h,_,_=>h.elim
 | _::_,[],h,_,_=>h.elim
theorem par_at {H:AH} : ∀ {vs:List (List AV)} {a:List Nd.Node} {i:Nat} (_:Par H vs a) (hi:i<a.length),∃l f,vs[i]? =some l/\a[i]? =some f/\l.length=4/\allCells l=true/\NodeG H (.agg l) f/\(vs.flatten.drop (i*4)).take 4=l/\vs.take (i+1)=vs.take i++[l]/\a.take (i+1)=a.take i++[f]
 | [],[],_,_,hi=>by simp at hi
 | l::vs,f::a,0,h,_=>⟨l,f,rfl,rfl,h.1.1,h.1.2.1,h.1.2.2,by simp[List.take_append_of_le_length,h.1.1,zW],rfl,rfl⟩
 | k::vs,m::a,i+1,h,hi=>by
  obtain⟨l,f,j,o,h3,p,h5,h6,h7,h8⟩:=par_at h.2 (by simpa using hi);refine⟨l,f,j,o,h3,p,h5, ?_,by simp[h7],by simp[h8]⟩;rw[List.flatten_cons,List.drop_append,show(i+1)*4 - k.length=i*4 from by rw[h.1.1];omega,qQ (by rw[h.1.1];omega),qV];exact h6
 | [],_::_,_,h,_=>h.elim
 | _::_,[],_,h,_=>h.elim
theorem addAll_ok(hn:200000000<=n){vs:List (List AV)}(v:Ch X k C i A p H e l h s I)
  (hp:Own 4 72 C J P.length vs.flatten) (Q:Par C vs P) (hg: ∀f∈vs,∀B,blkN (.agg f) B-> ¬Blk l B/\ ¬X B) (hb:I+P.length<=900000000) (hm:P.length<=10000):
  ∃kv H',f104 D n [.ptr A 0,J] C=some (kv,H')/\Ch X k H' i A p (H++addsE I vs) (e++addsN I P) l h s (I+P.length)/\Adv A p C l H' l/\Own 3 38 H' kv P.length ((pps I P.length).flatMap ptrV)/\ ∀B,Blk kv B->C.next<=B:=by
 have V:=Q.len.1;have lp:=loop_inv (b:=f104l0 D n) P.length (fun At S H'=> ∃kv,S=[.ptr A 0,kv,J, .int .i64 (P.length:Nat), .int .i64 (At:Nat)]/\Ch X k H' i A p (H++addsE I (vs.take At)) (e++addsN I (P.take At)) l h s (I+At)/\Adv A p C l H' l/\
   Own 3 38 H' kv At ((pps I At).flatMap ptrV)/\ ∀B,Blk kv B->C.next<=B) (fun At S H' hi ⟨kv,hus,y,z,T,j⟩=>by
  subst hus;obtain⟨f,nd,v1,v2,ll,lc,hG,a1,a2,a4⟩:=par_at Q hi;have b7:At<vs.length:=by omega
  have a5:f∈vs:=List.mem_of_getElem? v1;have hA:=v.next ⟨hG,hg f a5⟩ z
  have a6:Own 4 72 H' J P.length vs.flatten:=hp.mono z.1 (fun B j o=>by
   have t:=hp.get j;rcases o with rfl | rfl | M
   .rw[v.gC]at t;simp at t
   .rw[v.gF]at t;simp at t
   .rw[v.gg.get M]at t;simp at t)
  obtain⟨q,i1,i2⟩:=Rw.ldN a6.row hi;rw[a1]at i2;obtain⟨H1,A7,b1,p1,g1,m1,n1⟩:=box y.prs.ok (.cells [.bool false, .nS, .nS, .nS] 72 1 false);obtain⟨H2,U,g2,s2,n2⟩:=st_all p1.ok g1 (l':=f) ll lc;have a7:stN 4 (.ptr A7 0) (.agg f) H1=some (undefA,H2):=U;have H0:Prs H' H2:=p1.fresh s2 (fun B j=>by omega);have a8:=y.step H0;obtain⟨H3,e3,W,N⟩:=add_ok D n a8 (hA.prs H0) (by omega);obtain⟨gl,A8,b4,g,g4,m4,n4⟩:=box W.prs.ok (.cells (ptrV (pp (I+At+1))) 38 3 false);have Y:=W.step g;have a0:srcOf 3 (.slice A8 0 1 2) gl=some (1,ptrV (pp (I+At+1))):=by
   simp only[srcOf,g4];rfl
  have NH:=z.1.next;have N2:=H0.next;have N3:=N.1.next;have N4:=g.next
  have Z: ∀B,Blk kv B-> ¬Blk l B:=fun B F t=>by have:=j B F;have:=kD v.gg.row t;omega
  have a9:Own 3 38 gl kv At ((pps I At).flatMap ptrV):=((T.mono H0 (fun _ _ x=>x)).mono N.1 (fun B F o=>by
   rcases o with rfl | rfl | M
   .have:=j _ F;have:=v.ltC;omega
   .have:=j _ F;have:=v.ltF;omega
   .exact Z B F M)).mono g (fun _ _ x=>x)
  obtain⟨H5,e5,o5,K,n5⟩:=apP_own (bytes:=24) Y.prs.ok (by decide) a9 a0 rfl rfl (by omega) (by omega) (by decide);have b0:=Y.other K (fun o=>by have:=j _ o;have:=v.ltC;omega) (fun o=>by have:=j _ o;have:=v.ltF;omega) (fun B t o=>Z B o t) (fun M u B G o=>by
   have b8:B<C.next:=by
    rcases zZ.1 u with u | u
    .rcases zZ.1 u with u | u
     .obtain⟨b2,O⟩:=v.pf.mem M u;exact O.lt G
     .obtain⟨l2,b3,U⟩:=mem_addsE u;obtain⟨b2,O⟩:=Q.mem (List.mem_of_mem_take b3);rw[U]at G;exact O.lt G
    .simp only[y8]at u;subst u;exact hG.lt G
   have:=j B o;omega) (fun B o=>by have:=j B o;have:=v.prs.next;omega)
  have b5:Adv A p C l H5 l:=by
   have a3:Adv A p C l gl l:=((z.trans v.ltC v.ltF (Adv.prs l H0)).trans v.ltC v.ltF N).trans v.ltC v.ltF (Adv.prs l g);refine⟨⟨K.ok,by have:=K.next;omega,fun B F hS=> ?_⟩,fun B F=> .inl F⟩
   rw[K.keep B (by omega) (fun o=>by have:=j B o;omega)];exact a3.1.keep B F hS
  refine⟨_,H5, ?_, .slice gl.next 0 (At+1) 1,rfl, ?_,b5, ?_,fun B F=>by rw[jS.1 F];omega⟩
  .have b6:((At:Nat):Int)< (P.length:Int):=by omega
   have e1:=bldQ 38 (pp (I+At+1)) [.int .i64 (0:Nat), .int .i64 (0:Nat), .int .u64 (0:Nat)] rfl;simp(maxSteps:=999999)(disch:=omega) only[f104l0,eZ,b6,i1,i2,b1,a7,agg4 g2 ll,e3,e1,b4,e5,y7]
  .rw[a2,a4,addsE_snoc,addsN_snoc,qA,qA,Nat.min_eq_left (by omega),Nat.min_eq_left (by omega),<-qC,<-qC];exact b0
  .rw[pps_snoc];simpa using o5) n [.ptr A 0, .nS,J, .int .i64 (P.length:Nat), .int .i64 (0:Nat)] C ⟨.nS,rfl,by simpa[addsE,addsN]using v,Adv.prs l (Prs.refl v.prs.ok),kB ..,fun B j=>(jZ.1 j).elim⟩ (by omega)
 obtain⟨m,S,H',M,kv,rfl,y,z,T,j⟩:=lp;rw[j8]at y;rw[<-V,j8,V]at y;refine⟨kv,H', ?_,y,z,T,j⟩;have I:loopK (m+1) (f104l0 D n) [.ptr A 0,kv,J, .int .i64 (P.length:Nat), .int .i64 (P.length:Nat)] H'=some (.exit 0 [kv],H'):=loop_exit (by simp only[f104l0,eZ,yA]);simp only[f104,eZ,hp.row.lnSl,M,I,f104b1]
end Go.Eng.Sh
end
section
namespace Go.Bt
open Go.Nd (Str Kvs Ptr lookP putP delP Srt leafOf mayK rising sumL cutA cutB joinN shaped)
open Go.Eng (ltS)
def RepL {α:Type}(Q:Ptr->Option Nd.Node)(R:Nd.Node->α->List Ptr->Prop):List Ptr->List α->List Ptr->Prop
 | [],[],S=>S=[]
 | p::ps,t::ts,S=> ∃a f h,Q p=some a/\R a t f/\RepL Q R ps ts h/\S=p::(f++h)
 | _,_,_=>False
def RepN (Q:Ptr->Option Nd.Node):(h:Nat)->Nd.Node->Tr h->List Ptr->Prop
 | 0,nd,l,S=>nd=leafOf l/\S=[]
 | h+1,nd,t,S=>nd.leaf=false/\nd.keys=t.1/\nd.vals=[]/\RepL Q (RepN Q h) nd.kids t.2 S
theorem RepL.len {α:Type}{Q:Ptr->Option Nd.Node}{R:Nd.Node->α->List Ptr->Prop} : ∀ {a:List Ptr} {ts:List α} {S:List Ptr},RepL Q R a ts S->a.length=ts.length
 | [],[],_,_=>rfl
 | _::a,_::ts,_,⟨_,_,_,_,_,h,_⟩=>by simp[RepL.len h]
 | [],_::_,_,h=>h.elim
 | _::_,[],_,h=>h.elim
theorem RepL.app {α:Type}{Q:Ptr->Option Nd.Node}{R:Nd.Node->α->List Ptr->Prop}{j:List Ptr}{m:List α}{f:List Ptr}(o:RepL Q R j m f): ∀ {i:List Ptr} {ts:List α} {S:List Ptr},RepL Q R i ts S->RepL Q R (i++j) (ts++m) (S++f)
 | [],[],_,h=>by subst h;exact o
 | p::i,t::ts,_,⟨nd,S1,S2,a,b,c,e⟩=>⟨nd,S1,S2++f,a,b,RepL.app o c,by rw[e];simp⟩
 | [],_::_,_,h=>h.elim
 | _::_,[],_,h=>h.elim
theorem RepL.split {α:Type}{Q:Ptr->Option Nd.Node}{R:Nd.Node->α->List Ptr->Prop} : ∀(k:Nat) {f:List Ptr} {ts:List α} {S:List Ptr},RepL Q R f ts S-> ∃i j,RepL Q R (f.take k) (ts.take k) i/\RepL Q R (f.drop k) (ts.drop k) j/\S=i++j
 | 0,f,ts,S,h=>⟨[],S,by simp[RepL],h,rfl⟩
 | k+1,[],[],_,h=>⟨[],[],by simp[RepL],by simp[RepL],by subst h;rfl⟩
 | k+1,p::f,t::ts,_,⟨nd,i,j,a,b,c,e⟩=>by
  obtain⟨m,o,q,s,rfl⟩:=RepL.split k c;exact⟨p::(i++m),o,⟨nd,i,m,a,b,q,rfl⟩,s,by rw[e];simp⟩
 | _+1,[],_::_,_,h=>h.elim
 | _+1,_::_,[],_,h=>h.elim
theorem RepL.at {α:Type}{Q:Ptr->Option Nd.Node}{R:Nd.Node->α->List Ptr->Prop}{i:Nat}{f:List Ptr}{ts:List α}{S:List Ptr}(h:RepL Q R f ts S){t:α}(u:ts[i]? =some t):
  ∃p j m o q,f[i]? =some p/\Q p=some j/\R j t o/\RepL Q R (f.take i) (ts.take i) m/\RepL Q R (f.drop (i+1)) (ts.drop (i+1)) q/\S=m++(p::o++q):=by
 obtain⟨m,x,v,s,rfl⟩:=h.split i;obtain⟨hi,rfl⟩:=qN.1 u;have hl:=h.len;rw[qL hi,qL (show i<f.length by omega)]at s;obtain⟨j,o,q,a,b,c,rfl⟩:=s;exact⟨_,j,m,o,q,zO (by omega),a,b,v,c,by simp⟩
theorem RepL.mono {α:Type}{Q m:Ptr->Option Nd.Node}{R o:Nd.Node->α->List Ptr->Prop} : ∀ {j:List Ptr} {ts:List α} {S:List Ptr},RepL Q R j ts S->(∀p∈S,∀f,Q p=some f->m p=some f)->(∀f t i,(∀p∈i,p∈S)->R f t i->o f t i)->RepL m o j ts S
 | [],[],_,h,_,_=>h
 | p::j,t::ts,_,⟨f,i,S2,a,b,c,e⟩,hq,hr=>by
  subst e;refine⟨f,i,S2,hq p (zH ..) f a,hr f t i (fun p hp=>zC _ (qZ _ hp)) b,RepL.mono c (fun p hp=>hq p (zC _ (qT _ hp))) (fun f t i q=>hr f t i fun p hp=>zC _ (qT _ (q p hp))),rfl⟩
 | [],_::_,_,h,_,_=>h.elim
 | _::_,[],_,h,_,_=>h.elim
theorem RepN.mono {Q f:Ptr->Option Nd.Node} : ∀ {h:Nat} {a:Nd.Node} {t:Tr h} {S:List Ptr},RepN Q h a t S->(∀p∈S,∀a,Q p=some a->f p=some a)->RepN f h a t S
 | 0,_,_,_,w,_=>w
 | h+1,_,_,_,w,hq=>⟨w.1,w.2.1,w.2.2.1,w.2.2.2.mono hq fun a t j i hr=>RepN.mono hr fun p hp=>hq p (i p hp)⟩
theorem RepL.kids {α:Type}{Q:Ptr->Option Nd.Node}{R:Nd.Node->α->List Ptr->Prop} : ∀ {a:List Ptr} {ts:List α} {S:List Ptr},RepL Q R a ts S-> ∀p∈a,p∈S
 | [],[],_,_=>by simp
 | q::a,_::ts,_,⟨nd,S1,S2,_,_,c,e⟩=>fun p hp=>by
  subst e;rcases zM.1 hp with rfl | hp
  .exact zH ..
  .exact zC _ (qT _ (RepL.kids c p hp))
 | [],_::_,_,h=>h.elim
 | _::_,[],_,h=>h.elim
theorem RepN.size {Q:Ptr->Option Nd.Node}{h:Nat}{a:Nd.Node}{t:Tr h}{S:List Ptr}(w:RepN Q h a t S):Nd.size a=tsize h t:=by
 cases h with
 | zero=>obtain⟨rfl,_⟩:=w;rfl
 | succ h=>
  obtain⟨_,f,i,j⟩:=w;simp only[Nd.size,tsize,isize,f,i,j.len,sumL_nil];omega
theorem RepN.leaf {Q:Ptr->Option Nd.Node}{h:Nat}{a:Nd.Node}{t:Tr h}{S:List Ptr}(w:RepN Q h a t S):a.leaf=decide (h=0):=by
 cases h with
 | zero=>obtain⟨rfl,_⟩:=w;rfl
 | succ h=>rw[w.1];simp
theorem RepN.shaped {Q:Ptr->Option Nd.Node}{h:Nat}{f:Nd.Node}{t:Tr h}{S:List Ptr}{lo hi:Bd}(w:RepN Q h f t S)(g:Gen h lo hi t)(m:0<h->f.keys≠[])(a: ∀p∈S,Nd.kidOk p=true):shaped ltS f=true:=by
 cases h with
 | zero=>
  obtain⟨rfl,_⟩:=w;exact Nd.leaf_shaped g.1 fun p hp=>(g.2 p hp).2.2
 | succ h=>
  obtain⟨o,i,q,j⟩:=w;obtain⟨s,u,v⟩:=g;have hl:=v.len;simp only[Nd.shaped,o,zL,qD,zE,zU,qY];refine⟨⟨fun k a=> ?_,by rw[i];exact u⟩,⟨⟨m (by omega),q⟩,by rw[j.len,hl,i]⟩,fun p hp=>a p (j.kids p hp)⟩;rw[i]at a;exact(s k a).1
def RepP (Q:Ptr->Option Nd.Node)(h:Nat):List Nd.Node->List (Tr h)->List Ptr->Prop
 | [],[],S=>S=[]
 | nd::nds,t::ts,S=> ∃a f,RepN Q h nd t a/\RepP Q h nds ts f/\S=a++f
 | _,_,_=>False
theorem RepP.len {Q:Ptr->Option Nd.Node}{h:Nat} : ∀ {a:List Nd.Node} {ts:List (Tr h)} {S:List Ptr},RepP Q h a ts S->a.length=ts.length
 | [],[],_,_=>rfl
 | _::a,_::ts,_,⟨_,_,_,h,_⟩=>by simp[RepP.len h]
 | [],_::_,_,h=>h.elim
 | _::_,[],_,h=>h.elim
theorem lsize_take (l:Kvs)(k:Nat):Nd.size (cutA (leafOf l) k)=lsize (l.take k):=by
 simp[cutA,leafOf,lsize,Nd.size]
theorem leaf_cut (a:Nd.cutOk (leafOf N) i)(hb:Go.Eng.Sh.hbnd (leafOf N) i):CutT 0 N (N.take i) ((leafOf N).keys.getD i []) (N.drop i)/\cutA (leafOf N) i=leafOf (N.take i)/\cutB (leafOf N) i=leafOf (N.drop i):=by
 obtain⟨k1,k2⟩:=a;obtain⟨b1,b2⟩:=hb;have f:(leafOf N).keys=N.map Prod.fst:=rfl;simp only[show(leafOf N).leaf=true from rfl,if_true,f,jC]at k2 b2;rw[lsize_take]at b1 b2;refine⟨⟨i,⟨k1,k2,b1,b2⟩,rfl,rfl,rfl⟩, ?_, ?_⟩
 .simp[cutA,leafOf]
 .simp[cutB,leafOf]
theorem RepN.cut {t:Tr i}(S:RepN B i w t h)(g:Gen i a c t)(y:Nd.cutOk w A)(hb:Go.Eng.Sh.hbnd w A):
  ∃q s Q m,CutT i t q (w.keys.getD A []) s/\RepN B i (cutA w A) q Q/\RepN B i (cutB w A) s m/\h=Q++m:=by
 obtain⟨k1,k2⟩:=y;obtain⟨b1,b2⟩:=hb;have u:=S.size
 cases i with
 | zero=>
  obtain⟨rfl,rfl⟩:=S;obtain⟨c1,c2,c3⟩:=leaf_cut ⟨k1,k2⟩ ⟨b1,b2⟩;exact⟨_,_,[],[],c1,⟨c2,rfl⟩,⟨c3,rfl⟩,rfl⟩
 | succ i=>
  obtain⟨o,f,F,v⟩:=S;obtain⟨Q,m,z,C,rfl⟩:=v.split (A+1);have hl:=g.2.2.len;have x:=v.len;simp only[o,zL,qD,f]at k2 b2;have sz: ∀j,j<=t.1.length->Nd.size (cutA w j)=isize (t.1.take j) (j+1):=fun j G=>by
   simp only[cutA,o,zL,qD,Nd.size,isize,f,qA,sumL_nil];rw[x,hl,Nat.min_eq_left (by omega)];omega
  have p:min (i+1+1) 2=2:=by omega
  refine⟨(t.1.take A,t.2.take (A+1)),(t.1.drop (A+1),t.2.drop (A+1)),Q,m,⟨A,⟨k1, ?_, ?_, ?_⟩,rfl,by rw[f],rfl⟩, ?_, ?_,rfl⟩
  .simp only[nkeys,p];exact k2
  .rcases b1 with b1 | b1
   .exact .inl b1
   .rw[sz A (by omega),u]at b1;exact .inr b1
  .rcases b2 with b2 | b2
   .exact .inl (by simp only[nkeys,p];exact b2)
   .rw[sz (A+1) (by omega),u]at b2;exact .inr b2
  .simp only[RepN,cutA,o,zL,qD,f,true_and];exact z
  .simp only[RepN,cutB,o,zL,qD,f,true_and];exact C
theorem cutsN_ok {f:List Str}(o:Go.Eng.Sh.CutsN w P f): ∀ {t:Tr i} {S:List Ptr} {lo hi:Bd},RepN B i w t S->WX i lo hi t-> ∃ts,Cuts i t ts f/\RepP B i P ts S:=by
 induction o with
 | one hz=>
  intro t S lo hi Q _;exact⟨[t], .one (by rw[<-Q.size];exact hz),S,[],Q,rfl,by simp⟩
 | @more w k ps f hz hk hb _ ih=>
  intro t S lo hi Q m;have j:500<tsize i t:=by rw[<-Q.size];exact hz
  obtain⟨p,y,q,s,c1,c2,c3,rfl⟩:=Q.cut m.gen hk hb;obtain⟨_,u,_⟩:=cut_any m j c1;obtain⟨ts,v,x⟩:=ih c3 u;exact⟨p::ts, .more j c1 v,q,s,c2,x,rfl⟩
theorem RepP.kids {Q:Ptr->Option Nd.Node}{h:Nat} : ∀ {a:List Nd.Node} {ts:List (Tr h)} {S:List Ptr} (last:Nat),RepP Q h a ts S->(∀i nd,a[i]? =some nd->Q (Go.Eng.Sh.pp (last+1+i))=some nd)->
  ∃f,RepL Q (RepN Q h) (Go.Eng.Sh.pps last a.length) ts f/\f.Perm (Go.Eng.Sh.pps last a.length++S)
 | [],[],S,last,h,_=>⟨[],rfl,by subst h;exact List.Perm.refl _⟩
 | nd::a,t::ts,_,last,⟨S1,S2,w,hp,e⟩,hq=>by
  subst e;obtain⟨f,r,j⟩:=RepP.kids (last+1) hp fun i n hi=>by
   have:=hq (i+1) n (by simpa using hi);rwa[show last+1+(i+1)=last+1+1+i from by omega]at this
  refine⟨Go.Eng.Sh.pp (last+1)::(S1++f),⟨nd,S1,f,hq 0 nd rfl,w,r,rfl⟩, ?_⟩;simp only[zV,Go.Eng.Sh.pps,qB];refine List.Perm.cons _ ?_;have:(S1++f).Perm (S1++(Go.Eng.Sh.pps (last+1) a.length++S2)):=List.Perm.append_left _ j;refine this.trans ?_;rw[<-qC,<-qC];exact List.Perm.append_right _ List.perm_append_comm
 | [],_::_,_,_,h,_=>h.elim
 | _::_,[],_,_,h,_=>h.elim
theorem RepN.join {f Q:Tr i}(o:RepN B i w f h)(p:RepN B i W Q M)(s:Str):RepN B i (joinN w s W) (joinT i f s Q) (h++M):=by
 cases i with
 | zero=>
  obtain⟨rfl,rfl⟩:=o;obtain⟨rfl,rfl⟩:=p;have key: ∀w W:Kvs,joinN (leafOf w) s (leafOf W)=leafOf (w++W):=fun w W=>by simp[joinN,leafOf]
  exact⟨key f Q,rfl⟩
 | succ i=>
  obtain⟨q,t,x,u⟩:=o;obtain⟨b1,b2,y,v⟩:=p;simp only[RepN,joinN,q,zL,qD,joinT,t,b2,true_and];exact RepL.app v u
theorem join_may {j m:Tr i}{s:Str}(f:RepN B i w j h)(Q:RepN B i W m M)(o:Gen i a (some s) j)(q:Gen i (some s) c m)(z:mayK s=true)(x:0<i->w.keys≠[])(nb:0<i->W.keys≠[])
  (C: ∀p∈h,Nd.kidOk p=true) (F: ∀p∈M,Nd.kidOk p=true):Go.Eng.Sh.joinOk w s W=true:=by
 have G:=f.shaped o x C;have I:=Q.shaped q nb F;simp only[Go.Eng.Sh.joinOk,G,I,Bool.true_and,Nd.partedN,z,f.leaf,Q.leaf,beq_self_eq_true];have gl: ∀(l:List Str),l.length≠0->l.getD (l.length - 1) []∈l:=fun l hl=>by
  rw[qE,zO (by omega)];exact yH _
 have y: ∀(l:List Str),l.length≠0->l.getD 0 []∈l:=fun l hl=>by
  rw[qE,zO (by omega)];exact yH _
 cases i with
 | zero=>
  obtain⟨rfl,_⟩:=f;obtain⟨rfl,_⟩:=Q;simp only[zE,yW,zU];refine⟨?_, ?_⟩
  .by_cases e:(leafOf (j:Kvs)).keys.length=0
   .exact .inl e
   .refine .inr ?_;have:=gl _ e;obtain⟨p,hp,t⟩:=qM.1 this;rw[<-t];exact(o.2 p hp).2.1
  .by_cases e:(leafOf (m:Kvs)).keys.length=0
   .exact .inl (.inl e)
   .have:=y _ e;obtain⟨p,hp,t⟩:=qM.1 this;rw[<-t];rcases(q.2 p hp).1 with e | e
    .exact .inr ⟨trivial,e⟩
    .exact .inl (.inr e)
 | succ i=>
  simp only[zE,yW,zU];refine⟨.inr ?_, .inl (.inr ?_)⟩
  .have hm:=gl w.keys (fun e=>x (by omega) (zR e));rw[f.2.1]at hm⊢;exact(o.1 _ hm).2.2
  .have hm:=y W.keys (fun e=>nb (by omega) (zR e));rw[Q.2.1]at hm⊢;exact(q.1 _ hm).2.1
end Go.Bt
end
section
namespace Go.Eng
theorem acut_blk {lo hi f:Option Nat}(h:acut i A p s I L lo hi f=some l): ∀B,Blk l B->B=i:=by
 intro B a;unfold acut at h;simp only[fN_eq]at h;split at h
 .split at h
  .rw[zF]at h;split at h
   .simp only[zB]at h;subst h;exact jS.1 a
   .cases h
  .cases h
 .rw[zF]at h;split at h
  .rw[zF]at h;split at h
   .simp only[zB]at h;subst h;exact jS.1 a
   .rw[zF]at h;split at h
    .simp only[zB]at h;subst h;exact jS.1 a
    .rw[zF]at h;split at h
     .simp only[zB]at h;subst h;exact jS.1 a
     .simp only[zB]at h;subst h;obtain⟨_,_,_,a⟩:=a;cases a
  .cases h
theorem slSl_blk {lo hi f:Option AV}(h:slSl i l lo hi f k=some J): ∀B,Blk J B->Blk l B:=by
 intro B a;unfold slSl at h;split at h
 .split at h
  .rw[zF]at h;split at h
   .simp only[zB]at h;subst h;exact a
   .cases h
  .split at h
   .rw[zF]at h;split at h
    .rw[acut_blk h B a];exact⟨_,_,_,rfl⟩
    .cases h
   .cases h
  .split at h
   .rw[zF]at h;split at h
    .simp only[zB]at h;subst h;obtain⟨_,_,_,a⟩:=a;cases a
    .cases h
   .cases h
  .cases h
 .cases h
end Go.Eng
namespace Go.Eng.Sh
open Go.Nd (Ptr sumL)
variable {X:Nat->Prop}
theorem hi3 (H:Grow 3 38 k l h.length (h.flatMap ptrV)){i:Nat}(hi:i<=h.length):
  ∃r,slSl 3 l none (some (.int .i64 (i:Nat))) (some (.int .i64 (i:Nat))) k=some r/\Ptrs k r (h.take i):=by
 obtain⟨r,f,w,_⟩:=slSl_hi H (by decide) hi .i64 .i64;rw[flat_take]at w;have a:(h.take i).length=i:=by rw[qA];omega
 exact⟨r,f,by rw[Ptrs,a];exact w⟩
theorem lo3 (H:Grow 3 38 k l h.length (h.flatMap ptrV)){i:Nat}(hi:i<=h.length)(m:0<h.length):
  ∃r,slSl 3 l (some (.int .i64 (i:Nat))) none none k=some r/\Ptrs k r (h.drop i):=by
 by_cases j:i<h.length
 .obtain⟨r,a,w,_⟩:=slSl_lo H (by decide) j .i64;rw[flat_drop]at w;have f:(h.drop i).length=h.length - i:=by rw[qK]
  exact⟨r,a,by rw[Ptrs,f];exact w⟩
 .obtain rfl:i=h.length:=by omega
  obtain⟨r,a,w⟩:=slSl_end H (by decide) m .i64;exact⟨r,a,by rw[List.drop_length];exact w⟩
theorem conP3{cc:Nat}(H:k.ok)(j:k.h.get i=some (.cells [l,J,U] 32 1 false))(q:Ptrs k l h)(s:Ptrs k J M)(h3:Ptrs k U Y)(hb:h.length+M.length+Y.length<=1000000000)(u:100<=n):
  ∃w H',f103 D n [.slice i 0 3 cc] k=some (w,H')/\Prs k H'/\Own 3 38 H' w (h++(M++Y)).length ((h++(M++Y)).flatMap ptrV)/\ ∀B,Blk w B->k.next<=B:=by
 obtain⟨w,H',e,p,o,f⟩:=catP_ok D n H (v:= .slice i 0 3 cc) (vs:=[l,J,U]) (rs:=[(h.length,h.flatMap ptrV),(M.length,M.flatMap ptrV),(Y.length,Y.flatMap ptrV)]) (Rw.lit H j) ⟨⟨q,flat_cells _⟩,⟨s,flat_cells _⟩,⟨h3,flat_cells _⟩,trivial⟩ (by simp[sumN];omega) (by simp) (by simp;omega)
  (fun B a=>by rw[jS.1 a];exact H.lt j) (fun U t B a=>by
   simp only[zM,List.not_mem_nil,or_false]at t;rcases t with rfl | rfl | rfl
   .exact kD q a
   .exact kD s a
   .exact kD h3 a)
 exact⟨w,H',e,p,by simpa[sumN,catN]using o,f⟩
theorem placeJ2(hn:200000000<=n){i m:Nat}
  (f:Ch X k C A p s H e l h V r) (y:C.h.get I=some (.cells q 72 1 false)) (g7:C.h.get L=some (.cells g 72 1 false)) (M:C.h.get R=some (.cells [.bool false, .nS, .nS, .nS] 72 1 false))
  (f2:k.next<=I) (f5:k.next<=L) (f7:k.next<=R) (h58:I≠R) (c4:I≠p) (a9:R≠p)
  (hv:NodeA X C l (.agg q) w) (a3:NodeA X C l (.agg g) W) (c5:Nd.shaped ltS W=true) (hz:Nd.size W<=10000) (hs:small w) (f8:w.kids.length=w.keys.length+1) (c6:w.keys≠[]) (f9:i+m<w.kids.length)
  (b9: ∀o t,CutsN W o t->o.length<=1000/\t.length<=1000) (hb:r<=800000000):
  ∃u H' o t vs,f70j2 D n [.ptr p 0, .ptr I 0, .ptr L 0, .ptr R 0, .int .i64 (i:Nat), .int .i64 (i+m+1:Nat)] C=some (.ret (.tuple [u, .int .i64 (0:Nat)]),H')/\CutsN W o t/\
   Ch X k H' A p s (H++addsE r vs) (e++addsN r o) l h V (r+o.length)/\Stp (fun B=>chg p s l B\/B=R) C H'/\
   NodeA X H' l u ⟨false,w.keys.take i++(t++w.keys.drop (i+m)),[],w.kids.take i++(pps r o.length++w.kids.drop (i+m+1))⟩/\ ∀B,blkN u B->C.next<=B:=by
 obtain⟨ks,a5,U,b0,k1,k2,k3⟩:=id hv.1;simp only[AV.agg.injEq]at b0;subst b0;have c7:g.length=4:=by obtain⟨_,_,_,A7,_⟩:=a3.1;simp only[AV.agg.injEq]at A7;rw[A7];rfl
 have b8:0<w.keys.length:=by
  rcases Nat.eq_zero_or_pos w.keys.length with A7 | A7
  .exact absurd (zR A7) c6
  .exact A7
 obtain⟨s1,s2,s3⟩:=hs;have f1:=Nd.sumL_ge w.keys;obtain⟨pv,sv,H1,vs,o,t,e1,G,a8,oP,c0,oS,bP,bS,c8⟩:=cutAll_ok D n hn f.prs.ok a3.1 c5 hz;obtain⟨c1,c2⟩:=b9 o t a8;have h1:=f.step G;have G5 {F:AH} (At:Prs C F):=jY At f.prs.ok y;have q1 {F:AH} (At:Prs C F):Grow 1 9 F ks w.keys.length (w.keys.map S):=k1.mono At (fun _ _ x=>x);have q3 {F:AH} (At:Prs C F):Grow 3 38 F U w.kids.length (w.kids.flatMap ptrV):=k3.mono At (fun _ _ x=>x);obtain⟨r1,c9,x1⟩:=hi1 (q1 G) (i:=i) (by omega);obtain⟨r2,d0,x2⟩:=lo1 (q1 G) (i:=i+m) (by omega) b8;obtain⟨H2,A2,b2,z,g2,m2,n2⟩:=box G.ok (.cells [r1,sv,r2] 22 1 false);have N:=G.trans z;obtain⟨r3,b1,x3⟩:=hi3 (q3 N) (i:=i) (by omega);obtain⟨r4,b3,x4⟩:=lo3 (q3 N) (i:=i+m+1) (by omega) (by omega);have d1:Strs H2 sv t:=(oS.mono z (fun _ _ x=>x)).row;obtain⟨gl,H3,e3,O,o3,f3⟩:=conS3 D n (cc:=6) z.ok g2 (x1.prs z) d1 (x2.prs z) (by simp only[qA,qK];omega) (by omega);have J:=N.trans O;have h3:=f.step J;have N1:=G.next;have N2:=z.next;have N3:=O.next
 obtain⟨kv,a0,e4,h4,H0,o4,f4⟩:=addAll_ok D n hn h3 (oP.mono (z.trans O) (fun _ _ x=>x)) (c0.frame fun a2 hl w hg=>hg.prs (z.trans O)) (fun a2 hl B j=>by
  rcases c8 a2 hl B j with A7 | A7
  .exact a3.2 B A7
  .exact⟨fun a6=>by have:=kD f.gg.row a6;omega,fun hx=>by have:=f.xo B hx;have:=f.prs.next;omega⟩) (by omega) (by omega)
 have Y:NodeA X H3 l (.agg [.bool w.leaf,ks,a5,U]) w:=hv.prs J;have d2:=h3.next Y H0
 obtain⟨g0,vs',g1,ee,j1,j2,j3⟩:=id d2.1;simp only[AV.agg.injEq,yF,and_true,true_and]at ee;obtain⟨rfl,rfl,rfl⟩:=ee;have b4: ∀B,Blk U B-> ¬chg p s l B:=fun B j K=>by
  have a7:blkN (.agg [.bool w.leaf,ks,a5,U]) B:=blkN_mk.2 (.inr (.inr j));rcases K with rfl | rfl | A7
  .exact Y.1.nblk h3.gC (.inl ⟨_,_,_,_,rfl,fun _ _ A7=>by cases A7⟩) a7
  .exact Y.1.nblk h3.gF (.inr (.inl ⟨_,_,rfl⟩)) a7
  .exact(Y.2 B a7).1 A7
 have y3:Ptrs a0 r3 (w.kids.take i):=Rw.stp (x3.prs O) H0.1 (fun B j=>b4 B (slSl_blk b1 B j));have y4:Ptrs a0 r4 (w.kids.drop (i+m+1)):=Rw.stp (x4.prs O) H0.1 (fun B j=>b4 B (slSl_blk b3 B j));obtain⟨H5,A9,b5,v,d3,m5,n5⟩:=box h4.prs.ok (.cells [r3,kv,r4] 32 1 false);have d4:Ptrs H5 kv (pps r o.length):=by
  have:=(o4.mono v (fun _ _ x=>x)).row;rw[Ptrs,pps_len];exact this
 obtain⟨Z,H6,e6,p6,o6,f6⟩:=conP3 D n (cc:=6) v.ok d3 (y3.prs v) d4 (y4.prs v) (by rw[pps_len];simp only[qA,qK];omega) (by omega);have Q:Prs a0 H6:=v.trans p6;have h6:=h4.step Q;have N4:=H0.1.next;have N6:=Q.next;have N0:=f.prs.next
 have g3:R<C.next:=f.prs.ok.lt M
 have g4:I<C.next:=f.prs.ok.lt y
 have n8: ¬chg p s l R:=fun K=>by
  rcases K with A7 | A7 | A7
  .exact a9 A7
  .rw[A7,f.gF]at M;cases M
  .rw[f.gg.get A7]at M;simp at M
 have d5: ¬chg p s l I:=fun K=>by
  rcases K with A7 | A7 | A7
  .exact c4 A7
  .rw[A7,f.gF]at y;cases y
  .rw[f.gg.get A7]at y;simp at y
 have b6:H6.h.get R=some (.cells [.bool false, .nS, .nS, .nS] 72 1 false):=by
  rw[Q.keep _ (by omega) (fun x=>x),H0.1.keep _ (by omega) n8];exact jY J f.prs.ok M
 have d6:a0.h.get I=some (.cells [.bool w.leaf,ks,a5,U] 72 1 false):=by rw[H0.1.keep _ (by omega) d5];exact G5 J
 have b7:Own 1 9 H6 gl (w.keys.take i++(t++w.keys.drop (i+m))).length ((w.keys.take i++(t++w.keys.drop (i+m))).map S):=(o3.mono H0.1 (fun B j K=>by
  have:=f3 B j;rcases K with A7 | A7 | A7
  .have:=f.ltC;omega
  .have:=f.ltF;omega
  .have:=kD f.gg.row A7;omega)).mono Q (fun _ _ x=>x)
 obtain⟨H7,e7,d7,s7,n7⟩:=st_all h6.prs.ok b6 (l':=[.bool false,gl, .nS,Z]) rfl (by simp only[allCells,b7.row.isCell,o6.row.isCell];rfl);have d8:stN 4 (.ptr R 0) (.agg [.bool false,gl, .nS,Z]) H6=some (undefA,H7):=e7;have d9: ∀B,Blk l B-> ¬B=R:=fun B j A7=>n8 (.inr (.inr (A7▸j)))
 have h7:Ch X k H7 A p s (H++addsE r vs) (e++addsN r o) l h V (r+o.length):=h6.other s7 (fun A7=>a9 A7.symm) (fun A7=>n8 (.inr (.inl A7.symm))) d9 (fun e0 e2 B j A7=>by
  subst A7;obtain⟨g6,e5⟩:=h6.pf.mem e0 e2;exact e5.nblk b6 (.inl ⟨_,_,_,_,rfl,fun _ _ A7=>by cases A7⟩) j) (fun B j=>by omega)
 have e8:slSl 1 ks (some (.int .i64 (i+m:Nat))) none none H1=some r2:=d0;have c3:((i+m+1:Nat):Int) - ((1:Nat):Int)=((i+m:Nat):Int):=by omega
 refine⟨.agg [.bool false,gl, .nS,Z],H7,o,t,vs, ?_,a8,h7, ?_,⟨⟨gl, .nS,Z,rfl, .inl (b7.mono s7 (fun B j A7=>by have:=f3 B j;omega)), .inl (kB ..), .inl (o6.mono s7 (fun B j A7=>by have:=f6 B j;have:=v.next;omega))⟩,fun B j=>⟨fun a6=> ?_,fun hx=> ?_⟩⟩,fun B j=> ?_⟩
 .have e9: ¬(((0:Nat):Int)≠((0:Nat):Int)):=by omega
  simp(config:= { maxSteps:=2000000}) (disch:=omega) only[f70j2,eZ,agg4 g7 c7,e1,pExtract,nth,e9,ld1_get (G5 G),c9,c3,e8,row3 22 .nS x1.isCell oS.row.isCell x2.isCell,b2,ld1_get (G5 N),b1,b3,e3,chk_ok (ld1_get (G5 J) 3) (aveq_row k3.row),slSl_same (q3 N) (q3 J) (by decide),chk_ok rfl (aveq_row x3),chk_ok rfl (aveq_row x4),e4,chk_ok (ld1_get d6 3) (aveq_row k3.row),slSl_same (q3 N) j3 (by decide),
   row3 32 .nS x3.isCell o4.row.isCell x4.isCell,b5,e6,bldNi o3.row.isCell o6.row.isCell,d8,agg4 d7 rfl]
 .have a1:Stp (fun B=>chg p s l B\/B=R) C a0:=(J.mono (fun _ _ x=>x.elim)).trans (H0.1.mono (fun _ _ x=> .inl x));exact(a1.trans (Q.mono (fun _ _ x=>x.elim))).trans (s7.mono (fun _ _ x=> .inr x))
 .have:=kD f.gg.row a6;rcases blkN_mk.1 j with A7 | A7 | A7
  .have:=f3 B A7;omega
  .exact(jZ.1 A7).elim
  .have:=f6 B A7;have:=v.next;omega
 .have:=f.xo B hx;have:=f.prs.next
  rcases blkN_mk.1 j with A7 | A7 | A7
  .have:=f3 B A7;omega
  .exact(jZ.1 A7).elim
  .have:=f6 B A7;have:=v.next;omega
 .rcases blkN_mk.1 j with A7 | A7 | A7
  .have:=f3 B A7;omega
  .exact(jZ.1 A7).elim
  .have:=f6 B A7;have:=v.next;omega
open Go.Nd (joinN)
open Go.Bt
variable {E:Ev}
theorem pp_inj (h:pp i=pp A):i=A:=by simp only[pp,Ptr.mk.injEq]at h;omega
theorem kidOk_pp (s:Nat):Nd.kidOk (pp s)=true:=by simp[Nd.kidOk,pp]
theorem lookN_adds: ∀ {f:List Nd.Node} {last i:Nat} {j:Nd.Node},f[i]? =some j->lookN (last+1+i) (addsN last f)=some j
 | [],_,_,_,h=>by simp at h
 | a::f,last,0,j,h=>by simp at h;subst h;simp[addsN,lookN]
 | a::f,last,i+1,j,h=>by
  simp only[yY]at h;rw[addsN,lookN,if_neg (by omega),show last+1+(i+1)=last+1+1+i from by omega];exact lookN_adds h
theorem adds_sums: ∀ {f:List Nd.Node} {last s:Nat} {i:Nd.Node},lookN s (addsN last f)=some i->last<s/\s<=last+f.length
 | [],_,_,_,h=>by simp[addsN,lookN]at h
 | a::f,last,s,i,h=>by
  rw[addsN,lookN]at h;split at h
  .simp only[zV];omega
  .have:=adds_sums h;simp only[zV];omega
theorem Qf_more {new:PN}(o: ∀s w,lookN s e=some w->s<=i)(t: ∀s w,lookN s new=some w->i<s)(h:Qf E e Q G=some w):Qf E e (Q++new) G=some w:=by
 obtain⟨s,rfl,q | ⟨q,j⟩⟩ | ⟨q,j⟩:=Qf_inv h
 .rw[Qf_pp,lookN_app,q]
 .rw[Qf_pp,lookN_app,q];simp only
  cases u:lookN s new with
  | none=>exact j
  | some n2=>have:=o _ _ j;have:=t _ _ u;omega
 .rw[Qf_disk q];exact j
theorem kidOk_K (h:E.K G=some w):Nd.kidOk G=true/\2<=G.at_:=by
 obtain⟨a,birth,kind,body,rfl,i,j,⟨h3,_⟩,m,_⟩:=jU.1 h;simp only[Nd.kidOk,zE,zU];simp only[ptrB];omega
theorem Qf_kidOk (h:Qf E e Q G=some w):Nd.kidOk G=true:=by
 obtain⟨s,rfl,_⟩ | ⟨_,i⟩:=Qf_inv h
 .exact kidOk_pp s
 .exact(kidOk_K i).1
theorem Qf_at (h:Qf E e Q G=some w):1<=G.at_:=by
 have:=Qf_kidOk h;simp only[Nd.kidOk,zE,zU]at this;omega
theorem RepL.kidOk {α:Type}{q f:PN}{R:Nd.Node->α->List Ptr->Prop}(hr: ∀j t S,R j t S-> ∀p∈S,Nd.kidOk p=true): ∀ {m:List Ptr} {ts:List α} {S:List Ptr},RepL (Qf E q f) R m ts S-> ∀p∈S,Nd.kidOk p=true
 | [],[],_,h=>by subst h;simp
 | p::m,t::ts,_,⟨j,S1,S2,a,b,c,e⟩=>fun x i=>by
  subst e;rcases zM.1 i with rfl | i
  .exact Qf_kidOk a
  .rcases zZ.1 i with i | i
   .exact hr _ _ _ b x i
   .exact RepL.kidOk hr c x i
 | [],_::_,_,h=>h.elim
 | _::_,[],_,h=>h.elim
theorem RepN.kidOk {q f:PN} : ∀ {h:Nat} {a:Nd.Node} {t:Bt.Tr h} {S:List Ptr},RepN (Qf E q f) h a t S-> ∀p∈S,Nd.kidOk p=true
 | 0,_,_,_,w=>by obtain⟨_,rfl⟩:=w;simp
 | h+1,_,_,_,w=>RepL.kidOk (fun _ _ _ hr=>RepN.kidOk hr) w.2.2.2
theorem place_end(hn:200000000<=n){H0 H:AH}{At I F M V J i m h:Nat}{q:PN}{b1:List (AV×AV)}{f:PN}{g:AV}{gl:List Ptr}{T last:Nat}{ln lk:List AV}{o N:Nd.Node}{t:Bt.Tr (h+1)}{x:Bt.Tr h}{W Y Z:List Ptr}{lo hi:Bd}
  (ch:Ch X H0 H At I F b1 f g gl T last) (g5:H.h.get M=some (.cells ln 72 1 false)) (g7:H.h.get V=some (.cells lk 72 1 false)) (g8:H.h.get J=some (.cells [.bool false, .nS, .nS, .nS] 72 1 false))
  (b2:H0.next<=M) (b3:H0.next<=V) (b4:H0.next<=J) (h58:M≠J) (b5:M≠I) (b6:J≠I)
  (hv:NodeA X H g (.agg ln) o) (b7:NodeA X H g (.agg lk) N) (hq: ∀s o,lookN s q=some o->s<=T)
  (n1:o.leaf=false) (O:o.keys=t.1) (n3:o.vals=[]) (n4:o.kids.length=t.2.length) (wi:Inn (WF h) lo hi t) (b8:t.1≠[]) (hz:isize t.1 t.2.length<=500) (a6:i+m<t.2.length)
  (ra:RepL (Qf E q f) (RepN (Qf E q f) h) (o.kids.take i) (t.2.take i) W) (rb:RepL (Qf E q f) (RepN (Qf E q f) h) (o.kids.drop (i+m+1)) (t.2.drop (i+m+1)) Y)
  (Q:RepN (Qf E q f) h N x Z) (wx:WX h (loAt lo t.1 i) (hiAt t.1 hi (i+m)) x) (fx:Full h x) (b9:0<h->N.keys≠[]) (hb:last<=800000000):
  ∃u H' a9 f' U G K C,f70j2 D n [.ptr I 0, .ptr M 0, .ptr V 0, .ptr J 0, .int .i64 (i:Nat), .int .i64 (i+m+1:Nat)] H=some (.ret (.tuple [u, .int .i64 (0:Nat)]),H')/\
   Ch X H0 H' At I F a9 f' g gl T U/\Stp (fun B=>chg I F g B\/B=J) H H'/\NodeA X H' g u G/\(∀B,blkN u B->H.next<=B)/\RepN (Qf E q f') (h+1) G K C/\Inn (WF h) lo hi K/\
   con (h+1) K=(t.2.take i).flatMap (con h)++con h x++(t.2.drop (i+m+1)).flatMap (con h)/\isize K.1 K.2.length<=isize t.1 t.2.length+285/\t.1.length<=K.1.length+m/\last<=U/\U<=last+6/\
   C.Perm (pps last (U - last)++(W++Y++Z))/\ ∀p o,Qf E q f p=some o->Qf E q f' p=some o:=by
 have hl:=wi.2.2.len;have c0:small o:=by
  have:Nd.size o<=10000:=by
   simp only[Nd.size,O,n3,n4,Bt.sumL_nil];simp only[isize]at hz;omega
  exact size_small this
 have c3:=Q.shaped wx.gen b9 (RepN.kidOk Q);have c4:Nd.size N<=10000:=by rw[Q.size];have:=wx.sz;omega
 have a4: ∀v y,CutsN N v y->v.length<=6/\y.length<=6:=fun v y hc=>by
  obtain⟨ts,c1,c2⟩:=cutsN_ok hc Q wx;obtain⟨d1,_,d3,_⟩:=cuts_ok c1 wx (.inl fx);have l1:=c2.len;have l2:=d1.2.2.len;simp only at l2;omega
 obtain⟨u,H',v,y,vs,e1,a5,c5,st,hu,c6⟩:=placeJ2 D n hn (i:=i) (m:=m) ch g5 g7 g8 b2 b3 b4 h58 b5 b6 hv b7 c3 c4 c0 (by rw[n4,hl,O]) (by rw[O];exact b8) (by rw[n4];exact a6) (fun v y hc=>by have:=a4 v y hc;omega) hb;obtain⟨ts,c1,c2⟩:=cutsN_ok a5 Q wx;obtain⟨p1,p2,p3,p4⟩:=place_ok (ks:=t.1) (ts:=t.2) wi a6 wx fx c1;have b0: ∀s G,lookN s (addsN last v)=some G->T<s:=fun s G hs=>by have:=adds_sums hs;have:=ch.le;omega
 have more: ∀p o,Qf E q f p=some o->Qf E q (f++addsN last v) p=some o:=fun p o hp=>Qf_more hq b0 hp
 have a0: ∀ {ps:List Ptr} {ts:List (Bt.Tr h)} {S:List Ptr},RepL (Qf E q f) (RepN (Qf E q f) h) ps ts S->RepL (Qf E q (f++addsN last v)) (RepN (Qf E q (f++addsN last v)) h) ps ts S:=fun r=>r.mono (fun p _ o hp=>more p o hp) (fun o t S1 _ hr=>hr.mono fun p _ o hp=>more p o hp)
 have c7:RepP (Qf E q (f++addsN last v)) h v ts Z:=by
  have mono: ∀ {L:List Nd.Node} {z:List (Bt.Tr h)} {C:List Ptr},RepP (Qf E q f) h L z C->RepP (Qf E q (f++addsN last v)) h L z C:=by
   intro L
   induction L with
   | nil=>intro z C hp;cases z with
    | nil=>exact hp
    | cons=>exact hp.elim
   | cons a L ih=>intro z C hp;cases z with
    | nil=>exact hp.elim
    | cons b z=>
     obtain⟨S1,S2,a1,a2,a3⟩:=hp;exact⟨S1,S2,a1.mono fun p _ o hp=>more p o hp,ih a2,a3⟩
  exact mono c2
 have a8: ∀j,lookN (last+1+j) f=none:=fun j=>by
  cases hk:lookN (last+1+j) f with
  | none=>rfl
  | some O=>have:=ch.fs _ _ hk;omega
 obtain⟨S2,r2,a7⟩:=c7.kids last (fun j G hj=>by rw[Qf_pp,lookN_app,a8];simp only[lookN_adds hj]);have rl:=RepL.app (RepL.app (a0 rb) r2) (a0 ra);have c8:=a4 v y a5;refine⟨u,H',_,_,last+v.length,_,(t.1.take i++y++t.1.drop (i+m),t.2.take i++ts++t.2.drop (i+m+1)),W++(S2++Y),e1,c5,st,hu,c6,⟨rfl,by simp[O],rfl, ?_⟩,p1,p2,p3,p4,by omega,by omega, ?_,more⟩
 .simp only[qC];exact rl
 .rw[show last+v.length - last=v.length by omega];rw[List.perm_iff_count]at a7⊢;intro a;have:=a7 a;simp only[List.count_append]at this⊢;omega
theorem Ch.stb (F:Ch X k C i A p H e l h I L)(a:C.h.get s=some (.cells (.bool j::q) R 1 false))(At:Stp (fun B=>B=s) C z)(t:k.next<=s)(u:s≠A):Ch X k z i A p H e l h I L:=
 F.other At (fun R=>u R.symm) (fun R=>by subst R;rw[F.gF]at a;cases a) (fun B H0 R=>by subst R;rw[F.gg.get H0]at a;simp at a) (fun kv H' B H0 R=>by
  subst R;obtain⟨v,o⟩:=F.pf.mem kv H';exact o.nblk a (.inl ⟨_,_,_,_,rfl,fun _ _ R=>by cases R⟩) H0) (fun B H0=>by subst H0;exact t)
theorem NodeA.stb (h:NodeA X k l J w)(f:k.h.get i=some (.cells (.bool j::q) A 1 false))(s:Stp (fun B=>B=i) k C):NodeA X C l J w:=
 ⟨h.1.stp s fun B H A=>by subst A;exact h.1.nblk f (.inl ⟨_,_,_,_,rfl,fun _ _ A=>by cases A⟩) H,h.2⟩
theorem node_head (h:NodeG k (.agg q) w): ∃r,q= .bool w.leaf::r/\q.length=4/\allCells q=true:=by
 obtain⟨ks,vs,j,e,f,i,h3⟩:=h;simp only[AV.agg.injEq]at e;subst e;exact⟨_,rfl,rfl,allCells4 _ _ _ _ f.row.isCell i.row.isCell h3.row.isCell⟩
theorem place_walk (m9 n:Nat)(hn:200000000<=n){i h:Nat}{t:Bt.Tr (h+1)}{x tk:Bt.Tr h}{Sb Sx:List Ptr}
  (ti:TI E k A I l J G H e L U) (hold: ∀kv∈H,∀B,blkN kv.2 B->B<k.next) (l6: ∀kv∈H,∀B,blkN kv.2 B-> ¬X B) (hq: ∀d w,lookN d e=some w->d<=L) (ch:Ch X k C A p s F Q f M L R)
  (hv:NodeA X C f (.agg q) w) (d2:NodeA X C f (.agg g) W)
  (n1:w.leaf=false) (n2:w.keys=t.1) (n3:w.vals=[]) (n4:w.kids.length=t.2.length) (wi:Inn (WF h) a c t) (c2:t.1≠[]) (hz:isize t.1 t.2.length<=500) (l7:t.2[i]? =some tk)
  (ra:RepL (Qf E e []) (RepN (Qf E e []) h) (w.kids.take i) (t.2.take i) Y) (rb:RepL (Qf E e []) (RepN (Qf E e []) h) (w.kids.drop (i+1)) (t.2.drop (i+1)) Sb)
  (rx:RepN (Qf E e Q) h W x Sx) (wx:WX h (loAt a t.1 i) (hiAt t.1 c i) x) (d9:0<h->W.keys≠[]) (hb:R<=700000000) (l8:M.length+1<=R+1000):
  ∃u H' V es g' i2 y dr v O gl lk,f70 (dy (m9+1)) n [.ptr p 0, .agg q, .int .i64 (i:Nat), .agg g] C=some (.tuple [u, .int .i64 (0:Nat)],H')/\
   Ch X k H' A p s V es g' i2 L y/\Adv p s C f H' g'/\NodeA X H' g' u dr/\RepN (Qf E e es) (h+1) dr v O/\Inn (WF h) a c v/\
   con (h+1) v=(t.2.take i).flatMap (con h)++con h x++(t.2.drop (i+1)).flatMap (con h)/\isize v.1 v.2.length<=isize t.1 t.2.length+285/\t.1.length<=v.1.length+1/\R<=y/\y<=R+6/\i2=M++gl/\
   O.Perm (pps R (y - R)++(lk++Sx))/\(Y++Sb).Perm (gl++lk)/\(∀Ac w,Qf E e Q Ac=some w->Qf E e es Ac=some w)/\gl.length<=1:=by
 obtain⟨l9,rfl⟩:=qN.1 l7;have q0:=wi.2.2.len;obtain⟨rn,q5,q6,q8⟩:=node_head hv.1;obtain⟨rk,m0,b8,q9⟩:=node_head d2.1;obtain⟨H1,A5,b1,p1,g1,m1,r0⟩:=box ch.prs.ok (.cells q 72 1 false);obtain⟨H2,A7,b2,p2,g2,m2,r3⟩:=box p1.ok (.cells g 72 1 false);obtain⟨H3,A8,b3,p3,g3,m3,r4⟩:=box p2.ok (.cells [.bool false, .nS, .nS, .nS] 72 1 false);have P3:Prs C H3:=(p1.trans p2).trans p3;have m4:=jY p3 p2.ok (jY p2 p1.ok g1);have d3:=jY p3 p2.ok g2;have e0:small W:=size_small (by rw[rx.size];have:=wx.sz;omega);obtain⟨z,H4,e4,rfl,p4⟩:=size_ok (dy (m9+1)) n P3.ok (d2.1.prs P3).node e0 hn;have ln:=P3.trans p4;have d4:=jY p4 P3.ok m4;have i3:=jY p4 P3.ok d3;have i5:=jY p4 P3.ok g3;have a6:=ch.step ln;have N0:=ch.prs.next
 have cc:=ch.ltC;have f1: ∀Ac w,Qf E e [] Ac=some w->Qf E e Q Ac=some w:=fun Ac w hp=>by
  have:=Qf_more (new:=Q) hq (fun d dr hs=>(ch.fs d dr hs).1) hp;simpa using this
 have b7: ∀ {ps:List Ptr} {ts:List (Bt.Tr h)} {S:List Ptr},RepL (Qf E e []) (RepN (Qf E e []) h) ps ts S->RepL (Qf E e Q) (RepN (Qf E e Q) h) ps ts S:=fun r=>r.mono (fun Ac _ w hp=>f1 Ac w hp) (fun w t S1 _ hr=>hr.mono fun Ac _ w hp=>f1 Ac w hp)
 have m6:(i:Int)+((1:Nat):Int)=((i+1:Nat):Int):=by omega
 have r6:i<=1000:=by simp only[isize]at hz;omega
 have p7:=rx.size;by_cases d7:tsize h x<160
 case neg=>
  have c9: ¬((Nd.size W:Nat):Int)< ((160:Nat):Int):=by omega
  have fx:Full h x:=by
   cases h with
   | zero=>
    intro c1;have c1:x=([]:Nd.Kvs):=c1;rw[c1]at d7;exact d7 (by decide)
   | succ h=>exact Nat.le_of_not_lt d7
  obtain⟨u,H5,V,es,y,dr,v,O,e5,a7,st,hu,d5,r5,w5,c5,z5,k5,l1,l2,pm,more⟩:=place_end (dy (m9+1)) n hn (i:=i) (m:=0) (h:=h) a6 d4 i3 i5 (by omega) (by have:=p1.next;omega) (by have:=p1.next;have:=p2.next;omega) (by have:=p2.next;omega) (by omega) (by have:=p1.next;have:=p2.next;omega)
   (hv.prs ln) (d2.prs ln) hq n1 n2 n3 n4 wi c2 hz (by simpa using l9) (b7 ra) (by simpa using b7 rb) rx (by simpa using wx) fx d9 (by omega)
  refine⟨u,H5,V,es,f,M,y,dr,v,O,[],Y++Sb, ?_,a7, ?_,hu,r5,w5,by simpa using c5,z5,by omega,l1,l2,by simp, ?_,by simp,more,by simp⟩
  .simp(maxSteps:=999999)(disch:=omega) only[f70,eZ,b1,b2,b3,m6,agg4 d3 b8,e4,c9];simp only[Nat.add_zero]at e5;rw[e5];rfl
  .refine⟨⟨st.ok,by have:=st.next;have:=ln.next;omega,fun B K hS=> ?_⟩,fun B K=> .inl K⟩
   rw[st.keep B (by have:=ln.next;omega) (fun kd=>by
    rcases kd with kd | kd
    .exact hS kd
    .have:=p1.next;have:=p2.next;omega)]
   exact ln.keep B K (fun x=>x)
  .exact pm
 case pos=>
 have c9:((Nd.size W:Nat):Int)< ((160:Nat):Int):=by omega
 have k8: ∃b H0 tb a0 last,w.kids[b]? =some last/\Qf E e [] last=some H0/\RepN (Qf E e []) h H0 tb a0/\t.2[b]? =some tb/\
   ((b+1=i/\ ∃a2,RepL (Qf E e []) (RepN (Qf E e []) h) (w.kids.take b) (t.2.take b) a2/\Y=a2++(last::a0))\/(i=0/\b=1/\ ∃a3,RepL (Qf E e []) (RepN (Qf E e []) h) (w.kids.drop 2) (t.2.drop 2) a3/\Sb=last::(a0++a3))):=by
  have r7:0<t.1.length:=by
   rcases Nat.eq_zero_or_pos t.1.length with c1 | c1
   .exact absurd (zR c1) c2
   .exact c1
  cases i with
  | zero=>
   have h1:1<t.2.length:=by omega
   rw[show(0+1:Nat)=1 from rfl,qL h1,qL (show 1<w.kids.length by omega)]at rb;obtain⟨H0,S1,S2,q1,q2,q3,c1⟩:=rb;exact⟨1,H0,t.2[1],S1,_,zO (by omega),q1,q2,zO h1, .inr ⟨rfl,rfl,S2,q3,c1⟩⟩
  | succ j=>
   have h1:j<t.2.length:=by omega
   rw[qH h1,qH (show j<w.kids.length by omega)]at ra;obtain⟨T1,T2,r1,r2,c1⟩:=ra.split j;have e1:(w.kids.take j++[w.kids[j]'(by omega)]).take j=w.kids.take j:=yX (by rw[qA];omega);have e2:(w.kids.take j++[w.kids[j]'(by omega)]).drop j=[w.kids[j]'(by omega)]:=yO (by rw[qA];omega);have e3:(t.2.take j++[t.2[j]]).take j=t.2.take j:=yX (by rw[qA];omega);have e4:(t.2.take j++[t.2[j]]).drop j=[t.2[j]]:=yO (by rw[qA];omega);rw[e1,e3]at r1;rw[e2,e4]at r2;obtain⟨H0,S1,S2,q1,q2,q3,e5⟩:=r2;have q3:S2=[]:=q3;subst q3;exact⟨j,H0,t.2[j],S1,_,zO (by omega),q1,q2,zO h1, .inl ⟨rfl,T1,r1,by rw[c1,e5,qG]⟩⟩
 obtain⟨b,H0,tb,a0,last,kb,hs,f2,i6,k7⟩:=k8;obtain⟨f3,rfl⟩:=qN.1 i6;have f4:b<w.kids.length:=by omega
 have m7:w.kids[b]=last:=by rw[zO f4]at kb;exact y0 kb
 have T:WF h (loAt a t.1 b) (hiAt t.1 c b) t.2[b]:=KB.at wi.2.2 i6;have m8:=ti.prs a6.prs;obtain⟨ks,r8,ps,f5,k1,k2,k3⟩:=id (hv.prs ln).1;simp only[AV.agg.injEq]at f5;obtain⟨H5,i8,b5,p5,g5,m5,n5⟩:=box a6.prs.ok (.cells [.bool false, .nS, .nS, .nS] 72 1 false);obtain⟨vb,H6,e6,p6,f6,d0⟩:=read_ok m9 n hn (m8.prs p5) hs;obtain⟨lb,rfl,f7,n0⟩:=f6.cells;obtain⟨H7,e7,g7,s7,n7⟩:=st_all p6.ok (jY p6 p5.ok g5) (l':=lb) f7 n0;have i9:stN 4 (.ptr i8 0) (.agg lb) H6=some (undefA,H7):=e7;have N4:=ln.next;have N5:=p5.next;have N6:=p6.next
 have a4:Prs H4 H7:=(p5.trans p6).fresh s7 (fun B K=>by omega);have a9:=a6.step a4;have h9:NodeG H7 (.agg lb) H0:=f6.stp s7 (fun B K c1=>by
  subst c1;exact f6.nblk (jY p6 p5.ok g5) (.inl ⟨_,_,_,_,rfl,fun _ _ c1=>by cases c1⟩) K)
 have n6:NodeA X H7 f (.agg lb) H0:=by
  rcases d0 with⟨kk,d0⟩ | d5
  .exact h9.hand a9 (fun B K=>hold _ d0 B K) (l6 _ d0)
  .refine⟨h9,fun B K=>⟨fun hg=> ?_,fun kd=> ?_⟩⟩
   .have h1:=d5 B K;have h2:=kD (a6.step p5).gg.row hg;omega
   .have h1:=d5 B K;have h2:=ch.xo B kd;have h3:=(a6.step p5).prs.next
    omega
 obtain⟨g',H8,e8,b0,Z⟩:=goes_ok (dy (m9+1)) n a9 last l8 (by omega);have j0:=a9.next (hv.prs (ln.trans a4)) Z
 have j4:=a9.next (d2.prs (ln.trans a4)) Z
 have j5:=a9.next n6 Z
 have np: ∀ {At:Nat} {root:List AV} {c1:Nat},H7.h.get At=some (.cells root c1 1 false)->At≠p-> ¬chg p s f At:=fun {At root c1} hg c2 hc=>by
  rcases hc with c1 | c1 | c1
  .exact c2 c1
  .rw[c1,a9.gF]at hg;cases hg
  .rw[a9.gg.get c1]at hg;simp at hg
 have M1:=p1.next;have M2:=p2.next;have M3:=p3.next;have M4:=p4.next;have M7:=a4.next
 have d6:=jY a4 ln.ok d4;have j6:=jY a4 ln.ok i3;have j7:=jY a4 ln.ok i5;have f8:H8.h.get A5=some (.cells q 72 1 false):=by rw[Z.1.keep _ (by omega) (np d6 (by omega))];exact d6
 have f9:H8.h.get A7=some (.cells g 72 1 false):=by rw[Z.1.keep _ (by omega) (np j6 (by omega))];exact j6
 have n8:H8.h.get A8=some (.cells [.bool false, .nS, .nS, .nS] 72 1 false):=by rw[Z.1.keep _ (by omega) (np j7 (by omega))];exact j7
 have i0:H8.h.get i8=some (.cells lb 72 1 false):=by rw[Z.1.keep _ (by omega) (np g7 (by omega))];exact g7
 have k34:Ptrs H4 ps w.kids:=k3.row;obtain⟨q4,i4,g0⟩:=k34.at f4;obtain⟨q7,i7,g4⟩:=(k34.prs a4).at f4;rw[m7]at g0 g4;obtain rfl:q7=q4:=by
  have e1:=i4 .i64 b rfl;rw[i7 .i64 b rfl]at e1;exact y0 e1
 have i1:small H0:=size_small (by rw[f2.size];have:=T.sz;omega);have b4:RepN (Qf E e Q) h H0 t.2[b] a0:=f2.mono fun Ac _ w hp=>f1 Ac w hp
 have j8:0<h->H0.keys≠[]:=fun hh=>by
  cases h with
  | zero=>omega
  | succ h=>
   have:=many_keys T;rw[f2.2.1];intro c1;rw[c1]at this;simp at this
 have j9: ¬(((0:Nat):Int)≠((0:Nat):Int)):=by omega
 have b6: ∀Hx:AH,Hx.h.get A5=some (.cells q 72 1 false)->ld1 (.ptr A5 3) Hx=some ps/\ld1 (.ptr A5 1) Hx=some ks:=fun Hx hg=>by
  rw[ld1_get hg,ld1_get hg,f5];exact⟨rfl,rfl⟩
 have k0:Strs H8 ks w.keys:=by
  obtain⟨r9,vs',s0,d1,j1,j2,j3⟩:=id j0.1;simp only[AV.agg.injEq]at d1;rw[f5]at d1;simp only[yF,and_true]at d1;obtain⟨_,rfl,_,_⟩:=d1;exact j1.row
 have k4: ∀(j m:Nat) (sep:Str) (u:AV) (c3:Nd.Node) (x':Bt.Tr h) (g6 a2 a3:List Ptr) (H9:AH),Prs H8 H9->NodeO H8 H9 u c3->RepN (Qf E e Q) h c3 x' g6->WX h (loAt a t.1 j) (hiAt t.1 c (j+m)) x'->Full h x'->(0<h->c3.keys≠[])->j+m<t.2.length->
   RepL (Qf E e Q) (RepN (Qf E e Q) h) (w.kids.take j) (t.2.take j) a2->RepL (Qf E e Q) (RepN (Qf E e Q) h) (w.kids.drop (j+m+1)) (t.2.drop (j+m+1)) a3->
   ∃a5,stN 4 (.ptr A7 0) u H9=some (undefA,a5)/\ ∃u H' V es y dr v O,f70j2 (dy (m9+1)) n [.ptr p 0, .ptr A5 0, .ptr A7 0, .ptr A8 0, .int .i64 (j:Nat), .int .i64 (j+m+1:Nat)] a5=some (.ret (.tuple [u, .int .i64 (0:Nat)]),H')/\
    Ch X k H' A p s V es g' (M++[last]) L y/\Adv p s C f H' g'/\NodeA X H' g' u dr/\RepN (Qf E e es) (h+1) dr v O/\Inn (WF h) a c v/\
    con (h+1) v=(t.2.take j).flatMap (con h)++con h x'++(t.2.drop (j+m+1)).flatMap (con h)/\isize v.1 v.2.length<=isize t.1 t.2.length+285/\t.1.length<=v.1.length+m/\R<=y/\y<=R+6/\
    O.Perm (pps R (y - R)++(a2++a3++g6))/\ ∀Ac w,Qf E e Q Ac=some w->Qf E e es Ac=some w:=by
  intro j m sep u c3 x' g6 a2 a3 H9 l5 w9 n9 o0 o1 k9 c4 g8 g9;have k6:=w9.free;obtain⟨lu,rfl,s1,o2⟩:=k6.1.cells;have o3:=b0.step l5;have o4:NodeA X H9 g' (.agg lu) c3:=NodeF.hand b0 (zK _) k6;have c6:=jY l5 b0.prs.ok f9;obtain⟨a5,b9,o5,c0,s2⟩:=st_all l5.ok c6 (l':=lu) (by omega) o2;have l0:stN 4 (.ptr A7 0) (.agg lu) H9=some (undefA,a5):=by rw[b8]at b9;exact b9
  rw[m0]at c6;have l3:=o3.stb c6 c0 (by omega) (by omega);have N8:=Z.1.next;have N9:=l5.next
  have o6:a5.h.get A5=some (.cells q 72 1 false):=by rw[c0.keep _ (by omega) (by omega)];exact jY l5 b0.prs.ok f8
  have o7:a5.h.get A8=some (.cells [.bool false, .nS, .nS, .nS] 72 1 false):=by rw[c0.keep _ (by omega) (by omega)];exact jY l5 b0.prs.ok n8
  obtain⟨u',H',V,es,y,dr,v,O,e5,a7,st,hu,d5,r5,w5,c5,z5,k5,l1,l2,pm,more⟩:=place_end (dy (m9+1)) n hn (i:=j) (m:=m) (h:=h) l3 o6 o5 o7 (by omega) (by omega) (by omega) (by omega) (by omega) (by omega)
   ((j0.prs l5).stb c6 c0) (o4.stb c6 c0) hq n1 n2 n3 n4 wi c2 hz c4 g8 g9 n9 o0 o1 k9 (by omega)
  refine⟨a5,l0,u',H',V,es,y,dr,v,O,e5,a7, ?_,hu,r5,w5,c5,z5,k5,l1,l2,pm,more⟩;refine⟨⟨st.ok,by have:=st.next;omega,fun B K hS=> ?_⟩,fun B K=> ?_⟩
  .have a1:H8.h.get B=C.h.get B:=by
    rw[Z.1.keep B (by omega) hS,a4.keep B (by omega) (fun x=>x)];exact ln.keep B K (fun x=>x)
   rw[st.keep B (by omega) (fun kd=>by
    rcases kd with kd | kd
    .rcases kd with c1 | c1 | c1
     .exact hS (.inl c1)
     .exact hS (.inr (.inl c1))
     .rcases Z.2 B c1 with c1 | c1
      .exact hS (.inr (.inr c1))
      .omega
    .omega),c0.keep B (by omega) (by omega),l5.keep B (by omega) (fun x=>x)]
   exact a1
  .rcases Z.2 B K with c1 | c1
   .exact .inl c1
   .exact .inr (by omega)
 rcases k7 with⟨o8,a2,g8,rfl⟩ | ⟨rfl,rfl,a3,g9,rfl⟩
 ·
  subst o8;have N:b<t.1.length:=by omega
  have o:=wi.1 _ (yH N);have s3:t.1.getD b []=t.1[b]:=by rw[qE,zO N];rfl
  have h0:hiAt t.1 c b=some t.1[b]:=by simp only[hiAt,zO N]
  have h4:loAt a t.1 (b+1)=some t.1[b]:=by simp only[loAt,zO N]
  rw[h0]at T;rw[h4]at wx;have c4:=join_may b4 rx T.gen wx.gen o.1 j8 d9 (RepN.kidOk b4) (RepN.kidOk rx);obtain⟨u,H9,e9,l5,w9⟩:=join_ok (dy (m9+1)) n hn b0.prs.ok (sep:=t.1[b]) j5.1.node j4.1.node i1 e0;rw[c4]at e9 w9;simp only[if_true]at e9 w9;have c7:=key_le o.1;have js:=join_size h t.2[b] t.1[b] x c7;have wj:WX h (loAt a t.1 b) (hiAt t.1 c (b+1)) (joinT h t.2[b] t.1[b] x):=Gen.wx (join_gen T.gen wx.gen ⟨o.1,by
   have p8:=KB.at wi.2.2 (zO f3)
   cases b with
   | zero=>exact o.2.1
   | succ b'=>
    simp only[loAt,zO (show b'<t.1.length by omega)];have:=(Nd.rising_ix ltS t.1).1 wi.2.1 b' N;exact this,by
   by_cases c1:b+1<t.1.length
   .simp only[hiAt,zO c1];exact(Nd.rising_ix ltS t.1).1 wi.2.1 b c1
   .simp only[hiAt,List.getElem?_eq_none (show t.1.length<=b+1 by omega)];exact o.2.2⟩) (by have:=T.sz;omega)
  obtain⟨a5,b9,u',H',V,es,y,dr,v,O,e5,a7,h5,hu,r5,w5,c5,z5,k5,l1,l2,pm,more⟩:=k4 b 1 t.1[b] u _ _ (a0++Sx) a2 Sb H9 l5 w9 (RepN.join b4 rx t.1[b]) wj (full_join c7 (.inl T.full)) (fun hh c1=>by
   cases h with
   | zero=>omega
   | succ h=>
    have:(joinN H0 t.1[b] W).keys=H0.keys++([t.1[b]]++W.keys):=by simp only[joinN,b4.1,zL,qD]
    rw[this]at c1;simp at c1) (by omega) (b7 g8) (b7 rb)
  refine⟨u',H',V,es,g',M++[last],y,dr,v,O,[last],a2++(a0++Sb), ?_,a7,h5,hu,r5,w5, ?_,z5,k5,l1,l2,rfl, ?_, ?_,more,by simp⟩
  .have o9:((b+1:Nat):Int) - ((1:Nat):Int)=((b:Nat):Int):=by omega
   have p0: ¬((b+1:Nat):Int)=((0:Nat):Int):=by omega
   have h6:mn2 (.int .i64 (b+1:Nat)) (.int .i64 ((b:Nat):Int))=some (.int .i64 ((b:Nat):Int)):=by
    have:ilt ((b:Nat):Int) ((b+1:Nat):Int)=true:=by rw[ilt_eq];simp;omega
    simp only[mn2,this,zP]
   have h7:mx2 (.int .i64 (b+1:Nat)) (.int .i64 ((b:Nat):Int))=some (.int .i64 (b+1:Nat)):=by
    have:ilt ((b+1:Nat):Int) ((b:Nat):Int)=false:=by rw[ilt_eq];simp;omega
    simp only[mx2,this,y9]
   have d8:((b:Nat):Int)< ((b+1:Nat):Int):=by omega
   have l4:((b+1:Nat):Int)+((1:Nat):Int)=((b+1+1:Nat):Int):=by omega
   obtain⟨qk,ik,c8⟩:=k0.at (i:=b) (by rw[n2];exact N);have h8:w.keys[b]'(by rw[n2];exact N)=t.1[b]:=by simp[n2]
   rw[h8]at c8;simp(config:= { maxSteps:=2000000}) (disch:=omega) only[f70,eZ,b1,b2,b3,l4,agg4 d3 b8,e4,c9,o9,p0,f70j1,ld1_get a6.gC,(b6 H4 d4).1,i4,g0,b5,e6,pExtract,nth,i9,j9,(b6 H7 d6).1,i7,g4,e8,h6,h7,d8,agg4 i0 f7,(b6 H8 f8).2,ik,c8,agg4 f9 b8,e9,b9,f70j0,e5]
  .rw[c5,con_join,qH f3,jB,yR,List.flatMap_nil,qG];simp only[qC]
  .rw[List.perm_iff_count]at pm⊢;intro Sa;have:=pm Sa;simp only[List.count_append,List.count_cons]at this⊢;omega
  .rw[List.perm_iff_count];intro Sa;simp only[List.count_append,List.count_cons,List.count_nil];omega
 ·
  have N:0<t.1.length:=by omega
  have o:=wi.1 _ (yH N);have h0:hiAt t.1 c 0=some t.1[0]:=by simp only[hiAt,zO N]
  have h4:loAt a t.1 1=some t.1[0]:=by simp only[loAt,zO N]
  rw[h4]at T;rw[h0]at wx;have c4:=join_may rx b4 wx.gen T.gen o.1 d9 j8 (RepN.kidOk rx) (RepN.kidOk b4);obtain⟨u,H9,e9,l5,w9⟩:=join_ok (dy (m9+1)) n hn b0.prs.ok (sep:=t.1[0]) j4.1.node j5.1.node e0 i1;rw[c4]at e9 w9;simp only[if_true]at e9 w9;have c7:=key_le o.1;have js:=join_size h x t.1[0] t.2[1] c7;have wj:WX h (loAt a t.1 0) (hiAt t.1 c (0+1)) (joinT h x t.1[0] t.2[1]):=Gen.wx (join_gen wx.gen T.gen ⟨o.1,o.2.1,by
   by_cases c1:1<t.1.length
   .simp only[hiAt,zO (show 0+1<t.1.length by omega)];exact(Nd.rising_ix ltS t.1).1 wi.2.1 0 (by omega)
   .simp only[hiAt,List.getElem?_eq_none (show t.1.length<=0+1 by omega)];exact o.2.2⟩) (by have:=T.sz;omega)
  obtain⟨a5,b9,u',H',V,es,y,dr,v,O,e5,a7,h5,hu,r5,w5,c5,z5,k5,l1,l2,pm,more⟩:=k4 0 1 t.1[0] u _ _ (Sx++a0) Y a3 H9 l5 w9 (RepN.join rx b4 t.1[0]) wj (full_join c7 (.inr T.full)) (fun hh c1=>by
   cases h with
   | zero=>omega
   | succ h=>
    have:(joinN W t.1[0] H0).keys=W.keys++([t.1[0]]++H0.keys):=by simp only[joinN,rx.1,zL,qD]
    rw[this]at c1;simp at c1) (by omega) (b7 ra) (b7 g9)
  refine⟨u',H',V,es,g',M++[last],y,dr,v,O,[last],Y++(a0++a3), ?_,a7,h5,hu,r5,w5, ?_,z5,k5,l1,l2,rfl, ?_, ?_,more,by simp⟩
  .have h6:mn2 (.int .i64 (0:Nat)) (.int .i64 (1:Nat))=some (.int .i64 (0:Nat)):=rfl;have h7:mx2 (.int .i64 (0:Nat)) (.int .i64 (1:Nat))=some (.int .i64 (1:Nat)):=rfl;have d8: ¬((1:Nat):Int)< ((0:Nat):Int):=by omega
   have h11:((1:Nat):Int)+((1:Nat):Int)=((0+1+1:Nat):Int):=by omega
   obtain⟨qk,ik,c8⟩:=k0.at (i:=0) (by rw[n2];exact N);have h8:w.keys[0]'(by rw[n2];exact N)=t.1[0]:=by simp[n2]
   rw[h8]at c8;simp(config:= { maxSteps:=2000000}) (disch:=omega) only[f70,eZ,b1,b2,b3,agg4 d3 b8,e4,c9,f70j1,ld1_get a6.gC,(b6 H4 d4).1,i4,g0,b5,e6,pExtract,nth,i9,j9,(b6 H7 d6).1,i7,g4,e8,h6,h7,d8,h11,agg4 i0 f7,(b6 H8 f8).2,ik,c8,agg4 f9 b8,e9,b9,f70j0,e5]
  .have e1:t.2.drop (0+1)=t.2[1]::t.2.drop 2:=qL f3;rw[c5,con_join,e1];simp only[List.take_zero,List.flatMap_nil,qV,yR,qC,show 0+1+1=2 from rfl]
  .rw[List.perm_iff_count]at pm⊢;intro Sa;have:=pm Sa;simp only[List.count_append,List.count_cons]at this⊢;omega
  .rw[List.perm_iff_count];intro Sa;simp only[List.count_append,List.count_cons,List.count_nil];omega
end Go.Eng.Sh
end
section
namespace Go.Bt
open Go.Nd (Str Kvs lookP putP delP leafOf mayK)
open Go.Eng (ltS)
inductive Ed
 | put (k v:Str)
 | del (k:Str)
def Ed.key:Ed->Str
 | .put k _=>k
 | .del k=>k
def Ed.run:Ed->Kvs->Option Kvs
 | .put k v,l=>some (putP k v l)
 | .del k,l=>if(lookP k l).isSome then some (delP k l)else none
def Ed.ok:Ed->Prop
 | .put k v=>mayK k=true/\v.length<=200
 | .del k=>mayK k=true
theorem Ed.run_mid (ed:Ed){A C B:Kvs}(a: ∀p∈A,ltS p.1 ed.key=true)(f: ∀p∈B,ltS ed.key p.1=true):ed.run (A++C++B)=(ed.run C).map fun c=>A++c++B:=by
 cases ed with
 | put k v=>simp only[Ed.run,zY,put_mid (k:=k) a f]
 | del k=>
  simp only[Ed.run,look_mid (k:=k) a f,del_mid (k:=k) a f];split<;>rfl
theorem Ed.leaf {ed:Ed}{lo hi:Bd}{l':Kvs}(a:Lf lo hi N)(hl:lowB lo ed.key)(h:hiB hi ed.key)(f:ed.ok)(hr:ed.run N=some l'):Lf lo hi l'/\lsize l'<=lsize N+242:=by
 cases ed with
 | put k v=>
  simp only[Ed.run,zB]at hr;subst hr;exact leaf_put a hl h f.1 f.2
 | del k=>
  simp only[Ed.run]at hr;split at hr
  .simp only[zB]at hr;subst hr;have:=leaf_del k a;exact⟨this.1,by omega⟩
  .cases hr
end Go.Bt
namespace Go.Eng.Sh
open Go.Nd (Ptr sumL leafOf Kvs)
open Go.Bt
variable {X:Nat->Prop}
def edF (ed:Ed)(K V:Nat):AV:=match ed with
 | .put _ _=> .func 33 [] [.ptr K 0, .ptr V 0]
 | .del _=> .func 47 [] [.ptr K 0]
def edB (H:AH)(ed:Ed)(K V:Nat):Prop:=match ed with
 | .put k v=>Box H K (S k)/\Box H V (S v)
 | .del k=>Box H K (S k)
theorem edB.prs {ed:Ed}(h:edB k ed i A)(a:k.ok)(s:Prs k C):edB C ed i A:=by
 cases ed with
 | put H v=>exact⟨h.1.mono a s (fun x=>x),h.2.mono a s (fun x=>x)⟩
 | del H=>exact Box.mono h a s (fun x=>x)
def edL (ed:Ed)(l:Kvs):Nd.Node×Nat:=match ed.run l with
 | some l'=>(leafOf l',0)
 | none=>(nd0,5)
theorem edit_run (m:Nat)(hm:200000000<=m)(C:k.ok){ed:Ed}(Q:NodeG k l (leafOf N))(o:Lf a c N)(hz:lsize N<=10000)(ho:ed.ok)(hb:edB k ed i A):
  ∃u H',(match ed with | .put _ _=>f33 (dy m) m [l, .ptr i 0, .ptr A 0] k | .del _=>f47 (dy m) m [l, .ptr i 0] k)=some (.tuple [u, .int .i64 ((edL ed N).2:Nat)],H')/\Prs k H'/\NodeF k.next H' u (edL ed N).1:=by
 have U:Nd.shaped ltS (leafOf N)=true:=Nd.leaf_shaped o.1 fun p hp=>(o.2 p hp).2.2
 obtain⟨lv,rfl,O,a2⟩:=Q.cells;obtain⟨H1,A3,b1,q,S,m1,n1⟩:=box C (.cells lv 72 1 false);obtain⟨H2,A4,b2,F,g2,m2,n2⟩:=box q.ok (.cells [.bool false, .nS, .nS, .nS] 72 1 false);have f:=q.trans F;have W:small (leafOf N):=size_small hz;have N1:=q.next;have N2:=F.next
 have Y: ∀ {u:AV} {T:Nd.Node} {s:AH},Prs H2 s->NodeF H2.next s u T-> ∃v,stN 4 (.ptr A4 0) u s=some (undefA,v)/\Prs k v/\NodeF k.next v u T/\ldN 4 (.ptr A4 0) v=some u:=fun {u T s} j J=>by
  obtain⟨lu,rfl,Z,a0⟩:=J.1.cells;obtain⟨v,t,g4,s4,n4⟩:=st_all j.ok (jY j f.ok g2) (l':=lu) Z a0;refine⟨v,t,(f.trans j).fresh s4 (fun B L=>by omega),⟨J.1.stp s4 (fun B L e=> ?_),fun B L=>by have:=J.2 B L;omega⟩,agg4 g4 Z⟩;have:=J.2 B L;omega
 cases ed with
 | put H x=>
  obtain⟨u,s,K,j,G⟩:=putNd_ok (dy m) m hm f.ok (key:=H) (value:=x) (Q.prs f) W;have a1:putOk (leafOf N) H x=true:=by simp only[putOk,U,show(leafOf N).leaf=true from rfl,ho.1,ho.2,Bool.true_and,decide_true]
  rw[a1]at K G;simp only[if_true,Nd.put_leaf _ _ o.1]at K G;obtain⟨v,t,M,y,V⟩:=Y j G;refine⟨u,v, ?_,M,y⟩;simp(maxSteps:=999999)(disch:=omega) only[f33,eZ,b1,b2,agg4 (jY F q.ok S) O,(hb.1.mono C f (fun x=>x)).ld,(hb.2.mono C f (fun x=>x)).ld,K,pExtract,nth,t,V,edL,Ed.run]
 | del H=>
  obtain⟨u,s,K,j,G⟩:=delNd_ok (dy m) m hm f.ok (key:=H) (Q.prs f) W;have h:delE (leafOf N) H=if(Nd.lookP H N).isSome then 0 else 5:=by
   simp only[delE,U,show(leafOf N).leaf=true from rfl,qJ,if_true,Nd.here_look _ o.1]
  obtain⟨v,t,M,y,V⟩:=Y j G
  cases I:(Nd.lookP H N).isSome with
  | true=>
   rw[I]at h;simp only[if_true]at h;rw[h]at K;simp only[h,if_true,Nd.del_leaf _ o.1 ((Nd.here_look _ o.1).trans I)]at y;have z:edL (.del H) N=(leafOf (Nd.delP H N),0):=by simp only[edL,Ed.run,I,if_true]
   refine⟨u,v, ?_,M,by rw[z];exact y⟩;rw[z];simp(maxSteps:=999999)(disch:=omega) only[f47,eZ,b1,b2,agg4 (jY F q.ok S) O,(Box.mono hb C f (fun x=>x)).ld,K,pExtract,nth,t,V]
  | false=>
   rw[I]at h;simp only[zL,qD]at h;rw[h]at K;have h5: ¬(5:Nat)=0:=by decide
   simp only[h,h5,qD]at y;have z:edL (.del H) N=(nd0,5):=by simp only[edL,Ed.run,I,zL,qD]
   refine⟨u,v, ?_,M,by rw[z];exact y⟩;rw[z];simp(maxSteps:=999999)(disch:=omega) only[f47,eZ,b1,b2,agg4 (jY F q.ok S) O,(Box.mono hb C f (fun x=>x)).ld,K,pExtract,nth,t,V]
theorem edit_ok (m n:Nat)(hm:200000000<=m)(V:k.ok){ed:Ed}(f:NodeG k l (leafOf N))(h:Lf a c N)(K:lsize N<=10000)(j:ed.ok)(hb:edB k ed i A):
  ∃u H',callV [(67,f67 (dy (m+1)) n),(68,f68 (dy (m+1)) n),(69,f69 (dy (m+1)) n),(70,f70 (dy (m+1)) n),(71,f71 (dy (m+1)) n)] (dy (m+1)) (edF ed i A) [l] k=some (.tuple [u, .int .i64 ((edL ed N).2:Nat)],H')/\callV [(65,f65 (dy (m+1)) n),(64,f64 (dy (m+1)) n),(72,f72 (dy (m+1)) n)] (dy (m+1)) (edF ed i A) [l] k=some (.tuple [u, .int .i64 ((edL ed N).2:Nat)],H')/\Prs k H'/\NodeF k.next H' u (edL ed N).1:=by
 obtain⟨u,H',e,p,w⟩:=edit_run m hm V f h K j hb;refine⟨u,H', ?_, ?_,p,w⟩
 .cases ed with
  | put H x=>exact e
  | del H=>exact e
 .cases ed with
  | put H x=>exact e
  | del H=>exact e
def downF (Bd Bt a Bk f h:Nat):AV:= .func 66 [] [.ptr Bd 0, .ptr Bt 0, .ptr a 0, .ptr Bk 0, .ptr f 0, .ptr h 0]
structure Cl (H0 H:AH)(At Ac K V:Nat)(ed:Ed)(Bd Bt Be Bk Bf Bc d:Nat):Prop where
 bd:Box H Bd (.int .i64 (d:Nat))
 bt:Box H Bt (.ptr At 0)
 be:Box H Be (edF ed K V)
 bk:Box H Bk (S ed.key)
 bf:Box H Bf (downF Bd Bt Be Bk Bf Bc)
 bc:Box H Bc (.ptr Ac 0)
 eb:edB H0 ed K V
 fr:H0.next<=Bd
 n1:Bt≠Bd
 n2:Be≠Bd
 n3:Bk≠Bd
 n4:Bf≠Bd
 n5:Bc≠Bd
theorem _root_.Go.Eng.Box.nchg (j:Box C L J)(a:Ch X k C i A p H e l h s I): ¬chg A p l L:=fun H0=>by
 obtain⟨At,j⟩:=j;rcases H0 with rfl | rfl | H0
 .rw[a.gC]at j;simp at j
 .rw[a.gF]at j;cases j
 .rw[a.gg.get H0]at j;simp at j
theorem Cl.keep {ed:Ed}{o d:Nat}{H0 last:Nat}(At:Cl k C i A s I ed L R V m r o d)(a:Ch X k C i A p H e l h H0 last)(H':Stp (chg A p l) C z):Cl k z i A s I ed L R V m r o d:=
 ⟨At.bd.mono a.prs.ok H' (At.bd.nchg a),At.bt.mono a.prs.ok H' (At.bt.nchg a),At.be.mono a.prs.ok H' (At.be.nchg a),At.bk.mono a.prs.ok H' (At.bk.nchg a),At.bf.mono a.prs.ok H' (At.bf.nchg a),At.bc.mono a.prs.ok H' (At.bc.nchg a),At.eb,At.fr,At.n1,At.n2,At.n3,At.n4,At.n5⟩
theorem Cl.prs {ed:Ed}{d:Nat}(h:Cl k C i A p s ed I L R V m r d)(a:C.ok)(H0:Prs C z):Cl k z i A p s ed I L R V m r d:=
 ⟨h.bd.mono a H0 (fun x=>x),h.bt.mono a H0 (fun x=>x),h.be.mono a H0 (fun x=>x),h.bk.mono a H0 (fun x=>x),h.bf.mono a H0 (fun x=>x),h.bc.mono a H0 (fun x=>x),h.eb,h.fr,h.n1,h.n2,h.n3,h.n4,h.n5⟩
theorem Cl.deeper {ed:Ed}{u d:Nat}{o last:Nat}(Bd:Cl k C i A s I ed L R V m r u d)(a:Ch X k C i A p H e l h o last):
  ∃H',stN 1 (.ptr L 0) (.int .i64 (d+1:Nat)) C=some (undefA,H')/\Cl k H' i A s I ed L R V m r u (d+1)/\Ch X k H' i A p H e l h o last/\Stp (fun B=>B=L) C H':=by
 obtain⟨H',K,b,j⟩:=Bd.bd.st a.prs.ok (x:= .int .i64 (d+1:Nat)) rfl;have F:=Bd.bd.nchg a;obtain⟨G,z⟩:=Bd.bd;refine⟨H',K,⟨b,Bd.bt.mono a.prs.ok j Bd.n1,Bd.be.mono a.prs.ok j Bd.n2,Bd.bk.mono a.prs.ok j Bd.n3,Bd.bf.mono a.prs.ok j Bd.n4,Bd.bc.mono a.prs.ok j Bd.n5,Bd.eb,Bd.fr,Bd.n1,Bd.n2,Bd.n3,Bd.n4,Bd.n5⟩, ?_,j⟩;exact a.other j (fun K=>F (.inl K.symm)) (fun K=>F (.inr (.inl K.symm))) (fun B At K=>F (.inr (.inr (K▸At)))) (fun kv v B At K=>by
  subst K;obtain⟨H0,y⟩:=a.pf.mem kv v;exact y.nblk z (.inl ⟨_,_,_,_,rfl,fun _ _ K=>by cases K⟩) At) (fun B At=>by rw[At];exact Bd.fr)
variable {E:Ev}
theorem whereN_leafless {ks:List Str}(hl:w.leaf=false)(f:w.keys=ks)(key:Str):Nd.whereN w key=whereI ks key:=by
 simp only[Nd.whereN,whereI,hl,f,Bool.not_false,Bool.true_and]
theorem pps_mem: ∀ {n last:Nat} {p:Ptr},p∈pps last n-> ∃j,p=pp j/\last<j/\j<=last+n
 | 0,_,_,h=>by simp[pps]at h
 | n+1,last,p,h=>by
  rcases zM.1 h with rfl | h
  .exact⟨last+1,rfl,by omega,by omega⟩
  .obtain⟨j,e,a,f⟩:=pps_mem h;exact⟨j,e,by omega,by omega⟩
theorem pps_nodup: ∀(n last:Nat),(pps last n).Nodup
 | 0,_=>by simp[pps]
 | n+1,last=>by
  rw[pps,List.nodup_cons];refine⟨fun h=> ?_,pps_nodup n (last+1)⟩;obtain⟨j,e,a,_⟩:=pps_mem h;have:=pp_inj e;omega
def DownOut (E:Ev)(X:Nat->Prop)(H0 H H':AH)(At x F K V:Nat)(ed:Ed)(J L M N O B6 d:Nat)(q:PN)(f:PN)(g m:AV)(gl:List Ptr)(C last:Nat)(h:Nat)(lo hi:Bd)(t:Bt.Tr h)(S:List Ptr)(p:Ptr)(u:AV)(c':Kvs):Prop:=
 ∃I o s a d' v y G R Fr,∃i:Bt.Tr h,Ch X H0 H' At x F I o m s C a/\Cl H0 H' At x K V ed J L M N O B6 d'/\NodeA X H' m u v/\RepN (Qf E q o) h v i y/\WX h lo hi i/\con h i=c'/\(0<h->nkeys h t<=nkeys h i+1)/\s=gl++G/\G.length<=2*(h+1)/\
  last+Fr.length=a/\a<=last+6*h/\d'<=d+h+1/\y.Perm (Fr++R)/\(p::S).Perm (G++R)/\Fr.Nodup/\(∀p∈Fr,∃j,p=pp j/\last<j/\j<=a)/\(∀p z,Qf E q f p=some z->Qf E q o p=some z)/\ ∀B,Blk m B->Blk g B\/H.next<=B
theorem tail_ok{ed:Ed}{B6 d U T H0 e7:Nat}{Y last:Nat}
  (F:Ch X k C i A p H e l h Y last) (cl:Cl k C i A s I ed L R V m r B6 d) (g7:C.h.get U=some (.cells (ptrV G) e7 1 false)) (W:C.h.get T=some (.cells [.bool false, .nS, .nS, .nS] 72 1 false)) (J:C.h.get H0=some (.cells q 72 1 false))
  (hu:NodeA X C l (.agg q) w) (h8:k.next<=T) (a0:T≠A) (b2:U≠A) (a2:H0≠A) (hl:h.length+1<=last+1000) (hb:last<=900000000):
  ∃y H',f66j1 D n [.ptr B6 0, .ptr U 0, .ptr T 0, .ptr H0 0, .int .i64 (0:Nat)] C=some (.ret (.tuple [.agg q, .int .i64 (0:Nat)]),H')/\Ch X k H' i A p H e y (h++[G]) Y last/\Cl k H' i A s I ed L R V m r B6 d/\NodeA X H' y (.agg q) w/\
   Stp (fun B=>chg A p l B\/B=T) C H'/\ ∀B,Blk y B->Blk l B\/C.next<=B:=by
 obtain⟨N,a4⟩:q.length=4/\allCells q=true:=by
  obtain⟨_,_,a,b⟩:=node_head hu.1;exact⟨a,b⟩
 obtain⟨y,z,e1,M,t⟩:=goes_ok D n F G hl hb;have np: ∀ {j:Nat} {S:List AV} {Q:Nat},C.h.get j=some (.cells S Q 1 false)->j≠A-> ¬chg A p l j:=fun {j S Q} u a5 hc=>by
  rcases hc with Q | Q | Q
  .exact a5 Q
  .rw[Q,F.gF]at u;cases u
  .rw[F.gg.get Q]at u;simp at u
 have lt: ∀ {j:Nat} {S:List AV} {Q:Nat},C.h.get j=some (.cells S Q 1 false)->j<C.next:=fun u=>F.prs.ok.lt u
 have v:z.h.get T=some (.cells [.bool false, .nS, .nS, .nS] 72 1 false):=by rw[t.1.keep _ (lt W) (np W a0)];exact W
 have a3:z.h.get H0=some (.cells q 72 1 false):=by rw[t.1.keep _ (lt J) (np J a2)];exact J
 have a6:=F.next hu t
 have At:=cl.keep F t.1;obtain⟨Z,e2,a7,K,n2⟩:=st_all M.prs.ok v (l':=q) N a4;have a8:stN 4 (.ptr T 0) (.agg q) z=some (undefA,Z):=e2;have a9:=M.stb v K h8 a0;have nb: ∀ {j:Nat} {x:AV},Box z j x->(∀b,x≠ .bool b)->j≠T:=fun {j x} hb hx Q=>by
  obtain⟨_,hb⟩:=hb;rw[Q,v]at hb;simp at hb
 have b0:Cl k Z i A s I ed L R V m r B6 d:=by
  have O: ∀ {j:Nat} {x:AV},Box z j x->Box Z j x:=fun {j x} hb=>hb.mono M.prs.ok K (fun Q=>by
   obtain⟨_,hb⟩:=hb;rw[Q,v]at hb;simp at hb)
  exact⟨O At.bd,O At.bt,O At.be,O At.bk,O At.bf,O At.bc,At.eb,At.fr,At.n1,At.n2,At.n3,At.n4,At.n5⟩
 refine⟨y,Z, ?_,a9,b0,a6.stb v K,(t.1.mono fun _ _ x=> .inl x).trans (K.mono fun _ _ x=> .inr x),t.2⟩;have b1: ¬(((0:Nat):Int)≠((0:Nat):Int)):=by omega
 simp(maxSteps:=999999)(disch:=omega) only[f66j1,eZ,b1,cl.bc.ld,ldN_get g7,sub3p,zY,e1,agg4 a3 N,a8,agg4 a7 N]
theorem tail_no{B6 e:Nat}(x y:AV)(o:k.ok)(p:k.h.get i=some (.cells [.bool false, .nS, .nS, .nS] 72 1 false))(t:e≠0):
  ∃H',f66j1 D n [.ptr B6 0,x, .ptr i 0,y, .int .i64 (e:Nat)] k=some (.ret (.tuple [.agg [.bool false, .nS, .nS, .nS], .int .i64 (e:Nat)]),H')/\Stp (fun B=>B=i) k H':=by
 obtain⟨f,q,H,s,u⟩:=st_all o p (l':=[.bool false, .nS, .nS, .nS]) rfl rfl;have j:stN 4 (.ptr i 0) (.agg [.bool false, .nS, .nS, .nS]) k=some (undefA,f):=q;refine⟨f, ?_,s⟩;have m:(e:Int)≠((0:Nat):Int):=by omega
 simp(maxSteps:=999999)(disch:=omega) only[f66j1,eZ,m,ne_eq,jA,bldN0,j,agg4 H rfl]
theorem callDown (M n a f h i j B6:Nat)(x:AV)(H:AH):callV [(67,f67 (dy (M+1)) n),(68,f68 (dy (M+1)) n),(69,f69 (dy (M+1)) n),(70,f70 (dy (M+1)) n),(71,f71 (dy (M+1)) n)] (dy (M+1)) (downF a f h i j B6) [x] H=f66 (dy M) M [x, .ptr a 0, .ptr f 0, .ptr h 0, .ptr i 0, .ptr j 0, .ptr B6 0] H:=rfl
noncomputable def downR (D:Dyn)(n:Nat)(T x4 U x6 x7 f a:AV)(H:AH):Rs:=
 bV (fAd 0 a) fun q=>
 bV (ld1 q H) fun s=>
 jn (cnd s (bV (ld1 T H) fun t=>
 bV (ldN 4 a H) fun u=>
 bR (callV [(67,f67 D n),(68,f68 D n),(69,f69 D n),(70,f70 D n),(71,f71 D n)] D t [u] H) fun h H=>
 bV (pExtract h 0) fun v=>
 bV (pExtract h 1) fun x=>
 bR (stN 4 a v H) fun _ H=>
 some (.norm [x6,x7,f,a,x],H))
 (bV (ldN 4 a H) fun y=>
 bV (ld1 x4 H) fun z=>
 bR (f69 D n [y,z] H) fun i H=>
 bA (bxV 72 (.agg [(.bool false), .nS, .nS, .nS])) H fun j H=>
 bV (ld1 U H) fun C=>
 bV (fAd 3 a) fun F=>
 bV (ld1 F H) fun G=>
 bV (ixSl 3 G i) fun I=>
 bV (ldN 3 I H) fun J=>
 bR (callV [(67,f67 D n),(68,f68 D n),(69,f69 D n),(70,f70 D n),(71,f71 D n)] D C [J] H) fun m H=>
 bV (pExtract m 0) fun K=>
 bV (pExtract m 1) fun o=>
 bR (stN 4 j K H) fun _ H=>
 bV (bInt .eql o (.int .i64 (.ofNat 0))) fun L=>
 jn (cnd L (bV (ld1 x6 H) fun M=>
 bV (ldN 4 a H) fun N=>
 bV (ldN 4 j H) fun O=>
 bR (f70 D n [M,N,i,O] H) fun p H=>
 bV (pExtract p 0) fun Q=>
 bV (pExtract p 1) fun S=>
 bR (stN 4 a Q H) fun _ H=>
 some (.norm [x6,x7,f,a,S],H))
 (some (.norm [x6,x7,f,a,o],H))) (f66j0 D n))) (f66j1 D n)
theorem down_head (G n:Nat)(hn:200000000<=n){H0 H:AH}{At I F M0 K V:Nat}{ed:Ed}{t Y J L M B6 d:Nat}{u:Ptr}{dk a7 dr:AV}{root:Ptr}{es:List (AV×AV)}{q fr:PN}{a0:List (AV×AV)}{g:AV}{gl:List Ptr}{S last:Nat}{y:Nd.Node}(ti:TI E H0 At M0 dk a7 root es q S dr)(hold: ∀kv∈es,∀B,blkN kv.2 B->B<H0.next)(a8: ∀kv∈es,∀B,blkN kv.2 B-> ¬X B)
  (z:Ch X H0 H At I F a0 fr g gl S last) (cl:Cl H0 H At I K V ed t Y J L M B6 d) (hs:Qf E q [] u=some y) (hd:d+1<=8192):
  ∃f j m i a,f66 (dy (G+1)) n [.agg (ptrV u), .ptr t 0, .ptr Y 0, .ptr J 0, .ptr L 0, .ptr M 0, .ptr B6 0] H=outR (downR (dy (G+1)) n (.ptr J 0) (.ptr L 0) (.ptr M 0) (.ptr B6 0) (.ptr j 0) (.ptr m 0) (.ptr i 0) a)/\
   Ch X H0 a At I F a0 fr g gl S last/\Cl H0 a At I K V ed t Y J L M B6 (d+1)/\NodeA X a g (.agg f) y/\(∃r,f= .bool y.leaf::r/\f.length=4/\allCells f=true)/\
   a.h.get j=some (.cells (ptrV u) 38 1 false)/\a.h.get m=some (.cells [.bool false, .nS, .nS, .nS] 72 1 false)/\a.h.get i=some (.cells f 72 1 false)/\
   H.next<=j/\H.next<=m/\H.next<=i/\j≠m/\j≠i/\m≠i/\Stp (fun B=>B=t) H a:=by
 obtain⟨H1,j,b1,N,g1,m1,n1⟩:=box z.prs.ok (.cells (ptrV u) 38 1 false);obtain⟨H2,m,b2,Z,g2,m2,n2⟩:=box N.ok (.cells [.bool false, .nS, .nS, .nS] 72 1 false);have P2:=N.trans Z;have a9:=z.step P2;have a1:=cl.prs z.prs.ok P2;obtain⟨H3,e3,T,o,O⟩:=a1.deeper a9;have a2:=ti.prs o.prs;have a6:=most_ok (dy (G+1)) n a2;have N1:=N.next;have N2:=Z.next;have N3:=O.next
 have c5:t<H.next:=cl.bd.lt z.prs.ok
 have a3:H3.h.get j=some (.cells (ptrV u) 38 1 false):=by rw[O.keep _ (by omega) (by omega)];exact jY Z N.ok g1
 have b0:H3.h.get m=some (.cells [.bool false, .nS, .nS, .nS] 72 1 false):=by rw[O.keep _ (by omega) (by omega)];exact g2
 obtain⟨v,H4,e4,p4,U,C⟩:=read_ok G n hn a2 hs;obtain⟨f,rfl,b3,b4⟩:=U.cells;obtain⟨H5,i,b5,Q,g5,m5,n5⟩:=box p4.ok (.cells [.bool false, .nS, .nS, .nS] 72 1 false);obtain⟨a,e6,g6,s6,n6⟩:=st_all Q.ok g5 (l':=f) b3 b4;have b6:stN 4 (.ptr i 0) (.agg f) H5=some (undefA,a):=e6;have N4:=p4.next;have N5:=Q.next
 have s:Prs H3 a:=(p4.trans Q).fresh s6 (fun B p=>by omega);have a4:=o.step s;have W:NodeG a (.agg f) y:=(U.prs Q).stp s6 (fun B p e=>by
  subst e;have:=U.lt p;omega)
 have b7:NodeA X a g (.agg f) y:=by
  rcases C with⟨kk,C⟩ | a5
  .exact W.hand a4 (fun B p=>hold _ C B p) (a8 _ C)
  .refine⟨W,fun B p=>⟨fun hg=> ?_,fun hx=> ?_⟩⟩
   .have h1:=a5 B p;have h2:=kD o.gg.row hg;omega
   .have h1:=a5 B p;have h2:=z.xo B hx;have h3:=o.prs.next
    omega
 obtain⟨r,b8,b9,c0⟩:=node_head W;refine⟨f,j,m,i,a, ?_,a4,T.prs o.prs.ok s,b7,⟨r,b8,b9,c0⟩,jY s o.prs.ok a3,jY s o.prs.ok b0,g6,by omega,by omega,by omega,by omega,by omega,by omega,((P2.mono fun _ _ x=>x.elim).trans O).trans (s.mono fun _ _ x=>x.elim)⟩;have c1:(d:Int)+((1:Nat):Int)=((d+1:Nat):Int):=by omega
 have c2: ¬((8192+q.length:Nat):Int)< ((d+1:Nat):Int):=by omega
 have c3:aveq (.int .i64 (d+1:Nat)) (.int .i64 (d+1:Nat))=true:=by
  have:keq .i64 .i64=true:=by rw[keq_eq];simp
  simp only[aveq,this,Bool.true_and,ieq_eq];simp
 have c4: ¬(((0:Nat):Int)≠((0:Nat):Int)):=by omega
 simp(maxSteps:=999999)(disch:=omega) only[f66,hd_cons,nl_nil,bVs,bRs,show ∀(e:TypeId) (l:List AV),bxV e (.agg l)=some (.cells l e 1 false,fun A=> .ptr A 0)from fun _ _=>rfl,b1,b2,a1.bd.ld,bInt_add,wrap_i64,Int.ofNat_eq_natCast,c1,e3,T.bd.ld,T.bt.ld,a6,(fun K=>chk_ok rfl c3: ∀K:Rs,chk (some (AV.int .i64 (d+1:Nat))) (.int .i64 (d+1:Nat)) K=K),bInt_gtr,c2,decide_false,cnd_b,zL,qD,ldN_get a3,sub3p,zY,e4,pExtract,nth,b5,b6,bInt_neq,c4];rfl
theorem Cl.stb {ed:Ed}{H0 B6 d:Nat}(h:Cl k C i A p s ed R V m r H0 B6 d)(At:C.ok)(t:C.h.get I=some (.cells q L 1 false))(hl:q.length=4)(H:Stp (fun B=>B=I) C z):Cl k z i A p s ed R V m r H0 B6 d:=by
 have H': ∀ {B:Nat} {x:AV},Box C B x->Box z B x:=fun {B x} hb=>hb.mono At H (fun L=>by
  obtain⟨_,hb⟩:=hb;rw[L,t]at hb;simp only[zB,AObj.cells.injEq]at hb;rw[hb.1]at hl;simp at hl)
 exact⟨H' h.bd,H' h.bt,H' h.be,H' h.bk,H' h.bf,H' h.bc,h.eb,h.fr,h.n1,h.n2,h.n3,h.n4,h.n5⟩
theorem down_ok {ed:Ed}{B4 B5 B6:Nat}{c3:Nat}(ti:TI E k i I l J G H Q c3 U)(hold: ∀kv∈H,∀B,blkN kv.2 B->B<k.next)(d6: ∀kv∈H,∀B,blkN kv.2 B-> ¬X B)(hq: ∀Ac z,lookN Ac Q=some z->Ac<=c3)(ho:ed.ok):
  ∀(h M n:Nat),200000000+h<=M->200000000<=n-> ∀ {dr:AH} {d last:Nat} {M0:Ptr} {d7:List (AV×AV)} {f:PN} {g:AV} {gl:List Ptr} {z:Nd.Node} {t:Bt.Tr h} {S:List Ptr} {lo hi:Bd},
   Ch X k dr i p s d7 f g gl c3 last->Cl k dr i p L R ed V m r B4 B5 B6 d->Qf E Q [] M0=some z->RepN (Qf E Q []) h z t S->Gen h lo hi t->tsize h t<=500->(0<h->z.keys≠[])->lowB lo ed.key->hiB hi ed.key->d+h+1<=8192->last+6*h<=600000000->gl.length+2*(h+1)<=last+1000->
   ∃u e g' H',f66 (dy (M+1)) n [.agg (ptrV M0), .ptr V 0, .ptr m 0, .ptr r 0, .ptr B4 0, .ptr B5 0, .ptr B6 0] dr=some (.tuple [u, .int .i64 ((e:Nat):Int)],H')/\Stp (fun B=>chg p s g B\/B=V) dr H'/\(∃B2,u= .agg B2/\B2.length=4/\allCells B2=true)/\
    match ed.run (con h t)with
    | none=>e=5
    | some c'=>e=0/\DownOut E X k dr H' i p s L R ed V m r B4 B5 B6 d Q f g g' gl c3 last h lo hi t S M0 u c':=by
 intro h
 induction h with
 | zero=>
  intro M n hM hn dr d last M0 d7 f g gl z t S lo hi ch cl hs rn wg hz _ d8 d9 hd hb o2;obtain⟨rfl,rfl⟩:=rn;obtain⟨lv,W,A8,B3,H6,e6,v,a7,c5,⟨B1,c6,a2,o3⟩,g7,g8,a3,m7,m8,o4,o5,l3,l4,c0⟩:=down_head M n hn ti hold d6 ch cl hs (by omega);have N0:=ch.prs.next;have o6:=ch.ltC;have N6:=c0.next
  have o7:lsize (t:Kvs)<=10000:=by simp only[tsize]at hz;omega
  obtain⟨u,H7,e7,_,N,w7⟩:=edit_ok M n (by omega) v.prs.ok c5.1 wg o7 ho (a7.eb.prs ti.ok v.prs);obtain⟨lu,rfl,o8,h4⟩:=w7.1.cells;have o9:=v.step N;have h5:=a7.prs v.prs.ok N;have b6:=jY N v.prs.ok a3;obtain⟨Y,e8,a5,s8,n8⟩:=st_all N.ok b6 (l':=lu) (by omega) h4;have p1:stN 4 (.ptr B3 0) (.agg lu) H7=some (undefA,Y):=by rw[a2]at e8;exact e8
  have b2:=h5.stb N.ok b6 a2 s8;have p2:NodeA X H7 g (.agg lu) (edL ed t).1:=NodeF.hand v (zK _) w7;rw[c6]at b6;have a0:=o9.stb b6 s8 (by omega) (by omega);have h6:=p2.stb b6 s8;have N7:=N.next;have N8:=s8.next
  have b3:Y.h.get W=some (.cells (ptrV M0) 38 1 false):=by rw[s8.keep _ (by have:=v.prs.ok.lt g7;omega) (by omega)];exact jY N v.prs.ok g7
  have a8:Y.h.get A8=some (.cells [.bool false, .nS, .nS, .nS] 72 1 false):=by rw[s8.keep _ (by have:=v.prs.ok.lt g8;omega) (by omega)];exact jY N v.prs.ok g8
  have S8:Stp (fun B=>chg p s g B\/B=V) dr Y:=⟨s8.ok,by omega,fun B K y=>by
   rw[s8.keep B (by omega) (by omega),N.keep B (by omega) (fun x=>x),c0.keep B K (fun e=>y (.inr e))]⟩
  have p3: ¬(((0:Nat):Int)≠((0:Nat):Int)):=by omega
  have p4:(leafOf (t:Kvs)).leaf=true:=rfl;have run: ∀ {x:Option (AV×AH)} {code:Nat},(edL ed t).2=code->outR (f66j1 (dy (M+1)) n [.ptr B6 0, .ptr W 0, .ptr A8 0, .ptr B3 0, .int .i64 code] Y)=x->f66 (dy (M+1)) n [.agg (ptrV M0), .ptr V 0, .ptr m 0, .ptr r 0, .ptr B4 0, .ptr B5 0, .ptr B6 0] dr=x:=by
   intro x code hc O;rw[hc]at e7;rw[e6];simp(maxSteps:=999999)(disch:=omega) only[downR,eZ,ld1_get a3,c6,p4,a7.be.ld];simp(maxSteps:=999999)(disch:=omega) only[eZ,agg4 a3 a2,e7,pExtract,nth,p1];exact O
  cases hr:ed.run t with
  | none=>
   have c7:edL ed t=(nd0,5):=by simp only[edL,hr]
   obtain⟨H9,e9,o1⟩:=tail_no (dy (M+1)) n (B6:=B6) (.ptr W 0) (.ptr B3 0) a0.prs.ok a8 (e:=5) (by decide);refine⟨.agg [.bool false, .nS, .nS, .nS],5,g,H9,run (by rw[c7]) (by rw[e9];rfl),⟨o1.ok,by have:=o1.next;omega,fun B K y=>by rw[o1.keep B (by omega) (by omega)];exact S8.keep B K y⟩,⟨_,rfl,rfl,rfl⟩, ?_⟩
   simp only[con,hr]
  | some l'=>
   have c7:edL ed t=(leafOf l',0):=by simp only[edL,hr]
   rw[c7]at h6;obtain⟨g',H9,e9,e0,e2,p5,o1,b9⟩:=tail_ok (dy (M+1)) n a0 b2 b3 a8 a5 h6 (by omega) (by omega) (by omega) (by omega) (by omega) (by omega);obtain⟨w1,w2⟩:=Ed.leaf wg d8 d9 ho hr;refine⟨.agg lu,0,g',H9,run (by rw[c7]) (by rw[e9];rfl),⟨o1.ok,by have:=o1.next;omega,fun B K y=> ?_⟩,⟨_,rfl,o8,h4⟩, ?_⟩
   .rw[o1.keep B (by omega) (fun O=>by
     rcases O with O | O
     .exact y (.inl O)
     .omega)]
    exact S8.keep B K y
   .simp only[con,hr];refine⟨trivial,_,_,_,_,_,_,[],[M0],[],[],l',e0,e2,p5,⟨rfl,rfl⟩,⟨w1,by simp only[tsize]at hz;omega⟩,rfl,fun hh=>absurd hh (by omega),rfl,by simp,by simp,by omega,by omega,by simp,by simp,by simp,by simp,fun _ _ hp=>hp,fun B K=> ?_⟩;rcases b9 B K with e | e
    .exact .inl e
    .exact .inr (by omega)
 | succ h ih=>
  intro M n hM hn dr d last M0 d7 f g gl z t S lo hi ch cl hs rn wg hz c2 d8 d9 hd hb o2;obtain⟨r1,r2,r3,r4⟩:=rn;obtain⟨w1,w2,w3⟩:=id wg;have u9:=w3.len;have j9:=r4.len;obtain⟨lv,W,A8,B3,H6,e6,v,a7,c5,⟨B1,c6,a2,o3⟩,g7,g8,a3,m7,m8,o4,o5,l3,l4,c0⟩:=down_head M n hn ti hold d6 ch cl hs (by omega);have N0:=ch.prs.next;have o6:=ch.ltC;have N6:=c0.next
  have p6:isize t.1 t.2.length<=500:=hz;have p9:small z:=size_small (by
   have:Nd.size z=tsize (h+1) t:=RepN.size (Q:=Qf E Q []) (S:=S) ⟨r1,r2,r3,r4⟩;rw[this];simp only[tsize];omega)
  have h7:Nd.whereN z ed.key=whereI t.1 ed.key:=whereN_leafless r1 r2 _;have l5:whereI t.1 ed.key<=t.1.length:=whereI_le _ _;have h8:whereI t.1 ed.key<t.2.length:=by omega
  obtain⟨sA,sB⟩:=where_sides (key:=ed.key) (ks:=t.1) (ts:=t.2) wg;have h9:=where_lo (lo:=lo) w2 d8;have i0:=where_hi (hi:=hi) w2 d9;generalize u6:whereI t.1 ed.key=H0 at h7 l5 h8 sA sB h9 i0;have c8:=zO h8;obtain⟨pk,q0,Sa,Si,Sb,k1,k2,k3,k4,k5,k6⟩:=r4.at c8;have q5:=k2;have wk:=KB.at w3 c8;have q6:0<h->q0.keys≠[]:=fun hh=>by
   cases h with
   | zero=>omega
   | succ h=>
    have:=many_keys wk;rw[k3.2.1];intro e;rw[e]at this;simp at this
  obtain⟨H7,e7,N⟩:=where_ok (dy (M+1)) n hn v.prs.ok (key:=ed.key) c5.1.node p9;rw[h7]at e7;obtain⟨Y,e3,b8,p8,i1,v4,q7⟩:=box N.ok (.cells [.bool false, .nS, .nS, .nS] 72 1 false);have a9:=N.trans p8;have a0:=v.step a9;have b2:=a7.prs v.prs.ok a9;have h5:=a7.prs v.prs.ok N;have a1:=c5.prs a9;have b3:=jY a9 v.prs.ok g7;have a8:=jY a9 v.prs.ok g8;have a5:=jY a9 v.prs.ok a3;obtain⟨ks,q8,ps,i2,j1,j2,j3⟩:=id a1.1;simp only[AV.agg.injEq]at i2;obtain⟨qk,ik,i3⟩:=Ptrs.at (l:=z.kids) j3.row (i:=H0) (by omega);have q9:z.kids[H0]'(by omega)=pk:=by
   rw[zO (by omega)]at k1;exact y0 k1
  rw[q9]at i3;have N7:=N.next;have N8:=p8.next
  obtain⟨Z,rfl⟩: ∃Z,M=Z+1:=⟨M - 1,by omega⟩;obtain⟨u1,e1,g1,H9,e9,o1,⟨l1,rfl,i4,r0⟩,b1⟩:=ih Z (Z+1) (by omega) (by omega) a0 b2 q5 k3 wk.gen wk.sz q6 h9 i0 (by omega) (by omega) (by omega);have b4: ∀ {A:Nat} {o:AObj},Y.h.get A=some o->A<Y.next:=fun F=>a0.prs.ok.lt F
  have np: ∀ {A:Nat} {B2:List AV} {e:Nat},Y.h.get A=some (.cells B2 e 1 false)->B2.length≠1->A≠p-> ¬(chg p s g A\/A=V):=fun {A B2 e} F hl c2 hc=>by
   rcases hc with(e | e | e) | e
   .exact c2 e
   .rw[e,a0.gF]at F;cases F
   .rw[a0.gg.get e]at F;simp at F
   .obtain⟨_,hb⟩:=b2.bd;rw[e,hb]at F;simp only[zB,AObj.cells.injEq]at F;rw[<-F.1]at hl;simp at hl
  have r5:lv.length≠1:=by omega
  have r6:H9.h.get W=some (.cells (ptrV M0) 38 1 false):=by rw[o1.keep _ (b4 b3) (np b3 (by simp[ptrV]) (by omega))];exact b3
  have r7:H9.h.get A8=some (.cells [.bool false, .nS, .nS, .nS] 72 1 false):=by rw[o1.keep _ (b4 a8) (np a8 (by simp) (by omega))];exact a8
  have l6:H9.h.get B3=some (.cells lv 72 1 false):=by rw[o1.keep _ (b4 a5) (np a5 r5 (by omega))];exact a5
  have b7:H9.h.get e3=some (.cells [.bool false, .nS, .nS, .nS] 72 1 false):=by rw[o1.keep _ q7 (np i1 (by simp) (by omega))];exact i1
  obtain⟨T,r8,k0,dk,v5⟩:=st_all o1.ok b7 (l':=l1) i4 r0;have l7:stN 4 (.ptr e3 0) (.agg l1) H9=some (undefA,T):=r8;have N9:=o1.next;have v6:=dk.next
  have t7:=b4 b3;have t8:=b4 a8;have t10:=b4 a5;have v7:v.prs.ok.lt g7=v.prs.ok.lt g7:=rfl;have u7:=v.prs.ok.lt g7;have u8:=v.prs.ok.lt g8;have v8:=v.prs.ok.lt a3;have g0:T.h.get W=some (.cells (ptrV M0) 38 1 false):=by rw[dk.keep _ (by omega) (by omega)];exact r6
  have d3:T.h.get A8=some (.cells [.bool false, .nS, .nS, .nS] 72 1 false):=by rw[dk.keep _ (by omega) (by omega)];exact r7
  have d0:T.h.get B3=some (.cells lv 72 1 false):=by rw[dk.keep _ (by omega) (by omega)];exact l6
  have i5:Stp (fun B=>chg p s g B\/B=V) dr T:=⟨dk.ok,by omega,fun B K y=>by
   rw[dk.keep B (by omega) (by omega),o1.keep B (by omega) y,a9.keep B (by omega) (fun x=>x),c0.keep B K (fun e=>y (.inr e))]⟩
  have a6:=Ed.run_mid ed (A:=(t.2.take H0).flatMap (con h)) (C:=con h t.2[H0]) (B:=(t.2.drop (H0+1)).flatMap (con h)) sA sB;have l8:con (h+1) t=(t.2.take H0).flatMap (con h)++con h t.2[H0]++(t.2.drop (H0+1)).flatMap (con h):=by
   have:t.2=t.2.take H0++[t.2[H0]]++t.2.drop (H0+1):=split_at c8;simp only[con]
   conv=>lhs;rw[this]
   simp only[jB,yR,List.flatMap_nil,qG]
  rw[<-l8]at a6;have p3: ¬(((0:Nat):Int)≠((0:Nat):Int)):=by omega
  have i6:lv=[.bool z.leaf,ks,q8,ps]:=i2;have head: ∀ {x:Option (AV×AH)},outR (jn (bV (bInt .eql (.int .i64 e1) (.int .i64 (.ofNat 0))) fun r9=>jn (cnd r9 (bV (ld1 (.ptr B6 0) T) fun s0=>bV (ldN 4 (.ptr B3 0) T) fun s1=>bV (ldN 4 (.ptr e3 0) T) fun s2=>bR (f70 (dy (Z+1+1)) n [s0,s1, .int .i64 (H0:Nat),s2] T) fun i7 dr=>
    bV (pExtract i7 0) fun s3=>bV (pExtract i7 1) fun s4=>bR (stN 4 (.ptr B3 0) s3 dr) fun _ dr=>some (.norm [.ptr B6 0, .ptr W 0, .ptr A8 0, .ptr B3 0,s4],dr)) (some (.norm [.ptr B6 0, .ptr W 0, .ptr A8 0, .ptr B3 0, .int .i64 e1],T))) (f66j0 (dy (Z+1+1)) n)) (f66j1 (dy (Z+1+1)) n))=x->
    f66 (dy (Z+1+1)) n [.agg (ptrV M0), .ptr V 0, .ptr m 0, .ptr r 0, .ptr B4 0, .ptr B5 0, .ptr B6 0] dr=x:=by
   intro x O;rw[e6,<-O];have h0:ld1 (.ptr B3 0) H6=some (.bool false):=by rw[ld1_get a3,i6,r1];rfl
   have h3:ld1 (.ptr B3 3) Y=some ps:=by rw[ld1_get a5,i6];rfl
   simp(maxSteps:=999999)(disch:=omega) only[downR,eZ,h0,agg4 a3 a2,a7.bk.ld,e7,b8,b2.bf.ld,h3,ik,i3,callDown,e9,pExtract,nth,l7]
  cases hr:ed.run (con h t.2[H0])with
  | none=>
   rw[hr]at b1 a6;simp only[Option.map_none]at a6;have b1:e1=5:=b1;subst b1;obtain⟨b5,e4,e5⟩:=tail_no (dy (Z+1+1)) n (B6:=B6) (.ptr W 0) (.ptr B3 0) dk.ok d3 (e:=5) (by decide);have s5: ¬((5:Nat):Int)=((0:Nat):Int):=by omega
   refine⟨.agg [.bool false, .nS, .nS, .nS],5,g,b5,head ?_,⟨e5.ok,by have:=e5.next;omega,fun B K y=>by rw[e5.keep B (by omega) (by omega)];exact i5.keep B K y⟩,⟨_,rfl,rfl,rfl⟩, ?_⟩
   .simp(maxSteps:=999999)(disch:=omega) only[eZ,s5,f66j0,e4]
   .rw[a6]
  | some c1=>
   rw[hr]at b1 a6;simp only[zY]at a6;obtain⟨rfl,v0,f1,i8,f7,d1,s6,S1,G1,R1,s7,t1,e0,e2,t0,i9,t3,l9,t4,g4,v9,w0,v1,w4,j0,g5,m0,j4,k7,f3⟩:=b1;have c4:=e0.stb b7 dk (by omega) (by omega);have g6:=e2.stb o1.ok b7 rfl dk;have m1:=t0.stb b7 dk;have t5:NodeA X H9 g1 (.agg lv) z:=⟨a1.1.stp o1 (fun B K hc=>by
    rcases hc with(e | e | e) | e
    .subst e;exact a1.1.nblk a0.gC (.inl ⟨_,_,_,_,rfl,fun _ _ e=>by cases e⟩) K
    .subst e;exact a1.1.nblk a0.gF (.inr (.inl ⟨_,_,rfl⟩)) K
    .exact(a1.2 B K).1 e
    .obtain⟨_,hb⟩:=b2.bd;subst e;exact a1.1.nblk hb (.inl ⟨_,_,_,_,rfl,fun _ _ e=>by cases e⟩) K),fun B K=>⟨fun F=>by
    rcases f3 B F with e | e
    .exact(a1.2 B K).1 e
    .have:=a1.1.lt K;omega,(a1.2 B K).2⟩⟩
   have m2:=t5.stb b7 dk;have m3:0<h->s6.keys≠[]:=fun hh=>by
    have f4:=t4 hh
    cases h with
    | zero=>omega
    | succ h=>
     have:=many_keys wk;simp only[nkeys]at f4;rw[i9.2.1];intro e;rw[e]at f4;simp at f4;omega
   have v2:i8.length=gl.length+G1.length:=by rw[g4,zT]
   obtain⟨u2,b5,m4,f2,g2,j5,f8,t6,t2,S2,G2,R2,e4,d4,a4,g9,m5,t9,k8,w5,k11,w6,w8,h1,j6,h2,k9,w9⟩:=place_walk (Z+1) n hn ti hold d6 hq c4 m2 m1 r1 r2 r3 j9 wg (by rw[<-r2];exact c2 (by omega)) p6 c8 k4 k5 i9 t3 m3 (by omega) (by omega);obtain⟨l2,rfl,u0,j7⟩:=g9.1.cells;have d5: ∀ {A:Nat} {B2:List AV} {e:Nat},T.h.get A=some (.cells B2 e 1 false)->A≠p-> ¬chg p s g1 A:=fun {A B2 e} F c2 hc=>by
    rcases hc with e | e | e
    .exact c2 e
    .rw[e,c4.gF]at F;cases F
    .rw[c4.gg.get e]at F;simp at F
   have x0:=a4.1.next
   have m6:b5.h.get W=some (.cells (ptrV M0) 38 1 false):=by rw[a4.1.keep _ (by omega) (d5 g0 (by omega))];exact g0
   have m9:b5.h.get A8=some (.cells [.bool false, .nS, .nS, .nS] 72 1 false):=by rw[a4.1.keep _ (by omega) (d5 d3 (by omega))];exact d3
   have d2:b5.h.get B3=some (.cells lv 72 1 false):=by rw[a4.1.keep _ (by omega) (d5 d0 (by omega))];exact d0
   obtain⟨f5,j8,l0,b0,x3⟩:=st_all d4.prs.ok d2 (l':=l2) (by omega) j7;have n0:stN 4 (.ptr B3 0) (.agg l2) b5=some (undefA,f5):=by rw[a2]at j8;exact j8
   have n1:=g6.keep c4 a4.1;have n2:=n1.stb d4.prs.ok d2 a2 b0;have c9:=d2;rw[c6]at c9;have n3:=d4.stb c9 b0 (by omega) (by omega);have n4:=g9.stb c9 b0;have x4:=b0.next
   have n5:f5.h.get W=some (.cells (ptrV M0) 38 1 false):=by rw[b0.keep _ (by omega) (by omega)];exact m6
   have n6:f5.h.get A8=some (.cells [.bool false, .nS, .nS, .nS] 72 1 false):=by rw[b0.keep _ (by omega) (by omega)];exact m9
   have v3:j5.length=i8.length+G2.length:=by rw[h1,zT]
   obtain⟨g3,u3,u4,n7,n9,o0,f6,u5⟩:=tail_ok (dy (Z+1+1)) n n3 n2 n5 n6 l0 n4 (by omega) (by omega) (by omega) (by omega) (by omega) (by omega);have f9: ∀B,Blk g2 B->Blk g B\/Y.next<=B:=fun B K=>by
    rcases a4.2 B K with e | e
    .exact f3 B e
    .exact .inr (by omega)
   refine⟨.agg l2,0,g3,u3,head ?_,⟨f6.ok,by have:=f6.next;omega,fun B K y=> ?_⟩,⟨_,rfl,u0,j7⟩, ?_⟩
   .simp(maxSteps:=999999)(disch:=omega) only[eZ,g6.bc.ld,agg4 d0 a2,agg4 k0 i4,e4,pExtract,nth,n0,f66j0,u4]
   .rw[f6.keep B (by omega) (fun O=>by
     rcases O with(e | e | e) | e
     .exact y (.inl (.inl e))
     .exact y (.inl (.inr (.inl e)))
     .rcases f9 B e with e | e
      .exact y (.inl (.inr (.inr e)))
      .omega
     .omega),b0.keep B (by omega) (by omega),a4.1.keep B (by omega) (fun O=>by
     rcases O with e | e | e
     .exact y (.inl (.inl e))
     .exact y (.inl (.inr (.inl e)))
     .rcases f3 B e with e | e
      .exact y (.inl (.inr (.inr e)))
      .omega)]
    exact i5.keep B K y
   .rw[a6];refine⟨rfl,m4,f2,j5++[M0],f8,d1,t6,S2,G1++G2++[M0],R2++R1,pps f7 (f8 - f7)++s7,t2,n7,n9,o0,m5,⟨t9,by omega⟩,by rw[k8,l9],fun _=>by simp only[nkeys];exact k11,by rw[h1,g4];simp,by simp;omega,by rw[zT,pps_len];omega,by omega,by omega, ?_, ?_, ?_, ?_,fun At z hp=>k9 At z (k7 At z hp),fun B K=> ?_⟩
    .rw[List.perm_iff_count]at j0 j6⊢;intro a;have x1:=j0 a;have x2:=j6 a;simp only[List.count_append]at x1 x2⊢;omega
    .rw[k6];rw[List.perm_iff_count]at g5 h2⊢;intro a;have x1:=g5 a;have x2:=h2 a;simp only[List.count_append,List.count_cons,List.count_nil]at x1 x2⊢;omega
    .rw[List.nodup_append];refine⟨pps_nodup _ _,m0,fun a ha b hb e=> ?_⟩;obtain⟨j,rfl,q1,q2⟩:=pps_mem ha;obtain⟨j',e',q3,q4⟩:=j4 b hb;rw[e']at e;have:=pp_inj e;omega
    .intro At hp;rcases zZ.1 hp with hp | hp
     .obtain⟨j,rfl,q1,q2⟩:=pps_mem hp;exact⟨j,rfl,by omega,by omega⟩
     .obtain⟨j,rfl,q1,q2⟩:=j4 At hp;exact⟨j,rfl,by omega,by omega⟩
    .rcases u5 B K with e | e
     .rcases f9 B e with e | e
      .exact .inl e
      .exact .inr (by omega)
     .exact .inr (by omega)
end Go.Eng.Sh
end
section
namespace Go.Eng
theorem freeN_mk {t:T AObj} : ∀(n A:Nat),(∀C,A<=C->t.get C=none)->freeN t A n=true
 | 0,_,_=>rfl
 | n+1,A,h=>by
  simp only[freeN,h A (zK _),fN_eq];exact freeN_mk n _ fun C a=>h C (by simp only[Nat.succ_eq_add_one]at a;omega)
theorem upsL_app: ∀ {l e:List (AV×AV)},(∀x∈l,findA x.1 e=none)->l.Pairwise (fun a b=>aveq b.1 a.1=false)->upsL e l=e++l
 | [],e,_,_=>by simp[upsL]
 | x::l,e,h,hp=>by
  rw[yJ]at hp;have f:ups e x=e++[x]:=by
   obtain⟨k,v⟩:=x;simp only[ups,Sh.setA_none (h (k,v) (zH ..))]
  have j: ∀ {k:AV} {a b:List (AV×AV)},findA k a=none->findA k b=none->findA k (a++b)=none:=by
   intro k a b
   induction a with
   | nil=>intro _ h;exact h
   | cons c a ih=>
    intro f m;simp only[qB,findA]at f⊢
    cases e:aveq k c.1 with
    | true=>rw[e]at f;cases f
    | false=>rw[e]at f;simp only[y9]at f⊢;exact ih f m
  simp only[upsL,f];rw[upsL_app (l:=l) (fun y i=>j (h y (zC _ i)) (by
   simp only[findA,hp.1 y i,y9])) hp.2]
  simp
end Go.Eng
namespace Go.Eng.Sh
open Go.Nd (Ptr sumL)
open Go.Bt
def cutsQ:PN->List Ptr->PN
 | q,[]=>q
 | q,p::gl=>cutsQ (if p.at_=1 then cutN p.sum.toNat q else q) gl
theorem cutsQ_snoc: ∀(gl:List Ptr) (q:PN) (p:Ptr),cutsQ q (gl++[p])=if p.at_=1 then cutN p.sum.toNat (cutsQ q gl)else cutsQ q gl
 | [],_,_=>rfl
 | _::gl,q,p=>by simp only[qB,cutsQ,cutsQ_snoc gl]
theorem cutN_len (s:Nat): ∀q:PN,(cutN s q).length<=q.length
 | []=>zK _
 | (t,n)::q=>by
  simp only[cutN];split
  .simp
  .have:=cutN_len s q;simp;omega
theorem cutN_mem (s:Nat): ∀ {q:PN} {x:Nat×Nd.Node},x∈cutN s q->x∈q
 | [],_,h=>h
 | (t,n)::q,x,h=>by
  simp only[cutN]at h;split at h
  .exact zC _ h
  .rcases zM.1 h with h | h
   .exact h▸zH ..
   .exact zC _ (cutN_mem s h)
theorem look_cutN {s t:Nat}(h:s≠t): ∀q:PN,lookN s (cutN t q)=lookN s q
 | []=>rfl
 | (a,n)::q=>by
  simp only[cutN];split
  .rename_i e;simp only[lookN];rw[if_neg (fun f=>h (f.symm.trans e))]
  .simp only[lookN,look_cutN h q]
theorem cutN_absent {s:Nat} : ∀ {q:PN},lookN s q=none->cutN s q=q
 | [],_=>rfl
 | (a,n)::q,h=>by
  simp only[lookN]at h;split at h
  .cases h
  .rename_i e;simp only[cutN,if_neg e,cutN_absent h]
theorem delA_absent {H:AH}{s:Nat} : ∀ {es:List (AV×AV)} {q:PN},Pend H es q->lookN s q=none->delA (.int .u64 (s:Nat)) es=none
 | [],[],_,_=>rfl
 | (k,v)::es,(t,nd)::q,h,hl=>by
  obtain⟨⟨rfl,_⟩,a⟩:=h;simp only[lookN]at hl;split at hl
  .cases hl
  .rename_i e;have f: ¬s=t:=fun h=>e h.symm
   simp only[delA,aveqU,f,decide_false,y9,delA_absent a hl]
 | [],_::_,h,_=>h.elim
 | _::_,[],h,_=>h.elim
theorem cutsQ_look {s:Nat} : ∀ {gl:List Ptr} {q:PN},(∀p∈gl,p.at_=1->s≠p.sum.toNat)->lookN s (cutsQ q gl)=lookN s q
 | [],_,_=>rfl
 | p::gl,q,h=>by
  rw[cutsQ,cutsQ_look fun p hp=>h p (zC _ hp)];by_cases e:p.at_=1
  .rw[if_pos e,look_cutN (h p (zH ..) e)]
  .rw[if_neg e]
theorem cutsQ_mem: ∀ {gl:List Ptr} {q:PN} {x:Nat×Nd.Node},x∈cutsQ q gl->x∈q
 | [],_,_,h=>h
 | p::gl,_,_,h=>by
  have a:=cutsQ_mem (gl:=gl) h;split at a
  .exact cutN_mem _ a
  .exact a
theorem cutsQ_len: ∀(gl:List Ptr) (q:PN),(cutsQ q gl).length<=q.length
 | [],_=>zK _
 | p::gl,q=>by
  refine qP (cutsQ_len gl _) ?_;split
  .exact cutN_len _ q
  .exact zK _
theorem lookN_some_mem {s:Nat}{a:Nd.Node} : ∀ {q:PN},lookN s q=some a->(s,a)∈q
 | [],h=>by cases h
 | (t,n)::q,h=>by
  simp only[lookN]at h;split at h
  .rename_i e;subst e;simp only[zB]at h;subst h;exact zH ..
  .exact zC _ (lookN_some_mem h)
theorem Pend.keys {H:AH} : ∀ {es:List (AV×AV)} {q:PN},Pend H es q-> ∀kv∈es,∃s,kv.1= .int .u64 ((s:Nat):Int)/\s∈q.map Prod.fst
 | [],[],_,_,h=>by simp at h
 | (k,v)::es,(t,nd)::q,hq,kv,a=>by
  rcases zM.1 a with rfl | a
  .exact⟨t,hq.1.1,by simp⟩
  .obtain⟨s,f,i⟩:=Pend.keys hq.2 kv a;exact⟨s,f,zC _ i⟩
 | [],_::_,h,_,_=>h.elim
 | _::_,[],h,_,_=>h.elim
theorem Pend.dist {H:AH} : ∀ {es:List (AV×AV)} {q:PN},Pend H es q->(q.map Prod.fst).Nodup->es.Pairwise (fun a b=>aveq b.1 a.1=false)
 | [],[],_,_=>List.Pairwise.nil
 | (k,v)::es,(t,nd)::q,hq,hd=>by
  simp only[y6,List.nodup_cons]at hd;rw[yJ];refine⟨fun kv f=> ?_,Pend.dist hq.2 hd.2⟩;obtain⟨s,i,j⟩:=Pend.keys hq.2 kv f;rw[i,hq.1.1,aveqU,yK];intro e;subst e;exact hd.1 j
 | [],_::_,h,_=>h.elim
 | _::_,[],h,_=>h.elim
theorem Pend.append {H:AH}{es':List (AV×AV)}{a:PN}(f:Pend H es' a): ∀ {es:List (AV×AV)} {q:PN},Pend H es q->Pend H (es++es') (q++a)
 | [],[],_=>f
 | _::es,_::q,h=>⟨h.1,Pend.append f h.2⟩
 | [],_::_,h=>h.elim
 | _::_,[],h=>h.elim
theorem Pend.isAg {H:AH}{es:List (AV×AV)}{q:PN}(h:Pend H es q):es.all (fun e=>keyOk [10] e.1&&Eng.isAg 4 e.2)=true:=by
 rw[qY];intro kv a;obtain⟨s,f,_⟩:=h.keys kv a;obtain⟨o,i⟩:=h.mem kv a;obtain⟨l,j,h3,m⟩:=i.cells;rw[f,j,keyU,Bool.true_and];simp only[Eng.isAg,lenL_zero,h3,m,yC,qJ]
noncomputable def AH.putB (H:AH)(A:Nat)(o:AObj)(k:Nat):AH:=⟨(H.put A o).h,H.next+k⟩
theorem putB_stp (A:k.ok)(m:i<k.next)(o:AObj)(H:Nat):Stp (fun B=>B=i) k (AH.putB k i o H)/\(AH.putB k i o H).h.get i=some o:=by
 have a: ∀B,(AH.putB k i o H).h.get B=if B=i then some o else k.h.get B:=fun B=>jO k i o B
 refine⟨⟨fun B f=> ?_, ?_,fun B _ j=> ?_⟩, ?_⟩
 .have f:k.next+H<=B:=f
  rw[a,if_neg (by omega)];exact A B (by omega)
 .show k.next<=k.next+H;omega
 .rw[a,if_neg j]
 .rw[a,if_pos rfl]
theorem upLp_run (j:k.ok)(m:k.h.get i=some (.map [10] H))(o:k.h.get A=some (.map [10] F))(M:i≠A)(hp:Pend k H e):
  upLp [10] 1 (isAg 4) (.map i) (.map A) k=some (AH.putB k A (.map [10] (upsL F H)) (1+1*H.length)):=by
 have hb:Nat.beq i A=false:=by rw[qX];intro h;exact M (Nat.eq_of_beq_eq_true h)
 simp only[upLp,m,o,show eqNL [10] [10]=true from rfl,hb,hp.isAg,Bool.not_false,qJ,zP,fN_eq,freeN_mk _ _ j,putA_ok,AH.putB,jM,Nat.add_assoc]
variable {E:Ev}
def Ev.drop (E:Ev)(gl:List Ptr):Ev:=⟨E.nb,E.ws,E.dl++gl.filter fun p=>decide (p.at_≠1),E.x⟩
theorem drop_len (E:Ev)(gl:List Ptr):(E.drop gl).dl.length<=E.dl.length+gl.length:=by
 simp only[Ev.drop,zT];have:=List.length_filter_le (fun p:Ptr=>decide (p.at_≠1)) gl;omega
theorem TI.dks (h:TI E k i A l J G H e p U)(s:Stp t k C)(f: ∀B,t B->B=i\/B=A\/Blk U B\/k.next<=B): ∃Ad On Nw wv ds,l= .ptr Ad 0/\DkI C Ad E.nb E.ws On Nw wv ds:=by
 obtain⟨Ad,On,Nw,wv,ds,rfl,hd⟩:=h.dk;have S: ∀ {B:Nat} {ks:List Nat} {x:List (AV×AV)},ks≠[10]->k.h.get B=some (.map ks x)-> ¬t B:=fun {B ks x} j g a=>by
  rcases f B a with H' | H' | H' | H'
  .rw[H',h.gT]at g;cases g
  .rw[H',h.gM]at g;simp only[zB,AObj.map.injEq]at g;exact j g.1.symm
  .exact jR h.dg g (fun _ _ H'=>by cases H') H'
  .have:=h.ok.lt g;omega
 refine⟨Ad,On,Nw,wv,ds,rfl,hd.stp h.ok s (fun a=> ?_) (S (by decide) hd.gO) (S (by decide) hd.gN) fun B m a=> ?_⟩
 .rcases f Ad a with H' | H' | H' | H'
  .have g:=hd.gD;rw[H',h.gT]at g;simp[treeC]at g
  .have g:=hd.gD;rw[H',h.gM]at g;cases g
  .exact jR h.dg hd.gD (fun _ _ H'=>by simp at H') H'
  .have:=h.ok.lt hd.gD;omega
 .have g:=hd.ow.get m;rcases f B a with H' | H' | H' | H'
  .rw[H',h.gT]at g;simp at g
  .rw[H',h.gM]at g;cases g
  .exact jR h.dg g (fun _ _ H'=>by simp at H') H'
  .have:=h.ok.lt g;omega
theorem dl_any {s:Nat}(f:k.ok)(a:k.h.get i=some (.map [10] H))(hp:Pend k H e):
  ∃es' H',dlM [10] (.map i) (.int .u64 (s:Nat)) k=some (.tuple [],H')/\H'.h.get i=some (.map [10] es')/\Pend H' es' (cutN s e)/\Stp (fun B=>B=i) k H'/\ ∀kv∈es',kv∈H:=by
 cases hl:lookN s e with
 | none=>
  refine⟨H,k, ?_,a,by rw[cutN_absent hl];exact hp,jV f,fun _ h=>h⟩;simp only[dlM,keyU,a,show eqNL [10] [10]=true from rfl,zP,delA_absent hp hl]
 | some nd=>
  obtain⟨es',m,o,p⟩:=hp.del s nd hl;have M:Stp (fun B=>B=i) k (k.put i (.map [10] es')):=(jV f).put (f.lt a) _ (.inr rfl);refine⟨es',k.put i (.map [10] es'), ?_,by rw[jO,if_pos rfl],o.frame fun kv u v j=>j.stp M fun B t es=> ?_,M,p⟩
  .simp only[dlM,keyU,a,show eqNL [10] [10]=true from rfl,zP,m,putA_ok]
  .subst es;exact j.nblk a (.inr (.inl ⟨_,_,rfl⟩)) t
theorem filter_snoc {α:Type}(f:α->Bool)(l:List α)(a:α):(l++[a]).filter f=l.filter f++(if f a then[a]else[]):=by
 rw[jF];cases h:f a<;>simp[h]
theorem done_ok{root:Ptr}(j:TI E k i s l J G H e I U)(hq: ∀M c,lookN M e=some c->M<=I)
  (u:Ch (XE E U) k C i A p F Q f h I L) (g7: ∀N∈h,0<=N.sum) (hl:L<=900000000) (y:h.length<n) (j6:e.length<=I) (j7:E.dl.length+h.length<=900000000):
  ∃H' es' c6,f64 D n [.ptr A 0, .agg (ptrV root)] C=some (.tuple [],H')/\TI (E.drop h) H' i s l J root es' (cutsQ e h++Q) L c6/\Stp (fun B=>B=i\/B=s\/Blk U B) k H'/\ ∀B,Blk c6 B->Blk U B\/k.next<=B:=by
 have g8:=j.prs u.prs;have j4:=u.few;obtain⟨Ad,od,hd⟩:=j.hd;obtain⟨H1,A3,b1,p1,g1,m1,n1⟩:=box u.prs.ok (.cells (ptrV root) 38 1 false);have W:=u.step p1;have a0:=g8.prs p1;have j5:i<k.next:=j.ok.lt j.gT
 have j9:s<k.next:=j.ok.lt j.gM
 have f1: ∀B,Blk U B->B<k.next:=fun B a=>j.dg.lt a
 have N0:=u.prs.next;have N1:=p1.next
 have cC:=u.dC;have cF:=u.dF;have lC:=u.ltC;have lF:=u.ltF;have a6:i≠s:=fun q=>by have:=j.gT;rw[q,j.gM]at this;cases this
 have nS: ∀B,k.next<=B-> ¬(B=s\/B=i\/Blk U B):=fun B a g=>by
  rcases g with q | q | q
  .omega
  .omega
  .have:=f1 B q;omega
 have k0: ¬Blk U s:=jR j.dg j.gM (fun _ _ q=>by cases q);have k1: ¬Blk U i:=jR j.dg j.gT (fun _ _ q=>by simp at q);have c7: ∀kv∈H,∀B,blkN kv.2 B->B<k.next:=fun kv z B a=>by
  obtain⟨c8,b3⟩:=j.pq.mem kv z;exact b3.lt a
 have lp:=loop_inv (b:=f64l1 D n) h.length (fun At us H'=>us=[.ptr A 0, .ptr A3 0, .ptr i 0,f, .int .i64 (h.length:Nat), .int .i64 (At:Nat)]/\Stp (fun B=>B=s\/B=i\/Blk U B) H1 H'/\ ∃a3 dr,H'.h.get s=some (.map [10] a3)/\Pend H' a3 (cutsQ e (h.take At))/\H'.h.get i=some (.cells (treeC l J G s I dr) 82 1 false)/\
   Grow 3 38 H' dr (E.drop (h.take At)).dl.length ((E.drop (h.take At)).dl.flatMap ptrV)/\(∀B,Blk dr B->Blk U B\/H1.next<=B)/\ ∀kv∈a3,kv∈H) (fun At us H' hi ⟨g9,st,a3,dr,hM,hp,gT,dg,db,hes⟩=>by
  subst g9;have h0:h[At]∈h:=yH hi;obtain⟨N,c9⟩: ∃N,N=h[At]:=⟨_,rfl⟩;have d0:=g7 _ h0;have og:Own 3 38 H' f h.length (h.flatMap ptrV):=W.gg.mono st fun B a=>nS B (u.gN B a)
  obtain⟨pq,i1,i2⟩:=Ptrs.at (l:=h) og.row hi;rw[<-c9]at i2 d0;have a9:h.take (At+1)=h.take At++[N]:=by rw[qH hi,c9]
  obtain⟨t,A6,b2,p2,g2,m2,n2⟩:=box st.ok (.cells [.int .i64 (0:Nat), .int .i64 (0:Nat), .int .u64 (0:Nat)] 38 1 false);obtain⟨H0,e3,g3,O,n3⟩:=st_all p2.ok g2 (l':=ptrV N) rfl rfl;have d4:stN 3 (.ptr A6 0) (.agg (ptrV N)) t=some (undefA,H0):=e3;have N2:=st.next;have N3:=p2.next
  have K:Prs H' H0:=p2.fresh O (fun B a=>by omega);have N4:=K.next
  have b0:=jY K st.ok hM;have Y:=jY K st.ok gT;have a4:=dg.mono K fun _ _ x=>x
  have d5:=hp.frame fun kv _ c y=>y.prs K
  have d6:((At:Nat):Int)< (h.length:Int):=by omega
  have f0:ld1 (.ptr A6 0) H0=some (.int .i64 N.at_):=by rw[ld1_get g3];rfl
  have f2:ld1 (.ptr A6 2) H0=some (.int .u64 N.sum.toNat):=by
   rw[ld1_get g3,Int.toNat_of_nonneg d0];rfl
  have f3:ldN 3 (.ptr A6 0) H0=some (.agg (ptrV N)):=by rw[ldN_get g3];rfl
  have f5:ld1 (.ptr i 5) H0=some (.map s):=by rw[ld1_get Y];rfl
  have f7:ld1 (.ptr i 7) H0=some dr:=by rw[ld1_get Y];rfl
  by_cases h1:N.at_=1
  .obtain⟨h6,gl,e4,h7,h8,S,f4⟩:=dl_any (s:=N.sum.toNat) K.ok b0 d5;have b5:N.at_=((1:Nat):Int):=h1;have h9:gl.h.get i=some (.cells (treeC l J G s I dr) 82 1 false):=by
    rw[S.keep _ (by omega) a6];exact Y
   have b6:E.drop (h.take (At+1))=E.drop (h.take At):=by
    rw[a9,Ev.drop,Ev.drop,filter_snoc,if_neg (by simpa using h1),qG]
   refine⟨_,gl, ?_,rfl,(st.trans (K.mono fun _ _ x=>x.elim)).trans (S.mono fun _ _ x=> .inl x),h6,dr,h7, ?_,h9, ?_,db,fun kv z=>hes kv (f4 kv z)⟩
   .simp(maxSteps:=999999)(disch:=omega) only[f64l1,eZ,d6,i1,i2,b2,d4,f0,b5,f5,f2,e4,f64j0,y7]
   .rw[a9,cutsQ_snoc,if_pos h1];exact h8
   .rw[b6];exact a4.mono S fun B a q=>by subst q;exact jR a4 b0 (fun _ _ q=>by cases q) a
  .have b5: ¬N.at_=((1:Nat):Int):=h1;obtain⟨gl,A7,b4,Z,g4,m4,n4⟩:=box K.ok (.cells (ptrV N) 38 3 false);have a5:=a4.mono Z fun _ _ x=>x
   have f6:srcOf 3 (.slice A7 0 1 2) gl=some (1,ptrV N):=by simp only[srcOf,g4];rfl
   have f8:=drop_len E (h.take At);rw[qA]at f8;obtain⟨b7,H5,e5,a7,es,i0⟩:=a5.app (bytes:=24) (m:=1) (new:=ptrV N) Z.ok (by decide) f6 rfl rfl (by omega) (by decide);have M4:=Z.next;have M5:=es.next
   have i3: ¬Blk dr i:=jR a5 (jY Z K.ok Y) (fun _ _ q=>by simp at q);have i4: ¬Blk dr s:=jR a5 (jY Z K.ok b0) (fun _ _ q=>by cases q);have b8:H5.h.get i=some (.cells (treeC l J G s I dr) 82 1 false):=by
    rw[es.keep _ (by omega) i3];exact jY Z K.ok Y
   obtain⟨H6,e6,g6,s6,n6⟩:=st_fld es.ok b8 (o:=7) (x:=b7) a7.isCell (by simp[treeC]);have g6:H6.h.get i=some (.cells (treeC l J G s I b7) 82 1 false):=g6;have i5:H6.h.get s=some (.map [10] a3):=by
    rw[s6.keep _ (by omega) (fun q=>a6 q.symm),es.keep _ (by omega) i4];exact jY Z K.ok b0
   have b6:(E.drop (h.take (At+1))).dl=(E.drop (h.take At)).dl++[N]:=by
    simp only[a9,Ev.drop,filter_snoc];rw[if_pos (by simpa using h1),qC]
   have e1:=bldQ 38 N [.int .i64 (0:Nat), .int .i64 (0:Nat), .int .u64 (0:Nat)] rfl;have i6:Stp (fun B=>B=s\/B=i\/Blk U B) H1 H6:=by
    refine Stp.thr (Stp.thr (st.trans ((K.trans Z).mono fun _ _ x=>x.elim)) es fun B q=> ?_) s6 fun B q=> .inr (.inr (.inl q))
    rcases db B q with x | x
    .exact .inr (.inr (.inr x))
    .exact .inl x
   refine⟨_,H6, ?_,rfl,i6,a3,b7,i5, ?_,g6, ?_,fun B a=> ?_,hes⟩
   .simp(maxSteps:=999999)(disch:=omega) only[f64l1,eZ,d6,i1,i2,b2,d4,f0,b5,f7,f3,e1,b4,e5,e6,f64j0,y7]
   .rw[a9,cutsQ_snoc,if_neg h1];refine d5.frame fun kv z c y=> ?_
    have hk:=hes kv z;have h5:NodeG H5 kv.2 c:=(y.prs Z).stp es fun B a q=>by
     rcases db B q with x | x
     .exact j.ds kv hk B a (.inl x)
     .have:=c7 kv hk B a;omega
    exact h5.stp s6 fun B a q=>by
     subst q;exact h5.nblk b8 (.inl ⟨_,_,_,_,rfl,fun _ _ q=>by rw[hd]at q;cases q⟩) a
   .rw[b6,zT,jB];have e2:[N].flatMap ptrV=ptrV N:=by simp
    rw[e2];exact a7.mono s6 fun B a q=>by subst q;exact jR a7 b8 (fun _ _ q=>by simp at q) a
   .rcases i0 B a with q | q
    .exact db B q
    .exact .inr (by omega)) n _ H1 ⟨rfl,jV p1.ok,H,U,a0.gM,by simpa[cutsQ]using a0.pq,a0.gT,by simpa[Ev.drop]using a0.dg,fun B a=> .inl a,fun _ g=>g⟩ y
 obtain⟨m,us,t,e2,rfl,st,a8,V,hM,hp,d7,b9,c4,f9⟩:=lp;rw[j8]at hp b9;have N2:=st.next
 have e8:loopK (m+1) (f64l1 D n) [.ptr A 0, .ptr A3 0, .ptr i 0,f, .int .i64 (h.length:Nat), .int .i64 (h.length:Nat)] t=some (.exit 0 [.ptr A 0, .ptr A3 0, .ptr i 0],t):=loop_exit (by simp only[f64l1,eZ,yA]);have d8:t.h.get A=some (.cells [.ptr i 0, .int .u64 (L:Nat), .map p,f] 120 1 false):=by rw[st.keep _ (by omega) (nS _ (by omega))];exact W.gC
 have i7:t.h.get p=some (.map [10] F):=by rw[st.keep _ (by omega) (nS _ (by omega))];exact W.gF
 have i8:t.h.get A3=some (.cells (ptrV root) 38 1 false):=by rw[st.keep _ (by omega) (nS _ (by omega))];exact g1
 have j3: ∀d:List AV,∀x:AV,∀b,treeC l J G s I x≠ .str d.length b::d:=fun d x b q=>by
  rw[hd]at q;simp[treeC]at q
 have d9:Pend t F Q:=W.pf.frame fun kv z c y=>y.stp st fun B a q=>by
  rcases q with q | q | q
  .subst q;exact y.nblk a0.gM (.inr (.inl ⟨_,_,rfl⟩)) a
  .subst q;exact y.nblk a0.gT (.inl ⟨_,_,_,_,rfl,fun _ _ q=>by rw[hd]at q;cases q⟩) a
  .exact u.gx kv z B a (.inl q)
 have c5:=upLp_run st.ok i7 hM (by omega) d9;have e9: ∀x∈F,findA x.1 a8=none:=fun x hx=>by
  obtain⟨M,hs,hm⟩:=W.pf.keys x hx;rw[hs];refine(hp.find M).2 ?_
  cases hk:lookN M (cutsQ e h)with
  | none=>rfl
  | some c8=>
   have m1:=cutsQ_mem (lookN_some_mem hk);obtain⟨k2,h3⟩:=lookN_mem (q:=e) (s:=M) (qM.2 ⟨_,m1,rfl⟩);obtain⟨k3,h4⟩:=lookN_mem hm;have:=hq _ _ h3;have:=u.fs _ _ h4;omega
 rw[upsL_app e9 (W.pf.dist u.fd)]at c5;obtain⟨O,e0⟩:=putB_stp st.ok (st.ok.lt hM) (.map [10] (a8++F)) (1+1*F.length);have e7:t.next<=(AH.putB t s (.map [10] (a8++F)) (1+1*F.length)).next:=O.next
 generalize AH.putB t s (.map [10] (a8++F)) (1+1*F.length)=H0 at c5 O e0 e7;have i9:mt64_0 [.ptr A 0, .ptr A3 0, .ptr i 0] t=some H0:=by
  have c1:ld1 (.ptr A (0+2)) t=some (.map p):=by rw[ld1_get d8];rfl
  have c2:ld1 (.ptr i (0+5)) t=some (.map s):=by rw[ld1_get d7];rfl
  have d1:Nat.blt p t.next=true:=by rw[q9];omega
  have d2:Nat.blt s t.next=true:=by rw[q9];omega
  have d3:Nat.blt i t.next=true:=by rw[q9];omega
  simp only[mt64_0,c1,c2,d1,d2,d3,qJ,zP,c5]
 have j0:H0.h.get A=some (.cells [.ptr i 0, .int .u64 (L:Nat), .map p,f] 120 1 false):=by rw[O.keep _ (by omega) (by omega)];exact d8
 have Y:H0.h.get i=some (.cells (treeC l J G s I V) 82 1 false):=by rw[O.keep _ (by omega) a6];exact d7
 have j1:H0.h.get A3=some (.cells (ptrV root) 38 1 false):=by rw[O.keep _ (by omega) (by omega)];exact i8
 obtain⟨gl,e4,g4,S,n4⟩:=st_fld O.ok Y (o:=6) (x:= .int .u64 (L:Nat)) rfl (by simp[treeC]);have g4:gl.h.get i=some (.cells (treeC l J G s L V) 82 1 false):=g4;have j2:gl.h.get A3=some (.cells (ptrV root) 38 1 false):=by rw[S.keep _ (by omega) (by omega)];exact j1
 have e5:=stN_ok (o:=2) (n:=3) (x:= .agg (ptrV root)) g4 (by decide) rfl rfl (by simp[treeC]);have g5:(gl.put i (.cells ((treeC l J G s L V).take 2++cellsA (.agg (ptrV root))++(treeC l J G s L V).drop (2+3)) 82 1 false)).h.get i=some (.cells (treeC l J root s L V) 82 1 false):=by rw[jO,if_pos rfl];rfl
 have es:Stp (fun B=>B=i) gl (gl.put i (.cells ((treeC l J G s L V).take 2++cellsA (.agg (ptrV root))++(treeC l J G s L V).drop (2+3)) 82 1 false)):=(jV S.ok).put (S.ok.lt g4) _ (.inr rfl);generalize gl.put i (.cells ((treeC l J G s L V).take 2++cellsA (.agg (ptrV root))++(treeC l J G s L V).drop (2+3)) 82 1 false)=H5 at e5 g5 es;have N3:=O.next;have N4:=S.next;have N5:=es.next
 have fr: ∀ {v:AV} {c:Nd.Node},NodeG t v c->NodeG H5 v c:=fun {v c} y=>by
  have h3:NodeG H0 v c:=y.stp O fun B a q=>by subst q;exact y.nblk hM (.inr (.inl ⟨_,_,rfl⟩)) a
  have h4:NodeG gl v c:=h3.stp S fun B a q=>by subst q;exact h3.nblk Y (.inl ⟨_,_,_,_,rfl,fun _ _ q=>by rw[hd]at q;cases q⟩) a
  exact h4.stp es fun B a q=>by subst q;exact h4.nblk g4 (.inl ⟨_,_,_,_,rfl,fun _ _ q=>by rw[hd]at q;cases q⟩) a
 have a4:=b9.mono O fun B a q=>by subst q;exact jR b9 hM (fun _ _ q=>by cases q) a
 have a5:=a4.mono S fun B a q=>by subst q;exact jR a4 Y (fun _ _ q=>by simp at q) a
 have a7:=a5.mono es fun B a q=>by subst q;exact jR a5 g4 (fun _ _ q=>by simp at q) a
 have T5:Stp (fun B=>B=i\/B=s\/Blk U B) k H5:=⟨es.ok,by omega,fun B a hS=>by
  have a1: ¬B=i:=fun q=>hS (.inl q)
  have a2: ¬B=s:=fun q=>hS (.inr (.inl q))
  rw[es.keep B (by omega) a1,S.keep B (by omega) a1,O.keep B (by omega) a2,st.keep B (by omega) (fun x=>by
   rcases x with x | x | x
   .exact a2 x
   .exact a1 x
   .exact hS (.inr (.inr x))),p1.keep B (by omega) (fun x=>x),u.prs.keep B a (fun x=>x)]⟩
 refine⟨H5,a8++F,V, ?_,⟨es.ok,g5, ?_, ?_, ?_,j.cn,a7,fun kv z B a hb=> ?_, ?_,fun B a=>qF (j.xl B a) T5.next⟩,T5,fun B a=> ?_⟩
 .have g0:Nat.ble t.next H0.next=true:=by rw[qO];exact e7
  have c0:ld1 (.ptr A 0) H1=some (.ptr i 0):=by rw[ld1_get W.gC];rfl
  have c3:ld1 (.ptr A 3) H1=some f:=by rw[ld1_get W.gC];rfl
  have c1:ld1 (.ptr A 1) H0=some (.int .u64 (L:Nat)):=by rw[ld1_get j0];rfl
  have r3:ldN 3 (.ptr A3 0) gl=some (.agg (ptrV root)):=by rw[ldN_get j2];rfl
  simp(maxSteps:=999999)(disch:=omega) only[f64,eZ,b1,c0,c3,W.gg.row.lnSl,e2,e8,f64b2,i9,tld,g0,zP,c1,e4,r3,e5]
 .rw[es.keep _ (by omega) (fun q=>a6 q.symm),S.keep _ (by omega) (fun q=>a6 q.symm)];exact e0
 .exact Pend.append (d9.frame fun kv _ c y=>fr y) (hp.frame fun kv _ c y=>fr y)
 .exact j.dks T5 fun B a=>by
   rcases a with q | q | q
   .exact .inl q
   .exact .inr (.inl q)
   .exact .inr (.inr (.inl q))
 .rcases zZ.1 z with z | z
  .have hk:=f9 kv z;rcases hb with hb | hb
   .rcases c4 B hb with q | q
    .exact j.ds kv hk B a (.inl q)
    .have:=c7 kv hk B a;omega
   .exact j.ds kv hk B a (.inr hb)
  .rcases hb.imp (c4 B) id with(q | q) | q
   .exact u.gx kv z B a (.inl q)
   .obtain⟨c8,b3⟩:=u.pf.mem kv z;have:=b3.lt a;omega
   .exact u.gx kv z B a (.inr q)
 .have h1:=cutsQ_len h e;have h2:=u.fl;simp only[zT];omega
 .rcases c4 B a with q | q
  .exact .inl q
  .exact .inr (by omega)
end Go.Eng.Sh
end
section
namespace Go.Bt
open Go.Nd (Str Kvs Ptr leafOf)
theorem WF.wr: ∀ {h:Nat} {t:Tr h},WF h none none t->WR h t
 | 0,_,w=>w
 | _+1,_,w=>⟨w.1,w.2.1,w.2.2.2⟩
theorem WX.wr: ∀ {h:Nat} {t:Tr h},WX h none none t->(match h,t with | 0,l=>(l:Kvs)≠[] | _+1,t=>t.1≠[])->tsize h t<=500->WR h t
 | 0,_,w,hne,hz=>⟨w.1,hne,hz⟩
 | _+1,_,w,hne,hz=>⟨w.1,hne,hz⟩
end Go.Bt
namespace Go.Eng.Sh
open Go.Nd (Ptr sumL leafOf Kvs)
open Go.Bt
variable {E:Ev}{X:Nat->Prop}
def pZ:Ptr:=⟨((0:Nat):Int),((0:Nat):Int),((0:Nat):Int)⟩
def dsk (T:List Ptr):List Ptr:=T.filter fun p=>decide (p.at_≠1)
theorem dsk_app (a b:List Ptr):dsk (a++b)=dsk a++dsk b:=jF ..
theorem dsk_pp (T: ∀p∈h,∃j,p=pp j):dsk h=[]:=List.filter_eq_nil_iff.2 fun p hp=>by
 obtain⟨j,rfl⟩:=T p hp;simp[pp]
def cp (l:List Ptr):Nat:=(l.filter fun p=>decide (p.at_=1)).length
theorem cp_nil:cp []=0:=rfl
theorem cp_cons (p:Ptr)(l:List Ptr):cp (p::l)=(if p.at_=1 then 1 else 0)+cp l:=by
 by_cases e:p.at_=1
 .simp[cp,e];omega
 .simp[cp,e]
theorem cp_app (a b:List Ptr):cp (a++b)=cp a+cp b:=by simp[cp,jF]
theorem cp_perm (a:h.Perm M):cp h=cp M:=(a.filter _).length_eq
theorem cp_pp (l: ∀p∈h,∃j,p=pp j):cp h=h.length:=by
 rw[cp,List.filter_eq_self.2 fun p hp=> ?_];obtain⟨j,rfl⟩:=l p hp;simp[pp]
theorem cutN_len1 {s:Nat}{f:Nd.Node} : ∀ {q:PN},lookN s q=some f->(cutN s q).length+1=q.length
 | [],h=>by cases h
 | (a,n)::q,h=>by
  simp only[lookN]at h;simp only[cutN];by_cases e:a=s
  .rw[if_pos e];rfl
  .rw[if_neg e]at h⊢;have:=cutN_len1 h;simp only[zV];omega
theorem cutsQ_cp: ∀ {gl:List Ptr} {q:PN},gl.Nodup->(∀p∈gl,p.at_=1-> ∃s f,p=pp s/\lookN s q=some f)->(cutsQ q gl).length+cp gl<=q.length
 | [],q,_,_=>by simp[cutsQ,cp]
 | p::gl,q,hn,h=>by
  obtain⟨j,a⟩:=List.nodup_cons.1 hn;rw[cutsQ,cp_cons];by_cases e:p.at_=1
  .rw[if_pos e,if_pos e];obtain⟨s,f,rfl,u⟩:=h p (zH ..) e;have m:(pp s).sum.toNat=s:=by simp[pp]
   rw[m];have z:=cutN_len1 u;have C:=cutsQ_cp a (q:=cutN s q) fun r hr v=>by
    obtain⟨i,o,rfl,x⟩:=h r (zC _ hr) v;have t:i≠s:=fun y=>j (y▸hr)
    exact⟨i,o,rfl,by rw[look_cutN t];exact x⟩
   omega
  .rw[if_neg e,if_neg e];have:=cutsQ_cp a (q:=q) fun r hr=>h r (zC _ hr)
   omega
theorem end_cp {Fr R:List Ptr}(v:M.Perm (h++R))(t:Y.Perm (Fr++R))(x:(h++R).Nodup)(u: ∀p∈h,∃gl,Qf E e [] p=some gl)(y: ∀p∈Fr,∃j,p=pp j)(fl:Q.length+i<=A)(C:i+Fr.length=A)(z:e.length<=cp M):(cutsQ e h++Q).length<=cp Y:=by
 have a:=cutsQ_cp (q:=e) (List.nodup_append.1 x).1 fun p hp q=>by
  obtain⟨gl,f⟩:=u p hp;obtain⟨s,rfl,a | ⟨_,a⟩⟩ | ⟨_,a⟩:=Qf_inv f
  .simp[lookN]at a
  .exact⟨s,gl,rfl,a⟩
  .have:=(kidOk_K a).2;omega
 rw[cp_perm v,cp_app]at z;rw[cp_perm t,cp_app,cp_pp y,zT];omega
theorem dsk_drop (E:Ev){Fr R:List Ptr}(T:h.Perm (Y++R))(o:M.Perm (Fr++R))(q: ∀p∈Fr,∃j,p=pp j):(dsk M++(E.drop Y).dl).Perm (dsk h++E.dl):=by
 have m:(dsk h).Perm (dsk (Y++R)):=T.filter _;have f:(dsk M).Perm (dsk (Fr++R)):=o.filter _;rw[dsk_app]at m f;rw[dsk_pp q,qV]at f;have h3:(E.drop Y).dl=E.dl++dsk Y:=rfl;rw[h3];rw[List.perm_iff_count]at m f⊢;intro a;have s:=m a;have t:=f a;simp only[List.count_append]at s t⊢;omega
def RootIs (E:Ev)(q:PN)(root:Ptr)(kv:Kvs)(T:List Ptr):Prop:=(root=pZ/\kv=[]/\T=[])\/ ∃h a,∃t:Bt.Tr h,∃S:List Ptr,Qf E q [] root=some a/\RepN (Qf E q []) h a t S/\WR h t/\(root::S).Nodup/\con h t=kv/\T=root::S
theorem RepL.here {α:Type}{Q:Ptr->Option Nd.Node}{R:Nd.Node->α->List Ptr->Prop}(hr: ∀f t S,R f t S-> ∀p∈S,∃f,Q p=some f): ∀ {j:List Ptr} {ts:List α} {S:List Ptr},RepL Q R j ts S-> ∀p∈S,∃f,Q p=some f
 | [],[],_,h=>by subst h;simp
 | p::j,t::ts,_,⟨f,S1,S2,a,b,c,e⟩=>fun x i=>by
  subst e;rcases zM.1 i with rfl | i
  .exact⟨f,a⟩
  .rcases zZ.1 i with i | i
   .exact hr _ _ _ b x i
   .exact RepL.here hr c x i
 | [],_::_,_,h=>h.elim
 | _::_,[],_,h=>h.elim
theorem RepN.here {Q:Ptr->Option Nd.Node} : ∀ {h:Nat} {a:Nd.Node} {t:Bt.Tr h} {S:List Ptr},RepN Q h a t S-> ∀p∈S,∃a,Q p=some a
 | 0,_,_,_,w=>by obtain⟨_,rfl⟩:=w;simp
 | h+1,_,_,_,w=>RepL.here (fun _ _ _ hr=>RepN.here hr) w.2.2.2
theorem rep_end {q f:PN}{gl T Fr R:List Ptr}{o:Nat}(t: ∀s m,lookN s q=some m->s<=o)(K: ∀s m,lookN s f=some m->o<s)(x:T.Perm (Fr++R))(L:(gl++R).Nodup)(F: ∀p∈gl,∃m,Qf E q [] p=some m)(u: ∀p∈Fr,∃j,p=pp j/\o<j)(G:Fr.Nodup)(hR: ∀p∈R,∃m,Qf E q [] p=some m):
  T.Nodup/\ ∀p∈T,∀m,Qf E q f p=some m->Qf E (cutsQ q gl++f) [] p=some m:=by
 have z: ∀s,pp s∈R->s<=o:=fun s hp=>by
  obtain⟨m,h⟩:=hR _ hp;obtain⟨y,e,i | ⟨_,i⟩⟩ | ⟨i,_⟩:=Qf_inv h
  .simp[lookN]at i
  .have:=pp_inj e;subst this;exact t _ _ i
  .exact absurd rfl (i s)
 obtain⟨_,I,C⟩:=List.nodup_append.1 L;refine⟨x.nodup_iff.2 (List.nodup_append.2 ⟨G,I,fun a M b hb e=> ?_⟩),fun p hp m h=> ?_⟩
 .obtain⟨j,rfl,N⟩:=u a M;subst e;have:=z j hb;omega
 .obtain⟨s,rfl,i | ⟨Y,i⟩⟩ | ⟨i,O⟩:=Qf_inv h
  .rw[Qf_pp];simp only[lookN];have Q:=K _ _ i;rw[lookN_app]
   cases S:lookN s (cutsQ q gl)with
   | none=>exact i
   | some n2=>
    obtain⟨Z,h3⟩:=lookN_mem (qM.2 ⟨_,cutsQ_mem (lookN_some_mem S),rfl⟩);have:=t _ _ h3;simp only at this;omega
  .rw[Qf_pp];simp only[lookN];have Q:=t _ _ i;have J:pp s∈R:=by
    rcases zZ.1 (x.mem_iff.1 hp)with e | e
    .obtain⟨j,e,N⟩:=u _ e;have:=pp_inj e;omega
    .exact e
   rw[lookN_app,cutsQ_look fun U v e1 e=> ?_,i];obtain⟨W,V⟩:=F U v;obtain⟨y,rfl,_⟩ | ⟨_,hd⟩:=Qf_inv V
   .have:s=y:=by simpa[pp]using e
    subst this;exact C _ v _ J rfl
   .have:=(kidOk_K hd).2;omega
  .rw[Qf_disk i];exact O
theorem look_end (m: ∀s a,lookN s e=some a->s<=i)(o: ∀s a,lookN s Q=some a->i<s/\s<=A)(hl:i<=A): ∀s a,lookN s (cutsQ e h++Q)=some a->s<=A:=fun s a q=>by
 rw[lookN_app]at q
 cases j:lookN s (cutsQ e h)with
 | none=>rw[j]at q;exact(o _ _ q).2
 | some n2=>
  obtain⟨p,h3⟩:=lookN_mem (qM.2 ⟨_,cutsQ_mem (lookN_some_mem j),rfl⟩);have:=m _ _ h3;simp only at this;omega
theorem RepL.perm_one {α:Type}{R:Nd.Node->α->List Ptr->Prop}{t:α}(Q:RepL B R h [t] M): ∃p f i,h=[p]/\B p=some f/\R f t i/\M=p::i:=by
 match h,Q with
 | [p],⟨f,i,S2,a,b,c,e⟩=>exact⟨p,f,i,rfl,a,b,by simp only[RepL]at c;rw[e,c,qG]⟩
 | _::_::_,⟨_,_,_,_,_,c,_⟩=>exact c.elim
 | [],Q=>exact Q.elim
theorem CutsN.one_inv {i:List Str}(h:CutsN w P i)(j:Nd.size w<=500):P=[w]/\i=[]:=by
 cases h with
 | one _=>exact⟨rfl,rfl⟩
 | more h1=>omega
theorem CutsN.more_inv {f:List Str}(h:CutsN w P f)(j:500<Nd.size w):f≠[]:=by
 cases h with
 | one h1=>omega
 | more h1=>simp
end Go.Eng.Sh
end
section
namespace Go.Eng.Sh
open Go.Nd (Ptr sumL leafOf Kvs)
open Go.Bt
variable {E:Ev}
def Done (E:Ev)(H0 H':AH)(At M:Nat)(d c dr:AV)(low h:Nat)(kv:Kvs)(T:List Ptr):Prop:= ∃gl root es q last f a,TI (E.drop gl) H' At M d c root es q last f/\Stp (fun B=>B=At\/B=M\/Blk dr B) H0 H'/\(∀B,Blk f B->Blk dr B\/H0.next<=B)/\(∀s i,lookN s q=some i->s<=last)/\(q.length<=last/\q.length<=cp a)/\low<=last/\last<=h/\RootIs E q root kv a/\(dsk a++(E.drop gl).dl).Perm (dsk T++E.dl)/\gl.length<=100
theorem Done.mono (At:Done E k C i A l J U p I N h)(hl:s<=p)(t:I<=L):Done E k C i A l J U s L N h:=by
 obtain⟨gl,root,es,q,last,j,m,o,H0,h3,H',h5,h6,h7,h8,h9,h10⟩:=At;exact⟨gl,root,es,q,last,j,m,o,H0,h3,H',h5,by omega,by omega,h8,h9,h10⟩
theorem Qf_sum (h:Qf E e Q G=some w):0<=G.sum:=by
 obtain⟨s,rfl,_⟩ | ⟨_,j⟩:=Qf_inv h
 .simp[pp]
 .obtain⟨a,birth,kind,body,rfl,_⟩:=jU.1 j;simp[ptrB]
theorem done_zero(N:TI E k i s l J G H e I U)(u: ∀d j,lookN d e=some j->d<=I)
  (At:Ch (XE E U) k C i A p F Q f h I L) (m: ∀t∈h,∃j,Qf E e [] t=some j) (hl:L<=900000000) (O:h.length<n) (y:e.length<=I) (z:E.dl.length+h.length<=900000000) (o:M.Perm h) (H0:h.length<=100) (v:e.length<=cp M) (g:I=L) (c:h.Nodup):
  ∃H',f64 D n [.ptr A 0, .agg [.int .i64 (0:Nat), .int .i64 (0:Nat), .int .u64 (0:Nat)]] C=some (.tuple [],H')/\Done E k H' i s l J U L L [] M:=by
 obtain⟨H',es',K,es,gl,st,q⟩:=done_ok D n (root:=pZ) N u At (fun t hp=>(m t hp).elim fun j x=>Qf_sum x) hl O y z;refine⟨H',es,h,_,_,_,L,K,[],gl,st,q,look_end u At.fs At.le, ?_,zK _,zK _, .inl ⟨rfl,rfl,rfl⟩,dsk_drop E (R:=[]) (Fr:=[]) (by simpa using o) (by simp) (by simp),H0⟩;refine⟨?_,end_cp (E:=E) (R:=[]) (Fr:=[]) (by simpa using o) (by simp) (by simpa using c) m (by simp) At.fl (by simpa using g) v⟩;have S:=cutsQ_len h e;have dr:=At.fl;simp only[zT];omega
theorem done_root{h:Nat}{rp:Ptr}{Fr R T:List Ptr}{t:Bt.Tr h}{S:List Ptr}(Y:TI E k i s l J G H e I U)(v: ∀z w,lookN z e=some w->z<=I)
  (m:Ch (XE E U) k C i A p F Q f M I L) (o: ∀At∈M,∃w,Qf E e [] At=some w) (hl:L<=900000000) (Z:M.length<n) (d:e.length<=I) (K:E.dl.length+M.length<=900000000)
  (hs:Qf E e Q rp=some w) (rn:RepN (Qf E e Q) h w t S) (wr:WR h t) (x:(rp::S).Perm (Fr++R)) (H0:(M++R).Nodup) (u: ∀At∈Fr,∃j,At=pp j/\I<j) (q:Fr.Nodup) (hR: ∀At∈R,∃w,Qf E e [] At=some w) (y:T.Perm (M++R)) (N:M.length<=100) (O:e.length<=cp T) (es:I+Fr.length=L):
  ∃H',f64 D n [.ptr A 0, .agg (ptrV rp)] C=some (.tuple [],H')/\Done E k H' i s l J U L L (con h t) T:=by
 obtain⟨H',es',c,dr,V,st,db⟩:=done_ok D n (root:=rp) Y v m (fun At hp=>(o At hp).elim fun w h=>Qf_sum h) hl Z d K;obtain⟨W,mono⟩:=rep_end v (fun z w h=>(m.fs z w h).1) x H0 o u q hR;refine⟨H',dr,M,_,_,_,L,c,_,V,st,db,look_end v m.fs m.le, ?_,zK _,zK _, .inr ⟨h,w,t,S,mono rp (zH ..) w hs,rn.mono (fun At hp w hh=>mono At (zC _ hp) w hh),wr,W,rfl,rfl⟩,dsk_drop E y x fun At hp=>(u At hp).elim fun j h=>⟨j,h.1⟩,N⟩;refine⟨?_,end_cp y x H0 o (fun At hp=>(u At hp).elim fun j h=>⟨j,h.1⟩) m.fl es O⟩;have h1:=cutsQ_len M e;have h2:=m.fl;simp only[zT];omega
theorem crown_ok(hn:200000000<=n){g:AV}{T:List Ptr}{t:Bt.Tr L}{S:List Ptr}(ti:TI E k A I l J G H e R U)(N: ∀d w,lookN d e=some w->d<=R)
  (v:Ch (XE E U) k C A p s F Q g h R V) (a8: ∀Ac∈h,∃w,Qf E e [] Ac=some w) (hl:V<=700000000) (a9:h.length<n) (b0:e.length<=R) (hu:NodeA (XE E U) C g f w)
  (At:RepN (Qf E e Q) L w t S) (wx:WX L none none t) (hS:S.Perm (M++Y)) (hG:(h++Y).Nodup) (b2: ∀Ac∈M,∃j,Ac=pp j/\R<j/\j<=V) (b9:M.Nodup) (hR: ∀Ac∈Y,∃w,Qf E e [] Ac=some w) (b3:E.dl.length+h.length<=900000000) (Z:T.Perm (h++Y)) (b4:h.length<=100) (b5:e.length<=cp T) (f5:R+M.length=V):
  ∃H',f72 D n [.ptr p 0,f] C=some (.int .i64 (0:Nat),H')/\Done E k H' A I l J U V (V+7) (con L t) T:=by
 obtain⟨ks,d3,ps,rfl,j1,j2,j3⟩:=id hu.1;obtain⟨H1,O,b1,f4,es,m1,n1⟩:=box v.prs.ok (.cells [.bool w.leaf,ks,d3,ps] 72 1 false);have dr:=v.step f4;have f6:=hu.prs f4;have b6: ∀Ac∈M,∃j,Ac=pp j/\R<j:=fun Ac hp=>by obtain⟨j,a,b,_⟩:=b2 Ac hp;exact⟨j,a,b⟩
 have e0:ld1 (.ptr O 0) H1=some (.bool w.leaf):=by rw[ld1_get es];rfl
 have e1:ld1 (.ptr O 1) H1=some ks:=by rw[ld1_get es];rfl
 have e3:ld1 (.ptr O 3) H1=some ps:=by rw[ld1_get es];rfl
 by_cases z:w.keys=[]
 ·
  have a0:(w.keys.length:Int)=((0:Nat):Int):=by rw[z];rfl
  cases L with
  | zero=>
   obtain⟨d4,rfl⟩:=At;have f7:Y=[]:=by
    have:=hS.length_eq;simp only[yI,zT]at this;exact zR (by omega)
   have h8:M.length=0:=by
    have:=hS.length_eq;simp only[yI,zT]at this;omega
   rw[f7,qG]at Z hG;have ht:t=([]:Kvs):=List.map_eq_nil_iff.1 (show List.map Prod.fst (t:Kvs)=[]from(show(leafOf t).keys=[]from d4▸z));subst ht;obtain⟨H2,Fr,e7⟩:=done_zero D n ti N dr a8 (by omega) a9 b0 b3 Z b4 b5 (by omega) hG;refine⟨H2, ?_,e7.mono (zK _) (by omega)⟩;have c0:ld1 (.ptr O 0) H1=some (.bool true):=by rw[e0,d4];rfl
   have bs:bldS [(0,1),(1,1),(2,1)] [.int .i64 (0:Nat), .int .i64 (0:Nat), .int .u64 (0:Nat)] []=some (.agg [.int .i64 (0:Nat), .int .i64 (0:Nat), .int .u64 (0:Nat)]):=rfl;simp(maxSteps:=999999)(disch:=omega) only[f72,eZ,b1,e1,j1.row.lnSl,a0,c0,bs,Fr,f72j0]
  | succ L=>
   obtain⟨r1,r2,r3,r4⟩:=id At;obtain⟨W,w2⟩:=id wx;rw[z]at r2;have a6:=W.2.2.len;rw[<-r2]at a6;obtain⟨t1,c3⟩: ∃t1,t.2=[t1]:=by
    match ht:t.2,a6 with
    | [a],_=>exact⟨a,rfl⟩
   have d5:=W.2.2;rw[<-r2,c3]at d5;rw[c3]at r4;obtain⟨k0,h9,S1,c4,q1,f8,f9⟩:=RepL.perm_one r4;subst f9;obtain⟨H2,Fr,e7⟩:=done_root D n ti N dr a8 (by omega) a9 b0 b3 q1 f8 (WF.wr d5) hS hG b6 b9 hR Z b4 b5 f5;have c0:ld1 (.ptr O 0) H1=some (.bool false):=by rw[e0,r1]
   have b7:con (L+1) t=con L t1:=by simp only[con,c3,yR,List.flatMap_nil,qG]
   rw[b7];refine⟨H2, ?_,e7.mono (zK _) (by omega)⟩;obtain⟨qk,ik,a5⟩:=Ptrs.at (l:=w.kids) (j3.mono f4 (fun _ _ x=>x)).row (i:=0) (by rw[c4];simp);have c5:w.kids[0]'(by rw[c4];simp)=k0:=by simp[c4]
   rw[c5]at a5;simp(maxSteps:=999999)(disch:=omega) only[f72,eZ,b1,e1,j1.row.lnSl,a0,c0,e3,ik,a5,Fr,f72j0]
 ·
  have a0: ¬(w.keys.length:Int)=((0:Nat):Int):=by
   have:w.keys.length≠0:=fun q=>z (zR q)
   omega
  have g0:=At.shaped wx.gen (fun _=>z) (RepN.kidOk At);have hz:Nd.size w<=785:=by rw[At.size];exact wx.sz
  obtain⟨pv,sv,H2,vs,m,y,Fr,p2,a7,oP,e9,oS,bP,bS,g2⟩:=cutAll_ok D n hn f4.ok f6.1 g0 (by omega);obtain⟨ts,c1,c2⟩:=cutsN_ok a7 At wx;have i0:m.length<=6:=by
   by_cases hb:Nd.size w<=500
   .rw[(a7.one_inv hb).1];simp
   .have:=(cuts_ok c1 wx (.inr (by rw[<-At.size];omega))).2.2.1;rw[c2.len];exact this
  have g3:=dr.step p2;obtain⟨kv,H3,d6,c6,a3,o3,f3⟩:=addAll_ok D n hn g3 oP e9 (fun u hl B hB=>by
   rcases g2 u hl B hB with q | q
   .exact hu.2 B q
   .exact⟨fun c7=>by have:=kD dr.gg.row c7;omega,fun hx=>by have:=dr.xo B hx;have:=dr.prs.next;omega⟩) (by omega) (by omega)
  have N1:=f4.next;have N2:=p2.next;have N3:=a3.1.next
  have e8: ∀j,lookN (V+1+j) Q=none:=fun j=>by
   cases z:lookN (V+1+j) Q with
   | none=>rfl
   | some n2=>have:=v.fs _ _ z;omega
  have f1: ∀d c,lookN d (addsN V m)=some c->R<d:=fun d c hs=>by have:=adds_sums hs;have:=v.le;omega
  have more: ∀Ac w,Qf E e Q Ac=some w->Qf E e (Q++addsN V m) Ac=some w:=fun Ac w hp=>Qf_more N f1 hp
  have d7: ∀j c,m[j]? =some c->Qf E e (Q++addsN V m) (pp (V+1+j))=some c:=fun j c hj=>by rw[Qf_pp,lookN_app,e8];simp only[lookN_adds hj]
  have c8:Ptrs H3 kv (pps V m.length):=by
   have:=o3.row;rw[Ptrs,pps_len];exact this
  have c9:=c8.lnSl;rw[pps_len]at c9;have d8: ¬(((0:Nat):Int)≠((0:Nat):Int)):=by omega
  by_cases hb:Nd.size w<=500
  .obtain⟨rfl,rfl⟩:=a7.one_inv hb;have b8:(([w].length:Nat):Int)=((1:Nat):Int):=rfl;have wr:WR L t:=wx.wr (by
    cases L with
    | zero=>obtain⟨rfl,_⟩:=At;intro q;exact z (by rw[show t=([]:Kvs)from q];rfl)
    | succ L=>exact(show t.1≠[]from At.2.1▸z)) (by rw[<-At.size];exact hb)
   have d0: ∀Ac∈pp (V+1)::M,∃j,Ac=pp j/\R<j:=fun Ac hp=>by
    rcases zM.1 hp with rfl | hp
    .exact⟨_,rfl,by have:=v.le;omega⟩
    .exact b6 Ac hp
   have d1:(pp (V+1)::M).Nodup:=List.nodup_cons.2 ⟨fun hp=>by
    obtain⟨j,q,_,hj⟩:=b2 _ hp;have:=pp_inj q;omega,b9⟩
   obtain⟨H4,e4,e7⟩:=done_root D n (rp:=pp (V+1)) (t:=t) (S:=S) ti N c6 a8 (by simp;omega) a9 b0 b3 (d7 0 w rfl) (At.mono fun Ac _ w hp=>more Ac w hp) wr (List.Perm.cons _ hS) hG d0 d1 hR Z b4 b5 (by simp;omega);refine⟨H4, ?_,e7.mono (by simp) (by simp)⟩;obtain⟨qk,ik,a5⟩:=Ptrs.at c8 (i:=0) (by simp[pps]);have c5:(pps V [w].length)[0]'(by simp[pps])=pp (V+1):=by simp[pps]
   rw[c5]at a5;simp(maxSteps:=999999)(disch:=omega) only[f72,eZ,b1,e1,j1.row.lnSl,a0,agg4 es rfl,Fr,pExtract,nth,d8,d6,c9,b8,ik,a5,e4,f72j1]
  .have d9:=a7.more_inv (by omega);obtain⟨W,w2,w3,_⟩:=cuts_ok c1 wx (.inr (by rw[<-At.size];omega));have a6:=W.2.2.len;simp only at a6;have h6:y.length≠0:=fun q=>d9 (zR q)
   have i1:=c2.len;have b8: ¬(m.length:Int)=((1:Nat):Int):=by omega
   have g4:RepP (Qf E e (Q++addsN V m)) L m ts S:=by
    have mono: ∀ {gl:List Nd.Node} {K:List (Bt.Tr L)} {S':List Ptr},RepP (Qf E e Q) L gl K S'->RepP (Qf E e (Q++addsN V m)) L gl K S':=by
     intro gl
     induction gl with
     | nil=>intro K S' hp;cases K with
      | nil=>exact hp
      | cons=>exact hp.elim
     | cons a gl ih=>intro K S' hp;cases K with
      | nil=>exact hp.elim
      | cons b K=>
       obtain⟨S1,S2,a1,a2,a3⟩:=hp;exact⟨S1,S2,a1.mono fun Ac _ w hp=>more Ac w hp,ih a2,a3⟩
    exact mono c2
   obtain⟨S2,r2,g5⟩:=g4.kids V d7;have i2:H3.h.get O=some (.cells [.bool w.leaf,ks,d3,ps] 72 1 false):=by
    rw[a3.1.keep _ (by omega) (fun hc=>by
     rcases hc with q | q | q
     .have:=v.ltC;omega
     .have:=v.ltF;omega
     .have:=kD v.gg.row q;omega)]
    exact jY p2 f4.ok es
   have e6:Own 1 9 H3 sv y.length (y.map Go.Eng.S):=oS.mono a3.1 (fun B hB hc=>by
    have:=bS B hB;rcases hc with q | q | q
    .have:=v.ltC;omega
    .have:=v.ltF;omega
    .have:=kD v.gg.row q;omega)
   have g6:NodeG H3 (.agg [.bool false,sv, .nS,kv]) ⟨false,y,[],pps V m.length⟩:=⟨sv, .nS,kv,rfl, .inl e6, .inl (kB ..), .inl (by
    simp only[pps_len];exact o3)⟩
   have g7:NodeA (XE E U) H3 g (.agg [.bool false,sv, .nS,kv]) ⟨false,y,[],pps V m.length⟩:=⟨g6,fun B hB=>by
    have i3:C.next<=B:=by
     rcases blkN_mk.1 hB with q | q | q
     .have:=bS B q;omega
     .exact(jZ.1 q).elim
     .have:=f3 B q;omega
    exact⟨fun c7=>by have:=kD v.gg.row c7;omega,fun hx=>by have:=v.xo B hx;have:=v.prs.next;omega⟩⟩
   obtain⟨H4,e4,g8,a4⟩:=add_ok D n c6 g7 (by omega);have f2:lookN (V+m.length+1) (Q++addsN V m)=none:=by
    cases z:lookN (V+m.length+1) (Q++addsN V m)with
    | none=>rfl
    | some n2=>have:=c6.fs _ _ z;omega
   have d2: ∀Ac c,Qf E e (Q++addsN V m) Ac=some c->Qf E e (Q++addsN V m++[(V+m.length+1,⟨false,y,[],pps V m.length⟩)]) Ac=some c:=fun Ac c hp=>Qf_more N (fun d w hs=>by
    simp only[lookN]at hs;split at hs
    .have:=v.le;omega
    .cases hs) hp
   have g9:Qf E e (Q++addsN V m++[(V+m.length+1,⟨false,y,[],pps V m.length⟩)]) (pp (V+m.length+1))=some ⟨false,y,[],pps V m.length⟩:=by
    rw[Qf_pp,lookN_app,f2];simp[lookN]
   have h0:RepN (Qf E e (Q++addsN V m++[(V+m.length+1,⟨false,y,[],pps V m.length⟩)])) (L+1) ⟨false,y,[],pps V m.length⟩ (y,ts) S2:=⟨rfl,rfl,rfl,r2.mono (fun Ac _ w hp=>d2 Ac w hp) (fun w t S1 _ hr=>hr.mono fun Ac _ w hp=>d2 Ac w hp)⟩;have h7:=sumL_bound (ks:=y) (fun H0 z=>(W.1 H0 z).1);have h5:WR (L+1) (y,ts):=⟨W,d9,by simp only[isize];omega⟩;have d0: ∀Ac∈pp (V+m.length+1)::(pps V m.length++M),∃j,Ac=pp j/\R<j:=fun Ac hp=>by
    have:=v.le;rcases zM.1 hp with rfl | hp
    .exact⟨_,rfl,by omega⟩
    .rcases zZ.1 hp with hp | hp
     .obtain⟨j,rfl,h1,h2⟩:=pps_mem hp;exact⟨_,rfl,by omega⟩
     .exact b6 Ac hp
   have d1:(pp (V+m.length+1)::(pps V m.length++M)).Nodup:=by
    refine List.nodup_cons.2 ⟨fun hp=> ?_,List.nodup_append.2 ⟨pps_nodup _ _,b9,fun a ha b hb q=> ?_⟩⟩
    .rcases zZ.1 hp with hp | hp
     .obtain⟨j,q,h1,h2⟩:=pps_mem hp;have:=pp_inj q;omega
     .obtain⟨j,q,h1,h2⟩:=b2 _ hp;have:=pp_inj q;omega
    .obtain⟨j,rfl,h1,h2⟩:=pps_mem ha;obtain⟨j',rfl,h3,h4⟩:=b2 _ hb;have:=pp_inj q;omega
   have hT:(pp (V+m.length+1)::S2).Perm ((pp (V+m.length+1)::(pps V m.length++M))++Y):=by
    rw[qB,qC];exact List.Perm.cons _ (g5.trans (List.Perm.append_left _ hS))
   obtain⟨H5,e5,e7⟩:=done_root D n (rp:=pp (V+m.length+1)) ti N g8 a8 (by omega) a9 b0 b3 g9 h0 h5 hT hG d0 d1 hR Z b4 b5 (by simp only[zV,zT,pps_len];omega);have b7:con (L+1) (y,ts)=con L t:=w2;rw[b7]at e7;refine⟨H5, ?_,e7.mono (by omega) (by omega)⟩;simp(maxSteps:=999999)(disch:=omega) only[f72,eZ,b1,e1,j1.row.lnSl,a0,agg4 es rfl,Fr,pExtract,nth,d8,d6,c9,b8,bldNi e6.row.isCell c8.isCell,e4,e5,f72j1]
end Go.Eng.Sh
end
section
namespace Go.Bt
open Go.Nd (Str Kvs leafOf)
theorem WR.gen: ∀ {h:Nat} {t:Tr h},WR h t->Gen h none none t
 | 0,_,w=>w.1
 | _+1,_,w=>w.1
theorem WR.sz: ∀ {h:Nat} {t:Tr h},WR h t->tsize h t<=500
 | 0,_,w=>w.2.2
 | _+1,_,w=>w.2.2
theorem flat_len {h:Nat} : ∀ {ts:List (Tr h)},(∀t∈ts,2 ^ h<=(con h t).length)->ts.length*2 ^ h<=(ts.flatMap (con h)).length
 | [],_=>by simp
 | t::ts,ih=>by
  have f:=ih t (zH ..);have i:=flat_len (ts:=ts) fun t a=>ih t (zC _ a)
  simp only[zV,yR,zT,yZ,Nat.one_mul];omega
theorem inn_len {t:List Str×List (Tr i)}(f: ∀ {a c:Bd} {t:Tr i},WF i a c t->2 ^ i<=(con i t).length)(w:Inn (WF i) a c t)(lo:t.1≠[]):2 ^ (i+1)<=(t.2.flatMap (con i)).length:=by
 have hl:=w.2.2.len;have m:t.1.length≠0:=fun e=>lo (zR e)
 have o:=flat_len (ts:=t.2) fun x j=>by
  obtain⟨h,c,rfl⟩:=jH j;exact f (KB.at w.2.2 (zO c))
 have p:2*2 ^ i<=t.2.length*2 ^ i:=yP _ (by omega);rw[Nat.pow_succ];omega
theorem WF.many: ∀ {h:Nat} {lo hi:Bd} {t:Tr h},WF h lo hi t->2 ^ h<=(con h t).length
 | 0,_,_,t,w=>by
  have:List.length (t:Kvs)≠0:=fun e=>w.2.1 (zR e)
  show 1<=List.length (t:Kvs);omega
 | _+1,_,_,_,w=>inn_len WF.many w.1 w.2.1
theorem WR.many: ∀ {h:Nat} {t:Tr h},WR h t->2 ^ h<=(con h t).length
 | 0,t,w=>by
  have:List.length (t:Kvs)≠0:=fun e=>w.2.1 (zR e)
  show 1<=List.length (t:Kvs);omega
 | _+1,_,w=>inn_len WF.many w.1 w.2.1
theorem WR.low {t:Tr i}(w:WR i t)(f:(con i t).length<=1000000000):i<=29:=by
 have:=w.many;rcases Nat.lt_or_ge i 30 with a | a
 .omega
 .have h:2 ^ 30<=2 ^ i:=Nat.pow_le_pow_right (by decide) a;have h3:(2:Nat) ^ 30=1073741824:=by decide
  omega
end Go.Bt
namespace Go.Eng.Sh
open Go.Nd (Ptr sumL leafOf Kvs)
open Go.Bt
variable {E:Ev}
theorem cbx:(∀A o,cellsA (.ptr A o)=[.ptr A o])/\cellsA .nP=[.nP]/\cellsA .nilFunc=[.nilFunc]/\(∀k z,cellsA (.int k z)=[.int k z])/\(∀l,cellsA (S l)=[S l])/\(∀ed K V,cellsA (edF ed K V)=[edF ed K V])/\(∀A o,aveq (.ptr A o) (.ptr A o)=true):=
 ⟨fun _ _=>rfl,rfl,rfl,fun _ _=>rfl,fun _=>rfl,fun ed _ _=>by cases ed<;>rfl,fun _ _=>by simp[aveq]⟩
theorem chStart (H':Prs k C)(f:C.h.get A=some (.cells [.ptr i 0, .int .u64 (s:Nat), .map p, .nS] 120 1 false))(H:C.h.get p=some (.map [10] []))(j:k.next<=A)(m:k.next<=p)(ne:A≠p)(hX: ∀B,t B->B<k.next):
  Ch t k C i A p [] [] .nS [] s s:=
 ⟨H',f,H,trivial,kB ..,fun B o=>(jZ.1 o).elim,fun _ h=>by simp at h,j,m,ne,fun _ _ h=>by simp[lookN]at h,zK _,by simp,by simp,by simp,fun _ h=>by simp at h,hX⟩
theorem change_ok (M n:Nat)(hM:300000000<=M)(hn:300000000<=n){T:List Ptr}{ed:Ed}(a:TI E k i A l J G H e I U)(hq: ∀last j,lookN last e=some j->last<=I)(d5:e.length<=I)(hl:I<=500000000)
  (hr:RootIs E e G N T) (n0:E.dl.length<=800000000) (c1:N.length<=1000000000) (ho:ed.ok) (hb:edB k ed p s) (d6:e.length<=cp T):
  ∃(es:Nat) (H':AH),f32 (dy (M+2)) n [.ptr i 0,S ed.key,edF ed p s] k=some (.int .i64 (es:Nat),H')/\
   match ed.run N with
   | none=>es=5/\Prs k H'
   | some kv'=>es=0/\Done E k H' i A l J U I (I+200) kv' T:=by
 obtain⟨H1,z,b1,p1,g1,m1,n1⟩:=box a.ok (.cells [.ptr i 0] 29 1 false);obtain⟨H2,B4,b2,O,g2,m2,n2⟩:=box p1.ok (.cells [S ed.key] 9 1 false);obtain⟨H3,B3,b3,C,g3,m3,n3⟩:=box O.ok (.cells [edF ed p s] 75 1 false);obtain⟨H4,F,b4,p4,g4,m4,n4⟩:=box C.ok (.map [10] []);obtain⟨H5,d,b5,c,g5,m5,n5⟩:=box p4.ok (.cells [.ptr i 0, .int .u64 (I:Nat), .map F, .nS] 120 1 false);obtain⟨H6,B6,b6,p6,g6,m6,n6⟩:=box c.ok (.cells [.nP] 118 1 false);obtain⟨M0,e7,x7,m⟩:=Box.st (⟨_,g6⟩:Box H6 B6 .nP) p6.ok (x:= .ptr d 0) rfl;have i1:=p1.trans O;have d7:=i1.trans C;have d8:=(d7.trans p4).trans c;have i2:=d8.trans p6;have dr:Prs k M0:=i2.fresh m (fun B f=>by have:=d8.next;omega)
 have N1:=p1.next;have N2:=O.next;have N3:=C.next;have N4:=p4.next;have N5:=c.next;have N6:=p6.next;have N7:=m.next
 have a3: ∀ {K:Nat} {o:AObj},H5.h.get K=some o->M0.h.get K=some o:=fun {K o} hg=>by
  have:=c.ok.lt hg;rw[m.keep _ (by omega) (by omega)];exact jY p6 c.ok hg
 have i3:=a3 g5;have i4:=a3 (jY c p4.ok g4);have ch:Ch (XE E U) k M0 i d F [] [] .nS [] I I:=chStart dr i3 i4 (by omega) (by omega) (by omega) (fun B f=>f.elim a.dg.lt (a.xl B));have c2:=a.prs dr;have i5:=a.prs d7;have k2:Box M0 z (.ptr i 0):=⟨_,a3 (jY (p4.trans c) C.ok (jY C O.ok (jY O p1.ok g1)))⟩;have k3:Box M0 B3 (edF ed p s):=⟨_,a3 (jY (p4.trans c) C.ok g3)⟩;have k4:Box M0 B4 (S ed.key):=⟨_,a3 (jY (p4.trans c) C.ok (jY C O.ok g2))⟩;have l2:ld1 (.ptr z 0) H3=some (.ptr i 0):=by rw[ld1_get (jY C O.ok (jY O p1.ok g1))];rfl
 have l6:ld1 (.ptr i 6) H3=some (.int .u64 (I:Nat)):=by rw[ld1_get i5.gT];rfl
 have a4:ld1 (.ptr i 2) M0=some (.int .i64 G.at_):=by rw[ld1_get c2.gT];rfl
 have bs:bldS [(0,1),(1,1),(2,1),(3,1)] [.nP, .int .u64 (0:Nat), .nM, .nS] [(0, .ptr i 0),(1, .int .u64 (I:Nat)),(2, .map F)]=some (.agg [.ptr i 0, .int .u64 (I:Nat), .map F, .nS]):=rfl;have d9:bldS [(0,1),(1,1),(2,1),(3,1)] [.bool false, .nS, .nS, .nS] [(0, .bool true)]=some (.agg [.bool true, .nS, .nS, .nS]):=rfl;have e0: ¬(((0:Nat):Int)≠((0:Nat):Int)):=by omega
 have t50:(((5:Nat):Int)≠((0:Nat):Int)):=by omega
 rcases hr with⟨rfl,rfl,rfl⟩ | ⟨h,j,t,S0,hs,rn,wr,nd0,rfl,rfl⟩
 ·
  have f4:pZ.at_=((0:Nat):Int):=rfl;rw[f4]at a4;have wl:NodeG M0 (.agg [.bool true, .nS, .nS, .nS]) (leafOf []):=⟨.nS, .nS, .nS,rfl, .inl (kB ..), .inl (kB ..), .inl (kB ..)⟩;have e1:Lf none none ([]:Kvs):=⟨trivial,by simp⟩;obtain⟨u,H8,_,e8,p8,w8⟩:=edit_ok (M+1) n (by omega) dr.ok wl e1 (by decide) ho (hb.prs a.ok dr);obtain⟨lu,rfl,a5,c3⟩:=w8.1.cells;obtain⟨H9,B8,b9,p9,g9,m9,n9⟩:=box p8.ok (.cells [.bool false, .nS, .nS, .nS] 72 1 false);obtain⟨W,i6,c4,c5,i7⟩:=st_all p9.ok g9 (l':=lu) a5 c3;have d2:stN 4 (.ptr B8 0) (.agg lu) H9=some (undefA,W):=i6;have N8:=p8.next;have N9:=p9.next;have i8:=c5.next
  have a6:Prs M0 W:=(p8.trans p9).fresh c5 (fun B f=>by omega);have f6:=ch.step a6
  cases y:ed.run []with
  | none=>
   have c6:edL ed []=(nd0,5):=by simp only[edL,y]
   rw[c6]at e8;refine⟨5,W, ?_,rfl,dr.trans a6⟩;simp(maxSteps:=999999)(disch:=omega) only[f32,eZ,b1,b2,b3,cbx,l2,l6,mkM,b4,bs,b5,b6,e7,k2.ld,a4,k3.ld,d9,e8,pExtract,nth,b9,d2,t50,ne_eq,jA]
  | some kv'=>
   have c6:edL ed []=(leafOf kv',0):=by simp only[edL,y]
   rw[c6]at e8 w8;obtain⟨i9,j0⟩:=Ed.leaf (lo:=none) (hi:=none) e1 trivial trivial ho y;have c7:kv'≠[]:=by
    cases ed with
    | put At v=>simp only[Ed.run,zB]at y;subst y;simp[Nd.putP]
    | del At=>simp[Ed.run,Nd.lookP]at y
   have f7:NodeA (XE E U) W .nS (.agg lu) (leafOf kv'):=⟨(w8.1.prs p9).stp c5 (fun B f es=>by
    have:=w8.1.lt f;omega),fun B f=>⟨fun hg=>(jZ.1 hg).elim,fun hx=>by have:=w8.2 B f;have:=hx.elim a.dg.lt (a.xl B);omega⟩⟩
   obtain⟨a7,b0,f8,j1⟩:=add_ok (dy (M+2)) n f6 f7 (by omega);have hQ:Qf E e ([]++[(I+1,leafOf kv')]) (pp (I+1))=some (leafOf kv'):=by rw[Qf_pp];simp[lookN]
   obtain⟨q,j2,dn⟩:=done_root (dy (M+2)) n (rp:=pp (I+1)) (h:=0) (t:=kv') (S:=[]) (Fr:=[pp (I+1)]) (R:=[]) (T:=[]) a hq f8 (by simp) (by omega) (by simp;omega) d5 (by simp;omega) hQ ⟨rfl,rfl⟩ ⟨i9,c7,by simp only[lsize_nil]at j0;omega⟩ (by simp) (by simp) (by
    intro V hp;simp only[y8]at hp;subst hp;exact⟨_,rfl,by omega⟩) (by simp) (by simp) (by simp) (by simp) d6 (by simp)
   refine⟨0,q, ?_,rfl,dn.mono (by omega) (by omega)⟩;have k6:ld1 (.ptr B6 0) W=some (.ptr d 0):=(x7.mono m.ok a6 (fun x=>x)).ld;have j3:ld1 (.ptr B6 0) a7=some (.ptr d 0):=by
    refine((x7.mono m.ok a6 (fun x=>x)).mono a6.ok j1.1 (fun hc=> ?_)).ld;rcases hc with es | es | es
    .omega
    .omega
    .exact(jZ.1 es).elim
   simp(maxSteps:=999999)(disch:=omega) only[f32,eZ,b1,b2,b3,cbx,l2,l6,mkM,b4,bs,b5,b6,e7,k2.ld,a4,k3.ld,d9,e8,pExtract,nth,b9,d2,e0,k6,agg4 c4 a5,b0,chk_ok j3 (cbx.2.2.2.2.2.2 _ _),j2]
 ·
  have h10: ¬G.at_=((0:Nat):Int):=by have:=Qf_at hs;omega
  have hh:=wr.low c1;obtain⟨H8,L,b8,p8,g8,m8,n8⟩:=box dr.ok (.cells [.int .i64 (0:Nat)] 3 1 false);obtain⟨H9,e9,x9,s9⟩:=Box.st (⟨_,g8⟩:Box H8 L (.int .i64 (0:Nat))) p8.ok (x:= .int .i64 (0:Nat)) rfl;obtain⟨W,Q,e2,a8,c4,n7,i7⟩:=box s9.ok (.cells [.nilFunc] 123 1 false);obtain⟨a7,b0,e3,a1⟩:=Box.st (⟨_,c4⟩:Box W Q .nilFunc) a8.ok (x:=downF L z B3 B4 Q B6) rfl;obtain⟨q,B8,e4,a9,j4,o0,j5⟩:=box a1.ok (.cells [.bool false, .nS, .nS, .nS] 72 1 false);have N8:=p8.next;have N9:=s9.next;have i8:=a8.next;have o1:=a1.next;have o2:=a9.next
  have j6:Prs M0 H9:=p8.fresh s9 (fun B f=>by omega);have c8:Prs M0 a7:=(j6.trans a8).fresh a1 (fun B f=>by omega);have Y:Prs M0 q:=c8.trans a9;have f9:=ch.step Y;have l8:=c2.prs Y;have g0:=c2.prs c8;have j7:Box q L (.int .i64 (0:Nat)):=((x9.mono s9.ok a8 (fun x=>x)).mono a8.ok a1 (by omega)).mono a1.ok a9 (fun x=>x);have g7:Box q Q (downF L z B3 B4 Q B6):=e3.mono a1.ok a9 (fun x=>x);have k6:Box q B6 (.ptr d 0):=x7.mono m.ok Y (fun x=>x);have cl:Cl k q i d p s ed L z B3 B4 Q B6 0:=⟨j7,k2.mono m.ok Y (fun x=>x),k3.mono m.ok Y (fun x=>x),k4.mono m.ok Y (fun x=>x),g7,k6,hb,by omega,by omega,by omega,by omega,by omega,by omega⟩;have hold: ∀N∈H,∀B,blkN N.2 B->B<k.next:=fun N c1 B f=>by
   obtain⟨o3,j8⟩:=a.pq.mem N c1;exact j8.lt f
  have c7:0<h->j.keys≠[]:=fun h0=>by
   cases h with
   | zero=>omega
   | succ h=>rw[rn.2.1];exact wr.2.1
  obtain⟨u,es,g',b7,j9,Z,⟨lu,rfl,a5,c3⟩,a0⟩:=down_ok a hold a.ds hq ho h M (M+1) (by omega) (by omega) f9 cl hs rn wr.gen wr.sz c7 (by cases h<;>trivial) (by cases h<;>trivial) (by omega) (by omega) (by simp;omega);have k0: ¬(chg d F .nS B8\/B8=L):=fun hc=>by
   rcases hc with(es | es | es) | es
   .omega
   .omega
   .exact(jZ.1 es).elim
   .omega
  have c0:b7.h.get B8=some (.cells [.bool false, .nS, .nS, .nS] 72 1 false):=by rw[Z.keep _ j5 k0];exact j4
  have h1:Box b7 B6 (.ptr d 0):=k6.mono a9.ok Z (fun hc=>by
   rcases hc with(es | es | es) | es
   .omega
   .omega
   .exact(jZ.1 es).elim
   .omega)
  obtain⟨c9,k1,k5,a2,o4⟩:=st_all Z.ok c0 (l':=lu) a5 c3;have d3:stN 4 (.ptr B8 0) (.agg lu) b7=some (undefA,c9):=k1;have h2:ld1 (.ptr B6 0) c9=some (.ptr d 0):=(h1.mono Z.ok a2 (by omega)).ld;have e5:ld1 (.ptr z 0) a7=some (.ptr i 0):=(k2.mono m.ok c8 (fun x=>x)).ld;have lr:ldN 3 (.ptr i 2) a7=some (.agg (ptrV G)):=by rw[ldN_get g0.gT];rfl
  have d4:=e3.ld;have e6:callV [(65,f65 (dy (M+2)) n),(64,f64 (dy (M+2)) n),(72,f72 (dy (M+2)) n)] (dy (M+2)) (downF L z B3 B4 Q B6) [.agg (ptrV G)] q=some (.tuple [.agg lu, .int .i64 ((es:Nat):Int)],b7):=j9;have f1:(.func 66 [] [.ptr L 0, .ptr z 0, .ptr B3 0, .ptr B4 0, .ptr Q 0, .ptr B6 0]:AV)=downF L z B3 B4 Q B6:=rfl
  cases y:ed.run (con h t)with
  | none=>
   rw[y]at a0;have a0:es=5:=a0;subst a0;refine⟨5,c9, ?_,rfl,⟨a2.ok,by have:=Z.next;have:=a2.next;omega,fun B f _=> ?_⟩⟩
   .simp(maxSteps:=999999)(disch:=omega) only[f32,eZ,b1,b2,b3,cbx,l2,l6,mkM,b4,bs,b5,b6,e7,k2.ld,a4,h10,b8,e9,e2,f1,b0,d4,e5,lr,e4,e6,pExtract,nth,d3,t50,ne_eq,jA]
   .have:=Z.next
    rw[a2.keep B (by omega) (by omega),Z.keep B (by omega) (fun hc=>by
     rcases hc with(es | es | es) | es
     .omega
     .omega
     .exact(jZ.1 es).elim
     .omega),Y.keep B (by omega) (fun x=>x),dr.keep B f (fun x=>x)]
  | some kv'=>
   rw[y]at a0;obtain⟨rfl,l9,f',d0,l7,d',o5,S',root,R,Fr,t',h3,m0,h4,h5,h6,f5,m7,f2,hG,k7,o6,o7,k8,d1,k9,l0,more,bg⟩:=a0;have h7:=h3.stb c0 a2 (by omega) (by omega);have h8:=h4.stb c0 a2;rw[qV]at f2;subst f2;have l1:(G::S0).Nodup:=nd0;have l3:(d0++R).Nodup:=d1.nodup_iff.1 l1;have h9: ∀V∈G::S0,∃j,Qf E e [] V=some j:=fun V hp=>by
    rcases zM.1 hp with rfl | hp
    .exact⟨j,hs⟩
    .exact RepN.here rn V hp
   have f3: ∀V∈d0++R,∃j,Qf E e [] V=some j:=fun V hp=>h9 V (d1.mem_iff.2 hp)
   have i0: ∀V∈d0,∃j,Qf E e [] V=some j:=fun V hp=>f3 V (qZ _ hp)
   obtain⟨l4,l5,dn⟩:=crown_ok (dy (M+2)) n (by omega) a hq h7 i0 (by omega) (by omega) d5 h8 h5 h6 k8 l3 l0 k9 (fun V hp=>f3 V (qT _ hp)) (by omega) d1 (by omega) d6 k7;rw[f5]at dn;refine⟨0,l4, ?_,rfl,dn.mono (by omega) (by omega)⟩;simp(maxSteps:=999999)(disch:=omega) only[f32,eZ,b1,b2,b3,cbx,l2,l6,mkM,b4,bs,b5,b6,e7,k2.ld,a4,h10,b8,e9,e2,f1,b0,d4,e5,lr,e4,e6,pExtract,nth,d3,e0,h2,agg4 k5 a5,l5]
open Go.Nd (mayK putP delP lookP)
def TreeD (d c:AV)(E:Ev)(H:AH)(At M L:Nat)(W:Nat->Prop)(kv:Kvs)(T:List Ptr):Prop:= ∃dr root es q last,isCell c=true/\TI E H At M d c root es q last dr/\(∀s a,lookN s q=some a->s<=last)/\(q.length<=last/\q.length<=cp T)/\last<=L/\E.dl.length<=L/\RootIs E q root kv T/\ ∀B,W B↔B=At\/B=M\/Blk dr B
def TreeX (d c:AV)(E:Ev)(H:AH)(At M L:Nat)(W:Nat->Prop)(root:Ptr)(q:PN)(kv:Kvs)(T:List Ptr):Prop:= ∃dr es last,isCell c=true/\TI E H At M d c root es q last dr/\(∀s a,lookN s q=some a->s<=last)/\(q.length<=last/\q.length<=cp T)/\last<=L/\E.dl.length<=L/\RootIs E q root kv T/\ ∀B,W B↔B=At\/B=M\/Blk dr B
theorem TreeX.d {d c:AV}{E:Ev}{H:AH}{At M L:Nat}{W:Nat->Prop}{root:Ptr}{q:PN}{kv:Kvs}{T:List Ptr}(h:TreeX d c E H At M L W root q kv T):TreeD d c E H At M L W kv T:=by
 obtain⟨dr,es,last,h⟩:=h;exact⟨dr,root,es,q,last,h⟩
theorem TreeD.x {E:Ev}(d:TreeD l J E k i A p t N h): ∃root q,TreeX l J E k i A p t root q N h:=by
 obtain⟨dr,root,es,q,last,d⟩:=d;exact⟨root,q,dr,es,last,d⟩
theorem TreeD.prs {d c:AV}{H H':AH}{At M L:Nat}{W:Nat->Prop}{kv:Kvs}{T:List Ptr}(h:TreeD d c E H At M L W kv T)(s:Prs H H'):TreeD d c E H' At M L W kv T:=by
 obtain⟨dr,root,es,q,last,a,f,i⟩:=h;exact⟨dr,root,es,q,last,a,f.prs s,i⟩
theorem TreeD.up (c:TreeD l J E k i A p t N h)(hl:p<=s):TreeD l J E k i A s t N h:=by
 obtain⟨dr,root,es,q,last,f,d,j,h3,m,h5,h6,h7⟩:=c;exact⟨dr,root,es,q,last,f,d,j,h3,by omega,by omega,h6,h7⟩
theorem TreeD.okH (d:TreeD l J E k i A p t N h):k.ok:=by
 obtain⟨dr,root,es,q,last,f,a,_⟩:=d;exact a.ok
theorem TreeD.lt {d c:AV}{H:AH}{At M L:Nat}{W:Nat->Prop}{kv:Kvs}{T:List Ptr}(h:TreeD d c E H At M L W kv T): ∀B,W B->B<H.next:=by
 obtain⟨dr,root,es,q,last,j,a,_,_,_,_,_,f⟩:=h;intro B i;rcases(f B).1 i with rfl | rfl | e
 .exact a.ok.lt a.gT
 .exact a.ok.lt a.gM
 .exact a.dg.lt e
def AdT (W:Nat->Prop)(H:AH)(a:Nat->Prop)(H':AH):Prop:=Stp W H H'/\ ∀B,a B->W B\/H.next<=B
theorem AdT.prs (s:Prs k C):AdT t k t C:=⟨s.mono fun _ _ x=>x.elim,fun _ h=> .inl h⟩
theorem AdT.trans {f i:Nat->Prop}(h:AdT t k f C)(W:AdT f C i z):AdT t k i z:=by
 refine⟨Stp.thr h.1 W.1 fun B a=> ?_,fun B a=> ?_⟩
 .rcases h.2 B a with e | e
  .exact .inr e
  .exact .inl e
 .have:=h.1.next
  rcases W.2 B a with e | e
  .exact h.2 B e
  .exact .inr (by omega)
structure Chd (E E':Ev)(T T':List Ptr):Prop where
 nb:E'.nb=E.nb
 ws:E'.ws=E.ws
 xx:E'.x=E.x
 pm:(dsk T'++E'.dl).Perm (dsk T++E.dl)
theorem Chd.refl (E:Ev)(T:List Ptr):Chd E E T T:=⟨rfl,rfl,rfl,List.Perm.refl _⟩
theorem Chd.trans {E a f:Ev}{T i j:List Ptr}(h:Chd E a T i)(k:Chd a f i j):Chd E f T j:=⟨k.nb.trans h.nb,k.ws.trans h.ws,k.xx.trans h.xx,k.pm.trans h.pm⟩
theorem Done.treeD {L:Nat}(M:Done E k C i A l J U p s N h)(At:isCell J=true)(a: ∀B,t B↔B=i\/B=A\/Blk U B)(hL:s<=L)(hd:E.dl.length+100<=L):
  ∃o H' f,TreeD l J o C i A L H' N f/\AdT t k H' C/\Chd E o h f:=by
 obtain⟨gl,root,es,q,last,m,f,low,u,h3,v,h5,h6,h7,h8,h9,h10⟩:=M;have y:=drop_len E gl;refine⟨E.drop gl,fun B=>B=i\/B=A\/Blk m B,f,⟨m,root,es,q,last,At,low,v,h5,by omega,by omega,h8,fun B=>Iff.rfl⟩,⟨u.mono fun B _ H0=>(a B).2 H0,fun B H0=> ?_⟩,⟨rfl,rfl,rfl,h9⟩⟩;rcases H0 with e | e | e
 .exact .inl ((a B).2 (.inl e))
 .exact .inl ((a B).2 (.inr (.inl e)))
 .rcases h3 B e with x | x
  .exact .inl ((a B).2 (.inr (.inr x)))
  .exact .inr x
def putOkT (k v:Str):Bool:=mayK k&&decide (v.length<=200)
theorem putD_ok (m n:Nat)(hm:300000000<=m)(M:300000000<=n){L:Nat}{k v:Str}(At:TreeD l J E C i A L t N h)(hL:L<=500000000)(I:N.length<=1000000000):
  ∃H' a f W,f9 (dy (m+2)) n [.ptr i 0,S k,S v] C=some (.int .i64 (if putOkT k v then 0 else 1:Nat),H')/\TreeD l J a H' i A (L+200) f (if putOkT k v then putP k v N else N) W/\AdT t C f H'/\Chd E a h W:=by
 obtain⟨dr,root,es,q,last,O,z,Q,h3,h4,a0,h5,U⟩:=id At;obtain⟨H1,A4,b1,o,V,m1,n1⟩:=box z.ok (.cells [S k] 9 1 false);obtain⟨H,c,b2,F,Y,m2,n2⟩:=box o.ok (.cells [S v] 9 1 false);have j:=o.trans F;have u:=z.prs j;have x4:Box H A4 (S k):=⟨_,jY F o.ok V⟩;have p:Box H c (S v):=⟨_,Y⟩;have x:=none_ok (dy (m+2)) n u;by_cases hp:putOkT k v=true
 .obtain⟨y,d⟩:mayK k=true/\v.length<=200:=by simpa[putOkT]using hp
  obtain⟨e,G,Z,s⟩:=change_ok m n hm M (ed:= .put k v) u Q h3.1 (by omega) h5 (by omega) I ⟨y,d⟩ ⟨x4,p⟩ h3.2;simp only[Ed.run]at s;obtain⟨rfl,dn⟩:=s;obtain⟨a,f,W,d1,d2,d3⟩:=dn.treeD O U (L:=L+200) (by omega) (by omega);simp only[Nd.mayK,zE,zU]at y;refine⟨G,a,f,W, ?_,by rw[if_pos hp];exact d1,(AdT.prs j).trans d2,d3⟩;have a1: ¬(k.length:Int)< ((1:Nat):Int):=by omega
  have a2: ¬((40:Nat):Int)< (k.length:Int):=by omega
  have a3: ¬((200:Nat):Int)< (v.length:Int):=by omega
  have K:f32 (dy (m+2)) n [.ptr i 0,S k, .func 33 [] [.ptr A4 0, .ptr c 0]] H=some (.int .i64 (0:Nat),G):=Z;simp(maxSteps:=999999)(disch:=omega) only[f9,eZ,cbx,b1,b2,x,x4.ld,p.ld,a1,a2,a3,K,hp]
 .refine⟨H,E,t,h, ?_,by rw[if_neg hp];exact(At.prs j).up (by omega),AdT.prs j,Chd.refl E h⟩;have hx:(k.length:Int)< ((1:Nat):Int)\/((40:Nat):Int)< (k.length:Int)\/((200:Nat):Int)< (v.length:Int):=by
   simp only[putOkT,Nd.mayK,zE,zU]at hp;omega
  simp(maxSteps:=999999)(disch:=omega) only[f9,eZ,cbx,b1,b2,x,x4.ld,p.ld,hp];rw[if_pos (by simpa[or_assoc]using hx)];rfl
end Go.Eng.Sh
end
section
namespace Go.Eng
def Stk (k e:Nat)(H:AH)(v:AV)(n:Nat)(l:List AV):Prop:=
 l.length=n*k/\((v= .nS/\n=0)\/ ∃A cc cells g r,v= .slice A 0 n cc/\A<H.next/\H.h.get A=some (.cells cells e k g)/\cells.length=r*k/\n<=r/\cells.take (n*k)=l/\(cc=2*r\/(cc=1/\g=true)))
theorem Stk.row (h:Stk A p k l s q):Rw A k l s q:=by
 obtain⟨a,⟨rfl,rfl⟩ | ⟨e,cc,cells,g,r,rfl,f,i,hl,j,m,_⟩⟩:=h
 .exact⟨a, .inl ⟨rfl,rfl⟩⟩
 .have:=yP A j;exact⟨a, .inr (.inr ⟨e,0,cc,cells,p,A,g,rfl,i,f,by omega,by rw[yE];exact m⟩)⟩
theorem Stk.mono (h:Stk i A k l p q)(s:Stp t k C)(e: ∀n,Blk l n-> ¬t n):Stk i A C l p q:=by
 obtain⟨a,j | ⟨n,cc,cells,g,r,rfl,f,m,o⟩⟩:=h
 .exact⟨a, .inl j⟩
 .exact⟨a, .inr ⟨n,cc,cells,g,r,rfl,qF f s.next,by rw[s.keep n f (e n (jS.2 rfl))];exact m,o⟩⟩
theorem Stk.lt {H:AH}(h:Stk i A H l p q)(a:Blk l s):s<H.next:=by
 obtain⟨k,⟨rfl,rfl⟩ | ⟨e,cc,cells,g,r,rfl,f,j,m⟩⟩:=h
 .exact(jZ.1 a).elim
 .rw[jS.1 a];exact f
theorem Stk.isCell {k e n:Nat}{H:AH}{v:AV}{l:List AV}(h:Stk k e H v n l):isCell v=true:=h.row.isCell
theorem Stk.room (a:0<i)(hl:q.length=p*i)(f:A=2*p\/(A=1/\j=true)):roomOf q j i 0 A i=p:=by
 rcases f with rfl | ⟨rfl,rfl⟩
 .simp only[roomOf,show((2*p) % 2).beq 0=true by rw[j6];rfl,zP,yL p (show 0<2 by omega)]
 .simp only[roomOf,show((1 % 2).beq 0)=false from rfl,y9,yC,show Nat.beq 0 (1 / 2*i)=true from by simp,qJ,zP,lenL_zero,hl,j7];exact Nat.mul_div_cancel _ a
theorem Stk.cut (h:Stk i A k l p q)(m:0<i)(hi:s<=p)(κ:IntKind):
  ∃r,slSl i l none (some (.int κ (s:Nat))) none k=some r/\Stk i A k r s (q.take (s*i))/\ ∀B,Blk r B->Blk l B:=by
 have f:=natOf_int κ (z:=(s:Int)) (by omega);simp only[qU]at f;have hb:Nat.blt 0 i=true:=by rw[q9];exact m
 have t:s*i<=p*i:=yP _ hi;obtain⟨u,⟨rfl,rfl⟩ | ⟨e,cc,cells,g,r,rfl,v,j,hl,C,x,H⟩⟩:=h
 .obtain rfl:s=0:=by omega
  exact⟨.nS,by simp only[slSl,natOpt,f];simp,⟨by simp, .inl ⟨rfl,rfl⟩⟩,fun B a=>a⟩
 .have b1:Nat.ble s r=true:=by rw[qO];omega
  have b2:Nat.ble 0 s=true:=by rw[qO];omega
  have hr:=Stk.room m hl H;have o:(q.take (s*i)).length=s*i:=by rw[qA,u];omega
  have n:cells.take (s*i)=q.take (s*i):=by rw[<-x,List.take_take,Nat.min_eq_left t]
  rcases H with rfl | ⟨rfl,rfl⟩
  .refine⟨.slice e 0 s (2*r), ?_,⟨o, .inr ⟨e,2*r,cells,g,r,rfl,v,j,hl,by omega,n, .inl rfl⟩⟩,fun B a=>by rw[jS.1 a];exact jS.2 rfl⟩;have y:(2*r) / 2=r:=yL r (show 0<2 by omega);simp only[slSl,natOpt,f,j,hb,zP,acut,hr,Option.getD_none,yB,b1,b2,qJ,show((2*r) % 2).beq 0=true by rw[j6];rfl,fN_eq,Nat.zero_mul,Nat.add_zero,j7,y]
   cases Nat.beq r 0<;>rfl
  .refine⟨.slice e 0 s 1, ?_,⟨o, .inr ⟨e,1,cells,true,r,rfl,v,j,hl,by omega,n, .inr ⟨rfl,rfl⟩⟩⟩,fun B a=>by rw[jS.1 a];exact jS.2 rfl⟩;simp only[slSl,natOpt,f,j,hb,zP,acut,hr,Option.getD_none,yB,b1,b2,qJ,show((1 % 2).beq 0)=false from rfl,y9,fN_eq,show Nat.beq 0 0=true from rfl]
theorem Stk.app {bytes m:Nat}{new:List AV}(j:k.ok)(s:0<i)(h:Stk i A k l p q)(L:srcOf i J k=some (m,new))(hm:new.length=m*i)(M:allCells new=true)(Y:m=1)(x:p+m<=1000000000)(hb:bytes<=1000):
  ∃a H',apP A i bytes l J k=some (a,H')/\Stk i A H' a (p+m) (q++new)/\Stp (Blk l) k H'/\ ∀B,Blk a B->Blk l B\/k.next<=B:=by
 suffices hx: ∃a H',app1 A i bytes m new l k=some (a,H')/\Stk i A H' a (p+m) (q++new)/\Stp (Blk l) k H'/\ ∀B,Blk a B->Blk l B\/k.next<=B by
  obtain⟨a,H',N,O⟩:=hx;exact⟨a,H',by simp only[apP,L,M,zP,N],O⟩
 have own: ∀ {H':AH},Own i A H' (.slice k.next 0 (p+m) 1) (p+m) (q++new)->Stk i A H' (.slice k.next 0 (p+m) 1) (p+m) (q++new):=fun {H'} Q=>by
  obtain⟨F,⟨q1,_⟩ | ⟨n,q1,q2,q3⟩⟩:=Q
  .cases q1
  .exact⟨F, .inr ⟨n,1,_,true,p+m,q1,q2,q3,F,zK _,zW (by omega), .inr ⟨rfl,rfl⟩⟩⟩
 have Z:=h;obtain⟨f,⟨rfl,rfl⟩ | ⟨n,cc,cells,g,r,rfl,o,y,hl,v,z,u⟩⟩:=h
 .obtain rfl:q=[]:=zR (by simpa using f);obtain⟨H',S,T,U,e4⟩:=app1_own (k:=i) (e:=A) (bytes:=bytes) (new:=new) (n:=0) (m:=m) j s (kB i A k) hm (by omega) x hb;exact⟨_,H',S,own T,U,fun B e=> .inr (by rw[jS.1 e];exact zK _)⟩
 .have hr:=Stk.room s hl u;have W:=yP i v;by_cases H:p+m<=r
  .have b1:Nat.ble (p+m) r=true:=by rw[qO];exact H
   have V:Nat.blt 0 i=true:=by rw[q9];exact s
   have G:=yP i H;rw[yZ]at G;have I:setAt cells (0+p*i) new=some (cells.take (p*i)++new++cells.drop (p*i+m*i)):=by rw[setAt_some (by omega),hm];simp only[yU]
   have t:(cells.take (p*i)).length=p*i:=by rw[z,f]
   refine⟨.slice n 0 (p+m) cc,k.put n (.cells (cells.take (p*i)++new++cells.drop (p*i+m*i)) A i g), ?_,⟨by simp[f,hm,yZ], .inr ⟨n,cc,_,g,r,rfl,o,by rw[jO,if_pos rfl], ?_,H, ?_,u⟩⟩,(jV j).put o _ (.inr (jS.2 rfl)),fun B e=> .inl (by rw[jS.1 e];exact jS.2 rfl)⟩
   .simp only[app1,y,app2,hr,b1,zP,V,I,appIn,putA_ok,fN_eq]
   .simp only[zT,t,hm,qK];omega
   .rw[z,List.take_append_of_le_length (by simp[f,hm,yZ]),zW (by simp[f,hm,yZ])]
  .have b1:Nat.ble (p+m) r=false:=by rw[qX];intro A;rw[qO]at A;omega
   have C:subN cells 0 (p*i)=some q:=by rw[subN_some _ _ _ (.inr (by omega)),yE,z]
   rcases u with rfl | ⟨rfl,rfl⟩
   .refine⟨.slice k.next 0 (p+m) 1,k.push (.cells (q++new) A i true), ?_,own ⟨by simp[f,hm,yZ], .inr ⟨k.next,rfl,Nat.lt_succ_self _,jK _ _⟩⟩,(jV j).push _,fun B e=> .inr (by rw[jS.1 e];exact zK _)⟩
    simp only[app1,y,app2,hr,b1,y9,show((2*r) % 2).beq 0=true by rw[j6];rfl,zP,C,appGrow,roomy_ok x hb,agrow,newA_ok j,fN_eq]
   .obtain rfl:p=r:=by omega
    have t:Nat.beq (0+p*i) (lenL cells 0)=true:=by rw[lenL_zero,hl,yU,yC]
    have K:(k.put n .dead).ok:=j.put o _;refine⟨.slice k.next 0 (p+m) 1,(k.put n .dead).push (.cells (q++new) A i true), ?_,own ⟨by simp[f,hm,yZ], .inr ⟨k.next,rfl,Nat.lt_succ_self _,jK (k.put n .dead) _⟩⟩,((jV j).put o _ (.inr (jS.2 rfl))).push _,fun B e=> .inr (by rw[jS.1 e];exact zK _)⟩
    simp only[app1,y,app2,hr,b1,y9,show((1 % 2).beq 0)=false from rfl,t,yC,show Nat.beq 0 (1 / 2*i)=true from by simp,qJ,zP,putA_ok,C,appGrow,
     roomy_ok x hb,agrow,newA_ok K,fN_eq,jM]
end Go.Eng
end
section
namespace Go.Eng.Sh
open Go.Nd (Ptr sumL)
end Go.Eng.Sh
end
section
namespace Go.Eng
end Go.Eng
namespace Go.Eng.Sh
open Go.Nd (Ptr sumL)
open Go.Nd (Str leafOf Kvs Srt mayK putP delP lookP)
open Go.Bt
variable {E:Ev}
def Item (E:Ev)(q:PN)(p:Ptr)(c:Kvs)(w:Nat):Prop:= ∃a h,∃t:Bt.Tr h,∃S lo hi,Qf E q [] p=some a/\RepN (Qf E q []) h a t S/\Gen h lo hi t/\(0<h->a.keys≠[])/\tsize h t<=500/\c=con h t/\w=1+S.length
def Items (E:Ev)(q:PN):List Ptr->Kvs->Nat->Prop
 | [],c,w=>c=[]/\w=0
 | p::ps,c,w=> ∃c1 c2 a f,Item E q p c1 a/\Items E q ps c2 f/\c=c1++c2/\w=a+f
theorem Items.app {q:PN}{i:List Ptr}{c':Kvs}{f:Nat}(j:Items E q i c' f): ∀ {h:List Ptr} {c:Kvs} {w:Nat},Items E q h c w->Items E q (h++i) (c++c') (w+f)
 | [],_,_,⟨e1,e2⟩=>by subst e1;subst e2;simpa using j
 | p::h,_,_,⟨c1,c2,w1,w2,a,b,e1,e2⟩=>⟨c1,c2++c',w1,w2+f,a,Items.app j b,by rw[e1];simp,by omega⟩
theorem Items.len {q:PN} : ∀ {a:List Ptr} {c:Kvs} {w:Nat},Items E q a c w->a.length<=w
 | [],_,_,_=>by simp
 | p::a,_,_,⟨c1,c2,w1,w2,⟨_,_,_,_,_,_,_,_,_,_,_,_,e⟩,b,e1,e2⟩=>by
  have:=Items.len b;simp only[zV];omega
theorem seal_birth {k k':UInt8}{x f:Str}(hb:i<=2147483647)(b:A<=2147483647)(e:Bk.sealB k i x=Bk.sealB k' A f):i=A:=by
 obtain⟨_,q2,_,_⟩:=Bk.seal_parts (kind:=k) (birth:=i) (body:=x);obtain⟨_,h,_,_⟩:=Bk.seal_parts (kind:=k') (birth:=A) (body:=f);rw[e,h]at q2;have hl:=congrArg Nd.bee q2;rw[Nd.bee_be,Nd.bee_be,Nat.mod_eq_of_lt (by omega),Nat.mod_eq_of_lt (by omega)]at hl;exact hl.symm
end Go.Eng.Sh
end
section
namespace Go.Eng
end Go.Eng
namespace Go.Eng.Sh
open Go.Nd (Ptr sumL leafOf Kvs Srt mayK putP delP lookP)
open Go.Bt
variable {E:Ev}
theorem flat_len3: ∀l:List Ptr,(l.flatMap ptrV).length=l.length*3
 | []=>rfl
 | p::l=>by
  rw[yR,zT,flat_len3 l,zV];show 3+l.length*3=_;omega
theorem TI.hold (h:TI E k i A l J G H e p U): ∀kv∈H,∀B,blkN kv.2 B->B<k.next:=fun kv a B At=>by
 obtain⟨j,f⟩:=h.pq.mem kv a;exact f.lt At
end Go.Eng.Sh
end
section
namespace Go.Eng
theorem aveq_int {m:Int} : ∀ {a:AV},aveq (.int u m) a=true->a= .int u m:=by
 intro a h
 cases a<;>simp only[aveq]at h
 case int k z=>
  rw[zE]at h;have f:=h.1;have i:=h.2;rw[keq_eq]at f;rw[ieq_eq]at i;simp only[zU,beq_iff_eq]at f i;subst f;subst i;rfl
 all_goals cases h
theorem aveq_ints (κ:IntKind)(m j:Int):aveq (.int κ j) (.int κ m)=decide (j=m):=by
 have:keq κ κ=true:=by rw[keq_eq];simp
 simp only[aveq,this,Bool.true_and,ieq_eq];rw[yG];simp
theorem findA_setA {κ:IntKind}{m:Int}{v:AV} : ∀ {es es':List (AV×AV)},setA (.int κ m) v es=some es'-> ∀j:Int,findA (.int κ j) es'=if j=m then some v else findA (.int κ j) es
 | [],_,h,_=>by cases h
 | (a,b)::es,es',h,j=>by
  simp only[setA]at h
  cases e:aveq (.int κ m) a with
  | true=>
   rw[e]at h;have o:=aveq_int e;subst o;obtain rfl:=y0 h;simp only[findA,aveq_ints];by_cases f:j=m
   .simp[f]
   .simp[f]
  | false=>
   rw[e]at h;simp only[y9]at h
   cases i:setA (.int κ m) v es with
   | none=>rw[i]at h;cases h
   | some r=>
    rw[i]at h;obtain rfl:=y0 h;have p:=findA_setA i j;simp only[findA,p];by_cases f:j=m
    .subst f;simp[e]
    .simp[f]
theorem setA_find {κ:IntKind}{m:Int}{v:AV} : ∀ {es:List (AV×AV)},setA (.int κ m) v es=none-> ∀j:Int,findA (.int κ j) (es++[(.int κ m,v)])=if j=m then some v else findA (.int κ j) es
 | [],_,j=>by
  simp only[qV,findA,aveq_ints];by_cases f:j=m<;>simp[f]
 | (a,b)::es,h,j=>by
  simp only[setA]at h
  cases e:aveq (.int κ m) a with
  | true=>rw[e]at h;cases h
  | false=>
   rw[e]at h;simp only[y9]at h
   cases i:setA (.int κ m) v es with
   | some r=>rw[i]at h;cases h
   | none=>
    have o:=setA_find i j;simp only[qB,findA,o];by_cases f:j=m
    .subst f;simp[e]
    .simp[f]
theorem up_int {ks:List Nat}(a:k.ok)(h:k.h.get i=some (.map ks H))(o:eqNL ks ks=true){m:Int}(κ:keyOk ks (.int u m)=true)(v:AV):
  ∃H' es',upM ks (.map i) (.int u m) v k=some (undefA,H')/\H'.h.get i=some (.map ks es')/\(∀j:Int,findA (.int u j) es'=if j=m then some v else findA (.int u j) H)/\Stp (fun B=>B=i) k H'/\H'.next=k.next:=by
 cases f:setA (.int u m) v H with
 | some es'=>
  refine⟨k.put i (.map ks es'),es', ?_,by rw[jO,if_pos rfl],findA_setA f,(jV a).put (a.lt h) _ (.inr rfl),rfl⟩;simp only[upM,κ,zP,h,o,f,putA_ok]
 | none=>
  refine⟨k.put i (.map ks (H++[(.int u m,v)])),_, ?_,by rw[jO,if_pos rfl],setA_find f,(jV a).put (a.lt h) _ (.inr rfl),rfl⟩;simp only[upM,κ,zP,h,o,f,putA_ok]
end Go.Eng
namespace Go.Eng.Sh
open Go.Nd (Ptr Str)
open Go.Bk
theorem boxE (f:k.ok)(o:AObj): ∃H' A,(∀(a:Nat->AV) (K:AV->AH->Rs),bA (some (o,a)) k K=K (a A) H')/\Prs k H'/\H'.h.get A=some o/\k.next<=A/\A<H'.next/\A=k.next/\H'.next=k.next+1:=
 ⟨k.push o,k.next,fun a K=>bA_ok f o a K,(jV f).push o,jK _ _,zK _,by rw[jL];omega,rfl,jL ..⟩
theorem dknew_ok(m:k.ok){nb:Nat}(C:64<=nb)(F:nb<=8192): ∃H' A On Nw,f26 D n [.int .i64 nb] k=some (.tuple [.ptr A 0, .int .i64 (0:Nat)],H')/\Prs k H'/\k.next<=A/\k.next<=On/\k.next<=Nw/\DkI H' A nb [] On Nw .nS ⟨[],[],[],[]⟩:=by
 obtain⟨G,f,b1,h,o,I,J,K,v1⟩:=boxE m (.map [6] []);obtain⟨L,i,b2,a,p,M,N,O,v2⟩:=boxE h.ok (.map [6] []);obtain⟨q,s,t,j,u,Q,S,T,U⟩:=boxE a.ok (.cells [.int .i64 nb, .map f, .nS, .map i, .int .i64 (0:Nat), .nS, .bool false] 100 1 false);have V:=h.next;have W:=a.next
 refine⟨q,s,f,i, ?_,(h.trans a).trans j,by omega,by omega,by omega,⟨u,jY (a.trans j) h.ok o,jY j a.ok p,kB ..,fun n=>rfl,fun w v=>(List.not_mem_nil v).elim,by simp,by omega,fun n=>rfl,rfl,by omega⟩⟩;have x: ¬(nb:Int)< ((64:Nat):Int):=by omega
 have y: ¬((8192:Nat):Int)< (nb:Int):=by omega
 have z:bldS [(0,1),(1,1),(2,1),(3,1),(4,1),(5,1),(6,1)] [.int .i64 (0:Nat), .nM, .nS, .nM, .int .i64 (0:Nat), .nS, .bool false] [(0, .int .i64 nb),(1, .map f),(3, .map i)]=some (.agg [.int .i64 nb, .map f, .nS, .map i, .int .i64 (0:Nat), .nS, .bool false]):=rfl;simp(maxSteps:=999999)(disch:=omega) only[f26,f55,eZ,x,y,mkM,b1,b2,z,t]
theorem blk_bld (e:Nat){x c:AV}(hr:q.length=512)(a:g.length=512)(h:isCell x=true):bldS [(0,1),(1,512)] (c::q) [(0,x),(1, .agg g)]=some (.agg (x::g))/\bldL e 513 1 (c::q) [(0, .agg (x::g))]=some (.cells (x::g) e 513 false,fun A=> .slice A 0 1 2):=by
 have i:setAt (c::q) 0 [x]=some (x::q):=by rw[setAt_some (by simp)];rfl
 have j:setAt (x::q) 1 g=some (x::g):=by
  rw[setAt_some (by simp[hr,a])];have:(x::q).drop (1+g.length)=[]:=qQ (by simp[hr,a]);rw[this];simp
 have m:setAt (c::q) 0 (x::g)=some (x::g):=by
  rw[setAt_some (by simp[hr,a])];have:(c::q).drop (0+(x::g).length)=[]:=qQ (by simp[hr,a]);rw[this];simp
 have o:(lenL [x] 0).beq 1=true:=rfl;have p:(lenL g 0).beq 512=true:=by rw[lenL_zero,a];exact yC _
 have r:(lenL (x::g) 0).beq 513=true:=by rw[lenL_zero,zV,a];exact yC _
 have t:=cellsA_cell h;constructor
 .simp only[bldS,fillA,nthP,t,o,zP,i];simp only[cellsA,p,zP,j]
 .have f:rep 1 (c::q)=c::q:=by simp only[rep,qG]
  simp only[bldL,f,fillA,cellsA,r,zP,Nat.zero_mul,m]
theorem dkwrite_ok(q:k.ok){y:Ws}{es:Dx}(d:DkI k i A y p s l es)(U:I<A){b:Str}(hb:b.length=512)(hf:y.length<1000000):
  ∃H' On es',f118 D n [.ptr i 0, .int .i64 I, .agg (bytesV b)] k=some (.int .i64 (0:Nat),H')/\DkI H' i A (y++[(I,b)]) p s On es'/\Stp (fun B=>B=i\/B=s\/Blk l B) k H'/\(∀B,Blk On B->Blk l B\/k.next<=B):=by
 obtain⟨Z,N⟩: ∃Z:Str,Z=List.replicate 512 0:=⟨_,rfl⟩;have V:rep 512 [AV.int .u8 (0:Nat)]=bytesV Z:=by rw[rep_row,N]
 have W:(bytesV Z).length=512:=by rw[bytesV_length,N];exact List.length_replicate
 obtain⟨O,A5,b1,t,g1,m1,n1⟩:=box q (.cells (bytesV b) 144 1 false);have f:=d.prs q t;have b2:es.ww.length<=y.length:=by rw[d.sp];simp
 have ha:=ask_ok D n f U;have Y: ¬(((0:Nat):Int)≠((0:Nat):Int)):=by omega
 have r3:Eng.ld1 (.ptr i 3) O=some (.map s):=by rw[ld1_get f.gD];rfl
 have r2:Eng.ld1 (.ptr i 2) O=some l:=by rw[ld1_get f.gD];rfl
 have lD:=q.lt d.gD;have lN:=q.lt d.gN;have lO:=q.lt d.gO;have J:i≠s:=fun e=>by have:=d.gD;rw[e,d.gN]at this;cases this
 have a0:i≠p:=fun e=>by have:=d.gD;rw[e,d.gO]at this;cases this
 have wA: ∀B,Blk l B->B<k.next/\B≠i/\B≠p/\B≠s:=fun B a=>by
  have g:=d.ow.get a;refine⟨q.lt g,fun e=> ?_,fun e=> ?_,fun e=> ?_⟩
  .rw[e,d.gD]at g;simp at g
  .rw[e,d.gO]at g;cases g
  .rw[e,d.gN]at g;cases g
 obtain⟨z,es',e2,g2,f2,H,n2⟩:=up_int t.ok f.gN rfl (m:=(I:Int)) (keyI _) (.int .i64 es.ww.length);have N1:=t.next
 have K:z.h.get i=_:=(H.keep _ (by omega) J).trans f.gD;have a4:z.h.get p=_:=(H.keep _ (by omega) d.ne).trans f.gO;have a5:Eng.ld1 (.ptr i 2) z=some l:=by rw[ld1_get K];rfl
 have g5:z.h.get A5=_:=(H.keep _ (by omega) (by omega)).trans g1;have rb:=ldR g5 hb;have F:(bytesV b).length=512:=by rw[bytesV_length,hb]
 obtain⟨q1,q2⟩:=blk_bld 150 (x:= .int .i64 I) (c:= .int .i64 (0:Nat)) W F rfl;obtain⟨C,A6,b3,Ad,g3,m3,n3⟩:=box H.ok (.cells (.int .i64 I::bytesV b) 150 513 false);have T:srcOf 513 (.slice A6 0 1 2) C=some (1,wV (I,b)):=by
  have a6:subN (AV.int .i64 I::bytesV b) 0 (1*513)=some (wV (I,b)):=by
   rw[subN_some _ _ _ (.inr (by simp[F])),yE,zW (by simp[F])];rfl
  simp only[srcOf,g3,a6]
 have N2:=H.next;have N3:=Ad.next
 have a7:Own 513 150 C l es.ww.length (es.ww.flatMap wV):=((d.ow.mono t fun _ _ x=>x).mono H fun B a=>(wA B a).2.2.2).mono Ad fun _ _ x=>x
 have a8:allCells (wV (I,b))=true:=by
  have:=bytesV_cells b;simp only[wV,allCells,this];rfl
 obtain⟨Q,e4,a9,nb,n4⟩:=apP_own (bytes:=520) (m:=1) Ad.ok (by decide) a7 T (by rw[wV_len hb]) a8 (by omega) (by omega) (by decide);have N4:=nb.next
 have L:Q.h.get i=_:=(nb.keep _ (by omega) (fun a=>(wA i a).2.1 rfl)).trans ((Ad.keep _ (by omega) (fun x=>x)).trans K);have b4:Eng.ld1 (.ptr i 2) Q=some l:=by rw[ld1_get L];rfl
 obtain⟨S,e5,M,u,n5⟩:=st_fld nb.ok L (o:=2) (x:= .slice C.next 0 (es.ww.length+1) 1) rfl (by simp)
 have b0:Eng.ld1 (.ptr i 4) S=some (.int .i64 (0:Nat)):=by rw[ld1_get M];rfl
 refine⟨S, .slice C.next 0 (es.ww.length+1) 1,⟨es',es.on,es.wo,es.ww++[(I,b)]⟩, ?_,⟨M, ?_, ?_, ?_,fun j=> ?_,fun w v=> ?_,by simp;omega,d.ne,d.on_,by rw[d.sp,qC],d.oa⟩,⟨u.ok,by omega,fun B a G=> ?_⟩,fun B a=> .inr (by rw[jS.1 a];omega)⟩
 .simp(maxSteps:=999999)(disch:=omega) only[f118,f90,eZ,b1,ha,Y,r3,r2,f.ow.row.lnSl,e2,a5,rb,V,qB,qV,q1,q2,b3,e4,e5,b0]
 .rw[u.keep _ (by omega) (fun e=>a0 e.symm),nb.keep _ (by omega) (fun a=>(wA p a).2.2.1 rfl),Ad.keep _ (by omega) (fun x=>x)];exact a4
 .rw[u.keep _ (by omega) (fun e=>J e.symm),nb.keep _ (by omega) (fun a=>(wA s a).2.2.2 rfl),Ad.keep _ (by omega) (fun x=>x)];exact g2
 .have:=a9.mono u fun B a=>by rw[jS.1 a];omega
  simpa[jB]using this
 .rw[f2,lastW_snoc,d.nw j];by_cases e:I=j
  .subst e;simp
  .have e': ¬((j:Nat):Int)=(I:Int):=by omega
   rw[if_neg e',if_neg e]
 .rcases zZ.1 v with v | v
  .exact d.ln w v
  .obtain rfl:w=(I,b):=by simpa using v
   exact hb
 .have a1: ¬B=i:=fun e=>G (.inl e)
  have a2: ¬B=s:=fun e=>G (.inr (.inl e))
  have a3: ¬Blk l B:=fun e=>G (.inr (.inr e))
  rw[u.keep B (by omega) a1,nb.keep B (by omega) a3,Ad.keep B (by omega) (fun x=>x),H.keep B (by omega) a2,t.keep B a (fun x=>x)]
end Go.Eng.Sh
end
section
namespace Go.Eng
theorem ixArr_int (n A off:Nat)(k:IntKind){z:Int}(i:Nat)(f:z=(i:Int))(h:i<n):ixArr n 1 (.ptr A off) (.int k z)=some (.ptr A (off+i)):=by
 subst f;have a:=natOf_int k (z:=(i:Int)) (by omega);simp only[qU]at a;have hb:Nat.blt i n=true:=by rw[q9];exact h
 simp only[ixArr,a,hb,zP,fN_eq,Nat.mul_one]
end Go.Eng
namespace Go.Bk
def cnt (is:Nat->Nat)(w:Nat):Nat->Nat
 | 0=>0
 | n+1=>cnt is w n+(if is n=w then 1 else 0)
def setS (is:Nat->Nat)(i b:Nat):Nat->Nat:=fun j=>if j=i then b else is j
theorem setS_self (is:Nat->Nat)(i b:Nat):setS is i b i=b:=by simp[setS]
theorem setS_ne (h:p≠i):setS v i A p=v p:=by simp[setS,h]
theorem cnt_le (is:Nat->Nat)(w:Nat): ∀n,cnt is w n<=n
 | 0=>zK _
 | n+1=>by
  have:=cnt_le is w n;simp only[cnt];split<;>omega
theorem cnt_eq {is a:Nat->Nat}{w:Nat} : ∀ {n:Nat},(∀i,i<n->(is i=w↔a i=w))->cnt is w n=cnt a w n
 | 0,_=>rfl
 | n+1,h=>by
  have j:=cnt_eq (n:=n) fun i hi=>h i (by omega)
  have f:=h n (by omega);simp only[cnt,j];by_cases e:is n=w
  .rw[if_pos e,if_pos (f.1 e)]
  .rw[if_neg e,if_neg fun x=>e (f.2 x)]
theorem cnt_set {is:Nat->Nat}{i a b:Nat}(o:is i=a)(j:a≠b): ∀ {n:Nat},(i<n->cnt (setS is i b) b n=cnt is b n+1/\cnt (setS is i b) a n+1=cnt is a n)/\(¬i<n->cnt (setS is i b) b n=cnt is b n/\cnt (setS is i b) a n=cnt is a n)
 | 0=>⟨fun h=>by omega,fun _=>⟨rfl,rfl⟩⟩
 | n+1=>by
  obtain⟨q,p⟩:=cnt_set o j (n:=n);refine⟨fun h=> ?_,fun h=> ?_⟩
  .by_cases e:i=n
   .subst e;obtain⟨h3,f⟩:=p (by omega);simp only[cnt,setS_self,if_true,h3,f,o];simp[j,Ne.symm j]
   .obtain⟨h3,f⟩:=q (by omega);have m:n≠i:=fun x=>e x.symm
    simp only[cnt,setS_ne m,h3];omega
  .obtain⟨h3,f⟩:=p (by omega);have m:n≠i:=by omega
   simp only[cnt,setS_ne m,h3,f,and_self]
theorem cnt_other (f:v i=A)(h:s≠A)(m:s≠p)(n:Nat):cnt (setS v i p) s n=cnt v s n:=by
 refine cnt_eq fun j _=> ?_
 by_cases e:j=i
 .subst e;rw[setS_self,f];exact⟨fun x=>absurd x.symm m,fun x=>absurd x.symm h⟩
 .rw[setS_ne e]
theorem cnt_pos {is:Nat->Nat}{w:Nat} : ∀ {n i:Nat},i<n->is i=w->0<cnt is w n
 | n+1,i,h,e=>by
  simp only[cnt];by_cases hi:i=n
  .subst hi;rw[if_pos e];omega
  .have:=cnt_pos (n:=n) (i:=i) (by omega) e;omega
theorem cnt_ex {is:Nat->Nat}{w:Nat} : ∀ {n:Nat},0<cnt is w n-> ∃i,i<n/\is i=w
 | 0,h=>by simp[cnt]at h
 | n+1,h=>by
  simp only[cnt]at h;by_cases e:is n=w
  .exact⟨n,by omega,e⟩
  .rw[if_neg e]at h;obtain⟨i,f,a⟩:=cnt_ex (n:=n) (by omega);exact⟨i,by omega,a⟩
def fnd (is:Nat->Nat)(w:Nat):Nat->Nat->Option Nat
 | 0,_=>none
 | d+1,i=>if is i=w then some i else fnd is w d (i+1)
theorem fnd_some {is:Nat->Nat}{w:Nat} : ∀ {d i j:Nat},fnd is w d i=some j->i<=j/\j<i+d/\is j=w
 | 0,_,_,h=>by cases h
 | d+1,i,j,h=>by
  simp only[fnd]at h;split at h
  .rename_i e;obtain rfl:=y0 h;exact⟨zK _,by omega,e⟩
  .obtain⟨a,f,h3⟩:=fnd_some h;exact⟨by omega,by omega,h3⟩
theorem fnd_none {is:Nat->Nat}{w:Nat} : ∀ {d i:Nat},fnd is w d i=none-> ∀j,i<=j->j<i+d->is j≠w
 | 0,_,_,j,h1,h2=>by omega
 | d+1,i,h,j,h1,h2=>by
  simp only[fnd]at h;split at h
  .cases h
  .rename_i e;by_cases a:j=i
   .subst a;exact e
   .exact fnd_none h j (by omega) (by omega)
end Go.Bk
namespace Go.Eng.Sh
open Go.Bk
def Spc (H:AH)(A nb la:Nat)(is:Nat->Nat):Prop:= ∃c,H.h.get A=some (.cells c 137 1 false)/\c.length=8198/\c[0]? =some (.int .i64 nb)/\c[1]? =some (.int .i64 la)/\(∀i,i<8192->c[2+i]? =some (.int .u8 (is i:Nat)))/\(∀k,k<4->c[8194+k]? =some (.int .i64 (cnt is k nb:Nat)))/\nb<=8192/\la<8192/\ ∀i,is i<4
theorem Spc.stp (h:Spc k i A p v)(a:k.ok)(s:Stp t k C)(f: ¬t i):Spc C i A p v:=by
 obtain⟨c,g,h⟩:=h;exact⟨c,by rw[s.keep _ (a.lt g) f];exact g,h⟩
theorem Spc.lt {H:AH}{A nb la:Nat}{is:Nat->Nat}(h:Spc H A nb la is)(a:H.ok):A<H.next:=by
 obtain⟨c,g,h⟩:=h;exact a.lt g
theorem sput_ok{i a b:Nat}(h:Spc k A p s v)(F:k.ok)(hi:i<p)(f:v i=a)(hb:b<4)(z:a≠b):
  ∃H',f86 D n [.ptr A 0, .int .i64 i, .int .u8 b] k=some (.tuple [],H')/\Spc H' A p s (setS v i b)/\Stp (fun B=>B=A) k H'/\H'.next=k.next:=by
 obtain⟨c,g,hl,G,c1,la,nb,I,J,t⟩:=h;have q:a<4:=by rw[<-f];exact t i
 obtain⟨q1,q2⟩:=(cnt_set f z (n:=p)).1 hi;have a0:=cnt_le v a p;have a1:=cnt_le v b p;obtain⟨K,L,u,is,n1⟩:=st_fld F g (o:=8194+a) (x:= .int .i64 (cnt (setS v i b) a p:Nat)) rfl (by omega);obtain⟨H2,m,M,y,n2⟩:=st_fld is.ok u (o:=8194+b) (x:= .int .i64 (cnt (setS v i b) b p:Nat)) rfl (by simp;omega);obtain⟨N,O,Q,S,n3⟩:=st_fld y.ok M (o:=2+i) (x:= .int .u8 b) rfl (by simp;omega);refine⟨N, ?_,⟨_,Q,by simp[hl], ?_, ?_,fun j T=> ?_,fun H C=> ?_,I,J,fun j=> ?_⟩,(is.trans y).trans S,by omega⟩
 .have U:ld1 (.ptr A (2+i)) k=some (.int .u8 a):=ld1_ptr g (by rw[la i (by omega),f]);have V:ld1 (.ptr A (8194+a)) k=some (.int .i64 (cnt v a p:Nat)):=ld1_ptr g (nb a q);have W:ld1 (.ptr A (8194+b)) K=some (.int .i64 (cnt v b p:Nat)):=ld1_ptr u (by rw[qS (by omega)];exact nb b hb);have Y:ixArr 8192 1 (.ptr A 2) (.int .i64 i)=some (.ptr A (2+i)):=ixArr_int 8192 A 2 .i64 i rfl (by omega);have Z:ixArr 4 1 (.ptr A 8194) (.int .u8 a)=some (.ptr A (8194+a)):=ixArr_int 4 A 8194 .u8 a rfl q;have i2:ixArr 4 1 (.ptr A 8194) (.int .u8 b)=some (.ptr A (8194+b)):=ixArr_int 4 A 8194 .u8 b rfl hb;have w1:((cnt v a p:Nat):Int) - ((1:Nat):Int)=((cnt (setS v i b) a p:Nat):Int):=by omega
  have w2:((cnt v b p:Nat):Int)+((1:Nat):Int)=((cnt (setS v i b) b p:Nat):Int):=by omega
  simp(maxSteps:=999999)(disch:=omega) only[f86,eZ,Y,U,Z,V,w1,L,i2,W,w2,m,O]
 .rw[qS (by omega),qS (by omega),qS (by omega)];exact G
 .rw[qS (by omega),qS (by omega),qS (by omega)];exact c1
 .by_cases e:j=i
  .subst e;rw[List.getElem?_set_self (by simp;omega),setS_self]
  .rw[qS (by omega),qS (by omega),qS (by omega),setS_ne e];exact la j T
 .rw[qS (by omega)];by_cases e:H=b
  .subst e;rw[List.getElem?_set_self (by simp;omega)]
  .rw[qS (by omega)];by_cases m:H=a
   .subst m;rw[List.getElem?_set_self (by omega)]
   .rw[qS (by omega),cnt_other f m e];exact nb H C
 .by_cases e:j=i
  .subst e;rw[setS_self];exact hb
  .rw[setS_ne e];exact t j
theorem rep_one (x:AV): ∀n,rep n [x]=List.replicate n x
 | 0=>rfl
 | n+1=>by rw[rep,rep_one x n,List.replicate_succ];rfl
def newS:Nat->Nat:=fun i=>if i<2 then 1 else 0
theorem cnt_const (w n:Nat):cnt (fun _=>w) w n=n:=by
 induction n with
 | zero=>rfl
 | succ n ih=>simp[cnt,ih]
theorem cnt_none (h:A≠i)(n:Nat):cnt (fun _=>A) i n=0:=by
 induction n with
 | zero=>rfl
 | succ n ih=>simp[cnt,ih,h]
theorem newS_eq:setS (setS (fun _=>0) 0 1) 1 1=newS:=by
 funext i
 match i with
 | 0=>rfl
 | 1=>rfl
 | i+2=>rw[setS_ne (by omega),setS_ne (by omega),newS,if_neg (by omega)]
theorem snew_ok(hn:100<=n)(O:k.ok)(s:64<=A)(Q:A<=8192): ∃H' nb,f61 D n [.int .i64 A] k=some (.tuple [.ptr nb 0, .int .i64 (0:Nat)],H')/\Prs k H'/\k.next<=nb/\Spc H' nb A 0 newS:=by
 obtain⟨r,hr⟩: ∃r,r=rep 8192 [AV.int .u8 (0:Nat)]:=⟨_,rfl⟩;have p:=rep_one (AV.int .u8 (0:Nat)) 8192;rw[<-hr]at p;have q:r.length=8192:=by rw[p,List.length_replicate]
 have I: ∀i,i<8192->r[i]? =some (.int .u8 (0:Nat)):=fun i hi=>by rw[p,List.getElem?_replicate,if_pos hi]
 clear p;obtain⟨j,t⟩: ∃j,j=[AV.int .i64 (0:Nat), .int .i64 (0:Nat), .int .i64 (0:Nat), .int .i64 (0:Nat)]:=⟨_,rfl⟩;have hb:bldS [(0,1),(1,1),(2,8192),(8194,4)] ([AV.int .i64 (0:Nat), .int .i64 (0:Nat)]++r++j) [(0, .int .i64 A)]=some (.agg ([AV.int .i64 A, .int .i64 (0:Nat)]++r++j)):=rfl;obtain⟨c,f⟩: ∃c,c=[AV.int .i64 A, .int .i64 (0:Nat)]++r++j:=⟨_,rfl⟩;have J:c.length=8198:=by rw[f,t];simp[q]
 have S:c[0]? =some (.int .i64 A):=by rw[f];rfl
 have c1:c[1]? =some (.int .i64 (0:Nat)):=by rw[f];rfl
 have T: ∀i,i<8192->c[2+i]? =some (.int .u8 (0:Nat)):=fun i hi=>by
  rw[f,qC,j5 (by simp),yQ (by simp[q];omega)];simpa using I i hi
 have U: ∀i,i<4->c[8194+i]? =some (.int .i64 (0:Nat)):=fun i hi=>by
  rw[f,j5 (by simp[q]),t];have:8194+i - ([AV.int .i64 A, .int .i64 (0:Nat)]++r).length=i:=by simp[q]
  rw[this]
  match i,hi with
  | 0,_=>rfl
  | 1,_=>rfl
  | 2,_=>rfl
  | 3,_=>rfl
 rw[<-f]at hb;clear f;obtain⟨H1,nb,b1,v,V,W,n1⟩:=box O (.cells c 137 1 false);obtain⟨y,Y,Z,z,n2⟩:=st_fld v.ok V (o:=8194) (x:= .int .i64 A) rfl (by omega);have K:Spc y nb A 0 fun _=>0:=⟨_,Z,by simp[J],by rw[qS (by omega)];exact S,by rw[qS (by omega)];exact c1,fun i hi=>by rw[qS (by omega)];exact T i hi,fun H L=>by
  by_cases e:H=0
  .subst e;rw[List.getElem?_set_self (by omega),cnt_const]
  .rw[qS (by omega),cnt_none (fun h=>e h.symm)];exact U H L,Q,by omega,fun _=>Nat.succ_pos 3⟩
 obtain⟨C,e3,M,F,n3⟩:=sput_ok D n K z.ok (i:=0) (a:=0) (b:=1) (by omega) rfl (by omega) (by omega);obtain⟨m,e4,N,s4,n4⟩:=sput_ok D n M F.ok (i:=1) (a:=0) (b:=1) (by omega) rfl (by omega) (by omega);have N1:=v.next
 have i1:ixArr 4 1 (.ptr nb 8194) (.int .u8 (0:Nat))=some (.ptr nb 8194):=ixArr_int 4 nb 8194 .u8 0 rfl (by omega);refine⟨m,nb, ?_,v.fresh ((z.trans F).trans s4) (fun B hB=>by omega),W,by rw[<-newS_eq];exact N⟩;obtain⟨H,rfl⟩: ∃H,n=H+1+1+1:=⟨n - 3,by omega⟩;have l0:f61l0 D (H+1+1+1) [.ptr nb 0, .int .i64 (0:Nat)] y=some (.norm [.ptr nb 0, .int .i64 (1:Nat)],C):=by
  have u:((0:Nat):Int)< ((2:Nat):Int):=by omega
  have s:((0:Nat):Int)+((1:Nat):Int)=((1:Nat):Int):=by omega
  simp(maxSteps:=999999)(disch:=omega) only[f61l0,eZ,u,e3,s]
 have l1:f61l0 D (H+1+1+1) [.ptr nb 0, .int .i64 (1:Nat)] C=some (.norm [.ptr nb 0, .int .i64 (2:Nat)],m):=by
  have u:((1:Nat):Int)< ((2:Nat):Int):=by omega
  have s:((1:Nat):Int)+((1:Nat):Int)=((2:Nat):Int):=by omega
  simp(maxSteps:=999999)(disch:=omega) only[f61l0,eZ,u,e4,s]
 have l2:f61l0 D (H+1+1+1) [.ptr nb 0, .int .i64 (2:Nat)] m=some (.exit 0 [.ptr nb 0],m):=by
  simp(maxSteps:=999999)(disch:=omega) only[f61l0,eZ,yA]
 have G:loopK (H+1+1+1) (f61l0 D (H+1+1+1)) [.ptr nb 0, .int .i64 (0:Nat)] y=some (.exit 0 [.ptr nb 0],m):=by
  rw[loop_next l0,loop_next l1,loop_exit l2]
 have a1: ¬(A:Int)< ((64:Nat):Int):=by omega
 have a2: ¬((8192:Nat):Int)< (A:Int):=by omega
 simp(maxSteps:=999999)(disch:=omega) only[f61,<-hr,eZ,a1,a2,<-t,hb,b1,i1,Y,G,f61b1]
end Go.Eng.Sh
end
section
namespace Go.Eng
theorem newB_pushS (a:k.ok)(o:AObj)(K:Nat->AH->Rs):newB k o K=K k.next (k.push o):=newB_ok a o K
theorem mx2S (a b:Nat):mx2 (.int .i64 a) (.int .i64 b)=some (.int .i64 (max a b:Nat)):=by
 by_cases h:a<b
 .have hb:ilt (a:Int) (b:Int)=true:=by rw[ilt_eq];simpa using h
  simp only[mx2,hb,zP,show max a b=b by omega]
 .have hb:ilt (a:Int) (b:Int)=false:=by rw[ilt_eq];simpa using h
  simp only[mx2,hb,y9,show max a b=a by omega]
end Go.Eng
namespace Go.Eng.Sh
open Go.Bk
theorem sfree_ok(h:Spc k i A p v):f43 D n [.ptr i 0] k=some (.int .i64 (cnt v 0 A:Nat),k):=by
 obtain⟨c,g,hl,j,c1,m,a,o,nb,q⟩:=h;have f:ld1 (.ptr i (8194+0)) k=some (.int .i64 (cnt v 0 A:Nat)):=ld1_ptr g (a 0 (by omega));have H:ixArr 4 1 (.ptr i 8194) (.int .u8 (0:Nat))=some (.ptr i (8194+0)):=ixArr_int 4 i 8194 .u8 0 rfl (by omega);simp(maxSteps:=999999)(disch:=omega) only[f43,eZ,cq,H,f]
theorem Spc.la' (h:Spc k i A p v)(f:k.ok){x:Nat}(j:x<8192): ∃H',stN 1 (.ptr i 1) (.int .i64 x) k=some (undefA,H')/\Spc H' i A x v/\Stp (fun B=>B=i) k H'/\H'.next=k.next:=by
 obtain⟨c,g,hl,m,c1,la,q,s,F,t⟩:=h;obtain⟨u,is,y,z,C⟩:=st_fld f g (o:=1) (x:= .int .i64 x) rfl (by omega);refine⟨u,is,⟨_,y,by simp[hl], ?_, ?_,fun nb hi=> ?_,fun H a=> ?_,s,j,t⟩,z,C⟩
 .rw[qS (by omega)];exact m
 .rw[List.getElem?_set_self (by omega)]
 .rw[qS (by omega)];exact la nb hi
 .rw[qS (by omega)];exact q H a
theorem of_loop (D:Dyn)(n:Nat){A:Nat}(h:Box k i (.ptr s 0))(o:Box k p (.int .u8 R))(u:Spc k s I L v):
  ∀d a H,a+d=I->d<H->match fnd v R d a with
   | none=>loopK H (f146l0 D n) [.yT A, .ptr i 0, .ptr p 0, .int .i64 ((a:Nat):Int)] k=some (.exit 0 [],k)
   | some j=> ∀H',callV [] D (.yT A) [.int .i64 j] k=some (.bool false,H')->loopK H (f146l0 D n) [.yT A, .ptr i 0, .ptr p 0, .int .i64 ((a:Nat):Int)] k=some (.ret (.tuple []),H'):=by
 obtain⟨c,g,hl,la,c1,x,C,F,G,nb⟩:=id u;have m:ld1 (.ptr s 0) k=some (.int .i64 I):=ld1_ptr g la;intro d
 induction d with
 | zero=>
  intro a H hi y;obtain⟨H,rfl⟩: ∃k',H=k'+1:=⟨H - 1,by omega⟩;have t: ¬((a:Nat):Int)< (I:Int):=by omega
  simp only[fnd];exact loop_exit (by simp(maxSteps:=999999)(disch:=omega) only[f146l0,eZ,h.ld,m,t])
 | succ d ih=>
  intro a H hi y;obtain⟨H,rfl⟩: ∃k',H=k'+1:=⟨H - 1,by omega⟩;have t:((a:Nat):Int)< (I:Int):=by omega
  have A4:ixArr 8192 1 (.ptr s 2) (.int .i64 ((a:Nat):Int))=some (.ptr s (2+a)):=ixArr_int 8192 s 2 .i64 a rfl (by omega);have q:ld1 (.ptr s (2+a)) k=some (.int .u8 (v a:Nat)):=ld1_ptr g (x a (by omega));simp only[fnd];by_cases e:v a=R
  .rw[if_pos e];intro H' As;have f:((v a:Nat):Int)=(R:Int):=by omega
   exact loop_ret (by simp(maxSteps:=999999)(disch:=omega) only[f146l0,eZ,h.ld,m,t,A4,q,o.ld,f,As])
  .rw[if_neg e];have f: ¬((v a:Nat):Int)=(R:Int):=by omega
   have hi1:((a:Nat):Int)+((1:Nat):Int)=((a+1:Nat):Int):=by omega
   have z:f146l0 D n [.yT A, .ptr i 0, .ptr p 0, .int .i64 ((a:Nat):Int)] k=some (.norm [.yT A, .ptr i 0, .ptr p 0, .int .i64 (a+1:Nat)],k):=by
    simp(maxSteps:=999999)(disch:=omega) only[f146l0,eZ,h.ld,m,t,A4,q,o.ld,f,hi1]
   have:=ih (a+1) H (by omega) (by omega);rw[loop_next z];exact this
def ofR (is:Nat->Nat)(w nb ab:Nat):Option Nat:=if cnt is w nb=0 then none else fnd is w (nb - max (ab+1) 2) (max (ab+1) 2)
theorem of_first (D:Dyn)(n:Nat)(J:10000<=n){A:Nat}(h:Box k i (.ptr I 0))(nb:Box k p (.int .u8 V))(t:Box k s (.int .i64 m))(u:Spc k I L R v)(la:V<4)(G:m<L)(A4:2<=L):
  match ofR v V L m with
   | none=>f146 D n [.yT A, .ptr i 0, .ptr p 0, .ptr s 0] k=some (.tuple [],k)
   | some j=> ∀H',callV [] D (.yT A) [.int .i64 j] k=some (.bool false,H')->f146 D n [.yT A, .ptr i 0, .ptr p 0, .ptr s 0] k=some (.tuple [],H'):=by
 obtain⟨c,g,hl,K,c1,As,C,M,N,O⟩:=id u;have q:ld1 (.ptr I (8194+V)) k=some (.int .i64 (cnt v V L:Nat)):=ld1_ptr g (C V la);have o:ixArr 4 1 (.ptr I 8194) (.int .u8 V)=some (.ptr I (8194+V)):=ixArr_int 4 I 8194 .u8 V rfl la;have hi1:(m:Int)+((1:Nat):Int)=((m+1:Nat):Int):=by omega
 have hm:=mx2S (m+1) 2;obtain⟨H,hi⟩: ∃H,H=max (m+1) 2:=⟨_,rfl⟩;rw[<-hi]at hm;have a:=of_loop D n (A:=A) h nb u (L - H) H n (by omega) (by omega);simp only[ofR,<-hi];by_cases x:cnt v V L=0
 .rw[if_pos x];have f:((cnt v V L:Nat):Int)=((0:Nat):Int):=by omega
  simp(maxSteps:=999999)(disch:=omega) only[f146,eZ,h.ld,nb.ld,o,q,f]
 .rw[if_neg x];have f: ¬((cnt v V L:Nat):Int)=((0:Nat):Int):=by omega
  cases y:fnd v V (L - H) H with
  | none=>
   rw[y]at a;simp only at a⊢;simp(maxSteps:=999999)(disch:=omega) only[f146,eZ,h.ld,nb.ld,o,q,f,t.ld,hi1,hm,a,f146b1]
  | some j=>
   rw[y]at a;simp only at a⊢;intro H' z;have F:=a H' z;simp(maxSteps:=999999)(disch:=omega) only[f146,eZ,h.ld,nb.ld,o,q,f,t.ld,hi1,hm,F]
def lpT (a f h:Nat):ALoop:=⟨.ready,none,139,0,[1,2,3],[.ptr a 0, .ptr f 0, .ptr h 0]⟩
theorem callTk (m H:Nat)(o:k.h.get i=some (.loop (lpT A p s)))(a:List AV):callV [] (dy (m+1)) (.yT i) a k=r139_0 (dy m) m i (lpT A p s) a k:=by
 show rdOfT (tabR (dy m) m) i a k=_;simp only[rdOfT,o];rfl
theorem take_round(t:k.ok)(u:k.h.get i=some (.loop (lpT A p s)))(b1:Box k A (.ptr I 0))(b2:Box k p l)(S:Box k s J)(F:Spc k I L R v)(hj:V<L)(a0:v V=0)
  (T:p≠s) (la:p≠I) (As:s≠I) (d4:A≠p) (d5:A≠s):
  ∃H',r139_0 D n i (lpT A p s) [.int .i64 V] k=some (.bool false,H')/\H'.h.get i=some (.loop { lpT A p s with state:= .done,pending:=some .ret})/\Box H' p (.int .i64 V)/\Box H' s (.int .i64 (0:Nat))/\Spc H' I L V (setS v V 2)/\Stp (fun B=>B=i\/B=I\/B=p\/B=s) k H':=by
 obtain⟨c,G,_⟩:=id F;have C:I≠i:=fun e=>by rw[e,u]at G;cases G
 have n1:A≠i:=fun e=>by obtain⟨_,hb⟩:=b1;rw[e,u]at hb;cases hb
 have M:p≠i:=fun e=>by obtain⟨_,hb⟩:=b2;rw[e,u]at hb;cases hb
 have N:s≠i:=fun e=>by obtain⟨_,hb⟩:=S;rw[e,u]at hb;cases hb
 have a5:A≠I:=fun e=>by
  obtain⟨_,hb⟩:=b1;obtain⟨_,G,hl,_⟩:=F;rw[e,G]at hb;simp only[zB,AObj.cells.injEq]at hb;rw[hb.1]at hl;simp at hl
 have h2:L<=8192:=by obtain⟨_,_,_,_,_,_,_,h,_⟩:=F;exact h
 have m:Stp (fun B=>B=i) k (k.put i (.loop { lpT A p s with state:= .busy})):=(jV t).put (t.lt u) _ (.inr rfl);have U:(k.put i (.loop { lpT A p s with state:= .busy})).h.get i=some (.loop { lpT A p s with state:= .busy}):=by rw[jO,if_pos rfl]
 have O: ∀K:AH->Rs,beginK i k K=K (k.put i (.loop { lpT A p s with state:= .busy})):=fun K=>by
  simp only[beginK,u,lpT,putA_ok]
 generalize k.put i (.loop { lpT A p s with state:= .busy})=H1 at m U O;have Q:=b1.mono t m n1;have a6:=F.stp t m C;obtain⟨H2,e2,a7,H,c0⟩:=sput_ok D n a6 m.ok hj a0 (b:=2) (by omega) (by omega);have a8:=Q.mono m.ok H a5;obtain⟨H3,e3,a9,q,c1⟩:=a7.la' H.ok (x:=V) (by omega);have b0:=((b2.mono t m M).mono m.ok H la).mono H.ok q la;obtain⟨H4,e4,b4,a⟩:=b0.st q.ok (x:= .int .i64 V) rfl;have b5:=(((S.mono t m N).mono m.ok H As).mono H.ok q As).mono q.ok a (fun e=>T e.symm);obtain⟨z,e5,b6,o⟩:=b5.st a.ok (x:= .int .i64 (0:Nat)) rfl;have lA:=t.lt u;have N1:=m.next;have N2:=H.next;have N3:=q.next;have N4:=a.next;have N5:=o.next
 have nb:z.h.get i=some (.loop { lpT A p s with state:= .busy}):=by
  rw[o.keep _ (by omega) (fun e=>N e.symm),a.keep _ (by omega) (fun e=>M e.symm),q.keep _ (by omega) (fun e=>C e.symm),H.keep _ (by omega) (fun e=>C e.symm)];exact U
 have j:Stp (fun B=>B=i) z (z.put i (.loop { lpT A p s with state:= .done,pending:=some .ret})):=(jV o.ok).put (o.ok.lt nb) _ (.inr rfl);have Z:endR i (some .ret) z=some (.bool false,z.put i (.loop { lpT A p s with state:= .done,pending:=some .ret})):=by
  simp only[endR,nb,putA_ok,lpT]
 have b7:=b4.mono a.ok o T;have b8:=(a9.stp q.ok a (fun e=>la e.symm)).stp a.ok o (fun e=>As e.symm);have r2:ld1 (.ptr A 0) H2=some (.ptr I 0):=a8.ld;refine⟨_, ?_,by rw[jO,if_pos rfl],b7.mono o.ok j M,b6.mono o.ok j N,b8.stp o.ok j C,⟨j.ok,by have:=j.next;omega,fun B hB f=> ?_⟩⟩
 .have hl:eqNL [1,2,3] (lpT A p s).live=true:=rfl;have b9:(lpT A p s).vals=[.ptr A 0, .ptr p 0, .ptr s 0]:=rfl;simp(maxSteps:=999999)(disch:=omega) only[r139_0,eZ,hl,b9,zP,O,Q.ld,e2,r2,e3,e4,e5];exact Z
 .have W: ¬B=i:=fun e=>f (.inl e)
  have Y: ¬B=I:=fun e=>f (.inr (.inl e))
  have a3: ¬B=p:=fun e=>f (.inr (.inr (.inl e)))
  have a4: ¬B=s:=fun e=>f (.inr (.inr (.inr e)))
  rw[j.keep B (by omega) W,o.keep B (by omega) a4,a.keep B (by omega) a3,q.keep B (by omega) Y,H.keep B (by omega) Y,m.keep B hB W]
theorem take_one (m n:Nat)(hm:10000<=m)(o:k.ok){ab:Nat}(b1:Box k i (.ptr s 0))(b2:Box k A l)(b3:Box k p J)(sp:Spc k s I L v)(a4:ab<I)(a5:2<=I)
  (d1:A≠p) (d2:A≠s) (d3:p≠s) (d4:i≠A) (d5:i≠p):
  match ofR v 0 I ab with
  | none=> ∃H',(∀(x:AH->Rs) (As:AH->Nat->Rs) (z:AH->Rs),(bR (f113 (dy (m+2)) n [.ptr s 0, .int .u8 (0:Nat), .int .i64 ab] k) fun U k=>newB k (.loop ⟨.ready,none,139,0,[1,2,3],[.ptr i 0, .ptr A 0, .ptr p 0]⟩) fun H k=>bR (rfC [(113,f113 (dy (m+2)) n),(86,f86 (dy (m+2)) n)] (dy (m+2)) U H k) fun _ k=>endLp H k fun j k=>jmpK j (x k) (As k) (z k))=x H')/\Prs k H'
  | some j=> ∃H',(∀(x:AH->Rs) (As:AH->Nat->Rs) (z:AH->Rs),(bR (f113 (dy (m+2)) n [.ptr s 0, .int .u8 (0:Nat), .int .i64 ab] k) fun U k=>newB k (.loop ⟨.ready,none,139,0,[1,2,3],[.ptr i 0, .ptr A 0, .ptr p 0]⟩) fun H k=>bR (rfC [(113,f113 (dy (m+2)) n),(86,f86 (dy (m+2)) n)] (dy (m+2)) U H k) fun _ k=>endLp H k fun j k=>jmpK j (x k) (As k) (z k))=z H')/\Box H' A (.int .i64 ((j:Nat):Int))/\Box H' p (.int .i64 (0:Nat))/\Spc H' s I j (setS v j 2)/\Stp (fun B=>B=s\/B=A\/B=p) k H':=by
 obtain⟨H1,M,q1,Q,g1,m1,n1⟩:=box o (.cells [.ptr s 0] 66 1 false);obtain⟨H2,N,q2,la,g2,m2,n2⟩:=box Q.ok (.cells [.int .u8 (0:Nat)] 133 1 false);obtain⟨a,O,q3,t,g3,m3,n3⟩:=box la.ok (.cells [.int .i64 ab] 3 1 false);have f:Prs a (a.push (.loop (lpT i A p))):=(jV t.ok).push _;have nb:(a.push (.loop (lpT i A p))).h.get a.next=some (.loop (lpT i A p)):=jK _ _
 have S: ∀K:Nat->AH->Rs,newB a (.loop ⟨.ready,none,139,0,[1,2,3],[.ptr i 0, .ptr A 0, .ptr p 0]⟩) K=K a.next (a.push (.loop (lpT i A p))):=fun K=>newB_pushS t.ok _ K
 generalize a.push (.loop (lpT i A p))=H4 at f nb S;have P3:=(Q.trans la).trans t;have u:=P3.trans f;have N1:=Q.next;have N2:=la.next;have N3:=t.next;have N4:=f.next
 have l1:=b1.lt o;have l2:=b2.lt o;have l3:=b3.lt o;have lS:=sp.lt o;have c3:Box H4 M (.ptr s 0):=⟨_,jY ((la.trans t).trans f) Q.ok g1⟩;have c4:Box H4 N (.int .u8 (0:Nat)):=⟨_,jY (t.trans f) la.ok g2⟩;have c5:Box H4 O (.int .i64 ab):=⟨_,jY f t.ok g3⟩;have Z:=sp.stp o u (fun l=>l);have C:=of_first (dy (m+1)) (m+1) (by omega) (A:=a.next) c3 c4 c5 Z (by omega) a4 a5
 have Y:f113 (dy (m+2)) n [.ptr s 0, .int .u8 (0:Nat), .int .i64 ab] k=some (.func 146 [] [.ptr M 0, .ptr N 0, .ptr O 0],a):=by
  simp only[f113,eZ,cbx,q1,q2,q3]
 cases hr:ofR v 0 I ab with
 | none=>
  rw[hr]at C;simp only at C⊢;have q:Stp (fun B=>B=a.next) H4 (H4.put a.next .dead):=(jV f.ok).put (f.ok.lt nb) _ (.inr rfl)
  have T: ∀K:Option Code->AH->Rs,endLp a.next H4 K=K none (H4.put a.next .dead):=fun K=>by
   simp only[endLp,nb,lpT,putA_ok]
  have V:rfC [(113,f113 (dy (m+2)) n),(86,f86 (dy (m+2)) n)] (dy (m+2)) (.func 146 [] [.ptr M 0, .ptr N 0, .ptr O 0]) a.next H4=some (.tuple [],H4):=C
  refine⟨_,fun x As z=> ?_,u.fresh q fun B hB=>by omega⟩;simp only[Y,bR,S,V,T,jmpK]
 | some j=>
  rw[hr]at C;simp only at C⊢;have hj:j<I/\v j=0:=by
   simp only[ofR]at hr;split at hr
   .cases hr
   .obtain⟨h1,h2,h3⟩:=fnd_some hr;exact⟨by omega,h3⟩
  obtain⟨F,e5,g5,a6,a7,a8,q⟩:=take_round (dy m) m u.ok nb (b1.mono o u (fun l=>l)) (b2.mono o u (fun l=>l)) (b3.mono o u (fun l=>l)) Z hj.1 hj.2 d1 d2 d3 d4 d5;have a0:=C F ((callTk m (m+1) nb _).trans e5);have V:rfC [(113,f113 (dy (m+2)) n),(86,f86 (dy (m+2)) n)] (dy (m+2)) (.func 146 [] [.ptr M 0, .ptr N 0, .ptr O 0]) a.next H4=some (.tuple [],F):=a0
  have G:Stp (fun B=>B=a.next) F (F.put a.next .dead):=(jV q.ok).put (q.ok.lt g5) _ (.inr rfl)
  have T: ∀K:Option Code->AH->Rs,endLp a.next F K=K (some .ret) (F.put a.next .dead):=fun K=>by
   simp only[endLp,g5,lpT,putA_ok]
  have N5:=q.next;have N6:=G.next
  refine⟨_,fun x As z=> ?_,a6.mono q.ok G (by omega),a7.mono q.ok G (by omega),a8.stp q.ok G (by omega),⟨G.ok,by omega,fun B hB W=> ?_⟩⟩
  .simp only[Y,bR,S,V,T,jmpK]
  .have a1: ¬B=s:=fun e=>W (.inl e)
   have a2: ¬B=A:=fun e=>W (.inr (.inl e))
   have a3: ¬B=p:=fun e=>W (.inr (.inr e))
   rw[G.keep B (by omega) (by omega),q.keep B (by omega) (fun e=>by rcases e with e | e | e | e<;>omega),u.keep B hB (fun l=>l)]
theorem stake_ok (m n:Nat)(hm:10000<=m)(hn:100<=n)(J:k.ok)(K:Spc k i A p v)(a0:p<A)(Y:2<=A)(h0:v 0≠0)(L:v 1≠0)(hf:0<cnt v 0 A):
  ∃H' j,f139 (dy (m+2)) n [.ptr i 0] k=some (.tuple [.int .i64 ((j:Nat):Int), .int .i64 (0:Nat)],H')/\2<=j/\j<A/\v j=0/\Spc H' i A j (setS v j 2)/\Stp (fun B=>B=i) k H':=by
 obtain⟨c,g,hl,c0,c1,hc,a5,q1,q2,q3⟩:=id K;obtain⟨H1,t,b1,C,g1,m1,n1⟩:=box J (.cells [.ptr i 0] 66 1 false);obtain⟨H2,u,b2,la,g2,m2,n2⟩:=box C.ok (.cells [.int .i64 (0:Nat)] 3 1 false);obtain⟨q,y,b3,F,g3,m3,n3⟩:=box la.ok (.cells [.int .i64 (0:Nat)] 28 1 false);have a:=(C.trans la).trans F;have N1:=C.next;have N2:=la.next;have N3:=F.next
 have lS:=K.lt J;have G:=K.stp J a (fun x=>x);have o:Box q t (.ptr i 0):=⟨_,jY (la.trans F) C.ok g1⟩;have x2:Box q u (.int .i64 (0:Nat)):=⟨_,jY F la.ok g2⟩;have x3:Box q y (.int .i64 (0:Nat)):=⟨_,g3⟩;have rl:ld1 (.ptr i 1) q=some (.int .i64 p):=by
  obtain⟨c',g',_,_,a1,_⟩:=G;exact ld1_ptr g' a1
 have Z:bldA 1 [.int .i64 (0:Nat), .int .i64 (0:Nat)] [(0, .int .i64 p),(1, .int .i64 (0:Nat))]=some (.agg [.int .i64 p, .int .i64 (0:Nat)]):=rfl;have i0:ixAg1 2 1 (.agg [.int .i64 p, .int .i64 (0:Nat)]) (.int .i64 (0:Nat))=some (.int .i64 p):=rfl;have i1:ixAg1 2 1 (.agg [.int .i64 p, .int .i64 (0:Nat)]) (.int .i64 (1:Nat))=some (.int .i64 (0:Nat)):=rfl;have t0:((0:Nat):Int)< ((2:Nat):Int):=by omega
 have t1:((1:Nat):Int)< ((2:Nat):Int):=by omega
 have a2:((0:Nat):Int)+((1:Nat):Int)=((1:Nat):Int):=by omega
 obtain⟨H,rfl⟩: ∃H,n=H+1+1:=⟨n - 2,by omega⟩;have s:=take_one m (H+1+1) hm a.ok o x2 x3 G a0 Y (by omega) (by omega) (by omega) (by omega) (by omega)
 cases hr:ofR v 0 A p with
 | some j=>
  rw[hr]at s;simp only at s;obtain⟨z,M,N,O,a3,Q⟩:=s;have nb:2<=j/\j<A/\v j=0:=by
   simp only[ofR]at hr;split at hr
   .cases hr
   .obtain⟨L,h2,h3⟩:=fnd_some hr;exact⟨by omega,by omega,h3⟩
  refine⟨z,j, ?_,nb.1,nb.2.1,nb.2.2,a3,⟨Q.ok,by have:=Q.next;omega,fun B S T=> ?_⟩⟩
  .have U:f139l0 (dy (m+2)) (H+1+1) [.ptr t 0, .ptr u 0, .ptr y 0, .agg [.int .i64 p, .int .i64 (0:Nat)], .int .i64 (0:Nat)] q=some (.ret (.tuple [.int .i64 ((j:Nat):Int), .int .i64 (0:Nat)]),z):=by
    simp(maxSteps:=999999)(disch:=omega) only[f139l0,eZ,t0,i0,o.ld,M,N.ld,O.ld]
   simp(maxSteps:=999999)(disch:=omega) only[f139,eZ,cbx,cq,b1,b2,b3,o.ld,rl,Z,loop_ret U]
  .rw[Q.keep B (by omega) (fun e=>by rcases e with e | e | e<;>first | omega | exact T e),a.keep B S (fun x=>x)]
 | none=>
  rw[hr]at s;simp only at s;obtain⟨z,M,h⟩:=s;have N4:=h.next
  have V:=take_one m (H+1+1) hm h.ok (o.mono a.ok h (fun x=>x)) (x2.mono a.ok h (fun x=>x)) (x3.mono a.ok h (fun x=>x)) (G.stp a.ok h (fun x=>x)) (ab:=0) (by omega) Y (by omega) (by omega) (by omega) (by omega) (by omega)
  cases f:ofR v 0 A 0 with
  | none=>
   exfalso;simp only[ofR]at f;rw[if_neg (by omega)]at f;obtain⟨As,hi,I⟩:=cnt_ex hf;have:As≠0/\As≠1:=⟨fun e=>h0 (e▸I),fun e=>L (e▸I)⟩;exact fnd_none f As (by omega) (by omega) I
  | some j=>
   rw[f]at V;simp only at V;obtain⟨H5,e5,N,O,a4,W⟩:=V;have nb:2<=j/\j<A/\v j=0:=by
    simp only[ofR]at f;split at f
    .cases f
    .obtain⟨L,h2,h3⟩:=fnd_some f;exact⟨by omega,by omega,h3⟩
   refine⟨H5,j, ?_,nb.1,nb.2.1,nb.2.2,a4,⟨W.ok,by have:=W.next;omega,fun B S T=> ?_⟩⟩
   .have U:f139l0 (dy (m+2)) (H+1+1) [.ptr t 0, .ptr u 0, .ptr y 0, .agg [.int .i64 p, .int .i64 (0:Nat)], .int .i64 (0:Nat)] q=some (.norm [.ptr t 0, .ptr u 0, .ptr y 0, .agg [.int .i64 p, .int .i64 (0:Nat)], .int .i64 (1:Nat)],z):=by
     simp(maxSteps:=999999)(disch:=omega) only[f139l0,eZ,t0,i0,o.ld,M,a2]
    have l1:f139l0 (dy (m+2)) (H+1+1) [.ptr t 0, .ptr u 0, .ptr y 0, .agg [.int .i64 p, .int .i64 (0:Nat)], .int .i64 (1:Nat)] z=some (.ret (.tuple [.int .i64 ((j:Nat):Int), .int .i64 (0:Nat)]),H5):=by
     simp(maxSteps:=999999)(disch:=omega) only[f139l0,eZ,t1,i1,(o.mono a.ok h (fun x=>x)).ld,e5,N.ld,O.ld]
    simp(maxSteps:=999999)(disch:=omega) only[f139,eZ,cbx,cq,b1,b2,b3,o.ld,rl,Z,loop_next U,loop_ret l1]
   .rw[W.keep B (by omega) (fun e=>by rcases e with e | e | e<;>first | omega | exact T e),h.keep B (by omega) (fun x=>x),a.keep B S (fun x=>x)]
end Go.Eng.Sh
end
section
namespace Go.Bk
def allS (is:Nat->Nat)(w b i nb:Nat):Nat->Nat:=fun j=>if i<=j/\j<nb/\is j=w then b else is j
theorem allS_hit (m:i≠A)(hi:p<s)(h:v p=i):allS (setS v p A) i A (p+1) s=allS v i A p s:=by
 funext j;simp only[allS];by_cases e:j=p
 .subst e;rw[setS_self,if_neg (by omega),if_pos ⟨zK _,hi,h⟩]
 .rw[setS_ne e];by_cases a:p+1<=j/\j<s/\v j=i
  .rw[if_pos a,if_pos ⟨by omega,a.2⟩]
  .rw[if_neg a,if_neg fun f=>a ⟨by omega,f.2⟩]
theorem allS_miss (h:v p≠i):allS v i A (p+1) s=allS v i A p s:=by
 funext j;simp only[allS];by_cases e:j=p
 .subst e;rw[if_neg (by omega),if_neg fun f=>h f.2.2]
 .by_cases a:p+1<=j/\j<s/\v j=i
  .rw[if_pos a,if_pos ⟨by omega,a.2⟩]
  .rw[if_neg a,if_neg fun f=>a ⟨by omega,f.2⟩]
theorem allS_end (is:Nat->Nat)(w b nb:Nat):allS is w b nb nb=is:=by
 funext j;simp only[allS];rw[if_neg (by omega)]
theorem allS_none (h:cnt v i s=0):allS v i A p s=v:=by
 funext j;simp only[allS];rw[if_neg fun a=>by have:=cnt_pos a.2.1 a.2.2;omega]
def stlS (is:Nat->Nat)(nb:Nat):Nat->Nat:=allS (allS is 3 0 2 nb) 2 1 2 nb
end Go.Bk
namespace Go.Eng.Sh
open Go.Bk
def lpA (a f:Nat):ALoop:=⟨.ready,none,81,0,[3,5],[.ptr a 0, .ptr f 0]⟩
theorem callAl (m H:Nat)(j:k.h.get i=some (.loop (lpA A p)))(a:List AV):callV [] (dy (m+1)) (.yT i) a k=r81_0 (dy m) m i (lpA A p) a k:=by
 show rdOfT (tabR (dy m) m) i a k=_;simp only[rdOfT,j];rfl
theorem Spc.nbox (f:Spc k i A p v)(b1:Box k s l):s≠i:=fun e=>by
 obtain⟨_,hb⟩:=b1;obtain⟨_,h,hl,_⟩:=f;rw[e,h]at hb;simp only[zB,AObj.cells.injEq]at hb;rw[hb.1]at hl;simp at hl
theorem all_round(m:k.ok){j:Nat}(o:k.h.get i=some (.loop (lpA A p)))(w:Box k A (.ptr s 0))(x:Box k p (.int .u8 V))(y:Spc k s I L v)(S:j<I)(nb:v j=R)(M:R≠V)(hb:V<4):
  ∃H',r81_0 D n i (lpA A p) [.int .i64 j] k=some (.bool true,H')/\H'.h.get i=some (.loop (lpA A p))/\Spc H' s I L (setS v j V)/\Stp (fun B=>B=i\/B=s) k H':=by
 obtain⟨c,z,_⟩:=id y;have t:s≠i:=fun e=>by rw[e,o]at z;cases z
 have T:A≠i:=fun e=>by obtain⟨_,hb⟩:=w;rw[e,o]at hb;cases hb
 have U:p≠i:=fun e=>by obtain⟨_,hb⟩:=x;rw[e,o]at hb;cases hb
 have H:Stp (fun B=>B=i) k (k.put i (.loop { lpA A p with state:= .busy})):=(jV m).put (m.lt o) _ (.inr rfl);have C:(k.put i (.loop { lpA A p with state:= .busy})).h.get i=some (.loop { lpA A p with state:= .busy}):=by rw[jO,if_pos rfl]
 have u: ∀K:AH->Rs,beginK i k K=K (k.put i (.loop { lpA A p with state:= .busy})):=fun K=>by
  simp only[beginK,o,lpA,putA_ok]
 generalize k.put i (.loop { lpA A p with state:= .busy})=H1 at H C u;have N:=y.stp m H t;obtain⟨q,la,O,a,Z⟩:=sput_ok D n N H.ok S nb hb M;have lA:=m.lt o;have N1:=H.next;have N2:=a.next
 have F:q.h.get i=some (.loop { lpA A p with state:= .busy}):=by rw[a.keep _ (by omega) (fun e=>t e.symm)];exact C
 have f:Stp (fun B=>B=i) q (q.put i (.loop (lpA A p))):=(jV a.ok).put (a.ok.lt F) _ (.inr rfl);have J:endR i none q=some (.bool true,q.put i (.loop (lpA A p))):=by
  simp only[endR,F,putA_ok,lpA]
 refine⟨_, ?_,by rw[jO,if_pos rfl],O.stp a.ok f t,⟨f.ok,by have:=f.next;omega,fun B W G=> ?_⟩⟩
 .have hl:eqNL [3,5] (lpA A p).live=true:=rfl;have Q:(lpA A p).vals=[.ptr A 0, .ptr p 0]:=rfl;simp(maxSteps:=999999)(disch:=omega) only[r81_0,eZ,hl,Q,zP,u,(w.mono m H T).ld,(x.mono m H U).ld,la];exact J
 .have As: ¬B=i:=fun e=>G (.inl e)
  have Y: ¬B=s:=fun e=>G (.inr e)
  rw[f.keep B (by omega) As,a.keep B (by omega) Y,H.keep B W As]
theorem all_loop (la:Nat)(T:m≠r)(hb:r<4)(a2:R<=8192):
  ∀d z k (is:Nat->Nat) (H:AH),H.ok->z+d=R->d<k->H.h.get i=some (.loop (lpA A p))->Box H A (.ptr L 0)->Box H p (.int .u8 r)->Box H s (.ptr L 0)->Box H I (.int .u8 m)->Spc H L R V is->
   ∃H',loopK k (f146l0 (dy (la+1)) (la+1)) [.yT i, .ptr s 0, .ptr I 0, .int .i64 z] H=some (.exit 0 [],H')/\H'.h.get i=some (.loop (lpA A p))/\Spc H' L R V (allS is m r z R)/\Stp (fun B=>B=i\/B=L) H H':=by
 intro d
 induction d with
 | zero=>
  intro z k is H u hi Y a v y c3 q C;obtain⟨k,rfl⟩: ∃k',k=k'+1:=⟨k - 1,by omega⟩;obtain⟨c,g,hl,J,c1,U,hn,h1,h2,h4⟩:=id C;have F:ld1 (.ptr L 0) H=some (.int .i64 R):=ld1_ptr g J;have t: ¬(z:Int)< (R:Int):=by omega
  have Z:z=R:=by omega
  refine⟨H,loop_exit (by simp(maxSteps:=999999)(disch:=omega) only[f146l0,eZ,c3.ld,F,t]),a,by rw[Z,allS_end];exact C,jV u⟩
 | succ d ih=>
  intro z k is H u hi Y a v y c3 q C;obtain⟨k,rfl⟩: ∃k',k=k'+1:=⟨k - 1,by omega⟩;obtain⟨c,g,hl,J,c1,U,hn,h1,h2,h4⟩:=id C;have F:ld1 (.ptr L 0) H=some (.int .i64 R):=ld1_ptr g J;have t:(z:Int)< (R:Int):=by omega
  have nb:ixArr 8192 1 (.ptr L 2) (.int .i64 z)=some (.ptr L (2+z)):=ixArr_int 8192 L 2 .i64 z rfl (by omega);have W:ld1 (.ptr L (2+z)) H=some (.int .u8 (is z:Nat)):=ld1_ptr g (U z (by omega));have hi1:(z:Int)+((1:Nat):Int)=((z+1:Nat):Int):=by omega
  by_cases e:is z=m
  .obtain⟨K,e1,g1,a0,As⟩:=all_round (dy la) la u a v y C (j:=z) (by omega) e T hb;have n3:A≠i:=fun e=>by obtain⟨_,hb⟩:=v;rw[e,a]at hb;cases hb
   have n5:p≠i:=fun e=>by obtain⟨_,hb⟩:=y;rw[e,a]at hb;cases hb
   have m3:s≠i:=fun e=>by obtain⟨_,hb⟩:=c3;rw[e,a]at hb;cases hb
   have m4:I≠i:=fun e=>by obtain⟨_,hb⟩:=q;rw[e,a]at hb;cases hb
   have st: ∀ {G:Nat} {x:AV},Box H G x->G≠i->Box K G x:=fun {G x} hb a1=>hb.mono u As fun e=>by
    rcases e with e | e
    .exact a1 e
    .exact C.nbox hb e
   obtain⟨M,N,O,f,Q⟩:=ih (z+1) k (setS is z r) K As.ok (by omega) (by omega) g1 (st v n3) (st y n5) (st c3 m3) (st q m4) a0;rw[allS_hit T (by omega) e]at f;have o:((is z:Nat):Int)=(m:Int):=by omega
   have S:f146l0 (dy (la+1)) (la+1) [.yT i, .ptr s 0, .ptr I 0, .int .i64 z] H=some (.norm [.yT i, .ptr s 0, .ptr I 0, .int .i64 (z+1:Nat)],K):=by
    simp(maxSteps:=999999)(disch:=omega) only[f146l0,eZ,c3.ld,F,t,nb,W,q.ld,o,hi1,callAl la (la+1) a,e1]
   exact⟨M,by rw[loop_next S];exact N,O,f,As.trans Q⟩
  .have o: ¬((is z:Nat):Int)=(m:Int):=by omega
   have S:f146l0 (dy (la+1)) (la+1) [.yT i, .ptr s 0, .ptr I 0, .int .i64 z] H=some (.norm [.yT i, .ptr s 0, .ptr I 0, .int .i64 (z+1:Nat)],H):=by
    simp(maxSteps:=999999)(disch:=omega) only[f146l0,eZ,c3.ld,F,t,nb,W,q.ld,o,hi1]
   obtain⟨M,N,O,f,Q⟩:=ih (z+1) k is H u (by omega) (by omega) a v y c3 q C;rw[allS_miss e]at f;exact⟨M,by rw[loop_next S];exact N,O,f,Q⟩
theorem sall_ok (m n:Nat)(hm:10000<=m)(M:k.ok){w b:Nat}(N:Spc k i A p v)(a7:2<=A)(V:w<4)(hb:b<4)(a2:w≠b):
  ∃H',f81 (dy (m+2)) n [.ptr i 0, .int .u8 w, .int .u8 b] k=some (.tuple [],H')/\Spc H' i A p (allS v w b 2 A)/\Stp (fun B=>B=i) k H':=by
 obtain⟨c,g,hl,c0,c1,hc,a8,q1,q2,q3⟩:=id N;obtain⟨H1,j,b1,u,W,m1,n1⟩:=box M (.cells [.ptr i 0] 66 1 false);obtain⟨Y,As,b2,nb,g2,m2,n2⟩:=box u.ok (.cells [.int .u8 b] 133 1 false);have Z:=u.trans nb;obtain⟨H3,y,b3,t,g3,m3,n3⟩:=box Z.ok (.cells [.ptr i 0] 66 1 false);obtain⟨H4,z,b4,q,g4,m4,n4⟩:=box t.ok (.cells [.int .u8 w] 133 1 false);obtain⟨a,C,b5,o,g5,m5,n5⟩:=box q.ok (.cells [.int .i64 (0:Nat)] 3 1 false);have H:Prs a (a.push (.loop (lpA j As))):=(jV o.ok).push _;have O:(a.push (.loop (lpA j As))).h.get a.next=some (.loop (lpA j As)):=jK _ _
 have U: ∀K:Nat->AH->Rs,newB a (.loop ⟨.ready,none,81,0,[3,5],[.ptr j 0, .ptr As 0]⟩) K=K a.next (a.push (.loop (lpA j As))):=fun K=>newB_pushS o.ok _ K
 generalize a.push (.loop (lpA j As))=H6 at H O U;have P5:=((Z.trans t).trans q).trans o;have P6:=P5.trans H;have N1:=u.next;have N2:=nb.next;have N3:=t.next;have N4:=q.next;have N5:=o.next;have N6:=H.next
 have lS:=N.lt M;have x3:Box Y j (.ptr i 0):=⟨_,jY nb u.ok W⟩;have y3:Box H6 j (.ptr i 0):=⟨_,jY ((((nb.trans t).trans q).trans o).trans H) u.ok W⟩;have y5:Box H6 As (.int .u8 b):=⟨_,jY (((t.trans q).trans o).trans H) nb.ok g2⟩;have Q:Box H6 y (.ptr i 0):=⟨_,jY ((q.trans o).trans H) t.ok g3⟩;have S:Box H6 z (.int .u8 w):=⟨_,jY (o.trans H) q.ok g4⟩;have z5:Box H6 C (.int .i64 (0:Nat)):=⟨_,jY H o.ok g5⟩;have I:=N.stp M P6 (fun x=>x);have a0:f113 (dy (m+2)) n [.ptr i 0, .int .u8 w, .int .i64 (0:Nat)] Y=some (.func 146 [] [.ptr y 0, .ptr z 0, .ptr C 0],a):=by
  simp only[f113,eZ,cbx,b3,b4,b5]
 have run: ∃f,f146 (dy (m+1)) (m+1) [.yT a.next, .ptr y 0, .ptr z 0, .ptr C 0] H6=some (.tuple [],f)/\f.h.get a.next=some (.loop (lpA j As))/\Spc f i A p (allS v w b 2 A)/\Stp (fun B=>B=a.next\/B=i) H6 f:=by
  have r1:ld1 (.ptr i (8194+w)) H6=some (.int .i64 (cnt v w A:Nat)):=by
   obtain⟨c',g',_,_,_,_,a3,_⟩:=I;exact ld1_ptr g' (a3 w V)
  have i1:ixArr 4 1 (.ptr i 8194) (.int .u8 w)=some (.ptr i (8194+w)):=ixArr_int 4 i 8194 .u8 w rfl V;by_cases h0:cnt v w A=0
  .have J:((cnt v w A:Nat):Int)=((0:Nat):Int):=by omega
   refine⟨H6, ?_,O,by rw[allS_none h0];exact I,jV H.ok⟩;simp(maxSteps:=999999)(disch:=omega) only[f146,eZ,Q.ld,S.ld,i1,r1,J]
  .have J: ¬((cnt v w A:Nat):Int)=((0:Nat):Int):=by omega
   obtain⟨f,T,F,L,s⟩:=all_loop m a2 hb q1 (A - 2) 2 (m+1) v H6 H.ok (by omega) (by omega) O y3 y5 Q S I;refine⟨f, ?_,F,L,s⟩;have a4:mx2 (.int .i64 (1:Nat)) (.int .i64 (2:Nat))=some (.int .i64 (2:Nat)):=rfl;have a5:((0:Nat):Int)+((1:Nat):Int)=((1:Nat):Int):=by omega
   simp(maxSteps:=999999)(disch:=omega) only[f146,eZ,Q.ld,S.ld,i1,r1,J,z5.ld,a5,a4,T,f146b1]
 obtain⟨f,T,F,L,s⟩:=run;have G:Stp (fun B=>B=a.next) f (f.put a.next .dead):=(jV s.ok).put (s.ok.lt F) _ (.inr rfl)
 have a1: ∀K:Option Code->AH->Rs,endLp a.next f K=K none (f.put a.next .dead):=fun K=>by
  simp only[endLp,F,lpA,putA_ok]
 have a6:rfC [(113,f113 (dy (m+2)) n),(86,f86 (dy (m+2)) n)] (dy (m+2)) (.func 146 [] [.ptr y 0, .ptr z 0, .ptr C 0]) a.next H6=some (.tuple [],f):=T
 have N7:=s.next;have N8:=G.next
 refine⟨_, ?_,L.stp s.ok G (by omega),⟨G.ok,by omega,fun B hB hS=> ?_⟩⟩
 .simp(maxSteps:=999999)(disch:=omega) only[f81,eZ,cbx,b1,b2,x3.ld,a0,U,a6,a1,jmpK]
 .rw[G.keep B (by omega) (by omega),s.keep B (by omega) (fun e=>by rcases e with e | e;omega;exact hS e),P6.keep B hB (fun x=>x)]
theorem settle_ok (m n:Nat)(hm:10000<=m)(j:k.ok)(o:Spc k i A p v)(a:2<=A):
  ∃H',f40 (dy (m+2)) n [.ptr i 0] k=some (.tuple [],H')/\Spc H' i A p (stlS v A)/\Stp (fun B=>B=i) k H':=by
 obtain⟨u,As,h,f⟩:=sall_ok m n hm j o a (w:=3) (b:=0) (by omega) (by omega) (by omega);obtain⟨q,s,H,t⟩:=sall_ok m n hm f.ok h a (w:=2) (b:=1) (by omega) (by omega) (by omega);refine⟨q, ?_,H,f.trans t⟩;simp(maxSteps:=999999)(disch:=omega) only[f40,eZ,cq,As,s,f40j0]
open Go.Nd (Ptr Str)
theorem bto_ok(q:1000<=n)(C:k.ok)(kind:UInt8){at_:Nat}(S:1<=at_)(Q:at_<8192)(hb:i<=2147483647){body:Str}(hl:body.length<=500):
  ∃H',f140 D n [.int .i64 at_, .agg (bytesV (sealB kind i body))] k=some (.tuple [.agg (ptrV (ptrB at_ i (sealB kind i body))), .int .i64 (0:Nat)],H')/\Prs k H':=by
 obtain⟨B,j⟩: ∃B,B=sealB kind i body:=⟨_,rfl⟩;have h:=sealB_len (kind:=kind) (birth:=i) hl;rw[<-j]at h;obtain⟨T,U,b1,m,F,V,W⟩:=box C (.cells (bytesV B) 144 1 false);obtain⟨Y,A4,b2,a,G,Z,n2⟩:=box m.ok (.cells [.int .i64 (0:Nat), .int .i64 (0:Nat), .int .u64 (0:Nat)] 38 1 false);have p:=jY a m.ok F;obtain⟨H3,s,f⟩:=open_ok D n q a.ok kind hb hl;rw[<-j]at s⊢;obtain⟨I,J,H⟩:=bsum_ok D n q f.ok h;have t:=jY (f.trans H) a.ok G;have u:=jY f a.ok p;obtain⟨o,K,L,M,n5⟩:=st_all H.ok t (l':=ptrV (ptrB at_ i B)) rfl rfl;have v:stN 3 (.ptr A4 0) (.agg (ptrV (ptrB at_ i B))) I=some (undefA,o):=K;have N:=ldR p h;have x:=ldR u h;have O:ldN 3 (.ptr A4 0) o=some (.agg (ptrV (ptrB at_ i B))):=ldN_all L rfl;have y: ¬(((0:Nat):Int)≠((0:Nat):Int)):=by omega
 have t1: ¬(at_:Int)< ((1:Nat):Int):=by omega
 have t2: ¬((8192:Nat):Int)<=(at_:Int):=by omega
 have z:bldS [(0,1),(1,1),(2,1)] [.int .i64 (0:Nat), .int .i64 (0:Nat), .int .u64 (0:Nat)] [(0, .int .i64 at_),(1, .int .i64 i),(2, .int .u64 (sumS B:Nat))]=some (.agg (ptrV (ptrB at_ i B))):=rfl;have N2:=a.next;have N3:=f.next;have N4:=H.next
 refine⟨o, ?_,(((m.trans a).trans f).trans H).fresh M fun B j=>by omega⟩;simp(maxSteps:=999999)(disch:=omega) only[f140,eZ,b1,b2,N,s,pExtract,nth,y,t1,t2,x,J,z,v,O]
structure Wr (E:Ev)(H:AH)(Aw As At M Ad:Nat)(c:AV)(txg left la:Nat)(is:Nat->Nat)(root:Ptr)(es:List (AV×AV))(q:PN)(last:Nat)(dr:AV)(Z P:Nat->Prop):Prop where
 ti:TI E H At M (.ptr Ad 0) c root es q last dr
 sp:Spc H As E.nb la is
 few:E.ws.length+cnt is 0 E.nb<=990000
 gw: ∃On Nw wv ds tv ov nt tl ol,DkI H Ad E.nb E.ws On Nw wv ds/\H.h.get Aw=some (.cells [.ptr At 0, .ptr As 0, .int .i64 txg, .int .i64 left,tv,ov] 141 1 false)/\Own 1 3 H tv nt tl/\Own 513 146 H ov nt ol/\nt<=E.ws.length/\(∀B,Z B↔B=Aw\/B=As\/B=Ad\/B=Nw\/Blk wv B\/Blk tv B\/Blk ov B)/\ ¬Z On
 pr: ∀B,P B-> ¬Z B
 pa: ∀B,P B↔B=At\/B=M\/Blk dr B\/ ∃kv∈es,blkN kv.2 B
 bd:2<=la\/la=0
 nb:64<=E.nb/\E.nb<=8192/\la<E.nb
 s0:is 0≠0/\is 1≠0
 lf:left<=1000000000
theorem Wr.lt {E:Ev}{H:AH}{h As At M Ad:Nat}{c:AV}{txg left la:Nat}{is:Nat->Nat}{root:Ptr}{es:List (AV×AV)}{q:PN}{last:Nat}{dr:AV}{Z P:Nat->Prop}(w:Wr E H h As At M Ad c txg left la is root es q last dr Z P): ∀B,Z B->B<H.next:=by
 obtain⟨On,Nw,wv,ds,s,t,nt,u,v,f,i,j,m,_,o,_⟩:=w.gw;have a:=w.ti.ok;intro B p;rcases(o B).1 p with rfl | rfl | rfl | rfl | e | e | e
 .exact a.lt i
 .exact w.sp.lt a
 .exact a.lt f.gD
 .exact a.lt f.gN
 .exact Own.lt f.ow e
 .exact Own.lt j e
 .exact Own.lt m e
theorem Wr.prs {E:Ev}{H H':AH}{a As At M Ad:Nat}{c:AV}{txg left la:Nat}{is:Nat->Nat}{root:Ptr}{es:List (AV×AV)}{q:PN}{last:Nat}{dr:AV}{Z P:Nat->Prop}(w:Wr E H a As At M Ad c txg left la is root es q last dr Z P)(s:Prs H H'):Wr E H' a As At M Ad c txg left la is root es q last dr Z P:=by
 obtain⟨On,Nw,wv,ds,f,h,nt,i,j,m,o,p,t,u,v,y⟩:=w.gw;exact⟨w.ti.prs s,w.sp.stp w.ti.ok s fun x=>x,w.few,⟨On,Nw,wv,ds,f,h,nt,i,j,m.prs w.ti.ok s,jY s w.ti.ok o,p.mono s fun _ _ x=>x,t.mono s fun _ _ x=>x,u,v,y⟩,w.pr,w.pa,w.bd,w.nb,w.s0,w.lf⟩
theorem TI.wr {E:Ev}(a:TI E k i A (.ptr p 0) .nP G H e s l)(Ad:Stp t k C)(f: ∀B,(B=i\/B=A\/Blk l B\/ ∃kv∈H,blkN kv.2 B)-> ¬t B){ws:Ws}{ds:Dx}(j:DkI C p E.nb ws I L J ds):TI { E with ws:=ws} C i A (.ptr p 0) .nP G H e s l:=
 ⟨Ad.ok,by rw[Ad.keep _ (a.ok.lt a.gT) (f _ (.inl rfl))];exact a.gT,by rw[Ad.keep _ (a.ok.lt a.gM) (f _ (.inr (.inl rfl)))];exact a.gM,a.pq.frame fun kv H' M m=>m.stp Ad fun At h=>f _ (.inr (.inr (.inr ⟨kv,H',h⟩))),⟨_,_,_,_,_,rfl,j⟩, .inl rfl,a.dg.mono Ad fun At h=>f _ (.inr (.inr (.inl h))),a.ds,a.few,fun B o=>qF (a.xl B o) Ad.next⟩
end Go.Eng.Sh
end



