/- A checked evaluator for the program, and what it tells, part 7: no condition. -/
import Derived.Test.YtaaflpnhdkoaeaaGreatO6
import Derived.Test.YtaaflpnhdkoaeaaGreatRows
import Derived.ProofKit
import Derived.OpenShut
import Derived.Carry
set_option linter.all false
set_option linter.unusedVariables false
set_option linter.unusedSimpArgs false
set_option maxHeartbeats 8000000
set_option maxRecDepth 20000
variable (D:Go.Eng.Dyn)(n:Nat){H F:List Go.Nd.Ptr}{h e C E L P U Y m:Nat}{k I:Go.Eng.AH}{i f:Nat->Nat}{A:Go.Nd.Kvs}{v Q:Go.Nd.Ptr}{w B:Nat->Prop}{l G V:Go.Eng.AV}{p:Go.Eng.Sh.Ev}{t:List (Go.Eng.AV×Go.Eng.AV)}{q:Go.Eng.Sh.PN}{s:Go.Nd.Node}{J:Go.Bk.Ws}{M:Go.World}{N:List Go.Eng.AV}{R:List Go.Value}{W:Go.Nd.Ptr->Option Go.Nd.Node}{a:Type}{c:Bool}{g:Go.Bt.Bd}{j:Go.Value}
section
namespace Go.Eng.Sh
open Go.Nd (Ptr Str)
open Go.Bk Go.Bt
theorem zCt (z:List AV): ∀n,(rep n z).length=n*z.length
 | 0=>by simp[rep]
 | n+1=>by rw[rep,zV,zCt z n,jL];omega
theorem zL7 (e sz bytes:Nat)(z:List AV)(a:h<=1000000)(hb:bytes<=1000):zHH e sz bytes z (.int .i64 h) (.int .i64 h)=some (.cells (rep h z) e sz false,fun A=> .slice A 0 h (2*h)):=by
 have f:Nat.ble h h=true:=by rw[qT];omega
 have n:Nat.ble (h*bytes) 140737488355328=true:=by
  rw[qT]
  calc h*bytes<=1000000*1000:=Nat.mul_le_mul a hb
   _<=140737488355328:=by decide
 have i:Nat.blt h 9223372036854775808=true:=by rw[qD];omega
 show zHH e sz bytes z (.int .i64 (.ofNat h)) (.int .i64 (.ofNat h))=_;simp only[zHH,f,n,i,qO,zU]
theorem zHT (s:Str):WM s<18446744073709551616:=VK _ _ (by omega)
theorem AdT.prsR {i:AH}(h:AdT w k B I)(s:Prs I i):AdT w k B i:=h.trans (AdT.prs s)
theorem AdT.boxR {i:AH}(a:AdT w k B I)(s:Stp (fun Z=>Z=h) I i)(o:k.next<=h):AdT w k B i:=by
 have N:=a.1.next;have p:=s.next
 refine⟨⟨s.ok,by omega,fun Z j m=> ?_⟩,a.2⟩;rw[s.keep Z (by omega) (by omega),a.1.keep Z j m]
theorem AdT.dropR {i:Nat->Prop}{m:AH}(H:AdT w k B I)(f:AdT (fun Z=>B Z\/Z=h) I (fun Z=>i Z\/Z=h) m)(p:k.next<=h):AdT w k i m:=by
 have N:=H.1.next;have q:=f.1.next
 refine⟨⟨f.1.ok,by omega,fun Z a o=> ?_⟩,fun Z a=> ?_⟩
 .rw[f.1.keep Z (by omega) fun x=> ?_,H.1.keep Z a o];rcases x with x | x
  .rcases H.2 Z x with y | y
   .exact o y
   .omega
  .omega
 .rcases f.2 Z (.inl a)with(x | x) | x
  .exact H.2 Z x
  .exact .inr (by omega)
  .exact .inr (by omega)
theorem zMI (As n:Nat)(hk:200000000<=As)(hn:200000000<=n){S:Nat}{a1:Nat}{es:Bt.Tr h}
  (Z:Wr p k e C E L P .nP U (Y+1) m i v t q a1 l w B) (hq:jX S q=some s) (hr:wE (Qf p q []) h s es H) (hw:WN h es) (n0:cp H+1<=cnt i 0 p.nb) (hu: ∀r∈H,r.at_≠1->i r.at_.toNat≠0) (ht:U<=2147483647)
  (i0: ∀(k:AH) (kv x4 x6:AV) (F:Nat) (l2:List AV),Wr p k e C E L P .nP U Y m i v t q a1 l w B->bI k kv s.kids->(∀f,Blk kv f->B f)->k.h.get F=some (.cells l2 42 3 false)->l2.length=s.kids.length*3-> ¬w F-> ¬B F->
   ∃H' ws' N la' left W a7 y,kL n (zE2 (dy As) n) [.ptr e 0,x4,x6, .slice F 0 s.kids.length (2*s.kids.length),kv, .int .i64 s.kids.length, .int .i64 (0:Nat)] k=some (.exit 0 [.ptr e 0,x4,x6, .slice F 0 s.kids.length (2*s.kids.length)],H')/\Wr { p with ws:=ws'} H' e C E L P .nP U W la' left v t q a1 l N B/\AdT (fun f=>w f\/f=F) k (fun f=>N f\/f=F) H'/\ ¬N F/\WOut p.nb p.ws ws' i left H y/\W+cp H=Y/\a7.length=s.kids.length/\wE (Ev.K { p with ws:=ws'}) h { s with kids:=a7} es y/\H'.h.get F=some (.cells (a7.flatMap jV) 42 3 false)):
  ∃H' ws' N la' left p' is y W,f96 (dy As) n [.ptr e 0, .agg (jV (pp S))] k=some (.tuple [.agg (jV p'), .int .i64 (0:Nat)],H')/\Wr { p with ws:=ws'} H' e C E L P .nP U W la' left v t q a1 l N B/\AdT w k N H'/\WOut p.nb p.ws ws' i left (pp S::H) (p'::y)/\W+cp (pp S::H)=Y+1/\Ev.K { p with ws:=ws'} p'=some is/\wE (Ev.K { p with ws:=ws'}) h is es y:=by
 obtain⟨k2,rfl⟩: ∃k2,As=k2+2:=⟨As - 2,by omega⟩;have j6:=Z.ti.ok;have zl:=Z.lt;have hP:=Z.old;obtain⟨H1,A3,b1,p1,g1,m1,n1⟩:=box j6 (.cells (jV (pp S)) 42 1 false);obtain⟨H2,A4,b2,p2,g2,m2,n2⟩:=box p1.ok (.cells [.int .i64 (0:Nat), .int .i64 (0:Nat), .int .u64 (0:Nat)] 42 1 false);have P2:=p1.trans p2;have N1:=p1.next;have N2:=p2.next
 have a9:=zOs p2 p1.ok g1;obtain⟨H3,d1,d2,d3,d4,w3,a3,n3⟩:=(Z.prs P2).dec;have n5:=w3.lt;obtain⟨k13,z13,n8⟩:=a3.keep (p2.ok.lt a9) (fun x=>by have:=zl _ x;omega);have j7:=k13.trans a9;obtain⟨k23,o0,o1⟩:=a3.keep (p2.ok.lt g2) (fun x=>by have:=zl _ x;omega);have j8:=k23.trans g2;have r2:Eng.ld1 (.ptr A3 0) H2=some (.int .i64 (1:Nat)):=by rw[jP a9];rfl
 have r3:ldN 3 (.ptr A3 0) H3=some (.agg (jV (pp S))):=xJ j7 rfl;obtain⟨H4,M,b4,p4,g4,m4,n4⟩:=box w3.ti.ok (.cells [.bool false, .nS, .nS, .nS] 119 1 false);have N4:=p4.next
 obtain⟨root,H5,e5,p5,d5,kx,j9⟩:=zA3 (dy (k2+2)) n (w3.ti.prs p4) hq;have N5:=p5.next
 obtain⟨dr,rfl,ll,lc⟩:=d5.cells;have k0:=zOs p5 p4.ok g4;obtain⟨H6,e6,g6,s6,n6⟩:=kD p5.ok k0 (l':=dr) ll lc;have d6:stN 4 (.ptr M 0) (.agg dr) H5=some (jT,H6):=e6;have p6:Prs H3 H6:=(p4.trans p5).fresh s6 fun f la=>by omega
 have N6:=p6.next
 obtain⟨ks,vs,I,he,h1,h2,h3⟩:=id d5;simp only[AV.agg.injEq]at he;subst he;have f3:Eng.ld1 (.ptr M 3) H6=some I:=by rw[jP g6];rfl
 have d7:bI H5 I s.kids:=h3.row;have d8:lnSl I=some (.int .i64 s.kids.length):=d7.lnSl;have k1:wB h es<=500:=hw.sz;have o2:small s:=xQ (by rw[hr.size];omega);have o3:s.kids.length<=100:=by
  have:Nd.size s=wB h es:=hr.size;simp only[Nd.size]at this;omega
 obtain⟨O,e0⟩: ∃O,O=rep s.kids.length [AV.int .i64 (0:Nat), .int .i64 (0:Nat), .int .u64 (0:Nat)]:=⟨_,rfl⟩;have i3:O.length=s.kids.length*3:=by rw[e0];exact zCt _ _
 have e1:zHH 42 3 24 [.int .i64 (0:Nat), .int .i64 (0:Nat), .int .u64 (0:Nat)] (.int .i64 s.kids.length) (.int .i64 s.kids.length)=some (.cells O 42 3 false,fun A=> .slice A 0 s.kids.length (2*s.kids.length)):=by
  rw[e0];exact zL7 _ _ _ _ (by omega) (by omega)
 obtain⟨Q,F,b7,T,g7,m7,n7⟩:=box s6.ok (.cells O 42 3 false);have N7:=T.next
 have P7:Prs H3 Q:=p6.trans T;have w7:=w3.prs P7;have b0:=zOs T s6.ok g6;have e2:Eng.ld1 (.ptr M 3) Q=some I:=by rw[jP b0];rfl
 have bl: ∀f,vU (.agg [.bool s.leaf,ks,vs,I]) f->B f:=fun f la=>(Z.pa f).2 (.inr (.inr (.inr ⟨_,j9,la⟩)))
 have e3:Stp (fun f=>f=M) H5 Q:=s6.trans T.stp;have b3: ∀f,B f-> ¬f=M:=fun f la=>by have:=hP f la;omega
 have i4:bI Q I s.kids:=Rw.stp d7 e3 fun f la=>b3 f (bl f (wU.2 (.inr (.inr la))))
 have z8: ¬w F:=fun x=>by have:=zl _ x;omega
 have q8: ¬B F:=fun x=>by have:=hP _ x;omega
 obtain⟨H8,Ad,Z8,o4,k3,i1,qs,y,e8,w8,a8,o5,o8,o6,k4,z,g8⟩:=i0 Q I (.ptr A4 0) (.ptr M 0) F O w7 i4 (fun f la=>bl f (wU.2 (.inr (.inr la)))) g7 i3 z8 q8;have k5:AdT w k w Q:=((AdT.prs P2).trans a3).prsR P7;have k6:AdT w k Z8 H8:=k5.dropR a8 (by omega);have N8:=a8.1.next
 have zs: ∀f,k.next<=f-> ¬w f:=fun f la x=>by have:=zl f x;omega
 obtain⟨k68,k7,o7⟩:=a8.keep (T.ok.lt b0) (fun x=>by rcases x with x | x;exact zs _ (by omega) x;omega);have e4:=k68.trans b0;have e7:=zOs P7 w3.ti.ok j8;obtain⟨k48,k8,o9⟩:=a8.keep (T.ok.lt e7) (fun x=>by rcases x with x | x;exact zs _ (by omega) x;omega);have f1:=k48.trans e7;obtain⟨txg,e9,g9,V,n9⟩:=xT w8.ti.ok e4 (o:=3) (x:= .slice F 0 s.kids.length (2*s.kids.length)) rfl (by simp);have q6: ¬B M:=fun x=>by have:=hP _ x;omega
 have w9:=w8.box V (fun x=>k7 (.inl x)) q6 e4;have k9:=k6.boxR V (by omega);have N9:=V.next
 have f2:txg.h.get F=some (.cells (qs.flatMap jV) 42 3 false):=by rw[V.keep _ (w8.ti.ok.lt g8) (by omega)];exact g8
 obtain⟨is,J⟩: ∃is,is= { s with kids:=qs} :=⟨_,rfl⟩;have c5: ∀ {x:AV} {kk:Nat} {ll:List AV} {nn:Nat},Rw kk H5 x nn ll->(∀f,Blk x f->B f)->Rw kk txg x nn ll:=fun l0 hb=>
  Rw.stp (Rw.stp (Rw.stp l0 e3 fun f la=>b3 f (hb f la)) a8.1 fun f la x=>by
   rcases x with x | x
   .exact Z.pr f (hb f la) x
   .exact q8 (x▸hb f la)) V fun f la=>b3 f (hb f la)
 have l1:fK txg (.agg [.bool s.leaf,ks,vs, .slice F 0 s.kids.length (2*s.kids.length)]) is:=by
  refine⟨ks,vs,_,by rw[J], ?_, ?_, ?_⟩
  .rw[J];exact c5 h1.row fun f la=>bl f (wU.2 (.inl la))
  .rw[J];exact c5 h2.row fun f la=>bl f (wU.2 (.inr (.inl la)))
  .rw[J];refine⟨d9 qs, .inr (.inr ⟨F,0,2*s.kids.length,_,_,_,_,by simp only[k4],f2,w9.ti.ok.lt f2, ?_, ?_⟩)⟩
   .simp only[d9];omega
   .simp only[y9];rw[zZ (by rw[d9];omega)]
 rw[<-J]at z;obtain⟨lo,hi,i5⟩:=hw.gen;have f5:=o8.used hu;have i6: ∀r∈y,Nd.kidOk r=true:=fun r u=>by
  obtain⟨x,hx⟩:=wE.here z r u;exact(bX hx).1
 have l3:0<h->is.keys≠[]:=fun h0=>by
  cases h with
  | zero=>omega
  | succ h=>rw[z.2.1];exact hw.ne
 have b5:Nd.shaped ltS is=true:=z.shaped i5 l3 i6;have a6:Nd.size is<=500:=by rw[z.size];exact k1
 have i7:small is:=xQ (by omega);have c6: ∀r∈is.kids,r∈y:=fun r u=>by
  cases h with
  | zero=>obtain⟨At,_⟩:=z;rw[At]at u;simp[Nd.leafOf]at u
  | succ h=>exact z.2.2.2.kids r u
 have c7: ∀r∈is.kids,Nd.sumOk r:=fun r u=>by
  obtain⟨x,hx⟩:=wE.here z r (c6 r u);obtain⟨a,birth,kind,body,rfl,_⟩:=zOo.1 hx;exact⟨by simp[bT],by have:=zHT (sealB kind birth body);simp only[bT];omega⟩
 obtain⟨l4,b6,a2⟩:=zGD (k2+1) n (by omega) hn w9.ti.ok l1 i7 c7;have i2:zK9 is=(Nd.encN is,0):=by simp only[zK9,b5,if_true,if_pos a6]
 rw[i2]at b6;have a4:(Nd.encN is).length<=500:=by rw[Nd.encN_length b5];exact a6
 obtain⟨kind,G⟩: ∃kind:UInt8,kind=if is.leaf then 1 else 2:=⟨_,rfl⟩
 have l5:=w9.prs a2;obtain⟨p0,a0,b8⟩:=zF3 (dy (k2+2)) n (by omega) a2.ok kind ht a4;obtain⟨f,la⟩: ∃f,f=sealB kind U (Nd.encN is):=⟨_,rfl⟩;have b9:=sealB_len (kind:=kind) (birth:=U) a4;rw[<-la]at a0 b9;obtain⟨Zb,f6⟩: ∃Zb:Str,Zb=List.replicate 512 0:=⟨_,rfl⟩;have l6:Zb.length=512:=by rw[f6];simp
 have f7:rep 512 [AV.int .u8 (0:Nat)]=jQ Zb:=by rw[cV,f6]
 obtain⟨p3,p8,f8,c0,i8,p9,q0⟩:=box b8.ok (.cells (jQ Zb) 55 1 false);obtain⟨f9,g0,i9,g3⟩:=stR c0.ok i8 l6 b9;have q1:=a2.next;have q2:=b8.next;have q3:=c0.next;have q5:=g3.next
 have c1:Prs txg f9:=((a2.trans b8).trans c0).fresh g3 fun f la=>by omega
 have g5:=ldR i9 b9;have h4:=w9.prs c1;obtain⟨l7,j,h5,c2,j2,jn,j0,c3,h6⟩:=zKl k2 n (by omega) (by omega) h4 kind ht a4 (by have:=o8.ct;show 0<cnt k3 0 p.nb;omega);rw[<-la]at c2 c3;have c8:f9.h.get A4=_:=zOs c1 w9.ti.ok ((V.keep A4 (w8.ti.ok.lt f1) (by omega)).trans f1);obtain⟨j1,j3,m9⟩:=h6.keep (h4.ti.ok.lt c8) (fun x=>k8 (.inl x));have c9:=j1.trans c8;obtain⟨a5,l8,l9,h7,q7⟩:=kD c3.ti.ok c9 (l':=jV (bT j U f)) rfl rfl;have d0:stN 3 (.ptr A4 0) (.agg (jV (bT j U f))) l7=some (jT,a5):=l8;have q4: ¬B A4:=fun x=>by have:=hP _ x;omega
 have m0:=c3.box h7 j3 q4 c9;have h8:ldN 3 (.ptr A4 0) a5=some (.agg (jV (bT j U f))):=xJ l9 rfl;have aF:AdT w k h5 a5:=((k9.prsR c1).trans h6).boxR h7 (by omega);have oF:=o8.put (s:=S) (birth:=U) (b:=f) j2 jn j0;have m3: ∀r∈y,blkAt r.at_.toNat (Ad++[(j,f)])=blkAt r.at_.toNat Ad:=fun r u=>by
  rw[QW,if_neg fun At:j=_=>(f5 r u).2 (by rw[<-At];exact j0)]
 have m5:wE (Ev.K { p with ws:=Ad++[(j,f)] }) h is es y:=z.mono fun r u q9 h2=>Ev.K_keep (E:= { p with ws:=Ad}) h2 (m3 r u)
 have m6:decide (kind=1)=is.leaf:=by rw[G];cases is.leaf<;>rfl
 have j4:Nd.decN ltS (decide (kind=1)) (Nd.encN is)=some is:=by
  rw[m6];exact Nd.decN_encN (by simp only[Nd.may,b5,Bool.true_and,zQ];exact a6) c7
 have m8:Ev.K { p with ws:=Ad++[(j,f)] } (bT j U f)=some is:=by
  refine zOo.2 ⟨j,U,kind,Nd.encN is,by rw[la],j2,jn,⟨by have:=Z.nb.2.1;have:j<p.nb:=jn;omega,fun r u=>(f5 r (c6 r u)).1⟩,ht,a4, ?_,by rw[G];cases is.leaf<;>simp,j4⟩;show blkAt j (Ad++[(j,f)])=_;rw[QW,if_pos rfl,la]
 refine⟨a5,_,h5,j,_,bT j U f,is,y,i1, ?_,m0,aF,oF,by rw[fF];simp only[pp,if_true];omega,m8,m5⟩;obtain⟨On,Nw,wv,ds,tv,ov,nt,r0,ol,dk,gw,_⟩:=l5.gw;have fw:Eng.ld1 (.ptr e 2) l4=some (.int .i64 U):=by rw[jP gw];rfl
 have f0:Eng.ld1 (.ptr M 0) txg=some (.bool s.leaf):=by rw[jP g9];rfl
 have f4:ldN 4 (.ptr M 0) txg=some (.agg [.bool s.leaf,ks,vs, .slice F 0 s.kids.length (2*s.kids.length)]):=xJ g9 rfl;have j5:is.leaf=s.leaf:=by rw[J]
 rw[j5]at G;have h9: ¬(((0:Nat):Int)≠((0:Nat):Int)):=by omega
 have t11: ¬(((1:Nat):Int)≠((1:Nat):Int)):=by omega
 have wi:((Y+1:Nat):Int) - ((1:Nat):Int)=(Y:Int):=by omega
 have tl: ¬(Y:Int)< ((0:Nat):Int):=by omega
 have r1:=Z.lf;have wl:IntKind.wrap .i64 (Y:Int)=(Y:Int):=wrap_i64 (by omega) (by omega)
 cases hc:s.leaf with
 | true=>
  rw[hc]at G f0;have c4:(kind.toNat:Int)=((1:Nat):Int):=by rw[G];rfl
  rw[c4]at a0;simp(maxSteps:=999999)(disch:=omega) only[f96,eZ,b1,b2,r2,t11,d1,wi,wl,d2,d3,tl,d4,r3,b4,e5,jR,nth,d6,h9,f3,d8,e1,b7,e2,e8,zLy,e9,f0,zLx,f4,b6,fw,a0,f7,f8,g0,g5,c2,d0,h8]
 | false=>
  rw[hc]at G f0;have c4:(kind.toNat:Int)=((2:Nat):Int):=by rw[G];rfl
  rw[c4]at a0;simp(maxSteps:=999999)(disch:=omega) only[f96,eZ,b1,b2,r2,t11,d1,wi,wl,d2,d3,tl,d4,r3,b4,e5,jR,nth,d6,h9,f3,d8,e1,b7,e2,e8,zLy,e9,f0,zLx,f4,b6,fw,a0,f7,f8,g0,g5,c2,d0,h8]
open Go.Nd (Kvs)
theorem wE.disk {E:Ev}{q:PN} : ∀ {h:Nat} {f:Nd.Node} {t:Bt.Tr h} {S:List Ptr},wE (Qf E q []) h f t S->(∀r∈f.kids,r.at_≠1)->wE E.K h f t S/\ ∀r∈S,r.at_≠1
 | 0,f,t,S,w,_=>⟨w,by rw[w.2];simp⟩
 | h+1,f,t,S,⟨a,b,c,w⟩,hk=>by
  have key: ∀(i:List Ptr) (ts:List (Bt.Tr h)) (S:List Ptr),vB (Qf E q []) (wE (Qf E q []) h) i ts S->(∀r∈i,r.at_≠1)->vB E.K (wE E.K h) i ts S/\ ∀r∈S,r.at_≠1:=by
   intro i
   induction i with
   | nil=>
    intro ts S w _
    cases ts with
    | nil=>have e:S=[]:=w;subst e;exact⟨rfl,by simp⟩
    | cons _ _=>exact w.elim
   | cons p i ih=>
    intro ts S w hp
    cases ts with
    | nil=>exact w.elim
    | cons t ts=>
     obtain⟨f,y,u,z,hr,C,rfl⟩:=w;have o:=hp p (zJ ..);obtain⟨s,rfl,_⟩ | ⟨_,v⟩:=vV z
     .exact absurd rfl o
     .obtain⟨_,_,_,_,_,_,_,⟨_,x⟩,_⟩:=zOo.1 v;obtain⟨j,m⟩:=wE.disk hr x;obtain⟨F,G⟩:=ih ts u C fun r hr=>hp r (zE _ hr)
      refine⟨⟨f,y,u,v,j,F,rfl⟩,fun r hr=> ?_⟩;rcases zO.1 hr with rfl | hr
      .exact o
      .rcases qB.1 hr with e | e
       .exact m r e
       .exact G r e
  obtain⟨j,m⟩:=key f.kids t.2 S w hk;exact⟨⟨a,b,c,j⟩,m⟩
theorem zMH{x:Nat}{left:Bt.Tr h}
  (is:Wr p k e C E L P .nP U Y m i v t q x l w B) (J:p.K Q=some s) (hr:wE (Qf p q []) h s left H):
  ∃H' ws' O la' z o G es txg,f96 D n [.ptr e 0, .agg (jV Q)] k=some (.tuple [.agg (jV o), .int .i64 (0:Nat)],H')/\Wr { p with ws:=ws'} H' e C E L P .nP U txg la' z v t q x l O B/\AdT w k O H'/\WOut p.nb p.ws ws' i z (Q::H) (o::es)/\txg+cp (Q::H)=Y/\Ev.K { p with ws:=ws'} o=some G/\wE (Ev.K { p with ws:=ws'}) h G left es:=by
 have M:=is.ti.ok;obtain⟨H1,T,b1,a,g1,m1,n1⟩:=box M (.cells (jV Q) 42 1 false);obtain⟨N,A4,b2,u,g2,m2,n2⟩:=box a.ok (.cells [.int .i64 (0:Nat), .int .i64 (0:Nat), .int .u64 (0:Nat)] 42 1 false);obtain⟨f,e3,g3,s3,n3⟩:=kD u.ok g2 (l':=jV Q) rfl rfl;have V:stN 3 (.ptr A4 0) (.agg (jV Q)) N=some (jT,f):=e3;have N1:=a.next
 have I:Prs k f:=(a.trans u).fresh s3 fun root hB=>by omega
 have F:=zOs u a.ok g1;have r1:Eng.ld1 (.ptr T 0) N=some (.int .i64 Q.at_):=by rw[jP F];rfl
 have r2:ldN 3 (.ptr T 0) N=some (.agg (jV Q)):=xJ F rfl;have r3:ldN 3 (.ptr A4 0) f=some (.agg (jV Q)):=xJ g3 rfl;have h2:=(bX J).2;have t1:(Q.at_≠((1:Nat):Int))=True:=eq_true (by omega);obtain⟨_,_,_,_,_,_,_,⟨_,W⟩,_⟩:=zOo.1 J;obtain⟨hd,hS⟩:=wE.disk hr W;have y: ∀r∈Q::H,r.at_≠1:=fun r hr=>by
  rcases zO.1 hr with rfl | hr
  .omega
  .exact hS r hr
 have c:cp (Q::H)=0:=by
  rw[cp,List.length_eq_zero_iff];exact List.filter_eq_nil_iff.2 fun Q hp=>by simpa using y Q hp
 refine⟨f,p.ws,w,m,i,Q,s,H,Y, ?_,is.prs I,AdT.prs I,WOut.nil _ _ _ y,by omega,J,hd⟩;simp(maxSteps:=999999)(disch:=omega) only[f96,eZ,b1,b2,r1,t1,r2,V,r3]
theorem zHK: ∀h,zJq h:=by
 intro h
 induction h with
 | zero=>
  unfold zJq;intro E H Aw As At M Ad txg left F is root es q W dr Z P k n p i t S hk u w G hr j v Y a0 y;rcases vV G with⟨s,rfl,f | ⟨_,f⟩⟩ | ⟨_,I⟩
  .simp[jX]at f
  .have hc:cp (pp s::S)=1+cp S:=by rw[fF];simp[pp]
   obtain⟨left,rfl⟩: ∃l,left=l+1:=⟨left - 1,by omega⟩;refine zMI k n (by omega) u w f hr j (by omega) (fun r hr=>v r (zE _ hr)) y fun J kv x4 x6 A8 Q z N O C o K T=> ?_
   obtain⟨rfl,rfl⟩:=hr;have a9:(Nd.leafOf t).kids=[]:=rfl;have L:(Nd.leafOf t).kids.length=0:=rfl;obtain⟨n,rfl⟩: ∃m,n=m+1:=⟨n - 1,by omega⟩;refine⟨J,E.ws,Z,F,is,left,[],[], ?_,z,AdT.prs (zOp z.ti.ok),K,WOut.nil _ _ _ (by simp),by simp[cp],rfl,⟨rfl,rfl⟩, ?_⟩
   .rw[L];exact jZ (by simp only[zE2,eZ,yS])
   .rw[L,Nat.zero_mul]at o;rw[zR o]at C;exact C
  .exact zMH (dy k) n w I hr
 | succ h ih=>
  unfold zJq;intro E H Aw As At M Ad txg left F is root es q W dr Z P k n p i t S hk u w G hr j v Y a0 y;rcases vV G with⟨s,rfl,f | ⟨_,f⟩⟩ | ⟨_,I⟩
  .simp[jX]at f
  .have hc:cp (pp s::S)=1+cp S:=by rw[fF];simp[pp]
   obtain⟨left,rfl⟩: ∃l,left=l+1:=⟨left - 1,by omega⟩;obtain⟨k,rfl⟩: ∃k',k=k'+1:=⟨k - 1,by omega⟩;have a1:Nd.size i<=500:=by rw[hr.size];exact j.sz
   have b0:i.kids.length<=100:=by simp only[Nd.size]at a1;omega
   refine zMI (k+1) n (by omega) u w f hr j (by omega) (fun r hr=>v r (zE _ hr)) y fun J kv x4 x6 A8 Q z N O C o K T=> ?_
   obtain⟨a,b,c,U⟩:=hr;obtain⟨H8,a2,Z8,a3,a4,V,qs,S',e8,w8,a8,a5,o8,a6,hR,a7⟩:=wkids ih k n (by omega) u (x4:=x4) (x6:=x6) (cc:=2*i.kids.length) y rfl (by omega) i.kids t.2 S [] E J Z left F is n Q z U (fun x hx=>j.kid hx) (fun r hr=>v r (zE _ hr)) (by omega) (by omega) (by omega) N O rfl (by simp) C o K T;exact⟨H8,a2,Z8,a3,a4,V,qs,S',e8,w8,a8,a5,o8,a6,by rw[hR.len,U.len],⟨a,b,c,hR⟩,a7⟩
  .exact zMH (dy k) n w I hr
theorem nodup_le: ∀ {l m:List Nat},l.Nodup->(∀x∈l,x∈m)->l.length<=m.length
 | [],_,_,_=>Nat.zero_le _
 | x::l,m,h,hs=>by
  obtain⟨f,hl⟩:=List.nodup_cons.1 h;have:=nodup_le (m:=m.erase x) hl fun y a=>(List.mem_erase_of_ne fun e:y=x=>f (e▸a)).2 (hs y (zE _ a))
  have hm:=hs x (zJ ..);have i:=List.length_erase_of_mem hm;have j:=List.length_pos_of_mem hm;rw[zY];omega
theorem zM1 {E:Ev} : ∀ {T:List Ptr},T.Nodup->(∀r∈T,∃o,Qf E q [] r=some o)->cp T<=q.length:=by
 intro T t i;have v:((T.filter fun p=>decide (p.at_=1)).map fun p=>p.sum.toNat).Nodup:=by
  rw[List.nodup_iff_pairwise_ne,List.pairwise_map];refine(List.nodup_iff_pairwise_ne.1 (t.filter _)).imp_of_mem fun {a b} z hb m e=>m ?_
  obtain⟨C,F⟩:=List.mem_filter.1 z;obtain⟨b1,b2⟩:=List.mem_filter.1 hb;obtain⟨x,j⟩:=i a C;obtain⟨y,G⟩:=i b b1;have I: ∃s,a=pp s:=by
   obtain⟨s,e,_⟩ | ⟨_,f⟩:=vV j
   .exact⟨s,e⟩
   .have:=(bX f).2;simp at F;omega
  have J: ∃s,b=pp s:=by
   obtain⟨s,e,_⟩ | ⟨_,f⟩:=vV G
   .exact⟨s,e⟩
   .have:=(bX f).2;simp at b2;omega
  obtain⟨s,rfl⟩:=I;obtain⟨u,rfl⟩:=J;have K:s=u:=by simpa[pp]using e
  rw[K]
 have L: ∀s∈(T.filter fun p=>decide (p.at_=1)).map fun p=>p.sum.toNat,s∈q.map (·.1):=fun s M=>by
  obtain⟨r,hr,rfl⟩:=qK.1 M;obtain⟨N,O⟩:=List.mem_filter.1 hr;obtain⟨x,j⟩:=i r N;obtain⟨u,rfl,h | ⟨_,h⟩⟩ | ⟨_,f⟩:=vV j
  .simp[jX]at h
  .have:(pp u).sum.toNat=u:=by simp[pp]
   rw[this];exact qK.2 ⟨_,xY h,rfl⟩
  .have:=(bX f).2;simp at O;omega
 have Q:=nodup_le v L;simpa[cp]using Q
def Dsk (H:AH)(f h nb:Nat)(i:Ws)(a:Nat)(is:Nat->Nat)(V:Nat->Prop):Prop:= ∃o j m p,DkI H f nb i o j m p/\Spc H h nb a is/\(∀B,V B↔B=h\/B=f\/B=j\/Blk m B)/\64<=nb/\nb<=8192/\a<nb/\(2<=a\/a=0)/\(is 0≠0/\is 1≠0)/\i.length+cnt is 0 nb<=990000
theorem Dsk.prs {H H':AH}{a f nb h:Nat}{i:Ws}{is:Nat->Nat}{V:Nat->Prop}(d:Dsk H a f nb i h is V)(j:H.ok)(s:Prs H H'):Dsk H' a f nb i h is V:=by
 obtain⟨m,o,p,q,t,u,r⟩:=d;exact⟨m,o,p,q,t.prs j s,u.stp j s (fun x=>x),r⟩
theorem Dsk.lt {H:AH}{h i nb j:Nat}{m:Ws}{is:Nat->Nat}{V:Nat->Prop}(d:Dsk H h i nb m j is V)(a:H.ok): ∀B,V B->B<H.next:=by
 obtain⟨s,t,u,v,f,o,p,_⟩:=d;intro B q;rcases(p B).1 q with rfl | rfl | rfl | e
 .exact o.lt a
 .exact a.lt f.gD
 .exact a.lt f.gN
 .exact Own.lt f.ow e
theorem uB.node {H:AH} : ∀ {es:List (AV×AV)} {q:PN},uB H es q-> ∀kv∈es,∃f,kJ H kv.2 f
 | [],[],_=>fun _ h=>by simp at h
 | (k,v)::es,(s,f)::q,h=>fun kv a=>by
  rcases zO.1 a with rfl | a
  .exact⟨f,h.1.2⟩
  .exact uB.node h.2 kv a
 | [],_::_,h=>h.elim
 | _::_,[],h=>h.elim
theorem VE (f:TI p k h e l G v t q U V)(K:Dsk k C E P J L i w): ∀B,(B=h\/B=e\/Blk V B\/ ∃kv∈t,vU kv.2 B)-> ¬w B:=by
 obtain⟨Z,Nw,wv,dm,H,I,N,_⟩:=K;obtain⟨u,O,y,c,_⟩:=I;have Q:=f.gT;have key: ∀(o:AObj),zOd o->(∀d s g,o≠ .cells d s 3 g)->o≠ .cells (xE l G v e U V) 140 1 false->o≠ .map [10] t-> ∀B,k.h.get B=some o-> ¬(B=h\/B=e\/Blk V B\/ ∃kv∈t,vU kv.2 B):=by
  intro o S T nb W B a m;rcases m with rfl | rfl | m | ⟨kv,z,m⟩
  .rw[Q]at a;exact nb (y6 a).symm
  .rw[f.gM]at a;exact W (y6 a).symm
  .exact zOu f.dg a (fun s g=>T _ s g) m
  .obtain⟨nd,F⟩:=f.pq.node kv z;exact F.nblk a S m
 intro B j Y;rcases(N B).1 Y with rfl | rfl | rfl | m
 .obtain⟨x,r,M⟩: ∃x r,u=x::r:=by
   cases u with
   | nil=>simp at y
   | cons x r=>exact⟨x,r,rfl⟩
  subst M;simp only[List.getElem?_cons_zero,zC]at c;subst c;exact key _ (.inl ⟨_,r,_,_,rfl,fun _ _ m=>by cases m⟩) (by simp) (by simp) (by simp) _ O j
 .exact key _ (.inl ⟨_,_,_,_,rfl,fun _ _ m=>by cases m⟩) (by simp) (by simp) (by simp) _ H.gD j
 .exact key _ (.inr (.inl ⟨_,_,rfl⟩)) (by simp) (by simp) (by simp) _ H.gN j
 .exact key _ (.inr (.inr ⟨_,_,513,_,rfl,by omega,by omega⟩)) (by simp) (by simp) (by simp) _ (H.ow.get m) j
theorem zMF (f:TI p k e C (.ptr E 0) .nP v t q m l)(o:Dsk k E L p.nb p.ws P i w)(H:Prs k I)(O:I.h.get h=some (.cells [.ptr e 0, .ptr L 0, .int .i64 U, .int .i64 Y, .nS, .nS] 198 1 false))(m1:k.next<=h)(hl:Y<=1000000000):
  Wr p I h L e C E .nP U Y P i v t q m l (fun B=>B=h\/w B) (fun B=>B=e\/B=C\/Blk l B\/ ∃kv∈t,vU kv.2 B):=by
 have y:=f.ok;have a1:=o.prs y H;have K:=VE f o;have a2:=o.lt y;obtain⟨u,Q,S,T,a,F,G,b1,b2,txg,W,left,Z⟩:=o;have z:=a.prs y H;refine⟨f.prs H,F.stp y H fun x=>x,Z,⟨u,Q,S,T, .nS, .nS,0,[],[],z,O,zOv ..,zOv ..,Nat.zero_le _,fun B=> ?_, ?_⟩,fun B s hx=> ?_,fun B=>Iff.rfl,W,⟨b1,b2,txg⟩,left,hl⟩
 .have hn:Blk .nS B↔False:=zOt;rw[G B,hn];constructor
  .rintro(j | j | j | j | j)
   .exact .inl j
   .exact .inr (.inl j)
   .exact .inr (.inr (.inl j))
   .exact .inr (.inr (.inr (.inl j)))
   .exact .inr (.inr (.inr (.inr (.inl j))))
  .rintro(j | j | j | j | j | j | j)
   .exact .inl j
   .exact .inr (.inl j)
   .exact .inr (.inr (.inl j))
   .exact .inr (.inr (.inr (.inl j)))
   .exact .inr (.inr (.inr (.inr j)))
   .exact j.elim
   .exact j.elim
 .have lO:=y.lt a.gO
  rintro(M | hv)
  .omega
  .rcases(G u).1 hv with M | M | M | M
   .obtain⟨c8,J,_⟩:=F;rw[<-M,a.gO]at J;cases J
   .have:=a.gD;rw[<-M,a.gO]at this;cases this
   .exact a.ne M
   .have:=a.ow.get M;rw[a.gO]at this;cases this
 .rcases hx with M | M
  .have a0:B<k.next:=by
    rcases s with rfl | rfl | j | ⟨kv,N,j⟩
    .exact y.lt f.gT
    .exact y.lt f.gM
    .exact f.dg.lt j
    .exact f.pq.old kv N B j
   omega
  .exact K B s M
theorem zHJ (m n:Nat)(hm:400000000<=m)(hn:200000000<=n){E:Ev}{txg:Nat}(t:aS (.ptr L 0) .nP E k h e C w v q A H)(ds:Dsk k L P E.nb E.ws U i B)(hu: ∀r∈H,r.at_≠1->i r.at_.toNat≠0)(F:1<=txg)(h2:txg<=2147483647)(d7:A.length<=1000000000):
  ∃H',(cnt i 0 E.nb<q.length/\f43 (dy m) n [.ptr h 0, .ptr P 0, .int .i64 txg] k=some (.tuple [.agg [.int .i64 (0:Nat), .int .i64 (0:Nat), .int .u64 (0:Nat)], .nS, .int .i64 (3:Nat)],H')/\Prs k H')\/
   (q.length<=cnt i 0 E.nb/\ ∃ws' c3 la' V' c0 T' M' W' u,f43 (dy m) n [.ptr h 0, .ptr P 0, .int .i64 txg] k=some (.tuple [.agg (jV c0),u, .int .i64 (0:Nat)],H')/\aS (.ptr L 0) .nP { E with ws:=ws',dl:=[] } H' h M' C W' c0 [] A T'/\Dsk H' L P E.nb ws' la' c3 V'/\WOut E.nb E.ws ws' i c3 H T'/\AdT (fun la=>w la\/B la) k (fun la=>W' la\/V' la) H'/\Rw 3 H' u E.dl.length (E.dl.flatMap jV)/\ ∀la,Blk u la-> ¬W' la/\ ¬V' la/\w la):=by
 obtain⟨u,es,I,hc,J,i8,i9,d8,j0,hr,hW⟩:=t;have hk:=J.ok;obtain⟨H1,z,b1,N,g1,m1,n1⟩:=box hk (.cells [.int .i64 (0:Nat), .int .i64 (0:Nat), .int .u64 (0:Nat)] 42 1 false);have N1:=N.next
 have b5:=J.prs N;have c4:=QG (dy m) n b5;obtain⟨c8,gS,_⟩: ∃c,k.h.get P=some (.cells c 145 1 false)/\True:=by
  obtain⟨_,_,_,_,_,sp,_⟩:=id ds;obtain⟨c,g⟩:=sp.bk;exact⟨c,g,trivial⟩
 have d9:Spc H1 P E.nb U i:=by
  obtain⟨_,_,_,_,_,sp,_⟩:=id (ds.prs hk N);exact sp
 have c1:=zI5 (dy m) n d9;have c5:Eng.ld1 (.ptr h 5) H1=some (.map e):=by rw[jP b5.gT];rfl
 have c6:K0 (.map e) H1=some (.int .i64 q.length):=by
  simp only[K0,b5.gM,kG,b5.pq.len];rfl
 have t1: ¬(txg:Int)< ((1:Nat):Int):=by omega
 have t2: ¬((2147483647:Nat):Int)< (txg:Int):=by omega
 have ck: ∀K:Rs,chk (some (.map e)) (.map e) K=K:=fun K=>kY rfl (by simp[aveq])
 have z6:ldN 3 (.ptr z 0) H1=some (.agg [.int .i64 (0:Nat), .int .i64 (0:Nat), .int .u64 (0:Nat)]):=xJ g1 rfl;have e0:uD [(0,1),(1,1),(2,1)] [.int .i64 (0:Nat), .int .i64 (0:Nat), .int .u64 (0:Nat)] []=some (.agg [.int .i64 (0:Nat), .int .i64 (0:Nat), .int .u64 (0:Nat)]):=rfl;rcases Nat.lt_or_ge (cnt i 0 E.nb) q.length with e1 | e4
 .obtain⟨G,e2,g2,s2,n2⟩:=kD N.ok g1 (l':=[.int .i64 (0:Nat), .int .i64 (0:Nat), .int .u64 (0:Nat)]) rfl rfl;have e8:stN 3 (.ptr z 0) (.agg [.int .i64 (0:Nat), .int .i64 (0:Nat), .int .u64 (0:Nat)]) H1=some (jT,G):=e2;have r2:ldN 3 (.ptr z 0) G=some (.agg [.int .i64 (0:Nat), .int .i64 (0:Nat), .int .u64 (0:Nat)]):=xJ g2 rfl;have tl:((cnt i 0 E.nb:Nat):Int)< (q.length:Int):=by omega
  refine⟨G, .inl ⟨e1, ?_,N.fresh s2 fun la kv=>by omega⟩⟩;simp(maxSteps:=999999)(disch:=omega) only[f43,eZ,b1,c4,cq,t1,t2,c5,c1,ck,c6,tl,e0,e8,r2]
 .have tl: ¬((cnt i 0 E.nb:Nat):Int)< (q.length:Int):=by omega
  obtain⟨G,Aw,b2,p2,g2,m2,n2⟩:=box N.ok (.cells [.ptr h 0, .ptr P 0, .int .i64 txg, .int .i64 q.length, .nS, .nS] 198 1 false);have N2:=p2.next
  have P2:=N.trans p2;have w2:=zMF J ds P2 g2 (by omega) J.few;have f1:uD [(0,1),(1,1),(2,1),(3,1),(4,1),(5,1)] [.nP, .nP, .int .i64 (0:Nat), .int .i64 (0:Nat), .nS, .nS] [(0, .ptr h 0),(1, .ptr P 0),(2, .int .i64 txg),(3, .int .i64 q.length)]=some (.agg [.ptr h 0, .ptr P 0, .int .i64 txg, .int .i64 q.length, .nS, .nS]):=rfl;have f2:=w2.ti.gT;have rT:ldN 3 (.ptr h 2) G=some (.agg (jV v)):=QK f2 (by simp[xE]);have j1:cp H<=q.length:=by
   rcases hr with⟨_,_,rfl⟩ | ⟨f,nd,tr,S,k1,k2,k3,k4,k5,rfl⟩
   .exact Nat.zero_le _
   .refine zM1 (E:=E) k4 fun r hr=> ?_
    rcases zO.1 hr with rfl | hr
    .exact⟨nd,k1⟩
    .exact wE.here k2 r hr
  have node: ∃Y O y a5 a4 p T3 a9,f96 (dy m) n [.ptr Aw 0, .agg (jV v)] G=some (.tuple [.agg (jV p), .int .i64 (0:Nat)],Y)/\Wr { E with ws:=O} Y Aw P h e L .nP txg a9 a5 a4 v es q I u y (fun la=>la=h\/la=e\/Blk u la\/ ∃A∈es,vU A.2 la)/\AdT (fun la=>la=Aw\/B la) G y Y/\WOut E.nb E.ws O i a4 H T3/\xW { E with ws:=O,dl:=[] } [] p A T3:=by
   rcases hr with⟨rfl,rfl,rfl⟩ | ⟨f,nd,tr,S,k1,k2,k3,k4,k5,rfl⟩
   .obtain⟨Y,A3,b3,p3,g3,m3,n3⟩:=box w2.ti.ok (.cells (jV pZ) 42 1 false);obtain⟨H4,A4,b4,p4,g4,m4,n4⟩:=box p3.ok (.cells [.int .i64 (0:Nat), .int .i64 (0:Nat), .int .u64 (0:Nat)] 42 1 false);obtain⟨j,e5,g5,s5,n5⟩:=kD p4.ok g4 (l':=jV pZ) rfl rfl;have b6:stN 3 (.ptr A4 0) (.agg (jV pZ)) H4=some (jT,j):=e5;have N3:=p3.next
    have P5:Prs G j:=(p3.trans p4).fresh s5 fun la kv=>by omega
    have c7:=zOs p4 p3.ok g3;have r1:Eng.ld1 (.ptr A3 0) H4=some (.int .i64 (0:Nat)):=by rw[jP c7];rfl
    have r2:ldN 3 (.ptr A3 0) H4=some (.agg (jV pZ)):=xJ c7 rfl;have r3:ldN 3 (.ptr A4 0) j=some (.agg (jV pZ)):=xJ g5 rfl;have f3:(((0:Nat):Int)≠((1:Nat):Int))=True:=eq_true (by omega);refine⟨j,E.ws,_,U,i,pZ,[],q.length, ?_,w2.prs P5,AdT.prs P5,WOut.nil _ _ _ (by simp), .inl ⟨rfl,rfl,rfl⟩⟩;simp(maxSteps:=999999)(disch:=omega) only[f96,eZ,b3,b4,r1,f3,r2,b6,r3]
   .have i5:=k3.low (by rw[k5];exact d7);obtain⟨Y,O,y,a5,a4,p',f4,S',a9,e3,w3,a3,o3,l3,K3,R3⟩:=zHK f m n (by omega) hn w2 k1 k2 (.inr k3) hu (by omega) (by omega) h2;refine⟨Y,O,y,a5,a4,p',p'::S',a9,e3,w3,a3,o3, .inr ⟨f,f4,tr,S', ?_, ?_,k3, ?_,k5,rfl⟩⟩
    .have hd:=(o3.used hu p' (zJ ..)).1;rw[Y0 fun s M=>hd (by rw[M];rfl)];exact zOo.2 (zOo.1 K3)
    .refine R3.mono fun r f5 j2 f6=> ?_
     have hd:=(o3.used hu r (zE _ f5)).1;rw[Y0 fun s M=>hd (by rw[M];rfl)];exact zOo.2 (zOo.1 f6)
    .obtain⟨i6,pm,f7,_,hn⟩:=o3.pm;rw[pm.nodup_iff];refine List.nodup_append.2 ⟨k4.filter _,f7,fun a ha b hb M=> ?_⟩;subst M;obtain⟨a1,a2⟩:=UG.1 ha;exact hu a a1 a2 (hn a hb).2.1
  obtain⟨Y,O,y,a5,a4,p,T3,a9,e3,w3,a3,o3,f8⟩:=node;have N3:=a3.1.next
  obtain⟨H4,b7,b4,p4,g4,m4,n4⟩:=box w3.ti.ok (.cells [.int .i64 (0:Nat), .int .i64 (0:Nat), .int .u64 (0:Nat)] 42 1 false);obtain⟨j,e5,g5,s5,n5⟩:=kD p4.ok g4 (l':=jV p) rfl rfl;have b6:stN 3 (.ptr b7 0) (.agg (jV p)) H4=some (jT,j):=e5;have N4:=p4.next
  have P5:Prs Y j:=p4.fresh s5 fun la kv=>by omega
  have V:=w3.prs P5;have f9:ldN 3 (.ptr b7 0) j=some (.agg (jV p)):=xJ g5 rfl;have Z:=V.ti.gT;have x1:Eng.ld1 (.ptr h 1) j=some .nP:=by rw[jP Z];rfl
  have x7:Eng.ld1 (.ptr h 7) j=some u:=by rw[jP Z];rfl
  have lT:=hk.lt J.gT;have e6:=JH (o:=2) (n:=3) (x:= .agg (jV p)) Z (by decide) rfl rfl (by simp[xE]);have g6:(j.put h (.cells (xE (.ptr L 0) .nP p e I u) 140 1 false)).h.get h=some (.cells (xE (.ptr L 0) .nP p e I u) 140 1 false):=by rw[zOl,if_pos rfl]
  have c9:stN 3 (.ptr h 2) (.agg (jV p)) j=some (jT,j.put h (.cells (xE (.ptr L 0) .nP p e I u) 140 1 false)):=e6;have a6:Stp (fun la=>la=h) j (j.put h (.cells (xE (.ptr L 0) .nP p e I u) 140 1 false)):=(zOp V.ti.ok).put (V.ti.ok.lt Z) _ (.inr rfl);generalize j.put h (.cells (xE (.ptr L 0) .nP p e I u) 140 1 false)=H6 at c9 g6 a6;obtain⟨H7,e7,g7,s7,n7⟩:=xT a6.ok g6 (o:=7) (x:= .nS) rfl (by simp[xE]);have g0:H7.h.get h=some (.cells (xE (.ptr L 0) .nP p e I .nS) 140 1 false):=g7;obtain⟨H8,M',b8,p8,g8,m8,n8⟩:=box s7.ok (.map [10] []);have h0:=zOs p8 s7.ok g0;obtain⟨H9,e9,g9,s9,n9⟩:=xT p8.ok h0 (o:=5) (x:= .map M') rfl (by simp[xE]);have h4:H9.h.get h=some (.cells (xE (.ptr L 0) .nP p M' I .nS) 140 1 false):=g9;have N6:=a6.next;have N7:=s7.next;have N8:=p8.next;have N9:=s9.next
  have j3:=w2.lt;have kb: ∀ {W:Nat} {o:AObj},H1.h.get W=some o->k.next<=W->W<G.next->W≠Aw->j.h.get W=some o:=fun {W o} g ha hb a7=>by
   have d0:=zOs p2 N.ok g;have nz: ¬(W=Aw\/B W):=fun x=>by
    rcases x with x | x
    .exact a7 x
    .have:=ds.lt hk W x;omega
   rw[P5.keep W (by omega) (fun x=>x),(a3.keep (w2.ti.ok.lt d0) nz).1];exact d0
  have a8:=kb g1 (by omega) (by omega) (by omega);have b9: ∀ {W:Nat} {o:AObj},j.h.get W=some o->W≠h->W<j.next->H9.h.get W=some o:=fun {W o} g a7 hl=>by
   rw[s9.keep W (by omega) a7,p8.keep W (by omega) (fun x=>x),s7.keep W (by omega) a7,a6.keep W hl a7];exact g
  have h5:=b9 a8 (by omega) (V.ti.ok.lt a8);have d3:=b9 g5 (by omega) (by omega);have d4:ldN 3 (.ptr b7 0) H9=some (.agg (jV p)):=xJ d3 rfl;obtain⟨a0,h6,h7,Q,j4⟩:=kD s9.ok h5 (l':=jV p) rfl rfl;have d5:stN 3 (.ptr z 0) (.agg (jV p)) H9=some (jT,a0):=h6;have r6:ldN 3 (.ptr z 0) a0=some (.agg (jV p)):=xJ h7 rfl;have j5:=Q.next
  have h8: ¬(((0:Nat):Int)≠((0:Nat):Int)):=by omega
  have h9:mkM [10]=some (.map [10] [],fun W=> .map W):=rfl;obtain⟨On,Nw,wv,dm,tv,ov,nt,j6,ol,dk,gw,ot,oo,j7,hZ,hO⟩:=V.gw;have tP: ∀la,(la=h\/la=e\/Blk u la\/ ∃A∈es,vU A.2 la)-> ¬y la:=w3.pr;have i0: ∀la,y la-> ¬la=h:=fun la kv M=>tP h (.inl rfl) (M▸kv)
  have l6:z<G.next:=by omega
  have i1: ¬y z:=(a3.keep (w2.ti.ok.lt (zOs p2 N.ok g1)) (fun x=>by rcases x with x | x;omega;have:=ds.lt hk z x;omega)).2.1;have j8: ∀la,y la->la<j.next:=V.lt
  have i2:On≠z:=fun M=>by rw[<-M]at a8;rw[dk.gO]at a8;cases a8
  have i3:On≠h:=fun M=>by rw[<-M]at Z;rw[dk.gO]at Z;cases Z
  have lO:=V.ti.ok.lt dk.gO;have i7: ∀ {W:Nat} {o:AObj},j.h.get W=some o->W≠h->W≠z->a0.h.get W=some o:=fun {W o} g F h2=>by
   have:=V.ti.ok.lt g;rw[Q.keep W (by omega) h2];exact b9 g F this
  have zI: ∀ {la},y la->la≠h/\la≠z:=fun {la} kv=>⟨i0 la kv,fun M=>i1 (M▸kv)⟩
  have b0:Stp (fun la=>la=h\/la=z) j a0:=⟨Q.ok,by omega,fun W hA hS=>by
   have F:W≠h:=fun M=>hS (.inl M)
   have h2:W≠z:=fun M=>hS (.inr M)
   rw[Q.keep W (by omega) h2,s9.keep W (by omega) F,p8.keep W (by omega) (fun x=>x),s7.keep W (by omega) F,a6.keep W hA F]⟩
  have nI: ∀ {la},y la-> ¬(la=h\/la=z):=fun {la} kv x=>by rcases x with x | x;exact(zI kv).1 x;exact(zI kv).2 x
  have zS:y P:=(hZ _).2 (.inr (.inl rfl));have zD:y L:=(hZ _).2 (.inr (.inr (.inl rfl)));have zN:y Nw:=(hZ _).2 (.inr (.inr (.inr (.inl rfl))));have zw: ∀la,Blk wv la->y la:=fun la kv=>(hZ _).2 (.inr (.inr (.inr (.inr (.inl kv)))))
  have c2:DkI a0 L E.nb O On Nw wv dm:=dk.stp V.ti.ok b0 (nI zD) (fun x=>by rcases x with x | x;exact i3 x;exact i2 x) (nI zN) fun la kv=>nI (zw la kv)
  have i4: ∀la,Blk u la->la=h\/la=e\/Blk u la\/ ∃A∈es,vU A.2 la:=fun la kv=> .inr (.inr (.inl kv))
  have d1: ∀la,Blk u la->la≠h:=fun la kv M=>by
   subst M;exact zOu J.dg J.gT (fun e' g=>by simp) kv
  have d2: ∀la,Blk u la->la<k.next:=fun la kv=>J.dg.lt kv
  have d6:Rw 3 a0 u E.dl.length (E.dl.flatMap jV):=by
   refine Rw.stp (V.ti.dg.row) b0 fun la kv x=> ?_
   rcases x with x | x
   .exact d1 la kv x
   .have:=d2 la kv;omega
  refine⟨a0, .inr ⟨e4,O,a4,a5,fun la=>la=P\/la=L\/la=Nw\/Blk wv la,p,T3,M',fun la=>la=h\/la=M'\/Blk .nS la,u, ?_,⟨.nS,[],I,rfl,⟨Q.ok, ?_, ?_,trivial,⟨_,_,_,_,_,rfl,c2⟩, .inl rfl, .inl (zOv ..),by simp,by simp,fun la kv=>by have:=J.xl la kv;omega⟩,by simp[jX],by simp,d8,by simp,f8,fun la=>Iff.rfl⟩,⟨On,Nw,wv,dm,c2,V.sp.stp V.ti.ok b0 (nI zS),fun la=>Iff.rfl,V.nb.1,V.nb.2.1,V.nb.2.2,V.bd,V.s0,V.few⟩,o3,⟨⟨Q.ok,by omega,fun la kv hS=> ?_⟩,fun la kv=> ?_⟩,d6,fun la kv=>⟨?_, ?_,(hW la).2 (.inr (.inr kv))⟩⟩⟩
  .simp(maxSteps:=999999)(disch:=omega) only[f43,eZ,b1,c4,cq,t1,t2,c5,c1,ck,c6,tl,f1,b2,rT,e3,jR,nth,b4,b6,h8,x1,zNB,x7,f9,c9,e7,h9,b8,e9,d4,d5,r6]
  .rw[Q.keep _ (by omega) (by omega)];exact h4
  .rw[Q.keep _ (by omega) (by omega),s9.keep _ (by omega) (by omega)];exact g8
  .have F:la≠h:=fun M=>hS (.inl ((hW la).2 (.inl M)))
   have hv: ¬B la:=fun x=>hS (.inr x)
   rw[b0.keep la (by omega) (fun x=>by rcases x with x | x;exact F x;omega),P5.keep la (by omega) (fun x=>x),(a3.keep (A:=la) (by omega) (fun x=>by rcases x with x | x;omega;exact hv x)).1,P2.keep la kv (fun x=>x)]
  .have old: ∀la,y la->B la\/k.next<=la:=fun la kv=>by
    rcases a3.2 la kv with(x | x) | x
    .exact .inr (by omega)
    .exact .inl x
    .exact .inr (by omega)
   rcases kv with(M | M | M) | (M | M | M | M)
   .exact .inl (.inl ((hW la).2 (.inl M)))
   .exact .inr (by omega)
   .exact(zOt.1 M).elim
   .rcases old la (M▸zS)with x | x
    .exact .inl (.inr x)
    .exact .inr x
   .rcases old la (M▸zD)with x | x
    .exact .inl (.inr x)
    .exact .inr x
   .rcases old la (M▸zN)with x | x
    .exact .inl (.inr x)
    .exact .inr x
   .rcases old la (zw la M)with x | x
    .exact .inl (.inr x)
    .exact .inr x
  .have:=d2 la kv
   rintro(M | M | M)
   .exact d1 la kv M
   .omega
   .exact zOt.1 M
  .have h3:=tP la (i4 la kv)
   rintro(M | M | M | M)
   .exact h3 (M▸zS)
   .exact h3 (M▸zD)
   .exact h3 (M▸zN)
   .exact h3 (zw la M)
end Go.Eng.Sh
end
section
namespace Go.Eng
open Go.Nd (Kvs Srt)
end Go.Eng
namespace Go.Eng.Sh
open Go.Nd (Ptr sumL leafOf Kvs Srt mayK putP delP lookP)
open Go.Bt
def prV (p:Str×Str):List AV:=[S p.1,S p.2]
def zJs (H:AH)(v:AV)(l:Kvs):Prop:=Rw 2 H v l.length (l.flatMap prV)
theorem zCR: ∀(l:Kvs) (i:Nat) (h:i<l.length),((l.flatMap prV).drop (i*2)).take 2=prV l[i]
 | p::l,0,_=>rfl
 | p::l,i+1,h=>by
  rw[qM,show(i+1)*2=2+i*2 by omega,<-List.drop_drop];exact zCR l i (by simpa using h)
theorem zJs.at {H:AH}{v:AV}{l:Kvs}(h:zJs H v l){i:Nat}(hi:i<l.length): ∃A o,(∀κ (z:Int),z=(i:Int)->cN 2 v (.int κ z)=some (.ptr A o))/\Eng.ldN 2 (.ptr A o) H=some (.agg (prV l[i]))/\Eng.ld1 (.ptr A o) H=some (S l[i].1)/\Eng.ld1 (.ptr A (o+1)) H=some (S l[i].2):=by
 obtain⟨A,o,c,e,sz,g,j,f,s,m,a⟩:=Rw.at h hi;rw[zCR l i hi]at a;have p:c[o]? =some (S l[i].1):=by
  have:=congrArg (fun x=>x[0]?) a;simpa[prV]using this
 have q:c[o+1]? =some (S l[i].2):=by
  have:=congrArg (fun x=>x[1]?) a;simpa[prV]using this
 exact⟨A,o,j,by rw[QK f m,a],wN f p,wN f q⟩
def behind (kv:Kvs):Nat->Str
 | 0=>[]
 | i+1=>(kv.getD i ([],[])).1++[0]
theorem zL9: ∀a:Str,ltS a []=false
 | []=>rfl
 | _::_=>rfl
theorem zCd {k:Str} : ∀ {l:Kvs},Srt l-> ∀j,j<Nd.whereN (leafOf l) k-> ∃h:j<l.length,ltS l[j].1 k=true
 | [],_,j,h=>by simp[Nd.whereN,leafOf]at h
 | (a,b)::l,hs,j,h=>by
  rw[Nd.where_cons hs]at h;split at h
  .rename_i f
   cases j with
   | zero=>exact⟨by simp,f⟩
   | succ j=>
    obtain⟨i,m⟩:=zCd (k:=k) hs.2 j (by omega);exact⟨by simpa using i,by simpa using m⟩
  .omega
theorem zHL {k:Str} : ∀ {l:Kvs},Srt l-> ∀h:Nd.whereN (leafOf l) k<l.length,ltS l[Nd.whereN (leafOf l) k].1 k=false:=fun {l} f h=>by
 have a:=X7 (key:=k) f;rw[zK h]at a;have:=List.find?_some a;simpa using this
theorem JO {k v:Str} : ∀ {l:Kvs},Srt l->(∀p∈l,p.1≠k)->putP k v l=l.take (Nd.whereN (leafOf l) k)++(k,v)::l.drop (Nd.whereN (leafOf l) k)
 | [],_,_=>rfl
 | (a,b)::l,hs,hn=>by
  have f:a≠k:=hn (a,b) (zJ ..);have j:=JO (v:=v) hs.2 fun p hp=>hn p (zE _ hp)
  rw[Nd.where_cons hs];simp only[putP]
  cases i:ltS a k with
  | true=>
   have h:ltS k a=false:=gK i;simp[h,j,Ne.symm f,f]
  | false=>
   have h:ltS k a=true:=by
    cases hb:ltS k a with
    | true=>rfl
    | false=>exact absurd (QH i hb) f
   simp[h,Ne.symm f,f]
theorem ZE {k:Str}(h:lookP k A=none): ∀p∈A,p.1≠k:=by
 induction A with
 | nil=>simp
 | cons q A ih=>
  obtain⟨a,b⟩:=q;simp only[lookP]at h;split at h
  .cases h
  .rename_i e;intro p hp;rcases zO.1 hp with rfl | hp
   .exact e
   .exact ih h p hp
end Go.Eng.Sh
end
section
namespace Go.Eng
theorem wF.stk (n:wF h e k l C N): ∃f,Stk h f k l C N:=by
 rcases n with⟨a,⟨rfl,rfl⟩ | ⟨A,rfl,i,j⟩⟩ | ⟨a,A,f,g,rfl,i,j,m⟩
 .exact⟨e,a, .inl ⟨rfl,rfl⟩⟩
 .exact⟨e,a, .inr ⟨A,1,N,true,C,rfl,i,j,a,zP _,zZ (by omega), .inr ⟨rfl,rfl⟩⟩⟩
 .exact⟨f,a, .inr ⟨A,2*C,N,g,C,rfl,i,j,a,zP _,zZ (by omega), .inl rfl⟩⟩
theorem wF.hi {k e n i:Nat}{H:AH}{v:AV}{l:List AV}(h:wF k e H v n l)(a:0<k)(hi:i<=n): ∃r,vD k v none (some (.int .i64 (i:Nat))) none H=some r/\Rw k H r i (l.take (i*k)):=by
 obtain⟨o,f⟩:=h.stk;obtain⟨r,j,m,_⟩:=f.cut a hi .i64;exact⟨r,j,m.row⟩
end Go.Eng
namespace Go.Eng.Sh
open Go.Nd (Ptr sumL leafOf Kvs Srt mayK putP delP lookP)
open Go.Bt
theorem QP: ∀(l:Kvs) (i:Nat),(l.flatMap prV).take (i*2)=(l.take i).flatMap prV
 | [],i=>by simp
 | p::l,0=>by simp
 | p::l,i+1=>by
  rw[qM,List.take_succ_cons,qM,<-QP l i,show(i+1)*2=2+i*2 by omega,List.take_append,show(prV p).length=2 from rfl,zZ (show(prV p).length<=2+i*2 by show 2<=_;omega),show 2+i*2 - 2=i*2 by omega]
theorem XD: ∀(l:Kvs) (i:Nat),(l.flatMap prV).drop (i*2)=(l.drop i).flatMap prV
 | [],i=>by simp
 | p::l,0=>by simp
 | p::l,i+1=>by
  rw[qM,List.drop_succ_cons,<-XD l i,show(i+1)*2=2+i*2 by omega,<-List.drop_drop];rfl
theorem fE (l:Kvs):jS (l.flatMap prV)=true:=by
 rw[wJ];intro x a;obtain⟨p,_,a⟩:=List.mem_flatMap.1 a;simp only[prV,zO,List.not_mem_nil,or_false]at a;rcases a with rfl | rfl<;>rfl
def PrG (H:AH)(v:AV)(l:Kvs):Prop:=wF 2 48 H v l.length (l.flatMap prV)/\(l=[]->v= .nS)
theorem PrG.prs (h:PrG k l A)(s:Prs k I):PrG I l A:=⟨h.1.mono s (fun _ _ x=>x),h.2⟩
theorem PrG.row {H:AH}{v:AV}{l:Kvs}(h:PrG H v l):zJs H v l:=h.1.row
theorem QO {k:Str}(f:Srt A):(lookP k A=none-> ∀h:Nd.whereN (leafOf A) k<A.length,A[Nd.whereN (leafOf A) k].1≠k)/\(∀v,lookP k A=some v-> ∃h:Nd.whereN (leafOf A) k<A.length,A[Nd.whereN (leafOf A) k].1=k):=by
 have h:=Nd.here_look k f;have m:(leafOf A).keys.length=A.length:=jD ..;constructor
 .intro i a e;exact ZE i _ (yI a) e
 .intro v j;rw[j]at h;simp only[Nd.hereN,jN,zF,zQ]at h;have a:Nd.whereN (leafOf A) k<A.length:=by omega
  refine⟨a, ?_⟩;have:=h.2;rw[qG,zK h.1,yL]at this;have e:(leafOf A).keys[Nd.whereN (leafOf A) k]'h.1=(A[Nd.whereN (leafOf A) k]'a).1:=List.getElem_map ..;exact e.symm.trans this
theorem J6 (k:Str)(l:Kvs):Nd.whereN (leafOf l) k<=l.length:=by
 have:=Nd.whereN_le (leafOf l) k;have a:(leafOf l).keys.length=l.length:=jD ..;omega
theorem BQ (a:Srt A)(l:h<A.length){k:Str}(f:A[h].1=k):A=A.take h++[A[h]]++A.drop (h+1)/\(∀p∈A.take h,ltS p.1 k=true)/\ ∀p∈A.drop (h+1),ltS k p.1=true:=by
 have e:A=A.take h++[A[h]]++A.drop (h+1):=zCq (zK l);rw[e]at a;obtain⟨i,m,j⟩:=cU.1 a;obtain⟨o,q,h6⟩:=cU.1 i;refine⟨e,fun p hp=> ?_,fun p hp=> ?_⟩
 .have:=h6 p hp A[h] (by simp);rw[f]at this;exact this
 .have:=j A[h] (qY _ (yB.2 rfl)) p hp;rw[f]at this;exact this
theorem zJD (f:Srt A)(l:h<A.length){k:Str}(v:Str)(a:A[h].1=k):putP k v A=A.take h++(k,v)::A.drop (h+1):=by
 obtain⟨e,i,j⟩:=BQ f l a
 conv=>lhs;rw[e]
 rw[zFm i j];have:putP k v [A[h]]=[(k,v)]:=by
  have m:A[h]=(k,A[h].2):=by rw[<-a]
  rw[m];simp[putP]
 rw[this];simp
theorem zKa (f:Srt A)(l:h<A.length){k:Str}(a:A[h].1=k):delP k A=A.take h++A.drop (h+1):=by
 obtain⟨e,i,j⟩:=BQ f l a
 conv=>lhs;rw[e]
 rw[zGL i j];have:delP k [A[h]]=[]:=by
  have m:A[h]=(k,A[h].2):=by rw[<-a]
  rw[m];simp[delP]
 rw[this];simp
def GrP (H:AH)(v:AV)(l:Kvs):Prop:=wF 2 48 H v l.length (l.flatMap prV)
theorem GrP.prs (h:GrP k l A)(s:Prs k I):GrP I l A:=h.mono s (fun _ _ x=>x)
theorem GrP.row {H:AH}{v:AV}{l:Kvs}(h:GrP H v l):zJs H v l:=wF.row h
theorem GrP.hi {H:AH}{v:AV}{l:Kvs}(h:GrP H v l){i:Nat}(hi:i<=l.length): ∃r,vD 2 v none (some (.int .i64 (i:Nat))) none H=some r/\Rw 2 H r i ((l.flatMap prV).take (i*2)):=wF.hi h (by decide) hi
theorem loG (v:GrP k l A)(hi:h<=A.length): ∃r,vD 2 l (some (.int .i64 (h:Nat))) none none k=some r/\zJs k r (A.drop h):=by
 by_cases m:h<A.length
 .obtain⟨r,f,w,_⟩:=QA v (by decide) m .i64;rw[XD]at w;exact⟨r,f,by rw[zJs,qI];exact w⟩
 .obtain rfl:h=A.length:=by omega
  by_cases o:0<A.length
  .obtain⟨r,f,w⟩:=YM v (by decide) o .i64;exact⟨r,f,by rw[List.drop_length];exact w⟩
  .have hl:A=[]:=zR (by omega);subst hl;rcases id v with⟨_,⟨rfl,_⟩ | ⟨H,rfl,p,j⟩⟩ | ⟨_,H,q,g,rfl,p,j,_⟩
   .exact⟨.nS,rfl,Rw.nil _ _⟩
   .refine⟨.slice H 0 0 1, ?_,GrP.row v⟩;show vD 2 (.slice H 0 0 1) (some (.int .i64 (.ofNat 0))) none none k=_;have a:k.h.get H=some (.cells [] 48 2 true):=j;simp only[vD,kU,cZ,a];rfl
   .refine⟨.slice H 0 0 0, ?_,GrP.row v⟩;show vD 2 (.slice H 0 0 0) (some (.int .i64 (.ofNat 0))) none none k=_;have a:k.h.get H=some (.cells [] q 2 g):=j;simp only[vD,kU,cZ,a];rfl
theorem zLm (hk:k.ok)(H:GrP k l A)(hj:h<=A.length)(a2:e<=A.length)(hl:A.length<=100000000)(a x:Str):
  ∃t u L i C q y o F p G I,(∀(J:Nat->AV) (K:AV->AH->Rs),bA (some (.cells [] 48 2 false,J)) k K=K (J u) t)/\vD 2 l none (some (.int .i64 (h:Nat))) none t=some L/\(∀(J:Nat->AV) (K:AV->AH->Rs),bA (some (.cells [S a,S x] 48 2 false,J)) t K=K (J y) q)/\vD 2 l (some (.int .i64 (e:Nat))) none none q=some i/\
   apP 48 2 32 (.slice u 0 0 0) L q=some (C,o)/\vD 2 l (some (.int .i64 (e:Nat))) none none o=some i/\aveq i i=true/\
   apP 48 2 32 C (.slice y 0 1 2) o=some (F,p)/\vD 2 l (some (.int .i64 (e:Nat))) none none p=some i/\apP 48 2 32 F i p=some (G,I)/\Prs k t/\Prs k q/\Prs k o/\Prs k p/\Prs k I/\GrP I G (A.take h++(a,x)::A.drop e)/\ ∀B,Blk G B->k.next<=B:=by
 obtain⟨t,u,b1,z,g1,m1,n1⟩:=box hk (.cells [] 48 2 false);have h1:=H.prs z;obtain⟨L,c1,q1⟩:=h1.hi hj;rw[QP]at q1;obtain⟨q,y,b2,s,g2,m2,n2⟩:=box z.ok (.cells [S a,S x] 48 2 false);have M:=z.trans s;have h2:=H.prs M;obtain⟨i,c2,q2⟩:=loG h2 a2;have G1:wF 2 48 q (.slice u 0 0 0) 0 []:= .inr ⟨rfl,u,48,false,rfl,by have:=s.next;omega,zOs s z.ok g1,rfl⟩
 obtain⟨C,o,e3,G3,N,f3⟩:=G1.app (bytes:=32) s.ok (by decide) (Rw.prs q1 s).srcOf q1.len (fE _) (by omega) (by decide);have N1:=z.next;have N2:=s.next;have N3:=N.next
 have T:Prs k o:=M.fresh N (fun B f=>by rw[zOm.1 f];exact m1);have h3:=H.prs T;have a3:o.h.get y=some (.cells [S a,S x] 48 2 false):=by
  rw[N.keep _ (s.ok.lt g2) (fun f=>by have:=zOm.1 f;omega)];exact g2
 have a0:srcOf 2 (.slice y 0 1 2) o=some (1,[S a,S x]):=by simp only[srcOf,a3];rfl
 obtain⟨F,p,e4,G4,O,f4⟩:=G3.app (bytes:=32) (m:=1) (new:=[S a,S x]) N.ok (by decide) a0 rfl rfl (by omega) (by decide);have N4:=O.next
 have W: ∀B,Blk C B->k.next<=B:=fun B f=>by
  rcases f3 B f with v | v
  .rw[zOm.1 v];exact m1
  .omega
 have Q:Prs k p:=T.fresh O W;have h4:=H.prs Q;have Y:zJs p i (A.drop e):=by
  have a4:Stp (fun B=>k.next<=B) q p:=⟨O.ok,by omega,fun B f hS=>by
   rw[Q.keep B (by omega) (fun x=>x),M.keep B (by omega) (fun x=>x)]⟩
  exact Rw.stp q2 a4 (fun B f a6=>by
   have:=H.lt (YN c2 B f);omega)
 obtain⟨G,I,e5,U,s5,f5⟩:=G4.app (bytes:=32) O.ok (by decide) Y.srcOf Y.len (fE _) (by simp;omega) (by decide);have Z: ∀B,Blk F B->k.next<=B:=fun B f=>by
  rcases f4 B f with v | v
  .exact W B v
  .omega
 have V: ∀ {H':AH},GrP H' l A->vD 2 l (some (.int .i64 (e:Nat))) none none H'=some i:=fun {H'} h'=>by
  rw[u5 h2 h' (by decide)];exact c2
 refine⟨t,u,L,i,C,q,y,o,F,p,G,I,b1,c1,b2,c2,e3,V h3,kK q2,e4,V h4,e5,z,M,T,Q,Q.fresh s5 Z, ?_,fun B f=> ?_⟩
 .have a1:0+h+1+(A.drop e).length=(A.take h++(a,x)::A.drop e).length:=by
   simp only[zV,qC,zY,qI];omega
  rw[a1]at U;have a5:[]++(A.take h).flatMap prV++[S a,S x]++(A.drop e).flatMap prV=(A.take h++(a,x)::A.drop e).flatMap prV:=by
   simp[prV]
  rw[a5]at U;exact U
 .rcases f5 B f with v | v
  .exact Z B v
  .omega
theorem zLY (T:k.ok)(H:GrP k l A)(U:h<=A.length)(O:e<=A.length)(hl:A.length<=100000000):
  ∃f o u i q a s t,(∀(J:Nat->AV) (K:AV->AH->Rs),bA (some (.cells [] 48 2 false,J)) k K=K (J o) f)/\vD 2 l none (some (.int .i64 (h:Nat))) none f=some u/\vD 2 l (some (.int .i64 (e:Nat))) none none f=some i/\
   apP 48 2 32 (.slice o 0 0 0) u f=some (q,a)/\vD 2 l (some (.int .i64 (e:Nat))) none none a=some i/\aveq i i=true/\apP 48 2 32 q i a=some (s,t)/\Prs k f/\Prs k a/\Prs k t/\GrP t s (A.take h++A.drop e)/\ ∀B,Blk s B->k.next<=B:=by
 obtain⟨f,o,b1,p,V,L,W⟩:=box T (.cells [] 48 2 false);have C:=H.prs p;obtain⟨u,c1,q1⟩:=C.hi U;rw[QP]at q1;obtain⟨i,c2,q2⟩:=loG C O;have Y:wF 2 48 f (.slice o 0 0 0) 0 []:= .inr ⟨rfl,o,48,false,rfl,W,V,rfl⟩;obtain⟨q,a,Z,G3,y,f3⟩:=Y.app (bytes:=32) p.ok (by decide) q1.srcOf q1.len (fE _) (by omega) (by decide);have N1:=p.next;have N3:=y.next
 have z:Prs k a:=p.fresh y (fun B m=>by rw[zOm.1 m];exact L);have h3:=H.prs z;have G: ∀B,Blk q B->k.next<=B:=fun B m=>by
  rcases f3 B m with v | v
  .rw[zOm.1 v];exact L
  .omega
 have I:zJs a i (A.drop e):=by
  have Q:Stp (fun B=>k.next<=B) f a:=⟨y.ok,by omega,fun B m hS=>by
   rw[z.keep B (by omega) (fun x=>x),p.keep B (by omega) (fun x=>x)]⟩
  exact Rw.stp q2 Q (fun B m a0=>by
   have:=H.lt (YN c2 B m);omega)
 obtain⟨s,t,e5,F,s5,f5⟩:=G3.app (bytes:=32) y.ok (by decide) I.srcOf I.len (fE _) (by simp;omega) (by decide);have M:vD 2 l (some (.int .i64 (e:Nat))) none none a=some i:=by
  rw[u5 C h3 (by decide)];exact c2
 refine⟨f,o,u,i,q,a,s,t,b1,c1,c2,Z,M,kK q2,e5,p,z,z.fresh s5 G, ?_,fun B m=> ?_⟩
 .have N:0+h+(A.drop e).length=(A.take h++A.drop e).length:=by
   simp only[zV,qC,qI];omega
  rw[N]at F;have S:[]++(A.take h).flatMap prV++(A.drop e).flatMap prV=(A.take h++A.drop e).flatMap prV:=by simp
  rw[S]at F;exact F
 .rcases f5 B m with v | v
  .exact G B v
  .omega
end Go.Eng.Sh
end
section
namespace Go.Eng
theorem zB2 {a:Addr}(w:M.cells? h a e=some R)(v:0<e):a.spot=none/\ ∃arr base m,M.heap[a.block]? =some (.cells arr base m)/\ ∀j,j<e->arr[a.off+j]? =R[j]? :=by
 obtain⟨_,hl,t⟩:=World.cells?_some w;have u:=t 0 v;rw[zK (by omega)]at u;obtain⟨c1,arr,x,m,p,_⟩:=zB3 u;have q:a.spot=none:=by simpa[Addr.add]using c1
 obtain⟨b,o,F⟩:=a;simp only at q;subst q;have hb:(Addr.add ⟨b,o,none⟩ 0).block=b:=by simp[Addr.add]
 rw[hb]at p;refine⟨rfl,arr,x,m,p,fun j y=> ?_⟩;have s:=t j y;rw[zK (by omega)]at s⊢;obtain⟨_,arr',z,C,f,i⟩:=zB3 s;rw[xD]at f i;simp only at f i;rw[p]at f;simp only[zC,Obj.cells.injEq]at f;rw[<-f.1]at i;exact i
theorem zBS {α β:Type}{k:Nat}{g:α->List β}(a: ∀s,(g s).length=k): ∀l:List α,(l.flatMap g).length=l.length*k
 | []=>by simp
 | s::l=>by rw[qM,zV,zBS a l,a,zY,jL,Nat.add_comm]
theorem zG7 {α β:Type}{k:Nat}{g:α->List β}(a: ∀s,(g s).length=k): ∀(l:List α) (i j:Nat) (hi:i<l.length),j<k->(l.flatMap g)[i*k+j]? =(g l[i])[j]?
 | s::l,0,j,_,hj=>by
  rw[qM,Nat.zero_mul,j7,yW (by rw[a];exact hj)];rfl
 | s::l,i+1,j,h,hj=>by
  have f:=zG7 a l i j (by simpa using h) hj;rw[qM,j9 (by rw[a,jL];omega)];have:(i+1)*k+j - (g s).length=i*k+j:=by rw[a,jL];omega
  rw[this,f];rfl
theorem srows_arg {α:Type}[Inhabited α]{enc:TypeId×Value->a}{P:Program}{x:DataW a×List MemPlace}{t K:TypeId}{k:Nat}(F:0<k){vals:α->List Value}(L: ∀s,(vals s).length=k){good:α->Prop}(Z:P.underlying t=some (.slice K))(hc:P.cellsOf K=k)
  (hd: ∀ {e:Nat} {cs:List Value} {x:DataW a×List MemPlace},DataW.trod enc P M h (fun _=>true) c e K cs=some x-> ∃s,cs=vals s/\good s)
  (base:DataW.trod enc P M h (fun _=>true) c e t [j]=some x):
  ∃l:List α,Rw k (H0 M) (dO M.heap.size j) l.length (l.flatMap fun s=>(vals s).map (cellAV M.heap.size))/\ ∀s∈l,good s:=by
 have C: ∀s,((vals s).map (cellAV M.heap.size)).length=k:=fun s=>by rw[jD,L]
 rcases Deep.open_slice Z base with⟨y,_⟩ | ⟨H,len,cap,m,n,D,Pl,y,_,hl,_,hm,_,O⟩
 .simp only[qU,and_true]at y;subst y;exact⟨[],⟨by simp, .inl ⟨rfl,rfl⟩⟩,by simp⟩
 .simp only[qU,and_true]at y;subst y;simp only[if_true]at hm;subst hm;by_cases h0:m=0
  .subst h0;obtain rfl:len=0:=by omega
   exact⟨[],⟨by simp, .inr (.inl ⟨rfl,rfl⟩)⟩,by simp⟩
  .simp only[hc]at O;have hp: ∀i,i<m-> ∃p:α,M.cells? h (H.add (i*k)) k=some (vals p)/\good p:=fun i hi=>by
    obtain⟨cs,k1,k2⟩:=O i hi;obtain⟨p,rfl,hs⟩:=hd k2;exact⟨p,k1,hs⟩
   obtain⟨G,I⟩:=Deep.choose_lt hp;obtain⟨b,o,sp⟩:=H;obtain⟨c1,arr,te,fz,f,a0⟩:=zB2 (I 0 (by omega)).1 F;have W:sp=none:=by simpa[Addr.add]using c1
   subst W;rw[xD]at f;simp only at f;have w: ∀i,i<m-> ∀z,z<k->arr[o+i*k+z]? =(vals (G i))[z]? :=fun i hi z hj=>by
    obtain⟨_,arr',a1,a2,u,J⟩:=zB2 (I i hi).1 F;rw[xD]at u J;simp only at u J;rw[f]at u;simp only[zC,Obj.cells.injEq]at u;rw[u.1];exact J z hj
   have a3:(m - 1)*k+k=m*k:=by rw[<-jL,Nat.succ_eq_add_one,Nat.sub_add_cancel (by omega)]
   have a4:o+m*k<=arr.size:=by
    have Q:=w (m - 1) (by omega) (k - 1) (by omega);rw[zK (by rw[L];omega)]at Q;have:=(Array.getElem?_eq_some_iff.1 Q).1;omega
   have a5:len*k<=m*k:=yN _ (by omega);rw[zJc M (by omega) (zFX f)];refine⟨(List.range len).map G,⟨zBS C _, .inr (.inr ⟨b,o,2*m,_,te,0,false,by simp,zJt M f,zFX f,by simp;omega, ?_⟩)⟩, ?_⟩
   .apply List.ext_getElem?;intro q;simp only[jD,List.length_range];by_cases S:q<len*k
    .have Y:q / k<len:=Nat.div_lt_of_lt_mul (by rw[Nat.mul_comm];exact S);have N:q % k<k:=Nat.mod_lt _ F;have T:q / k*k+q % k=q:=by rw[Nat.mul_comm];exact Nat.div_add_mod q k
     rw[jG S,jI,jM,yR];have U:=w (q / k) (by omega) (q % k) N;rw[Nat.add_assoc,T]at U;have V:=zG7 C ((List.range len).map G) (q / k) (q % k) (by simpa using Y) N;rw[T]at V;rw[U,V,jM];simp only[List.getElem_map,List.getElem_range]
    .rw[List.getElem?_eq_none (by simp;omega),List.getElem?_eq_none (by rw[zBS C];simp;omega)]
   .intro p hp;obtain⟨i,hi,rfl⟩:=qK.1 hp;exact(I i (by have:=List.mem_range.1 hi;omega)).2
end Go.Eng
end
section
namespace Go.Eng.Sh
open Go.Nd (Ptr sumL leafOf Kvs Srt mayK putP delP lookP)
open Go.Bt Go.Bk
def rootOk (p:Ptr):Prop:=Nd.mayP p=true/\Nd.sumOk p/\p.at_≠1
theorem zBB:rootOk pZ:=⟨rfl,by simp[Nd.sumOk,pZ],by simp[pZ]⟩
theorem zI8 (h:p.K v=some s):rootOk v:=by
 have i:=bX h;obtain⟨a,birth,kind,body,rfl,_⟩:=zOo.1 h;exact⟨Nd.kidOk_may i.1,⟨by simp[bT],by have:=zKx (sealB kind birth body);simp only[bT];omega⟩,by omega⟩
theorem xW.rootOk {E:Ev}{p:Ptr}{kv:Kvs}{T:List Ptr}(h:xW E [] p kv T):Sh.rootOk p:=by
 rcases h with⟨rfl,_⟩ | ⟨h,j,t,S,f,_⟩
 .exact zBB
 .obtain⟨s,rfl,a | ⟨_,a⟩⟩ | ⟨_,i⟩:=vV f
  .simp[jX]at a
  .simp[jX]at a
  .exact zI8 i
theorem zIj(Q:100<=n){E:Ev}(G:k.ok){p:Ptr}{kv:Kvs}{T:List Ptr}(hd: ∃o q t u,DkI k h E.nb E.ws o q t u)(hr:xW { E with dl:=[] } [] p kv T)(S: ∀B,E.x B->B<k.next:=by intro _ H;exact False.elim H):
  ∃H' f M W,f18 D n [.ptr h 0, .nP, .agg (jV p)] k=some (.tuple [.ptr f 0, .int .i64 (0:Nat)],H')/\Prs k H'/\aS (.ptr h 0) .nP { E with dl:=[] } H' f M 0 W p [] kv T/\(∀B,W B->k.next<=B):=by
 obtain⟨J,K,a0⟩:=hr.rootOk;obtain⟨U,v,b1,i,y,m1,n1⟩:=box G (.cells (jV p) 42 1 false);obtain⟨I,V,j⟩:=zAN D n i.ok J K Q;obtain⟨H3,M,Y,m,Z,m3,n3⟩:=box j.ok (.map [10] []);obtain⟨H4,f,b4,z,g4,m4,n4⟩:=box m.ok (.cells (xE (.ptr h 0) .nP p M 0 .nS) 140 1 false);have N1:=i.next;have N2:=j.next;have N3:=m.next
 have L:=i.trans j;have C:=(L.trans m).trans z;obtain⟨o,q,t,u,dk⟩:=hd;refine⟨H4,f,M,fun B=>B=f\/B=M\/Blk .nS B, ?_,C,⟨.nS,[],0,rfl,⟨z.ok,g4,zOs z m.ok Z,trivial,⟨h,o,q,t,u,rfl,dk.prs G C⟩, .inl rfl, .inl (zOv ..),by simp,by simp,fun B F=>qJ (S B F) C.next⟩,fun s nd H=>by simp[jX]at H,by simp,by omega,by simp,hr,fun B=>Iff.rfl⟩,fun B F=> ?_⟩
 .have r1:ldN 3 (.ptr v 0) U=some (.agg (jV p)):=by rw[jU y];rfl
  have r2:ldN 3 (.ptr v 0) I=some (.agg (jV p)):=by rw[jU (zOs j i.ok y)];rfl
  have r3:Eng.ld1 (.ptr v 0) I=some (.int .i64 p.at_):=by rw[jP (zOs j i.ok y)];rfl
  have N: ¬(((0:Nat):Int)≠((0:Nat):Int)):=by omega
  have O: ¬p.at_=((1:Nat):Int):=by omega
  have bs:uD [(0,1),(1,1),(2,3),(5,1),(6,1),(7,1)] [.nP, .nP, .int .i64 (0:Nat), .int .i64 (0:Nat), .int .u64 (0:Nat), .nM, .int .u64 (0:Nat), .nS] [(0, .ptr h 0),(1, .nP),(2, .agg (jV p)),(3, .map M)]=some (.agg (xE (.ptr h 0) .nP p M 0 .nS)):=rfl;simp(maxSteps:=999999)(disch:=omega) only[f18,eZ,b1,cq,r1,V,jR,nth,N,r3,O,r2,mkM,Y,bs,b4]
 .rcases F with rfl | rfl | e
  .omega
  .omega
  .exact(zOt.1 e).elim
structure Wld (E:Ev)(H:AH)(Wd Ad As At M L txg la:Nat)(is:Nat->Nat)(V W:Nat->Prop)(root:Ptr)(q:PN)(kv:Kvs)(T:List Ptr):Prop where
 tx:aS (.ptr Ad 0) .nP E H At M L W root q kv T
 ds:Dsk H Ad As E.nb E.ws la is V
 us: ∀r∈dsk T++E.dl,is r.at_.toNat≠0
 gW: ∃lv,H.h.get Wd=some (.cells [.ptr Ad 0, .ptr As 0, .ptr At 0, .int .i64 txg,lv] 39 1 false)/\GrP H lv kv
theorem zA8 (W:aS l G p k C E L B v q A H)(x:Dsk k h e U J P i w){o:AObj}(a:k.h.get Y=some o)(m:(∃is s g,o= .cells is s 2 g)\/ ∃is,o= .cells is 39 1 false): ¬B Y/\ ¬w Y:=by
 obtain⟨d,es,t,_,f,_,_,_,_,_,y⟩:=W;obtain⟨Z,Nw,wv,dm,u,z,M,_⟩:=x;obtain⟨c8,F⟩:=z.bk;have V: ∀is s g,o≠ .cells is s 3 g:=by rcases m with⟨_,_,_,rfl⟩ | ⟨_,rfl⟩<;>simp
 have I: ∀is s g,o≠ .cells is s 513 g:=by rcases m with⟨_,_,_,rfl⟩ | ⟨_,rfl⟩<;>simp
 have j: ∀is s,o≠ .map is s:=by rcases m with⟨_,_,_,rfl⟩ | ⟨_,rfl⟩<;>simp
 have nb: ∀is,o≠ .cells is 140 1 false:=by rcases m with⟨_,_,_,rfl⟩ | ⟨_,rfl⟩<;>simp
 have K: ∀is,o≠ .cells is 145 1 false:=by rcases m with⟨_,_,_,rfl⟩ | ⟨_,rfl⟩<;>simp
 have N: ∀is,o≠ .cells is 151 1 false:=by rcases m with⟨_,_,_,rfl⟩ | ⟨_,rfl⟩<;>simp
 constructor
 .intro O;rcases(y Y).1 O with rfl | rfl | s
  .exact nb _ (y6 (a.symm.trans f.gT))
  .exact j _ _ (y6 (a.symm.trans f.gM))
  .exact zOu f.dg a (fun Q g=>V _ Q g) s
 .intro S;rcases(M Y).1 S with rfl | rfl | rfl | s
  .exact K _ (y6 (a.symm.trans F))
  .exact N _ (y6 (a.symm.trans u.gD))
  .exact j _ _ (y6 (a.symm.trans u.gN))
  .exact I _ _ _ (y6 (a.symm.trans (u.ow.get s)))
theorem wF.get2 (n:wF h e k l C N)(a:Blk l E): ∃N e g,k.h.get E=some (.cells N e h g):=by
 rcases n with⟨_,⟨rfl,_⟩ | ⟨A,rfl,_,f⟩⟩ | ⟨_,A,i,g,rfl,_,f,_⟩
 .exact(zOt.1 a).elim
 .rw[zOm.1 a];exact⟨_,_,_,f⟩
 .rw[zOm.1 a];exact⟨_,_,_,f⟩
theorem xW.srt (h:xW p q v A H):Srt A/\ ∀E∈A,mayK E.1=true/\E.2.length<=200:=by
 rcases h with⟨_,rfl,_⟩ | ⟨h,j,t,S,_,_,w,_,rfl,_⟩
 .exact⟨trivial,by simp⟩
 .refine⟨zME w, ?_⟩
  cases h with
  | zero=>exact fun E hp=>⟨(w.1.2 E hp).2.2.1,(w.1.2 E hp).2.2.2⟩
  | succ h=>
   intro E hp;obtain⟨x,f,a⟩:=List.mem_flatMap.1 hp;obtain⟨i,hi,rfl⟩:=jO f;exact zNV (w.1.2.2.at (zK hi)) E a
theorem zHh(H:AH):f36 D n [.int .i64 (0:Nat)] H=some (.tuple [.nP, .int .i64 (1:Nat)],H):=by
 have a:((0:Nat):Int)< ((1:Nat):Int):=by omega
 simp(maxSteps:=999999)(disch:=omega) only[f36,eZ,a]
theorem zHb(u:100<=n)(J:k.ok): ∃H' j a f h M V W,f15 D n [.int .i64 (0:Nat)] k=some (.ptr j 0,H')/\Prs k H'/\Wld ⟨512,[],[],fun _=>False⟩ H' j a f h M 0 0 0 zBI V W pZ [] [] []/\(∀B,V B\/W B\/B=j->k.next<=B):=by
 obtain⟨H1,a,v,q,K,m,m1,mO,mN,L⟩:=zIP D n J (nb:=512) (by omega) (by omega);obtain⟨N,f,O,i,m2,Q⟩:=zKG D n u m.ok (nb:=512) (by omega) (by omega);have S:=zHh D n N;have t:=L.prs m.ok i;obtain⟨H4,h,M,W,U,s,Y,C⟩:=zIj D n u (E:=⟨512,[],[],fun _=>False⟩) i.ok (p:=pZ) (kv:=[]) (T:=[]) ⟨v,q,_,_,t⟩ (.inl ⟨rfl,rfl,rfl⟩);obtain⟨Z,j,b5,y,g5,m5,n5⟩:=box s.ok (.cells [.ptr a 0, .ptr f 0, .ptr h 0, .int .i64 (0:Nat), .nS] 39 1 false);have N1:=m.next;have N2:=i.next;have N4:=s.next
 have o:=s.trans y;have F:=Q.stp i.ok o fun x=>x
 have G:=t.prs i.ok o;refine⟨Z,j,a,f,h,M,fun B=>B=f\/B=a\/B=q\/Blk .nS B,W, ?_,(m.trans i).trans o,⟨?_,⟨v,q,_,_,G,F,fun B=>Iff.rfl,by decide,by decide,by decide, .inr rfl,⟨by decide,by decide⟩, ?_⟩,by simp[dsk],⟨.nS,g5, .inl (zOv ..)⟩⟩,fun B hB=> ?_⟩
 .have I: ¬(((0:Nat):Int)≠((0:Nat):Int)):=by omega
  have bz:uD [(0,1),(1,1),(2,1)] [.int .i64 (0:Nat), .int .i64 (0:Nat), .int .u64 (0:Nat)] []=some (.agg (jV pZ)):=rfl;have bs:uD [(0,1),(1,1),(2,1),(3,1),(4,1)] [.nP, .nP, .nP, .int .i64 (0:Nat), .nS] [(0, .ptr a 0),(1, .ptr f 0),(2, .ptr h 0)]=some (.agg [.ptr a 0, .ptr f 0, .ptr h 0, .int .i64 (0:Nat), .nS]):=rfl;simp(maxSteps:=999999)(disch:=omega) only[f15,eZ,K,O,S,jR,nth,bz,U,I,bs,b5]
 .obtain⟨dr,es,z,h1,h2,h3⟩:=Y;exact⟨dr,es,z,h1,h2.prs y,h3⟩
 .have:=zAW zBI 0 512;show 0+cnt zBI 0 512<=990000;omega
 .rcases hB with(e | e | e | e) | e | e
  .omega
  .omega
  .omega
  .exact(zOt.1 e).elim
  .have:=C B e;omega
  .omega
structure Sp where
 kd:Nat
 k:Str
 v:Str
 nr:Int
def spV (s:Sp):List AV:=[.int .u8 s.kd,S s.k,S s.v, .int .i64 s.nr]
def bJ (s:Sp)(kv:Kvs):Kvs:=if s.kd % 2=0 then(if Z6 s.k s.v then putP s.k s.v kv else kv)else(if mayK s.k then delP s.k kv else kv)
theorem zLv{d lv:AV}(key:Str)(g:k.h.get h=some (.cells [l,G,V,d,lv] 39 1 false))(hl:zJs k lv A)(x:Srt A)(K:A.length<n)(hb:A.length<=100000000):
  f22 D n [.ptr h 0,S key] k=some (.int .i64 (Nd.whereN (leafOf A) key:Nat),k):=by
 have t:Eng.ld1 (.ptr h 4) k=some lv:=by rw[jP g];rfl
 have L:=J6 key A;have a: ∀d i f,i+d=Nd.whereN (leafOf A) key->d<f->kL f (zE3 D n) [.ptr h 0,S key, .int .i64 ((i:Nat):Int)] k=some (.exit 0 [.int .i64 (Nd.whereN (leafOf A) key:Nat)],k):=by
  intro d
  induction d with
  | zero=>
   intro i f hi C;obtain⟨f,rfl⟩: ∃m,f=m+1:=⟨f - 1,by omega⟩;obtain rfl:i=Nd.whereN (leafOf A) key:=by omega
   refine jZ ?_;by_cases p:Nd.whereN (leafOf A) key<A.length
   .have F:=zHL x p;obtain⟨b,o,u,I,v,J⟩:=hl.at p;have q:Eng.ld1 (.ptr b (o+0)) k=some (S A[Nd.whereN (leafOf A) key].1):=v;have j:((Nd.whereN (leafOf A) key:Nat):Int)< (A.length:Int):=by omega
    have s:ZV .lss (S A[Nd.whereN (leafOf A) key].1) (S key)=some (.bool false):=by rw[YY,F]
    simp(maxSteps:=999999)(disch:=omega) only[zE3,eZ,t,hl.lnSl,j,u,q,s]
   .have j: ¬((Nd.whereN (leafOf A) key:Nat):Int)< (A.length:Int):=by omega
    simp(maxSteps:=999999)(disch:=omega) only[zE3,eZ,t,hl.lnSl,j]
  | succ d ih=>
   intro i f hi C;obtain⟨f,rfl⟩: ∃m,f=m+1:=⟨f - 1,by omega⟩;obtain⟨p,z⟩:=zCd (k:=key) x i (by omega);obtain⟨b,o,u,I,v,J⟩:=hl.at p;have q:Eng.ld1 (.ptr b (o+0)) k=some (S A[i].1):=v;have j:((i:Nat):Int)< (A.length:Int):=by omega
   have s:ZV .lss (S A[i].1) (S key)=some (.bool true):=by rw[YY,z]
   have hi1:((i:Nat):Int)+((1:Nat):Int)=((i+1:Nat):Int):=by omega
   refine(kX ?_).trans (ih (i+1) f (by omega) (by omega));simp(maxSteps:=999999)(disch:=omega) only[zE3,eZ,t,hl.lnSl,j,u,q,s,hi1]
 have y:=a (Nd.whereN (leafOf A) key) 0 n (by omega) (by omega);simp(maxSteps:=999999)(disch:=omega) only[f22,eZ,y,zNG]
theorem Dsk.stp {S:Nat->Prop}{H H':AH}{i j nb m:Nat}{o:Ws}{is:Nat->Nat}{V:Nat->Prop}(d:Dsk H i j nb o m is V)(p:H.ok)(s:Stp S H H')(f: ∀B,V B-> ¬S B)(t: ∀B ks es,H.h.get B=some (.map ks es)->S B->ks=[10]):Dsk H' i j nb o m is V:=by
 obtain⟨u,v,x,y,q,z,a,r⟩:=d;exact⟨u,v,x,y,q.stp p s (f _ ((a _).2 (.inr (.inl rfl)))) (fun h=>by have:=t _ _ _ q.gO h;simp at this) (f _ ((a _).2 (.inr (.inr (.inl rfl))))) (fun B C=>f _ ((a _).2 (.inr (.inr (.inr C))))),z.stp p s (f _ ((a _).2 (.inl rfl))),a,r⟩
theorem aS.dsk (u:aS l G p k C E L B v q A H)(t:Dsk k h e U J P i w):(∀nb,w nb-> ¬B nb)/\ ∀nb ks es,k.h.get nb=some (.map ks es)->B nb->ks=[10]:=by
 obtain⟨z,es,y,_,f,_,_,_,_,_,j⟩:=u;have m:=VE f t;refine⟨fun nb x s=>m nb ?_ x,fun nb ks es' a s=> ?_⟩
 .rcases(j nb).1 s with o | o | o
  .exact .inl o
  .exact .inr (.inl o)
  .exact .inr (.inr (.inl o))
 .rcases(j nb).1 s with rfl | rfl | o
  .rw[f.gT]at a;cases a
  .rw[f.gM]at a;cases a;rfl
  .exact absurd o (zOu f.dg a (fun M g=>by simp))
theorem Wld.tree {f:Ev}{u:Nat->Prop}{z:PN}{y:Kvs}(txg:Wld p k h e C E L P Y m i w B v q A H)(J:aS (.ptr e 0) .nP f I E L U u Q z y F)(a:AdT B k u I)(c:Chd p f H F):
  Dsk I e C f.nb f.ws m i w/\(∀r∈dsk F++f.dl,i r.at_.toNat≠0)/\ ∃lv,k.h.get h=some (.cells [.ptr e 0, .ptr C 0, .ptr E 0, .int .i64 Y,lv] 39 1 false)/\GrP k lv A/\I.h.get h=some (.cells [.ptr e 0, .ptr C 0, .ptr E 0, .int .i64 Y,lv] 39 1 false)/\GrP I lv A:=by
 obtain⟨lv,o,gl⟩:=txg.gW;have is:=txg.tx.d.okH;obtain⟨V,G⟩:=txg.tx.dsk txg.ds;refine⟨?_,fun r hr=>txg.us r (c.pm.mem_iff.1 hr),lv,o,gl, ?_, ?_⟩
 .rw[c.nb,c.ws];exact txg.ds.stp is a.1 V G
 .rw[a.1.keep _ (is.lt o) (zA8 txg.tx txg.ds o (.inr ⟨_,rfl⟩)).1];exact o
 .exact gl.mono a.1 fun t H'=>by
   obtain⟨l,M,g,j⟩:=wF.get2 gl H';exact(zA8 txg.tx txg.ds j (.inl ⟨_,_,_,rfl⟩)).1
theorem Wld.prs {E:Ev}{H H':AH}{a f h i M L txg j:Nat}{is:Nat->Nat}{V W:Nat->Prop}{root:Ptr}{q:PN}{kv:Kvs}{T:List Ptr}(w:Wld E H a f h i M L txg j is V W root q kv T)(s:Prs H H'):Wld E H' a f h i M L txg j is V W root q kv T:=by
 obtain⟨lv,p,gl⟩:=w.gW;have m:=w.tx.d.okH;obtain⟨t,es,o,u,v,x⟩:=w.tx;exact⟨⟨t,es,o,u,v.prs s,x⟩,w.ds.prs m s,w.us,lv,zOs s m p,gl.prs s⟩
theorem Wld.note {lv:AV}(V:aS (.ptr e 0) .nP p k E L P B v q A H)(t:Dsk k e C p.nb p.ws m i w)(Q: ∀r∈dsk H++p.dl,i r.at_.toNat≠0)(j:k.h.get h=some (.cells [.ptr e 0, .ptr C 0, .ptr E 0, .int .i64 U,l] 39 1 false))(s:Stp (fun is=>is=h) k I)(S:I.h.get h=some (.cells [.ptr e 0, .ptr C 0, .ptr E 0, .int .i64 Y,lv] 39 1 false))(gl:GrP k lv A):Wld p I h e C E L P Y m i w B v q A H:=by
 have F:=V.d.okH;obtain⟨x,G⟩:=zA8 V t j (.inr ⟨_,rfl⟩);have K: ∀is,Blk lv is-> ¬is=h:=fun is a o=>by
  obtain⟨W,e',g,f⟩:=wF.get2 gl a;rw[o,j]at f;simp at f
 obtain⟨M,es,H',txg,y,Z,h4,h5,h6,h7,u⟩:=V;have a0:=VE y t;refine⟨⟨M,es,H',txg, ?_,Z,h4,h5,h6,h7,u⟩,t.stp F s (fun is a o=>G (o▸a)) (fun is ks es' z o=>by rw[o,j]at z;cases z),Q,lv,S,gl.mono s K⟩;obtain⟨On,Nw,wv,dm,dk,sp,hV,_⟩:=t.stp F s (fun is a o=>G (o▸a)) (fun is ks es' z o=>by rw[o,j]at z;cases z);refine y.wr s (fun is a o=> ?_) dk;subst o;rcases a with o | o | o | ⟨A,N,o⟩
 .exact x ((u _).2 (.inl o))
 .exact x ((u _).2 (.inr (.inl o)))
 .exact x ((u _).2 (.inr (.inr o)))
 .obtain⟨nd,O⟩:=y.pq.node A N;exact O.nblk j (.inl ⟨_,_,_,_,rfl,fun _ _ f=>by cases f⟩) o
theorem st4 (i:k.ok){d lv x:AV}(g:k.h.get h=some (.cells [l,G,V,d,lv] 39 1 false))(j:isCell x=true): ∃H',stN 1 (.ptr h 4) x k=some (jT,H')/\H'.h.get h=some (.cells [l,G,V,d,x] 39 1 false)/\Stp (fun B=>B=h) k H'/\H'.next=k.next:=by
 obtain⟨m,e,p,s,n⟩:=xT i g (o:=4) (x:=x) j (by simp);exact⟨m,e,p,s,n⟩
theorem zKA (m n:Nat)(hm:300000000<=m)(hn:300000000<=n)(s:Sp)(h7:s.kd<256)(V:Wld p I h e C E L P U Y i w B Q q A H)(hL:P<=50000000)(h8:A.length<=1000000):
  ∃H' E' J T' f6 q',f16 (dy (m+2)) n [.ptr h 0, .agg (spV s)] I=some (.bool true,H')/\Wld E' H' h e C E L (P+200) U Y i w J f6 q' (bJ s A) T'/\AdT (fun W=>B W\/W=h) I (fun W=>J W\/W=h) H'/\Chd p E' H T':=by
 have hk:=V.tx.d.okH;obtain⟨hs,h9⟩:Srt A/\ ∀f∈A,mayK f.1=true/\f.2.length<=200:=by
  obtain⟨_,_,_,_,_,_,_,_,_,hr,_⟩:=V.tx;exact hr.srt
 obtain⟨u,Z,b1,p1,g1,m1,n1⟩:=box hk (.cells (spV s) 29 1 false);have N1:=p1.next
 have w1:=V.prs p1;have f7:=p1.ok;obtain⟨lv,gW,gl⟩:=w1.gW;have lW:=f7.lt gW;have x1:Eng.ld1 (.ptr Z 1) u=some (S s.k):=by rw[jP g1];rfl
 have x2:Eng.ld1 (.ptr Z 2) u=some (S s.v):=by rw[jP g1];rfl
 have x0:Eng.ld1 (.ptr Z 0) u=some (.int .u8 s.kd):=by rw[jP g1];rfl
 have i0:Eng.ld1 (.ptr Z (0+0)) u=some (.int .u8 s.kd):=x0;have O:=zLv (dy (m+2)) n s.k gW gl.row hs (by omega) (by omega);obtain⟨y,hy⟩: ∃y,y=Nd.whereN (leafOf A) s.k:=⟨_,rfl⟩;have c4:y<=A.length:=by rw[hy];exact J6 _ _
 rw[<-hy]at O;have r4:Eng.ld1 (.ptr h 4) u=some lv:=by rw[jP gW];rfl
 have r2:Eng.ld1 (.ptr h 2) u=some (.ptr E 0):=by rw[jP gW];rfl
 have a4:lnSl lv=some (.int .i64 A.length):=gl.row.lnSl;obtain⟨d8,b2⟩:=QO (k:=s.k) hs;rw[<-hy]at d8 b2;simp only[spV]at b1 g1;have a5: ∀K:AV->AH->Rs,(jn (if((y:Nat):Int)< (A.length:Int)then bV (cN 2 lv (.int .i64 ((y:Nat):Int))) fun f8=>bV (fAd 0 f8) fun f9=>bV (Eng.ld1 f9 u) fun g0=>bV (ZV .eql g0 (S s.k)) fun c5=>some (.norm [c5],u)else some (.norm [jT],u)) fun vs I=>hd vs fun c5 vs=>bV (if((y:Nat):Int)< (A.length:Int)then some c5 else some (.bool false)) fun g2=>K g2 I)=K (.bool (lookP s.k A).isSome) u:=by
  intro K;by_cases As:y<A.length
  .have hI:((y:Nat):Int)< (A.length:Int):=by omega
   obtain⟨kv,o,i1,i2,i3,i4⟩:=gl.row.at As;have g5:=i1 .i64 _ rfl;rw[if_pos hI,g5,bVs];have g7:Eng.ld1 (.ptr kv (o+0)) u=some (S A[y].1):=i3;have hb:decide (A[y].1=s.k)=(lookP s.k A).isSome:=by
    cases is:lookP s.k A with
    | none=>have:=d8 is As;simp[this]
    | some v=>obtain⟨h',At⟩:=b2 v is;simp[At]
   simp only[fAd,kG,bVs,g7,UP,QN,fD,if_pos hI,hb]
  .have hI: ¬((y:Nat):Int)< (A.length:Int):=by omega
   have hb:(lookP s.k A).isSome=false:=by
    cases is:lookP s.k A with
    | none=>rfl
    | some v=>obtain⟨h',_⟩:=b2 v is;exact absurd h' As
   rw[if_neg hI,QN,fD,if_neg hI,bVs,hb]
 have hM:(decide (((1:Nat):Int)<=(s.k.length:Int))&&decide ((s.k.length:Int)<=((40:Nat):Int)))=mayK s.k:=by
  rw[yG];simp only[Nd.mayK,zF,zQ];omega
 have a1:wO .rem (.int .u8 s.kd) (.int .u8 (2:Nat))=some (.int .u8 (s.kd % 2:Nat)):=by
  rw[zDl _ _ _ (by omega)];congr 2
 have i5:y+1<=1000001:=by omega
 have c6:Q2 48 2 0 [.str 0 0, .str 0 0] []=some (.cells [] 48 2 false,fun kv=> .slice kv 0 0 0):=rfl;have d9:Q2 48 2 1 [.str 0 0, .str 0 0] [(0, .agg [S s.k,S s.v])]=some (.cells [S s.k,S s.v] 48 2 false,fun kv=> .slice kv 0 1 2):=rfl;have e0:uD [(0,1),(1,1)] [.str 0 0, .str 0 0] [(0,S s.k),(1,S s.v)]=some (.agg [S s.k,S s.v]):=rfl;have g8:aveq (.agg [S s.k,S s.v]) (.agg [S s.k,S s.v])=true:=by simp[aveq,ZY,S]
 have e1: ∀K:Rs,chk (some (.agg [S s.k,S s.v])) (.agg [S s.k,S s.v]) K=K:=fun K=>kY rfl g8
 have c7: ∀K:Rs,chk (some lv) lv K=K:=fun K=>kY rfl (kK gl.row)
 have c8:((y:Nat):Int)+((1:Nat):Int)=((y+1:Nat):Int):=by omega
 have a0:AdT (fun W=>B W\/W=h) I (fun W=>B W\/W=h) u:=⟨p1.stp,fun W As=> .inl As⟩;have b4: ∀ {J:Nat->Prop} {H':AH},AdT B u J H'->AdT (fun W=>B W\/W=h) u (fun W=>J W\/W=h) H':=fun a=>⟨a.1.mono fun W _ As=> .inl As,fun W As=>by
  rcases As with As | As
  .rcases a.2 W As with x | x
   .exact .inl (.inl x)
   .exact .inr x
  .exact .inl (.inr As)⟩
 have d4: ∀ {J:Nat->Prop} {z H3:AH},Stp (fun W=>W=h) z H3->AdT (fun W=>J W\/W=h) z (fun W=>J W\/W=h) H3:=fun s=>⟨s.mono fun W _ As=> .inr As,fun W As=> .inl As⟩
 have d5: ∀ {J:Nat->Prop} {z H3:AH},Prs z H3->AdT (fun W=>J W\/W=h) z (fun W=>J W\/W=h) H3:=fun s=>AdT.prs s
 rcases Nat.lt_or_ge (s.kd % 2) 1 with c9 | h6
 .have b5:s.kd % 2=0:=by omega
  have txg:((s.kd % 2:Nat):Int)=((0:Nat):Int):=by omega
  obtain⟨z,E2,W2,T2,M,t2,j,c2⟩:=zKY m n hm hn (k:=s.k) (v:=s.v) w1.tx.d (by omega) (by omega);obtain⟨root,q2,t⟩:=t2.x;obtain⟨a8,a9,d0,a6,g9,la,b0⟩:=w1.tree t j c2;obtain rfl:lv=d0:=by
   rw[gW]at a6;simp only[zC,AObj.cells.injEq,qU]at a6;exact a6.1.2.2.2.2.1
  have N2:=j.1.next
  have i6:=w1.tx.d.lt;have k3:=j.1.keep Z n1 (fun As=>by
   have:=V.tx.d.lt Z As;omega)
  have d1:Eng.ld1 (.ptr Z 2) z=some (S s.v):=by rw[jP (k3.trans g1)];rfl
  have e3:Eng.ld1 (.ptr Z 1) z=some (S s.k):=by rw[jP (k3.trans g1)];rfl
  by_cases hp:Z6 s.k s.v=true
  .obtain⟨e5,i7⟩:mayK s.k=true/\s.v.length<=200:=by simpa[Z6]using hp
   have b9: ¬((200:Nat):Int)< (s.v.length:Int):=by omega
   rw[if_pos hp]at M;rw[if_pos hp]at t;obtain⟨H3,A9,b3,p3,g3,m3,n3⟩:=box j.1.ok (.cells [.str 0 0, .str 0 0] 48 1 false);obtain⟨H4,e4,g4,s4,n4⟩:=kD p3.ok g3 (l':=[S s.k,S s.v]) rfl rfl;have e7:stN 2 (.ptr A9 0) (.agg [S s.k,S s.v]) H3=some (jT,H4):=e4;have N3:=p3.next
   have N:Prs z H4:=p3.fresh s4 fun W hB=>by omega
   have h0:=b0.prs N;have d2:=zOs N j.1.ok la;have a3:bJ s A=putP s.k s.v A:=by simp only[bJ,b5,if_true,hp]
   obtain⟨kk,b6,h1,d6⟩: ∃kk,(kk=if(lookP s.k A).isSome then y+1 else y)/\kk<=A.length/\putP s.k s.v A=A.take y++(s.k,s.v)::A.drop kk:=by
    refine⟨_,rfl, ?_⟩
    cases is:lookP s.k A with
    | some v0=>
     obtain⟨h',At⟩:=b2 v0 is;simp only[jN,if_true];exact⟨by omega,zJD hs h' s.v At⟩
    | none=>
     simp only[Option.isSome_none,zM,qE];refine⟨c4, ?_⟩;rw[hy];exact JO hs (ZE is)
   obtain⟨G1,B1,r1,b7,h2,G2,B2,G3,i8,G4,d3,G5,q1,c0,q3,q4,q5,q6,q7,q8,q9,e8,P5,P6,P7,P8,F,b8,h3⟩:=zLm N.ok h0 c4 h1 (by omega) s.k s.v;obtain⟨H6,e6,g6,s6,n6⟩:=st4 F.ok (zOs F N.ok d2) (wF.row b8).isCell;rw[d6]at t;have w6:Wld E2 H6 h e C E L (P+200) U Y i w W2 root q2 (A.take y++(s.k,s.v)::A.drop kk) T2:=by
    obtain⟨dr,es,c3,z1,z2,z3⟩:=t;exact Wld.note (lv:=d3) ⟨dr,es,c3,z1,z2.prs (N.trans F),z3⟩ (a8.prs j.1.ok (N.trans F)) a9 (zOs F N.ok d2) s6 g6 b8
   have a7: ∀ {G:AH},Prs H4 G->Eng.ld1 (.ptr h 4) G=some lv:=fun {G} As=>by rw[jP (zOs As N.ok d2)];rfl
   have r9: ∀ {G:AH},Prs H4 G->ldN 2 (.ptr A9 0) G=some (.agg [S s.k,S s.v]):=fun {G} As=>xJ (zOs As N.ok g4) rfl
   have f1:=a7 P5;have f2:=a7 P6;have f3:=a7 P7;have f4:=a7 P8;have e9:=r9 P5;have f5:=r9 P7;have c1: ∀K:Rs,chk (some b7) b7 K=K:=fun K=>kY rfl q7
   refine⟨H6,E2,W2,T2,root,q2, ?_,by rw[a3,d6];exact w6,((a0.trans (b4 j)).trans (d5 (N.trans F))).trans (d4 s6),c2⟩
   cases is:(lookP s.k A).isSome with
   | true=>
    rw[is,if_pos rfl]at b6;subst b6;simp(maxSteps:=999999)(disch:=omega) only[f16,eZ,b1,spV,x1,O,r4,a4,a5,hM,x0,a1,txg,r2,x2,M,e5,is,d1,e3,b9,e0,b3,e7,c6,d9,q1,f1,c0,e9,q3,f2,c8,q4,q5,f5,e1,f3,c7,q6,c1,q8,f4,q9,e8,e6,zLE]
   | false=>
    rw[is]at b6;simp only[zM,qE]at b6;subst b6;simp(maxSteps:=999999)(disch:=omega) only[f16,eZ,b1,spV,x1,O,r4,a4,a5,hM,x0,a1,txg,r2,x2,M,e5,is,d1,e3,b9,e0,b3,e7,c6,d9,q1,f1,c0,e9,q3,f2,c8,q4,q5,f5,e1,f3,c7,q6,c1,q8,f4,q9,e8,e6,zLE]
  .rw[if_neg hp]at M;rw[if_neg hp]at t;have a3:bJ s A=A:=by simp only[bJ,b5,if_true,hp,qE];rfl
   refine⟨z,E2,W2,T2,root,q2, ?_,by rw[a3];exact⟨t,a8,a9,lv,la,b0⟩,a0.trans (b4 j),c2⟩
   cases Ad:mayK s.k with
   | false=>
    simp(maxSteps:=999999)(disch:=omega) only[f16,eZ,b1,spV,x1,O,r4,a4,a5,hM,x0,a1,txg,r2,x2,M,Ad]
   | true=>
    have b9:((200:Nat):Int)< (s.v.length:Int):=by
     simp only[Z6,Ad,Bool.true_and,zQ]at hp;omega
    simp(maxSteps:=999999)(disch:=omega) only[f16,eZ,b1,spV,x1,O,r4,a4,a5,hM,x0,a1,txg,r2,x2,M,Ad,d1,b9]
 .have b5:s.kd % 2≠0:=by omega
  have txg: ¬((s.kd % 2:Nat):Int)=((0:Nat):Int):=by omega
  obtain⟨z,E2,W2,T2,M,t2,j,c2⟩:=zLX m n hm hn (k:=s.k) w1.tx.d (by omega) (by omega);obtain⟨root,q2,t⟩:=t2.x;obtain⟨a8,a9,d0,a6,g9,la,b0⟩:=w1.tree t j c2;obtain rfl:lv=d0:=by
   rw[gW]at a6;simp only[zC,AObj.cells.injEq,qU]at a6;exact a6.1.2.2.2.2.1
  cases Ad:mayK s.k with
  | false=>
   have hd:ZP s.k A=1:=by rw[ZP,Ad];rfl
   rw[hd]at M;rw[hd,if_neg (by omega)]at t;have a3:bJ s A=A:=by simp only[bJ,b5,qE,Ad,zM]
   refine⟨z,E2,W2,T2,root,q2, ?_,by rw[a3];exact⟨t,a8,a9,lv,la,b0⟩,a0.trans (b4 j),c2⟩;simp(maxSteps:=999999)(disch:=omega) only[f16,eZ,b1,spV,x1,O,r4,a4,a5,hM,x0,a1,txg,r2,M,Ad]
  | true=>
   have c9:bJ s A=delP s.k A:=by simp only[bJ,b5,qE,Ad,if_true]
   cases is:(lookP s.k A).isSome with
   | false=>
    have hd:ZP s.k A=5:=by rw[ZP,Ad,is];rfl
    have h4:lookP s.k A=none:=by simpa using is
    rw[hd]at M;rw[hd,if_neg (by omega)]at t;have a3:bJ s A=A:=by rw[c9];exact UI (ZE h4)
    refine⟨z,E2,W2,T2,root,q2, ?_,by rw[a3];exact⟨t,a8,a9,lv,la,b0⟩,a0.trans (b4 j),c2⟩;simp(maxSteps:=999999)(disch:=omega) only[f16,eZ,b1,spV,x1,O,r4,a4,a5,hM,x0,a1,txg,r2,M,Ad,is]
   | true=>
    have hd:ZP s.k A=0:=by rw[ZP,Ad,is];rfl
    rw[hd]at M;rw[hd,if_pos rfl]at t;obtain⟨v0,h5⟩:=qL.1 is;obtain⟨h',he⟩:=b2 v0 h5;have d7:delP s.k A=A.take y++A.drop (y+1):=zKa hs h' he;obtain⟨G1,B1,r1,b7,h2,G3,d3,G5,q1,c0,q3,q4,q5,q6,q7,P5,P6,F,b8,h3⟩:=zLY j.1.ok b0 c4 (show y+1<=A.length by omega) (by omega);obtain⟨H6,e6,g6,s6,n6⟩:=st4 F.ok (zOs F j.1.ok la) (wF.row b8).isCell;rw[d7]at t;have w6:Wld E2 H6 h e C E L (P+200) U Y i w W2 root q2 (A.take y++A.drop (y+1)) T2:=by
     obtain⟨dr,es,c3,z1,z2,z3⟩:=t;exact Wld.note (lv:=d3) ⟨dr,es,c3,z1,z2.prs F,z3⟩ (a8.prs j.1.ok F) a9 (zOs F j.1.ok la) s6 g6 b8
    have a7: ∀ {G:AH},Prs z G->Eng.ld1 (.ptr h 4) G=some lv:=fun {G} As=>by rw[jP (zOs As j.1.ok la)];rfl
    have f1:=a7 P5;have f3:=a7 P6;have c1: ∀K:Rs,chk (some b7) b7 K=K:=fun K=>kY rfl q6
    refine⟨H6,E2,W2,T2,root,q2, ?_,by rw[c9,d7];exact w6,((a0.trans (b4 j)).trans (d5 F)).trans (d4 s6),c2⟩;simp(maxSteps:=999999)(disch:=omega) only[f16,eZ,b1,spV,x1,O,r4,a4,a5,hM,x0,a1,txg,r2,M,Ad,is,c6,q1,f1,c0,c8,q3,q4,f3,c7,q5,c1,q7,e6]
end Go.Eng.Sh
end
section
namespace Go.Bk
end Go.Bk
namespace Go.Eng.Sh
open Go.Nd (Ptr sumL leafOf Kvs Srt mayK putP delP lookP)
open Go.Bt Go.Bk
def OldR (E:Ev)(is:Nat->Nat)(p:Ptr)(kv:Kvs):Prop:= ∃T,xW { E with dl:=[] } [] p kv T/\ ∀r∈T,r.at_≠1/\is r.at_.toNat≠0
theorem xW.keep {E:Ev}(h:xW E [] v A F)(hb: ∀r∈F,blkAt r.at_.toNat J=blkAt r.at_.toNat E.ws):xW { E with ws:=J,dl:=H} [] v A F:=by
 rcases h with⟨a,b,c⟩ | ⟨h,f,t,S,m,o,q,u,ws',rfl⟩
 .exact .inl ⟨a,b,c⟩
 .have key: ∀r∈v::S,∀f,Qf E [] [] r=some f->Qf { E with ws:=J,dl:=H} [] [] r=some f:=fun r hr f i=>by
   have:=zHD (ws':=J) i fun _=>hb r hr
   obtain⟨s,rfl,h⟩ | ⟨hp,x⟩:=vV this
   .rcases h with h | ⟨_,h⟩<;>simp[jX]at h
   .rw[Y0 hp];exact zOo.2 (zOo.1 x)
  exact .inr ⟨h,f,t,S,key v (zJ ..) f m,o.mono fun r hr f i=>key r (zE _ hr) f i,q,u,ws',rfl⟩
theorem OldR.keep {E:Ev}{is i:Nat->Nat}{ws':Ws}{j:List Ptr}{p:Ptr}{kv:Kvs}(h:OldR E is p kv)(hb: ∀a,is a≠0->blkAt a ws'=blkAt a E.ws)(hi: ∀a,is a≠0->i a≠0):OldR { E with ws:=ws',dl:=j} i p kv:=by
 obtain⟨T,m,f⟩:=h;exact⟨T,m.keep (E:= { E with dl:=[] }) fun r hr=>hb _ (f r hr).2,fun r hr=>⟨(f r hr).1,hi _ (f r hr).2⟩⟩
theorem zKQ(t:aS l G p k h e C w v q A H): ∃H',f19 D n [.ptr h 0] k=some (.agg (jV v),H')/\Prs k H':=by
 obtain⟨F,es,M,_,j,_⟩:=t;obtain⟨m,o,b1,f,u,L,I⟩:=box j.ok (.cells [.int .i64 (0:Nat), .int .i64 (0:Nat), .int .u64 (0:Nat)] 42 1 false);have i:=j.prs f;have E:=QG D n i;have x:ldN 3 (.ptr h 2) m=some (.agg (jV v)):=QK i.gT (by simp[xE]);obtain⟨a,W,y,z,J⟩:=kD f.ok u (l':=jV v) rfl rfl;have s:stN 3 (.ptr o 0) (.agg (jV v)) m=some (jT,a):=W;have r:ldN 3 (.ptr o 0) a=some (.agg (jV v)):=xJ y rfl;refine⟨a, ?_,f.fresh z fun B K=>by omega⟩;simp(maxSteps:=999999)(disch:=omega) only[f19,eZ,b1,E,x,s,r]
theorem st3 (i:k.ok){d lv x:AV}(g:k.h.get h=some (.cells [l,G,V,d,lv] 39 1 false))(j:isCell x=true): ∃H',stN 1 (.ptr h 3) x k=some (jT,H')/\H'.h.get h=some (.cells [l,G,V,x,lv] 39 1 false)/\Stp (fun B=>B=h) k H'/\H'.next=k.next:=by
 obtain⟨m,e,p,s,n⟩:=xT i g (o:=3) (x:=x) j (by simp);exact⟨m,e,p,s,n⟩
def SpR (H:AH)(v:AV)(l:List Sp):Prop:=Rw 4 H v l.length (l.flatMap spV)
theorem zET (s:Sp):(spV s).length=4:=rfl
theorem zAy: ∀(l:List Sp) (i:Nat) (h:i<l.length),((l.flatMap spV).drop (i*4)).take 4=spV l[i]
 | p::l,0,_=>by rw[Nat.zero_mul,y9,qM,jA (zET p)];rfl
 | p::l,i+1,h=>by
  rw[qM,show(i+1)*4=4+i*4 by omega,<-List.drop_drop,j6 (zET p)];exact zAy l i (by simpa using h)
theorem SpR.at {H:AH}{v:AV}{l:List Sp}(h:SpR H v l){i:Nat}(hi:i<l.length): ∃A o,(∀κ (z:Int),z=(i:Int)->cN 4 v (.int κ z)=some (.ptr A o))/\ldN 4 (.ptr A o) H=some (.agg (spV l[i]))/\Eng.ld1 (.ptr A (o+1)) H=some (S l[i].k)/\Eng.ld1 (.ptr A (o+2)) H=some (S l[i].v)/\Eng.ld1 (.ptr A (o+3)) H=some (.int .i64 l[i].nr):=by
 obtain⟨A,o,c,e,sz,g,p,a,t,q,f⟩:=Rw.at h hi;rw[zAy l i hi]at f;have m: ∀j,j<4->c[o+j]? =(spV l[i])[j]? :=fun j s=>by
  have:=congrArg (fun x=>x[j]?) f;simp only[jG s,jI]at this;exact this
 exact⟨A,o,p,by rw[QK a q,f],wN a (m 1 (by omega)),wN a (m 2 (by omega)),wN a (m 3 (by omega))⟩
theorem SpR.lnSl {H:AH}{v:AV}{l:List Sp}(h:SpR H v l):Eng.lnSl v=some (.int .i64 l.length):=Rw.lnSl h
theorem zIy(N:30000<=n){v:List Sp}(h:SpR k l v): ∃b:Bool,f14 D n [l] k=some (.bool b,k)/\(b=false->v.length<=150):=by
 have f:=h.lnSl;have C: ∀d i c a,d+c≥20000->d<a->c<=22001->i<=c->(∃b:Bool,kL a (YH D n) [l, .int .i64 ((c:Nat):Int), .int .i64 ((i:Nat):Int)] k=some (.ret (.bool true),k))\/ ∃c':Nat,c'<=22001/\kL a (YH D n) [l, .int .i64 ((c:Nat):Int), .int .i64 ((i:Nat):Int)] k=some (.exit 0 [l, .int .i64 c'],k):=by
  intro d
  induction d with
  | zero=>
   intro i c a hd z p hi;obtain⟨a,rfl⟩: ∃H,a=H+1:=⟨a - 1,by omega⟩;refine .inr ⟨c,p,jZ ?_⟩;have c1: ¬((c:Nat):Int)< ((20000:Nat):Int):=by omega
   by_cases q:((i:Nat):Int)< (v.length:Int)
   .simp(maxSteps:=999999)(disch:=omega) only[YH,eZ,f,q,c1]
   .simp(maxSteps:=999999)(disch:=omega) only[YH,eZ,f,q,c1]
  | succ d ih=>
   intro i c a hd z p hi;obtain⟨a,rfl⟩: ∃H,a=H+1:=⟨a - 1,by omega⟩;by_cases q:i<v.length
   .have j:((i:Nat):Int)< (v.length:Int):=by omega
    by_cases L:c<20000
    .have c1:((c:Nat):Int)< ((20000:Nat):Int):=by omega
     obtain⟨A,o,u,O,x,y,Q⟩:=h.at q;by_cases S:1000< (v[i].k).length
     .have m:((1000:Nat):Int)< (((v[i].k).length:Nat):Int):=by omega
      refine .inl ⟨true,ZC ?_⟩;simp(maxSteps:=999999)(disch:=omega) only[YH,eZ,f,j,c1,u,x,m]
     .have m: ¬((1000:Nat):Int)< (((v[i].k).length:Nat):Int):=by omega
      by_cases T:1000< (v[i].v).length
      .have s:((1000:Nat):Int)< (((v[i].v).length:Nat):Int):=by omega
       refine .inl ⟨true,ZC ?_⟩;simp(maxSteps:=999999)(disch:=omega) only[YH,eZ,f,j,c1,u,x,m,y,s]
      .have s: ¬((1000:Nat):Int)< (((v[i].v).length:Nat):Int):=by omega
       have F:((c:Nat):Int)+((1:Nat):Int)=((c+1:Nat):Int):=by omega
       have G:((c+1:Nat):Int)+(((v[i].k).length:Nat):Int)=((c+1+(v[i].k).length:Nat):Int):=by omega
       have I:((c+1+(v[i].k).length:Nat):Int)+(((v[i].v).length:Nat):Int)=((c+1+(v[i].k).length+(v[i].v).length:Nat):Int):=by omega
       have J:((i:Nat):Int)+((1:Nat):Int)=((i+1:Nat):Int):=by omega
       have K:YH D n [l, .int .i64 ((c:Nat):Int), .int .i64 ((i:Nat):Int)] k=some (.norm [l, .int .i64 (c+1+(v[i].k).length+(v[i].v).length:Nat), .int .i64 (i+1:Nat)],k):=by
        simp(maxSteps:=999999)(disch:=omega) only[YH,eZ,f,j,c1,u,x,m,y,s,F,G,I,J]
       rw[kX K];exact ih (i+1) _ a (by omega) (by omega) (by omega) (by omega)
    .have c1: ¬((c:Nat):Int)< ((20000:Nat):Int):=by omega
     refine .inr ⟨c,p,jZ ?_⟩;simp(maxSteps:=999999)(disch:=omega) only[YH,eZ,f,j,c1]
   .have j: ¬((i:Nat):Int)< (v.length:Int):=by omega
    refine .inr ⟨c,p,jZ ?_⟩;simp(maxSteps:=999999)(disch:=omega) only[YH,eZ,f,j]
 rcases C 20000 0 0 n (by omega) (by omega) (by omega) (by omega)with⟨_,e⟩ | ⟨c',M,e⟩
 .refine⟨true, ?_,fun h=>by cases h⟩;simp(maxSteps:=999999)(disch:=omega) only[f14,eZ,e]
 .by_cases U:20000<=c'
  .have t:((20000:Nat):Int)<=(c':Int):=by omega
   refine⟨true, ?_,fun h=>by cases h⟩;simp(maxSteps:=999999)(disch:=omega) only[f14,eZ,e,zLG,t]
  .have t: ¬((20000:Nat):Int)<=(c':Int):=by omega
   refine⟨decide (((150:Nat):Int)< (v.length:Int)), ?_,fun h=>by
    have:=of_decide_eq_false h;omega⟩
   simp(maxSteps:=999999)(disch:=omega) only[f14,eZ,e,zLG,t,f]
open Go.Proofs
open Go.Nd (Str)
theorem zGY {Q:Ptr->Option Nd.Node}{h:Nat}(f: ∀ {lo hi:Bd} {j:Nd.Node} {t:Bt.Tr h} {S:List Ptr},wE Q h j t S->WF h lo hi t->3*(S.length+1)+1<=4*(con h t).length):
  ∀ {i:List Ptr} {ts:List (Bt.Tr h)} {S:List Ptr} {ks:List Str} {lo hi:Bd},vB Q (wE Q h) i ts S->KB (WF h) lo ks ts hi->3*S.length+ts.length<=4*(ts.flatMap (con h)).length
 | [],[],_,ks,_,_,_,hk=>by cases ks<;>exact hk.elim
 | p::i,t::ts,_,ks,lo,hi,⟨j,S1,S2,a,b,c,e⟩,hk=>by
  subst e;simp only[qM,zV,zY]
  cases ks with
  | nil=>
   cases ts with
   | nil=>
    have o:=f b hk
    cases i with
    | nil=>
     have m:S2=[]:=c;subst m;simp only[List.flatMap_nil,yO];omega
    | cons _ _=>exact c.elim
   | cons _ _=>exact hk.elim
  | cons k ks=>
   have o:=f b hk.1;have m:=zGY f c hk.2;omega
 | [],_::_,_,_,_,_,h,_=>h.elim
 | _::_,[],_,_,_,_,h,_=>h.elim
theorem zKc {Q:Ptr->Option Nd.Node} : ∀(h:Nat) {lo hi:Bd} {f:Nd.Node} {t:Bt.Tr h} {S:List Ptr},wE Q h f t S->WF h lo hi t->3*(S.length+1)+1<=4*(con h t).length
 | 0,_,_,_,t,_,⟨_,hS⟩,hw=>by
  subst hS;have:(t:Kvs).length≠0:=fun e=>hw.2.1 (zR e)
  show 3*(0+1)+1<=4*(t:Kvs).length;omega
 | h+1,_,_,_,t,_,hr,hw=>by
  have i:=zGY (fun {_ _ _ _ _} a b=>zKc h a b) hr.2.2.2 hw.1.2.2;have j:=ZA hw;have m:=hw.1.2.2.len;show _<=4*(t.2.flatMap (con h)).length;omega
theorem zDc  : ∀(h:Nat) {f:Nd.Node} {t:Bt.Tr h} {S:List Ptr},wE W h f t S->WR h t->3*(S.length+1)<=4*(con h t).length+1
 | 0,_,t,_,⟨_,hS⟩,hw=>by
  subst hS;have:(t:Kvs).length≠0:=fun e=>hw.2.1 (zR e)
  show 3*(0+1)<=4*(t:Kvs).length+1;omega
 | h+1,_,t,_,hr,hw=>by
  have i:=zGY (fun {_ _ _ _ _} a b=>zKc h a b) hr.2.2.2 hw.1.2.2;have j:t.1.length≠0:=fun e=>hw.2.1 (zR e)
  have m:=hw.1.2.2.len;show _<=4*(t.2.flatMap (con h)).length+1;omega
theorem xW.cnt (h:xW p q v A H):3*H.length<=4*A.length+1:=by
 rcases h with⟨_,rfl,rfl⟩ | ⟨h,i,t,S,_,hr,a,_,f,rfl⟩
 .simp
 .have:=zDc h hr a;rw[f]at this;simpa using this
end Go.Eng.Sh
end
section
namespace Go.Bk
def zIE (is:Nat->Nat):List Nat->Nat->Nat
 | []=>is
 | i::l=>zIE (aZ is i (if is i=2 then 0 else 3)) l
theorem UB: ∀ {l:List Nat} {is:Nat->Nat} {j:Nat},j∉l->zIE is l j=is j
 | [],_,_,_=>rfl
 | i::l,is,j,h=>by
  simp only[zO,not_or]at h;rw[zIE,UB h.2,vH h.1]
theorem zG4: ∀ {l:List Nat} {is:Nat->Nat} {j:Nat},l.Nodup->j∈l->zIE is l j=(if is j=2 then 0 else 3)
 | i::l,is,j,hn,h=>by
  obtain⟨a,f⟩:=List.nodup_cons.1 hn;rw[zIE];by_cases e:j=i
  .subst e;rw[UB a,u6]
  .have m:j∈l:=by simpa[e]using h
   rw[zG4 f m,vH e]
 | [],_,_,_,h=>by simp at h
end Go.Bk
namespace Go.Eng.Sh
open Go.Nd (Ptr sumL leafOf Kvs Srt mayK putP delP lookP)
open Go.Bt Go.Bk
theorem zI4(H:Spc k h e C i)(x:k.ok)(I:2<=E)(hi:E<e)(f:i E=1\/i E=2):
  ∃H',f70 D n [.ptr h 0, .int .i64 E] k=some (.int .i64 (0:Nat),H')/\Spc H' h e C (aZ i E (if i E=2 then 0 else 3))/\Stp (fun B=>B=h) k H'/\H'.next=k.next:=by
 obtain⟨c,g,hl,z,c1,A,J,K,G,L⟩:=id H;have F:Eng.ld1 (.ptr h 0) k=some (.int .i64 e):=wN g z;have y:bG 8192 1 (.ptr h 2) (.int .i64 E)=some (.ptr h (2+E)):=v5 8192 h 2 .i64 E rfl (by omega);have j:Eng.ld1 (.ptr h (2+E)) k=some (.int .u8 (i E:Nat)):=wN g (A E (by omega));have t1: ¬(E:Int)< ((2:Nat):Int):=by omega
 have t2: ¬(e:Int)<=(E:Int):=by omega
 have t:f116 D n [.ptr h 0, .int .i64 E] k=some (.int .i64 (0:Nat),k):=by
  simp(maxSteps:=999999)(disch:=omega) only[f116,eZ,cq,F,t1,t2]
 have u: ¬(((0:Nat):Int)≠((0:Nat):Int)):=by omega
 have t12: ¬((1:Nat):Int)=((2:Nat):Int):=by omega
 rcases f with f | f
 .obtain⟨o,p,m,q,s⟩:=Q9 D n H x hi (a:=1) (b:=3) f (by omega) (by omega);refine⟨o, ?_,by rw[f];exact m,q,s⟩;rw[f]at j;simp(maxSteps:=999999)(disch:=omega) only[f70,eZ,t,y,j,p,u,t12,zLz]
 .obtain⟨o,p,m,q,s⟩:=Q9 D n H x hi (a:=2) (b:=0) f (by omega) (by omega);refine⟨o, ?_,by rw[f];exact m,q,s⟩;rw[f]at j;simp(maxSteps:=999999)(disch:=omega) only[f70,eZ,t,y,j,p,u,t12,zLz]
def blk (r:Ptr):Nat:=r.at_.toNat
theorem zCQ: ∀(l:List Ptr) (i:Nat) (h:i<l.length),((l.flatMap jV).drop (i*3)).take 3=jV l[i]
 | p::l,0,_=>by rw[Nat.zero_mul,y9,qM];rfl
 | p::l,i+1,h=>by
  rw[qM,show(i+1)*3=3+i*3 by omega,<-List.drop_drop,show(jV p++l.flatMap jV).drop 3=l.flatMap jV from rfl];exact zCQ l i (by simpa using h)
theorem zG3{c lv:AV} :
  ∀(d i f:Nat) (nb:AH) (is:Nat->Nat),i+d=H.length->d<f->H.length<=1000000000->nb.ok->Spc nb e C E is->nb.h.get h=some (.cells [G, .ptr e 0,V,c,lv] 39 1 false)->Rw 3 nb l H.length (H.flatMap jV)->(∀B,Blk l B->B≠e)->
   ((H.drop i).map blk).Nodup->(∀r∈H.drop i,2<=r.at_/\blk r<C/\is (blk r)=1)->
   ∃H',kL f (zGh D n) [.ptr h 0, .bool true,l, .int .i64 (0:Nat), .int .i64 i] nb=some (.exit 0 [.ptr h 0, .int .i64 (0:Nat)],H')/\Spc H' e C E (zIE is ((H.drop i).map blk))/\Stp (fun B=>B=e) nb H'/\H'.next=nb.next:=by
 intro d
 induction d with
 | zero=>
  intro i f nb is hi p M u v q s j F t;obtain⟨f,rfl⟩: ∃k,f=k+1:=⟨f - 1,by omega⟩;have J: ¬(i:Int)< (H.length:Int):=by omega
  have Q:lnSl l=some (.int .i64 H.length):=Rw.lnSl s;refine⟨nb,jZ ?_, ?_,zOp u,rfl⟩
  .simp(maxSteps:=999999)(disch:=omega) only[zGh,eZ,Q,J]
  .rw[qS (by omega)];exact v
 | succ d ih=>
  intro i f nb is hi p M u v q s j F t;obtain⟨f,rfl⟩: ∃k,f=k+1:=⟨f - 1,by omega⟩;have I:i<H.length:=by omega
  have J:(i:Int)< (H.length:Int):=by omega
  have Q:lnSl l=some (.int .i64 H.length):=Rw.lnSl s;have z:H.drop i=H[i]::H.drop (i+1):=qN I;rw[z,yE]at F;rw[z]at t;obtain⟨W,Y⟩:=List.nodup_cons.1 F;obtain⟨r1,r2,S⟩:=t _ (zJ ..);obtain⟨A,o,cc,m,sz,g,i1,g2,i3,i4,T⟩:=Rw.at s I;rw[zCQ H i I]at T;have Z:cc[o]? =some (.int .i64 H[i].at_):=by
   have:=congrArg (fun x=>x[0]?) T;simp only[jG (by omega:0<3),jI,Nat.add_zero]at this;exact this
  have a0:Eng.ld1 (.ptr A (o+0)) nb=some (.int .i64 (blk H[i]:Nat)):=by
   have K:((blk H[i]:Nat):Int)=H[i].at_:=by unfold blk;omega
   rw[K];exact wN g2 Z
  have rW:Eng.ld1 (.ptr h 1) nb=some (.ptr e 0):=by rw[jP q];rfl
  have h2:2<=blk H[i]:=by unfold blk;omega
  obtain⟨L,K,N,y,n1⟩:=zI4 D n v u h2 r2 (.inl S);have O:(if is (blk H[i])=2 then 0 else 3)=3:=by rw[S];rfl
  rw[O]at N;have a1:h≠e:=fun m=>by
   obtain⟨c8,gS⟩:=v.bk;rw[m,gS]at q;simp at q
  have a2:L.h.get h=_:=(y.keep _ (u.lt q) a1).trans q;have U:Rw 3 L l H.length (H.flatMap jV):=Rw.stp s y j;obtain⟨H2,e2,a3,s2,n2⟩:=ih (i+1) f L _ (by omega) (by omega) M y.ok N a2 U j Y fun r hr=>by
   obtain⟨q1,q2,q3⟩:=t r (zE _ hr);refine⟨q1,q2, ?_⟩;rw[vH fun m=>W (qK.2 ⟨r,hr,m⟩)];exact q3
  have hi1:(i:Int)+((1:Nat):Int)=((i+1:Nat):Int):=by omega
  have a4: ¬(((0:Nat):Int)≠((0:Nat):Int)):=by omega
  refine⟨H2,(kX ?_).trans e2, ?_,y.trans s2,by omega⟩
  .simp(maxSteps:=999999)(disch:=omega) only[zGh,eZ,Q,J,rW,i1,a0,K,a4,hi1]
  .rw[z,yE,zIE,O];exact a3
def zDt (is:Nat->Nat)(dl:List Nat)(nb:Nat):Nat->Nat:=stlS (zIE is dl) nb
theorem zOa {dl:List Nat}(hd:dl.Nodup)(f: ∀e∈dl,2<=e/\e<h/\i e=1)(j: ∀e,e<h->i e<3)(m: ∀e,e<h->i e=2->2<=e)(hi:e<h):zDt i dl h e=if e∈dl then 0 else if i e=2 then 1 else i e:=by
 have o:zIE i dl e=if e∈dl then 3 else i e:=by
  by_cases is:e∈dl
  .rw[if_pos is,zG4 hd is,(f e is).2.2];rfl
  .rw[if_neg is,UB is]
 have q:=j e hi;have p: ¬i e=3:=by omega
 simp only[zDt,stlS,zBr,o];by_cases is:e∈dl
 .obtain⟨q1,q2,q3⟩:=f e is;simp[is,q1,hi]
 .by_cases a:i e=2
  .simp[is,a,m e hi a,hi]
  .simp[is,a,p]
theorem K_eq {m:Nd.Node}(h:p.K v=some s)(q:p.K Q=some m)(e:blk v=blk Q):v=Q:=by
 obtain⟨a,b,k,r,rfl,F,G,I,t,J,h6,_⟩:=zOo.1 h;obtain⟨u,L,k',M,rfl,x,y,z,o,C,i,_⟩:=zOo.1 q;have E:a=u:=by simpa[blk,bT]using e
 subst E;rw[h6]at i;have j:=y6 i;rw[j,zDM t o j]
theorem zMl (h:p.K v=some s):2<=v.at_/\blk v<p.nb:=by
 obtain⟨a,b,k,E,rfl,i,j,_⟩:=zOo.1 h;simp only[blk,bT];omega
theorem zAi {α β:Type}{f:α->β} : ∀ {l:List α},l.Nodup->(∀a∈l,∀b∈l,f a=f b->a=b)->(l.map f).Nodup
 | [],_,_=>by simp
 | a::l,h,hf=>by
  obtain⟨i,j⟩:=List.nodup_cons.1 h;rw[yE,List.nodup_cons];refine⟨fun hm=> ?_,zAi j fun x m y o=>hf x (zE _ m) y (zE _ o)⟩;obtain⟨b,hb,e⟩:=qK.1 hm;exact i (hf b (zE _ hb) a (zJ ..) e▸hb)
theorem xW.known (h:xW p q v A H): ∀r∈H,∃a,Qf p q [] r=some a:=by
 rcases h with⟨_,_,rfl⟩ | ⟨h,a,t,S,k1,k2,_,_,_,rfl⟩
 .simp
 .intro r hr;rcases zO.1 hr with rfl | hr
  .exact⟨a,k1⟩
  .exact wE.here k2 r hr
theorem xW.nodup (h:xW p q v A H):H.Nodup:=by
 rcases h with⟨_,_,rfl⟩ | ⟨h,a,t,S,_,_,_,k4,_,rfl⟩
 .simp
 .exact k4
theorem zLU (h: ∀r∈H,r.at_≠1):dsk H=H:=List.filter_eq_self.2 fun p hp=>by simpa using h p hp
theorem cp_le (T:List Ptr):cp T<=T.length:=List.length_filter_le ..
theorem zDd {f:Nat->Nat}{n:Nat} : ∀ {l:List Nat},l.Nodup->(∀i∈l,i<n/\f i≠0)->cnt (fun i=>if i∈l then 0 else f i) 0 n=cnt f 0 n+l.length
 | [],_,_=>by simp
 | a::l,hn,h=>by
  obtain⟨j,m⟩:=List.nodup_cons.1 hn;have o:=zDd m fun i hi=>h i (zE _ hi)
  have e:(fun i=>if i∈a::l then 0 else f i)=aZ (fun i=>if i∈l then 0 else f i) a 0:=by
   funext i;simp only[aZ,zO];by_cases e:i=a<;>simp[e]
  obtain⟨q1,q2⟩:=h a (zJ ..);rw[e,((KM (is:=fun i=>if i∈l then 0 else f i) (i:=a) (a:=f a) (b:=0) (by simp[j]) q2 (n:=n)).1 q1).1,o,zY]
  omega
structure Sty (E:Ev)(is:Nat->Nat)(T:List Ptr):Prop where
 kn: ∀r∈dsk T++E.dl,∃nd,E.K r=some nd
 nd:(dsk T++E.dl).Nodup
 i1: ∀i,i<E.nb->is i<=1
 us: ∀r∈dsk T++E.dl,is (blk r)=1
 ct:cnt is 0 E.nb+(dsk T++E.dl).length=510
 few:(dsk T++E.dl).length<=200
theorem Sty.chd {a:Ev}(s:Sty p i H)(c:Chd p a H F):Sty a i F:=by
 refine⟨fun r hr=> ?_,c.pm.nodup_iff.2 s.nd,by rw[c.nb];exact s.i1,fun r hr=>s.us r (c.pm.mem_iff.1 hr),by rw[c.nb,c.pm.length_eq];exact s.ct,by rw[c.pm.length_eq];exact s.few⟩;obtain⟨E,h⟩:=s.kn r (c.pm.mem_iff.1 hr);refine⟨E,zOo.2 ?_⟩;have:=zOo.1 h;unfold OnD at this⊢;rw[c.nb,c.ws];exact this
theorem zGX: ∀n,cnt zBI 0 (n+2)=n
 | 0=>rfl
 | n+1=>by
  have e:zBI (n+2)=0:=by simp[zBI]
  show cnt zBI 0 (n+2)+(if zBI (n+2)=0 then 1 else 0)=n+1
  rw[zGX n,e];rfl
theorem Sty.new:Sty ⟨512,[],[],fun _=>False⟩ zBI []:=by
 refine⟨by simp[dsk],by simp[dsk],fun i _=>by simp only[zBI];split<;>omega,by simp[dsk], ?_,by simp[dsk]⟩;show cnt zBI 0 (510+2)+0=510;rw[zGX]
theorem Sty.dl {E:Ev}{is:Nat->Nat}{T:List Ptr}(s:Sty E is T):(E.dl.map blk).Nodup/\ ∀r∈E.dl,2<=r.at_/\blk r<E.nb/\is (blk r)=1:=by
 refine⟨zAi (List.nodup_append.1 s.nd).2.1 fun a h b hb e=> ?_,fun r hr=> ?_⟩
 .obtain⟨_,f⟩:=s.kn a (qY _ h);obtain⟨_,i⟩:=s.kn b (qY _ hb);exact K_eq f i e
 .obtain⟨_,f⟩:=s.kn r (qY _ hr);exact⟨(zMl f).1,(zMl f).2,s.us r (qY _ hr)⟩
theorem WOut.keep1 {ws':Ws}(o:WOut h J ws' i f H F)(nb:i e=1):f e=1:=by
 rcases o.up e with is | ⟨is,_⟩<;>omega
theorem Sty.aft (s:Sty p i H)(o:WOut p.nb p.ws J i f H F)(q:i 0≠0/\i 1≠0)(hi:h<p.nb):zDt f (p.dl.map blk) p.nb h=if h∈p.dl.map blk then 0 else if f h=2 then 1 else f h:=by
 obtain⟨m,E⟩:=s.dl;refine zOa m (fun j a=> ?_) (fun j a=> ?_) (fun j a t=> ?_) hi
 .obtain⟨r,hr,rfl⟩:=qK.1 a;obtain⟨q1,q2,q3⟩:=E r hr;exact⟨by unfold blk;omega,q2,o.keep1 q3⟩
 .have:=s.i1 j a;rcases o.up j with e | ⟨e,_⟩<;>omega
 .have:=s.i1 j a
  match j,a with
  | 0,_=>rcases o.up 0 with e | ⟨e,_⟩<;>omega
  | 1,_=>rcases o.up 1 with e | ⟨e,_⟩<;>omega
  | j+2,_=>omega
theorem Sty.out (s:Sty p i H)(o:WOut p.nb p.ws J i f H F)(j:i 0≠0/\i 1≠0)(hr:xW { p with ws:=J,dl:=[] } [] v A F)(Z:A.length<=150):Sty { p with ws:=J,dl:=[] } (zDt f (p.dl.map blk) p.nb) F/\zDt f (p.dl.map blk) p.nb 0≠0/\zDt f (p.dl.map blk) p.nb 1≠0:=by
 obtain⟨O,L⟩:=s.dl;have G:=o.used fun r t q=>by have:=s.us r (qX _ (UG.2 ⟨t,q⟩));unfold blk at this;omega
 have hd:dsk F=F:=zLU fun r h=>(G r h).1
 have I: ∀r∈F,∃x,Ev.K { p with ws:=J,dl:=[] } r=some x:=fun r h=>by
  obtain⟨x,t⟩:=hr.known r h;obtain⟨E,rfl,_⟩ | ⟨_,q⟩:=vV t
  .exact absurd rfl (G _ h).1
  .exact⟨x,q⟩
 have kv: ∀is,is∈p.dl.map blk->2<=is:=fun is h=>by
  obtain⟨r,hr,rfl⟩:=qK.1 h;have:=(L r hr).1;unfold blk;omega
 have hb:p.nb≥2:=by
  have:=zAW i 0 p.nb;have:=s.ct;have:=s.few;omega
 obtain⟨Y,ws',_,a0,M⟩:=o.pm;refine⟨⟨?_, ?_,fun is hi=> ?_,fun r y=> ?_, ?_, ?_⟩, ?_, ?_⟩
 .rw[yC,hd];exact I
 .rw[yC,hd];exact hr.nodup
 .rw[s.aft o j hi];have:=s.i1 is hi;split
  .omega
  .split
   .omega
   .rcases o.up is with e | ⟨_,e⟩<;>omega
 .rw[yC,hd]at y;obtain⟨x,Q⟩:=I r y;rw[s.aft o j (zMl Q).2];rcases qB.1 (ws'.mem_iff.1 y)with h | h
  .have t:=s.us r (qX _ h);have q:=o.keep1 t;obtain⟨_,k1⟩:=s.kn r (qX _ h);have z: ¬blk r∈p.dl.map blk:=fun hm=>by
    obtain⟨C,u,e⟩:=qK.1 hm;obtain⟨_,k2⟩:=s.kn C (qY _ u);obtain rfl:=K_eq k2 k1 e;exact(List.nodup_append.1 s.nd).2.2 _ h _ u rfl
   rw[if_neg z,if_neg (by omega),q]
  .obtain⟨_,q,S⟩:=M r h;have a1:i (blk r)=0:=q;have a2:f (blk r)≠0:=S;have z: ¬blk r∈p.dl.map blk:=fun hm=>by
    obtain⟨C,u,e⟩:=qK.1 hm;have:=(L C u).2.2;rw[e]at this;omega
   have N:f (blk r)=2:=by rcases o.up (blk r)with e | ⟨_,e⟩<;>omega
   rw[if_neg z,if_pos N]
 .have U:cnt (zDt f (p.dl.map blk) p.nb) 0 p.nb=cnt f 0 p.nb+(p.dl.map blk).length:=by
   rw[<-zDd (f:=f) O fun is hi=> ?_]
   .refine zGZ fun is hi=> ?_
    rw[s.aft o j hi];by_cases h:is∈p.dl.map blk
    .simp only[if_pos h]
    .simp only[if_neg h];split<;>omega
   .obtain⟨r,hr,rfl⟩:=qK.1 hi;have:=o.keep1 (L r hr).2.2;exact⟨(L r hr).2.1,by omega⟩
  have e2:=o.ct;have V:=s.ct;have W:=ws'.length_eq;rw[zV]at V W;show cnt (zDt f (p.dl.map blk) p.nb) 0 p.nb+(dsk F++[]).length=510;rw[yC,hd,U,jD];omega
 .rw[yC,hd];have:=hr.cnt;omega
 .rw[s.aft o j (by omega),if_neg fun h=>by have:=kv _ h;omega];have:=o.nz j.1;split<;>omega
 .rw[s.aft o j (by omega),if_neg fun h=>by have:=kv _ h;omega];have:=o.nz j.2;split<;>omega
theorem zDA (m n:Nat)(hm:400000000<=m)(hn:200000000<=n){txg:Nat}(is:Wld p k h e C E L P txg U i w B v q A H)(s:Sty p i H)(ht:txg<=1000)(f7:p.ws.length<=200*txg)(a4:A.length<=150):
  ∃H' ws' j la' M W J M' K,f17 (dy (m+2)) n [.ptr h 0, .bool true] k=some (.bool true,H')/\Wld { p with ws:=ws',dl:=[] } H' h e C E M' P (txg+1) la' j M K W [] A J/\Sty { p with ws:=ws',dl:=[] } j J/\ws'.length<=200*(txg+1)/\AdT (fun V=>(B V\/w V)\/V=h) k (fun V=>(K V\/M V)\/V=h) H':=by
 obtain⟨lv,gW,gl⟩:=is.gW;have hk:=is.tx.d.okH;have f8:H.length<=200:=by
  obtain⟨_,_,_,_,_,_,_,_,_,hr,_⟩:=is.tx;have:=hr.cnt;omega
 have f9:q.length<=cp H:=by
  obtain⟨_,_,_,_,_,_,z,_⟩:=is.tx;exact z.2
 have f6:=cp_le H;have g0:p.dl.length<=200:=by have:=s.few;rw[zV]at this;omega
 have hq:q.length<=cnt i 0 p.nb:=by have:=s.ct;have:=s.few;omega
 have d3:i 0≠0/\i 1≠0:=by
  obtain⟨_,_,_,_,_,_,_,_,_,_,_,z,_⟩:=is.ds;exact z
 obtain⟨d1,d2⟩:=s.dl;have x3:Eng.ld1 (.ptr h 3) k=some (.int .i64 txg):=by rw[jP gW];rfl
 obtain⟨la,e1,Y,Z,n1⟩:=st3 hk gW (x:= .int .i64 (txg+1:Nat)) rfl;have w1:Wld p la h e C E L P (txg+1) U i w B v q A H:=Wld.note is.tx is.ds is.us gW Z Y gl;obtain⟨H2,o,b2,p2,g2,m2,l2⟩:=box Z.ok (.cells [.int .i64 (0:Nat), .int .i64 (0:Nat), .int .u64 (0:Nat)] 42 1 false);have N2:=p2.next
 have t:=w1.prs p2;have a0:=zOs p2 Z.ok Y;have a5:GrP H2 lv A:=by
  obtain⟨g3,a,b⟩:=t.gW;rw[a0]at a;simp only[zC,AObj.cells.injEq,qU]at a;rw[a.1.2.2.2.2.1];exact b
 obtain⟨H3,hw | ⟨g5,ws',j,la',M,W,J,M',K,dr,e3,y,b9,o3,N,d4,c0⟩⟩:=zHJ (m+2) n (by omega) hn (txg:=txg+1) t.tx t.ds (fun r hr a6=>t.us r (qX _ (UG.2 ⟨hr,a6⟩))) (by omega) (by omega) (by omega)
 .omega
 have N3:=N.1.next
 obtain⟨o1,o2⟩:=zA8 t.tx t.ds a0 (.inr ⟨_,rfl⟩);have l5: ¬(B o\/w o):=fun z=>by
  rcases z with z | z
  .have:=w1.tx.d.lt o z;omega
  .have:=w1.ds.lt Z.ok o z;omega
 obtain⟨k5,z5,g6⟩:=N.keep (A:=o) l2 l5;obtain⟨O,e4,g4,F,n4⟩:=kD y.d.okH (k5.trans g2) (l':=jV W) rfl rfl;have d5:stN 3 (.ptr o 0) (.agg (jV W)) H3=some (jT,O):=e4;obtain⟨kW,zW,g7⟩:=N.keep (A:=h) (p2.ok.lt a0) (fun z=>by rcases z with z | z;exact o1 z;exact o2 z);have c1:=kW.trans a0;have g8:=hk.lt gW;have g9:la.next=k.next:=n1
 have d6:h≠o:=by omega
 have a7:O.h.get h=_:=(F.keep _ (y.d.okH.lt c1) d6).trans c1;have c2:GrP H3 lv A:=a5.mono N.1 fun V f=>by
  obtain⟨l,S,g,z⟩:=wF.get2 a5 f;obtain⟨y1,y2⟩:=zA8 t.tx t.ds z (.inl ⟨_,_,_,rfl⟩);exact fun x=>by rcases x with x | x;exact y1 x;exact y2 x
 have d7:GrP O lv A:=c2.mono F fun V f S=>by
  obtain⟨l,e',g,z⟩:=wF.get2 a5 f;subst S;rw[g2]at z;simp at z
 obtain⟨On,Nw,wv,dm,G,a1,I,b1,d8,b3,b4,b5,b6⟩:=id b9;have Q:M C:=(I _).2 (.inl rfl);have d9:C≠o:=fun S=>z5 (.inr ((I _).2 (.inl S.symm)))
 have e0:=a1.stp y.d.okH F d9;have c8:Rw 3 O dr p.dl.length (p.dl.flatMap jV):=Rw.stp d4 F fun V f S=>l5 (.inl (S▸(c0 V f).2.2))
 obtain⟨Hg,eg,c3,sg,ng⟩:=zG3 (dy (m+2)) n p.dl.length 0 n O j (by omega) (by omega) (by omega) F.ok e0 a7 c8 (fun V f S=>(c0 V f).2.1 (S▸Q)) (by rw[y9];exact d1) (by
  rw[y9];intro r hr;obtain⟨q1,q2,q3⟩:=d2 r hr;exact⟨q1,q2,o3.keep1 q3⟩)
 rw[y9]at c3;have Ng:=sg.next
 obtain⟨u,e5,e2,s5⟩:=zEY m n (by omega) sg.ok c3 (by omega);have N5:=s5.next
 have a8:Hg.h.get h=_:=(sg.keep _ (F.ok.lt a7) (fun S=>zW (.inr (S▸Q)))).trans a7;have e6:u.h.get h=_:=(s5.keep _ (sg.ok.lt a8) (fun S=>zW (.inr (S▸Q)))).trans a8;have h0:=y.d.okH.lt a1.bk.choose_spec;have c4:Stp (fun V=>V=C) O u:=sg.trans s5;have e7:GrP u lv A:=d7.mono c4 fun V f S=>by
  obtain⟨l,e',g,z⟩:=wF.get2 c2 f;have:=a1.bk.choose_spec;subst S;rw[this]at z;simp at z
 have a9:Stp (fun V=>V=o\/V=C) H3 u:=⟨s5.ok,by omega,fun root hA hS=>by
  rw[c4.keep root (by omega) (fun S=>hS (.inr S)),F.keep root hA (fun S=>hS (.inl S))]⟩
 have nz: ∀V,K V-> ¬(V=o\/V=C):=fun V f S=>by
  rcases S with S | S
  .exact z5 (.inl (S▸f))
  .exact(y.dsk b9).1 C Q (S▸f)
 have b0: ∀V,M V->V≠C-> ¬(V=o\/V=C):=fun V f a6 S=>by
  rcases S with S | S
  .exact z5 (.inr (S▸f))
  .exact a6 S
 have dS:C≠e/\C≠Nw/\(∀V,Blk wv V->V≠C)/\On≠C/\On≠o:=by
  have gS:=a1.bk.choose_spec;refine⟨jY gS G.gD (by simp),jY gS G.gN (by simp),fun V f S=>jY gS (G.ow.get f) (by simp) S.symm,fun S=>jY gS G.gO (by simp) S.symm,fun S=> ?_⟩;have:=k5.trans g2;rw[<-S,G.gO]at this;cases this
 have c5:DkI u e p.nb ws' On Nw wv dm:=G.stp y.d.okH a9 (b0 _ ((I _).2 (.inr (.inl rfl))) fun S=>dS.1 S.symm) (fun S=>by rcases S with S | S;exact dS.2.2.2.2 S;exact dS.2.2.2.1 S) (b0 _ ((I _).2 (.inr (.inr (.inl rfl)))) fun S=>dS.2.1 S.symm) fun V f=>b0 _ ((I _).2 (.inr (.inr (.inr f)))) (dS.2.2.1 V f)
 have c6:aS (.ptr e 0) .nP { p with ws:=ws',dl:=[] } u E M' P K W [] A J:=by
  obtain⟨e8,es',c7,z1,ti,z3,z4,e9,z6,z7,a2⟩:=y;have f1:es'=[]:=by
   have:=ti.pq.len;exact zR (by simpa using this)
  subst f1;have:=ti.wr a9 (fun V f=>by
   rcases f with S | S | S | ⟨A,a4,_⟩
   .exact nz V ((a2 V).2 (.inl S))
   .exact nz V ((a2 V).2 (.inr (.inl S)))
   .exact nz V ((a2 V).2 (.inr (.inr S)))
   .simp at a4) c5
  exact⟨e8,[],c7,z1,this,z3,z4,e9,z6,z7,a2⟩
 have b7:xW { p with ws:=ws',dl:=[] } [] W A J:=by
  obtain⟨_,_,_,_,_,_,_,_,_,b7,_⟩:=c6;exact b7
 obtain⟨b8,c9,d0⟩:=s.out o3 d3 b7 a4;have h3:=o3.ln;have f2:ws'.length<=200*(txg+1):=by omega
 have h4:cnt (zDt j (p.dl.map blk) p.nb) 0 p.nb<=510:=by have:cnt (zDt j (p.dl.map blk) p.nb) 0 p.nb+_=510:=b8.ct;omega
 have f3:Dsk u e C p.nb ws' la' (zDt j (p.dl.map blk) p.nb) M:=⟨On,Nw,wv,dm,c5,e2,I,b1,d8,b3,b4,⟨c9,d0⟩,by omega⟩;refine⟨u,ws',zDt j (p.dl.map blk) p.nb,la',M,W,J,M',K, ?_,⟨c6,f3,fun r hr=> ?_,lv,e6,e7⟩,b8,f2, ?_⟩
 .have f4:(txg:Int)+((1:Nat):Int)=((txg+1:Nat):Int):=by omega
  have r2:Eng.ld1 (.ptr h 2) la=some (.ptr E 0):=by rw[jP Y];rfl
  have r1:Eng.ld1 (.ptr h 1) la=some (.ptr C 0):=by rw[jP Y];rfl
  have r3:Eng.ld1 (.ptr h 3) la=some (.int .i64 (txg+1:Nat)):=by rw[jP Y];rfl
  have f5:Eng.ld1 (.ptr h 1) Hg=some (.ptr C 0):=by rw[jP a8];rfl
  simp(maxSteps:=999999)(disch:=omega) only[f17,eZ,x3,f4,e1,r2,r1,r3,b2,e3,jR,nth,d5,eg,zNI,f5,e5]
 .have z:zDt j (p.dl.map blk) p.nb (blk r)=1:=b8.us r hr;show zDt j (p.dl.map blk) p.nb (blk r)≠0;omega
 .refine⟨⟨s5.ok,by omega,fun V f hS=> ?_⟩,fun V f=> ?_⟩
  .have h1: ¬(B V\/w V):=fun x=>hS (.inl x)
   have h2:V≠h:=fun x=>hS (.inr x)
   obtain⟨kB,zB,_⟩:=N.keep (A:=V) (by omega) h1;rw[a9.keep V (by omega) (fun S=>by rcases S with S | S;omega;exact zB (.inr (S▸Q))),kB,p2.keep V (by omega) (fun x=>x),Z.keep V f h2]
  .rcases f with f | f
   .rcases N.2 V f with x | x
    .exact .inl (.inl x)
    .exact .inr (by omega)
   .exact .inl (.inr f)
theorem zH2(f:k.ok){H:List Str}(h:wF 1 9 k l H.length (H.map S))(hl:H.length<=1000000000):
  ∃a H',f108 D n [l] k=some (a,H')/\Prs k H'/\wF 1 9 H' a H.length (H.map S)/\ ∀B,Blk a B->k.next<=B:=by
 by_cases i:l= .nS
 .subst i;exact⟨.nS,k,by unfold f108;rfl,zOp f,h,fun B j=>(zOt.1 j).elim⟩
 .refine ZS D n f h.row i (fun e=> ?_) hl;subst e;rcases h with⟨_,⟨h,_⟩ | ⟨_,h,_⟩⟩ | ⟨_,_,_,_,h,_⟩<;>cases h
theorem zM2(f:k.ok)(h:wF 3 42 k l H.length (H.flatMap jV))(hl:H.length<=1000000000):
  ∃a H',f81 D n [l] k=some (a,H')/\Prs k H'/\wF 3 42 H' a H.length (H.flatMap jV)/\ ∀B,Blk a B->k.next<=B:=by
 by_cases i:l= .nS
 .subst i;exact⟨.nS,k,by unfold f81;rfl,zOp f,h,fun B j=>(zOt.1 j).elim⟩
 .refine KN D n f h.row i (fun e=> ?_) hl;subst e;rcases h with⟨_,⟨h,_⟩ | ⟨_,h,_⟩⟩ | ⟨_,_,_,_,h,_⟩<;>cases h
theorem zI2 (h:Nd.size s<=500):s.keys.length<=500/\s.vals.length<=500/\s.kids.length<=500:=by
 have f:=Nd.sumL_ge s.keys;have i:=Nd.sumL_ge s.vals;simp only[Nd.size]at h;omega
theorem zLd (m n:Nat)(hn:200000000<=n)(H:TI p k h e l G Q t q C V)(hs:Qf p q [] v=some s)(hz:Nd.size s<=500):
  ∃E H',f61 (dy (m+1)) n [.ptr h 0, .agg (jV v)] k=some (.tuple [E, .int .i64 (0:Nat)],H')/\Prs k H'/\kJ H' E s/\ ∀B,vU E B->k.next<=B:=by
 obtain⟨z1,z2,z3⟩:=zI2 hz;obtain⟨H1,A3,b1,a2,g1,m1,n1⟩:=box H.ok (.cells [.int .i64 v.at_, .int .i64 v.birth, .int .u64 v.sum] 42 1 false);obtain⟨S,A4,b2,F,g2,m2,n2⟩:=box a2.ok (.cells [.bool false, .nS, .nS, .nS] 119 1 false);have P2:=a2.trans F;have h2:=H.prs P2;have a3:=QG (dy (m+1)) n h2;obtain⟨E,H3,e3,T,nv,_⟩:=VU m n hn h2 hs;obtain⟨ks,vs,u,rfl,w1,U,d⟩:=nv;obtain⟨H4,c,b4,W,g4,m4,n4⟩:=box T.ok (.cells [.bool false, .nS, .nS, .nS] 119 1 false);have a0: ∀ {a b G:AV},Eng.isCell a=true->Eng.isCell b=true->Eng.isCell G=true->jS [.bool s.leaf,a,b,G]=true:=fun ha hb hc=>by simp[jS,ha,hb,hc];rfl
 obtain⟨Y,e5,g5,s5,n5⟩:=kD W.ok g4 (l':=[.bool s.leaf,ks,vs,u]) rfl (a0 w1.isCell U.isCell d.isCell);have a4:stN 4 (.ptr c 0) (.agg [.bool s.leaf,ks,vs,u]) H4=some (jT,Y):=e5;have y:Prs H3 Y:=W.fresh s5 (fun B j=>by omega);obtain⟨o,H6,e6,Z,k1,f1⟩:=zH2 (dy (m+1)) n y.ok (w1.mono y (fun _ _ x=>x)) (by omega);have I:=y.trans Z;obtain⟨vs',H7,e7,J,k2,f2⟩:=zH2 (dy (m+1)) n I.ok (U.mono I (fun _ _ x=>x)) (by omega);have L:=I.trans J;obtain⟨root,H8,e8,z,k3,f3⟩:=zM2 (dy (m+1)) n L.ok (d.mono L (fun _ _ x=>x)) (by omega);have P8:=L.trans z;have Q8:Prs S H8:=T.trans P8;have N1:=a2.next;have N2:=F.next;have N3:=T.next;have N4:=W.next;have N5:=y.next;have N6:=Z.next;have N7:=J.next;have N8:=z.next
 obtain⟨H9,e9,g9,N,n9⟩:=kD P8.ok (zOs Q8 F.ok g2) (l':=[.bool s.leaf,o,vs',root]) rfl (a0 k1.isCell k2.isCell k3.isCell);have a5:stN 4 (.ptr A4 0) (.agg [.bool s.leaf,o,vs',root]) H8=some (jT,H9):=e9;have nb: ∀ {E:AV},(∀B,Blk E B->Y.next<=B)-> ∀B,Blk E B-> ¬B=A4:=fun hv B j=>by have:=hv B j;omega
 refine⟨.agg [.bool s.leaf,o,vs',root],H9, ?_,(P2.trans Q8).fresh N (fun B j=>by omega),⟨o,vs',root,rfl,((k1.mono J (fun _ _ x=>x)).mono z (fun _ _ x=>x)).mono N (nb f1),(k2.mono z (fun _ _ x=>x)).mono N (nb fun B j=>by have:=f2 B j;omega),k3.mono N (nb fun B j=>by have:=f3 B j;omega)⟩,fun B j=> ?_⟩
 .have hp:jV v=[.int .i64 v.at_, .int .i64 v.birth, .int .u64 v.sum]:=rfl;have a6:f77 (dy (m+1)) n [.ptr h 0, .agg [.int .i64 v.at_, .int .i64 v.birth, .int .u64 v.sum]] S=some (.tuple [.agg [.bool s.leaf,ks,vs,u], .int .i64 (0:Nat)],H3):=e3;have a1:=zOs F a2.ok g1;have r3:ldN 3 (.ptr A3 0) S=some (.agg [.int .i64 v.at_, .int .i64 v.birth, .int .u64 v.sum]):=by rw[jU a1];rfl
  have a7: ¬v.at_=((0:Nat):Int):=by have:=zMk hs;omega
  have a8: ¬(((0:Nat):Int)≠((0:Nat):Int)):=by omega
  have dr: ∀ {H':AH} (i:Nat) {x:AV} (K:Rs),H'.h.get c=some (.cells [.bool s.leaf,ks,vs,u] 119 1 false)->[.bool s.leaf,ks,vs,u][i]? =some x->aveq x x=true->chk (ld1 (.ptr c i) H') x K=K:=fun i x K g hi hx=>kY (by rw[jP g];exact hi) hx
  have O:=zOs Z y.ok g5;have g7:=zOs J I.ok O;have g8:=zOs z L.ok g7;have ab:aveq (.bool s.leaf) (.bool s.leaf)=true:=by cases s.leaf<;>rfl
  have bs:uD [(0,1),(1,1),(2,1),(3,1)] [.bool false, .nS, .nS, .nS] [(0, .bool s.leaf),(1,o),(2,vs'),(3,root)]=some (.agg [.bool s.leaf,o,vs',root]):=by
   simp only[uD,gP,zIp,kR k1.isCell,kR k2.isCell,kR k3.isCell];rfl
  have r9:ldN 4 (.ptr A4 0) H9=some (.agg [.bool s.leaf,o,vs',root]):=bF g9 rfl;rw[hp];simp(maxSteps:=999999)(disch:=omega) only[f61,eZ,b1,b2,a3,jP a1,a7,r3,a6,jR,nth,b4,a4,a8,jP g5,e6,dr 0 _ O rfl ab,dr 2 _ O rfl (kK U.row),dr 3 _ O rfl (kK d.row),e7,dr 0 _ g7 rfl ab,dr 3 _ g7 rfl (kK d.row),e8,dr 0 _ g8 rfl ab,bs,a5,r9]
 .rcases wU.1 j with M | M | M
  .have:=f1 B M;omega
  .have:=f2 B M;omega
  .have:=f3 B M;omega
def HI (E:Ev)(i:AH)(q:PN)(m o a top:Nat)(k:Nat)(s:List AV)(H':AH):Prop:=
 ∃j p f h,∃t:Bt.Tr h,∃(u:List Ptr) (lo hi:Bd),s=[.ptr o 0, .ptr a 0, .int .i64 top, .int .i64 ((j:Nat):Int)]/\k+j=top/\h<k/\Stp (fun B=>B=a) i H'/\H'.h.get a=some (.cells (jV p) 42 1 false)/\Qf E q [] p=some f/\wE (Qf E q []) h f t u/\Gen h lo hi t/\wB h t<=500/\j+h=m
def HQ (H:AH)(a:Nat)(e:Ex)(H':AH):Prop:=Prs H H'/\e= .ret (.tuple [.int .i64 (a+1:Nat), .int .i64 (0:Nat)])
theorem zBO (m n:Nat)(hn:300000000<=n)(ti:TI p k h e l G v t q L V)(b4:q.length<=90000000)(p4:Prs k I)(m6:k.next<=C)(l6:C<I.next):
  ∀z a1 H',HI p I q E h C (8192+q.length) z a1 H'->Fin (zGb (dy (m+1)) n a1 H') (orN (fun vs' a4=> ∃k',k'<z/\HI p I q E h C (8192+q.length) k' vs' a4) (HQ k E)):=by
 intro z a1 H' ⟨j,H,a,M,es,S0,lo,hi,a5,b5,b7,stp,T,hs,rn,gen,hz,b8⟩;subst a5;have N4:=p4.next;have N':=stp.next
 have P':Prs k H':=p4.fresh stp (fun B s=>by omega);have a6:=ti.prs P';have hj:(j:Int)< ((8192+q.length:Nat):Int):=by omega
 have i2:ldN 3 (.ptr C 0) H'=some (.agg (jV H)):=by rw[jU T];rfl
 obtain⟨v1,H5,e5,N,root,_⟩:=VU m n (by omega) a6 hs;obtain⟨ks,y,u,rfl,_⟩:=id root;obtain⟨H6,O,b6,F,g6,b9,n6⟩:=box N.ok (.cells [.bool false, .nS, .nS, .nS] 119 1 false);have a0:jS [.bool a.leaf,ks,y,u]=true:=by obtain⟨_,h1,_,h3⟩:=gJ root;exact h3
 obtain⟨f,e7,a3,Q,n7⟩:=kD F.ok g6 (l':=[.bool a.leaf,ks,y,u]) rfl a0;have U:stN 4 (.ptr O 0) (.agg [.bool a.leaf,ks,y,u]) H6=some (jT,f):=e7;have N5:=N.next;have N6:=F.next;have N7:=Q.next
 have K:Prs H' f:=(N.trans F).fresh Q (fun B s=>by omega);have a7:kJ f (.agg [.bool a.leaf,ks,y,u]) a:=(root.prs F).stp Q (fun B s o=>by have:=root.lt s;omega);have f0:ld1 (.ptr O 0) f=some (.bool a.leaf):=by rw[jP a3];rfl
 have dr: ¬(((0:Nat):Int)≠((0:Nat):Int)):=by omega
 have W:(j:Int)+((1:Nat):Int)=((j+1:Nat):Int):=by omega
 cases M with
 | zero=>
  obtain⟨rfl,rfl⟩:=rn;have a8:(leafOf (es:Kvs)).leaf=true:=rfl;rw[a8]at f0;obtain rfl:j=E:=by omega
  refine⟨.ret (.tuple [.int .i64 (j+1:Nat), .int .i64 (0:Nat)]),f, ?_,P'.trans K,rfl⟩;simp(maxSteps:=999999)(disch:=omega) only[zGb,eZ,hj,i2,e5,jR,nth,b6,U,dr,f0,bF a3 rfl,W]
 | succ M=>
  obtain⟨r1,r2,r3,r4⟩:=id rn;rw[r1]at f0;have hl:=gen.2.2.len;have a9:0<es.2.length:=by omega
  have Y:=zK a9;have wk:=KB.at gen.2.2 Y;obtain⟨J,b0,Sa,Si,Sb,k1,k2,k3,_,_,_⟩:=r4.at Y;obtain⟨c0,vs',c1,ee,j1,j2,j3⟩:=id a7;simp only[AV.agg.injEq,qU,and_true,true_and]at ee;obtain⟨rfl,rfl,rfl⟩:=ee;have c2:=r4.len;obtain⟨qk,ik,Z⟩:=bI.at (l:=a.kids) j3.row (i:=0) (by omega);have b1:a.kids[0]'(by omega)=J:=by
   rw[zK (by omega)]at k1;exact y6 k1
  rw[b1]at Z;have f3:ld1 (.ptr O 3) f=some u:=by rw[jP a3];rfl
  have a2:f.h.get C=some (.cells (jV H) 42 1 false):=zOs K stp.ok T;obtain⟨H9,e9,g9,S,_⟩:=kD K.ok a2 (l':=jV J) rfl rfl;have b2:stN 3 (.ptr C 0) (.agg (jV J)) f=some (jT,H9):=e9;have N9:=S.next
  have b3:=ik .i64 _ rfl;refine⟨.norm _,H9, ?_,z - 1,by omega,j+1,J,b0,M,es.2[0],Si,_,_,rfl,by omega,by omega,⟨S.ok,by omega,fun B s hS=> ?_⟩,g9,k2,k3,wk.gen,wk.sz,by omega⟩
  .simp(maxSteps:=999999)(disch:=omega) only[zGb,eZ,hj,i2,e5,jR,nth,b6,U,dr,f0,f3,bF a3 rfl,b3,Z,b2,W]
  .rw[S.keep B (by omega) hS,K.keep B (by omega) (fun x=>x)];exact stp.keep B s hS
def htT (E:Ev)(q:PN)(root:Ptr)(kv:Kvs)(k:Nat):Prop:=(root=pZ/\kv=[]/\k=0)\/ ∃h a,∃t:Bt.Tr h,∃S:List Ptr,Qf E q [] root=some a/\wE (Qf E q []) h a t S/\WR h t/\con h t=kv/\k=h+1
theorem zFW (m n:Nat)(N:300000000<=n)(O:aS l G p k h e C w v q A H)(hL:C<=90000000)(I:A.length<=1000000000):
  ∃H' d,f30 (dy (m+1)) n [.ptr h 0] k=some (.tuple [.int .i64 ((d:Nat):Int), .int .i64 (0:Nat)],H')/\Prs k H'/\htT p q v A d:=by
 obtain⟨dr,es,a0,hc,a,h2,h3,h4,a1,Q,hW⟩:=id O;have u:=QG (dy (m+1)) n a;have j:ld1 (.ptr h 2) k=some (.int .i64 v.at_):=by rw[jP a.gT];rfl
 rcases Q with⟨rfl,rfl,_⟩ | ⟨f,W,x,y,o,z,wr,nd0,rfl,_⟩
 .have F:pZ.at_=((0:Nat):Int):=rfl;rw[F]at j;refine⟨k,0, ?_,zOp a.ok, .inl ⟨rfl,rfl,rfl⟩⟩;simp(maxSteps:=999999)(disch:=omega) only[f30,eZ,u,j]
 .have a2:=zMk o;have J: ¬v.at_=((0:Nat):Int):=by omega
  have hh:=wr.low I;have S:ldN 3 (.ptr h 2) k=some (.agg (jV v)):=by rw[jU a.gT];rfl
  obtain⟨U,E,b1,s,V,m1,n1⟩:=box a.ok (.cells [.int .i64 (0:Nat), .int .i64 (0:Nat), .int .u64 (0:Nat)] 42 1 false);obtain⟨i,Y,Z,t,n2⟩:=kD s.ok V (l':=jV v) rfl rfl;have K:stN 3 (.ptr E 0) (.agg (jV v)) U=some (jT,i):=Y;have N1:=s.next;have N2:=t.next
  have L:Prs k i:=s.fresh t (fun B hB=>by omega);have c:=zFE (dy (m+1)) n (a.prs L);obtain⟨M,H5,e5,p5,rfl⟩:=Fin.loop (HI p i q f h E (8192+q.length)) (zBO m n N a (by omega) L (by omega) (by omega)) n (8192+q.length) [.ptr h 0, .ptr E 0, .int .i64 (8192+q.length:Nat), .int .i64 (0:Nat)] i
   ⟨0,v,W,f,x,y,none,none,rfl,by omega,by omega,zOp t.ok,Z,o,z,wr.gen,wr.sz,by omega⟩ (by omega)
  refine⟨H5,f+1, ?_,p5, .inr ⟨f,W,x,y,o,z,wr,rfl,rfl⟩⟩;simp(maxSteps:=999999)(disch:=omega) only[f30,eZ,u,j,J,S,b1,K,c,e5]
def bdS:Bd->Str
 | none=>[]
 | some a=>a
theorem zDK{at_:AV}{fr be:Str}{top:Bool}(z:k.h.get h=some (.cells [.bool s.leaf,l,G,V] 119 1 false))(C:Strs k l s.keys)(hl:s.keys.length<=1000000)(N:1000001<=n)
  (I: ∀H∈s.keys,ltS H fr=false) (J: ∀H∈s.keys,be=[]\/ltS H be=true) (L:s.leaf=false->top=false-> ∀H∈s.keys,H≠fr):
  kL n (ZI D n) [at_,S fr,S be, .bool top, .ptr h 0, .int .i64 (0:Nat)] k=some (.exit 0 [at_,S fr,S be, .ptr h 0],k):=by
 have u:Eng.ld1 (.ptr h 1) k=some l:=by rw[jP z];rfl
 have f0:Eng.ld1 (.ptr h 0) k=some (.bool s.leaf):=by rw[jP z];rfl
 have m:lnSl l=some (.int .i64 s.keys.length):=C.lnSl;refine bK (fun i=>[at_,S fr,S be, .bool top, .ptr h 0, .int .i64 ((i:Nat):Int)]) s.keys.length (fun i hi=> ?_) (fun O=> ?_) n (by omega)
 .obtain⟨p,M,v⟩:=C.at hi;have t:=M .i64 _ rfl;have hm:=yI hi;have q1:=I _ hm;have q2:=J _ hm;have q3:=fun a b=>L a b _ hm
  generalize s.keys[i]=K at*
  have j:((i:Nat):Int)< (s.keys.length:Int):=by omega
  have hi1:((i:Nat):Int)+((1:Nat):Int)=((i+1:Nat):Int):=by omega
  have c1:ZV .lss (S K) (S fr)=some (.bool false):=by rw[YY,q1]
  have c2:ZV .neq (S be) (.str 0 0)=some (.bool (decide (be≠[]))):=zDh be [];have c3:ZV .geq (S K) (S be)=some (.bool (!ltS K be)):=zDi K be;have F:ZV .eql (S K) (S fr)=some (.bool (decide (K=fr))):=UP K fr;by_cases hb:be=[]
  .have o:ZV .neq (S be) (.str 0 0)=some (.bool false):=by rw[c2];simp[hb]
   cases q:s.leaf with
   | true=>
    rw[q]at f0;simp(maxSteps:=999999)(disch:=omega) only[ZI,eZ,u,m,j,t,v,c1,o,f0,hi1]
   | false=>
    rw[q]at f0
    cases top with
    | true=>simp(maxSteps:=999999)(disch:=omega) only[ZI,eZ,u,m,j,t,v,c1,o,f0,hi1]
    | false=>
     have x:ZV .eql (S K) (S fr)=some (.bool false):=by rw[F];simp[q3 q rfl]
     simp(maxSteps:=999999)(disch:=omega) only[ZI,eZ,u,m,j,t,v,c1,o,f0,x,hi1]
  .have o:ZV .neq (S be) (.str 0 0)=some (.bool true):=by rw[c2];simp[hb]
   have y:ZV .geq (S K) (S be)=some (.bool false):=by
    rw[c3];rcases q2 with e | e
    .exact absurd e hb
    .rw[e];rfl
   cases q:s.leaf with
   | true=>
    rw[q]at f0;simp(maxSteps:=999999)(disch:=omega) only[ZI,eZ,u,m,j,t,v,c1,o,y,f0,hi1]
   | false=>
    rw[q]at f0
    cases top with
    | true=>simp(maxSteps:=999999)(disch:=omega) only[ZI,eZ,u,m,j,t,v,c1,o,y,f0,hi1]
    | false=>
     have x:ZV .eql (S K) (S fr)=some (.bool false):=by rw[F];simp[q3 q rfl]
     simp(maxSteps:=999999)(disch:=omega) only[ZI,eZ,u,m,j,t,v,c1,o,y,f0,x,hi1]
 .have j: ¬(s.keys.length:Int)< (s.keys.length:Int):=by omega
  refine jZ ?_;simp(maxSteps:=999999)(disch:=omega) only[ZI,eZ,u,m,j]
def ShOK (h:Nat):Prop:= ∀(k n:Nat) {E:Ev} {H:AH} {a M i:Nat} {d c j:AV} {root:Ptr} {es:List (AV×AV)} {q:PN} {p:Ptr} {f:Nd.Node} {t:Bt.Tr h} {m:List Ptr} {lo hi:Bd} {top:Bool},h<=100000000->300000000+h<=k->300000000<=n->TI E H a M d c root es q i j->Qf E q [] p=some f->wE (Qf E q []) h f t m->(top=false/\WF h lo hi t\/top=true/\lo=none/\hi=none/\WR h t)->hi≠some []->
 ∃H',f31 (dy k) n [.ptr a 0, .agg (jV p),S (bdS lo),S (bdS hi), .bool top] H=some (.int .i64 (h+1:Nat),H')/\Prs H H'
theorem zFH {k:Str}(h:zEj g k):ltS k (bdS g)=false:=by
 cases g with
 | none=>exact zL9 k
 | some a=>
  rcases h with rfl | h
  .exact xI _
  .exact gK h
theorem zJI {k:Str}(h:hiB g k):bdS g=[]\/ltS k (bdS g)=true:=by
 cases g with
 | none=>exact .inl rfl
 | some a=>exact .inr h
theorem zLa {k:Str}(f:mayK k=true)(h:zBq g k):k≠bdS g:=by
 cases g with
 | none=>
  intro e;simp only[bdS]at e;subst e;simp[Nd.mayK]at f
 | some a=>
  intro e;have h:ltS a k=true:=h;rw[e]at h;simp only[bdS]at h;rw[xI]at h;cases h
theorem WT (u n:Nat){root:Bt.Tr h}{hi:Bd}{top:Bool}(hk:300000000<=u)(hn:300000000<=n)(ti:TI p k e C l G v t q E V)(hq:Qf p q [] Q=some s)(hr:wE (Qf p q []) h s root H)(y:top=false/\WF h g hi root\/top=true/\g=none/\hi=none/\WR h root):
  ∃H' j ks vs f,f31 (dy u) n [.ptr e 0, .agg (jV Q),S (bdS g),S (bdS hi), .bool top] k=dV (zII (dy u) n [.ptr e 0,S (bdS g),S (bdS hi), .ptr j 0] H')/\Prs k H'/\H'.h.get j=some (.cells [.bool s.leaf,ks,vs,f] 119 1 false)/\kJ H' (.agg [.bool s.leaf,ks,vs,f]) s:=by
 obtain⟨u,rfl⟩: ∃k',u=k'+1:=⟨u - 1,by omega⟩;have i:Gen h g hi root:=by
  rcases y with⟨_,w⟩ | ⟨_,rfl,rfl,w⟩
  .exact w.gen
  .exact w.gen
 have a5:wB h root<=500:=by
  rcases y with⟨_,w⟩ | ⟨_,_,_,w⟩
  .exact w.sz
  .exact w.sz
 have a6:0<h->s.keys≠[]:=fun h0=>by
  cases h with
  | zero=>omega
  | succ h=>
   rw[hr.2.1];rcases y with⟨_,w⟩ | ⟨_,_,_,w⟩
   .exact w.2.1
   .exact w.2.1
 have J:Nd.size s<=500:=by rw[hr.size];exact a5
 have a7:=hr.shaped i a6 (wE.kidOk hr);have a3:Nd.may ltS s=true:=by simp[Nd.may,a7,J]
 have a8:small s:=xQ (by omega);have a4:s.leaf=true-> ¬(s.keys.length:Int)=((0:Nat):Int):=fun hl=>by
  cases h with
  | zero=>
   obtain⟨rfl,_⟩:=hr;have:(root:Kvs)≠[]:=by
    rcases y with⟨_,w⟩ | ⟨_,_,_,w⟩
    .exact w.2.1
    .exact w.2.1
   have h0:(root:Kvs).length≠0:=fun M=>this (zR M)
   have M:(leafOf (root:Kvs)).keys.length=(root:Kvs).length:=jD _;omega
  | succ h=>rw[hr.1]at hl;cases hl
 obtain⟨H1,A6,b1,p1,g1,m1,n1⟩:=box ti.ok (.cells (jV Q) 42 1 false);obtain⟨dr,H2,z,K,a2,_⟩:=zLd u n (by omega) (ti.prs p1) hq J;obtain⟨ks,vs,f,rfl,w1,w2,w3⟩:=id a2;obtain⟨H3,j,b3,F,g3,m3,n3⟩:=box K.ok (.cells [.bool false, .nS, .nS, .nS] 119 1 false);have a1:jS [.bool s.leaf,ks,vs,f]=true:=by obtain⟨_,h1,_,h3⟩:=gJ a2;exact h3
 obtain⟨L,e4,o,s4,n4⟩:=kD F.ok g3 (l':=[.bool s.leaf,ks,vs,f]) rfl a1;have a:stN 4 (.ptr j 0) (.agg [.bool s.leaf,ks,vs,f]) H3=some (jT,L):=e4;have N2:=K.next;have N3:=F.next
 have N:Prs H2 L:=F.fresh s4 (fun B hB=>by omega);have c:kJ L (.agg [.bool s.leaf,ks,vs,f]) s:=(a2.prs F).stp s4 (fun B hB M=>by have:=a2.lt hB;omega);obtain⟨d,O,es⟩:=zFF (dy (u+1)) n N.ok c.node a8 (by omega);rw[a3]at O;have I:=zOs es N.ok o;have W:=c.prs es;obtain⟨b0,vs',b2,ee,Y,b4,b5⟩:=id W;simp only[AV.agg.injEq,qU,and_true,true_and]at ee;obtain⟨rfl,rfl,rfl⟩:=ee;have U:=zDK (dy (u+1)) n (at_:= .ptr e 0) (fr:=bdS g) (be:=bdS hi) (top:=top) I Y.row (by
   have:=Nd.sumL_ge s.keys;simp only[Nd.size]at J;omega) (by omega) (fun key hm=> ?_) (fun key hm=> ?_) (fun hl ht key hm=> ?_)
 .refine⟨d,j,ks,vs,f, ?_,(p1.trans (K.trans N)).trans es,I,W⟩;have r1:ldN 3 (.ptr A6 0) H1=some (.agg (jV Q)):=by rw[jU g1];rfl
  have Z: ¬(((0:Nat):Int)≠((0:Nat):Int)):=by omega
  have f0:Eng.ld1 (.ptr j 0) d=some (.bool s.leaf):=by rw[jP I];rfl
  have f1:Eng.ld1 (.ptr j 1) d=some ks:=by rw[jP I];rfl
  have a0:lnSl ks=some (.int .i64 s.keys.length):=(Y.row:Strs d ks s.keys).lnSl
  cases m:s.leaf with
  | true=>
   rw[m]at f0 z a o;have a9:=a4 m;simp(maxSteps:=999999)(disch:=omega) only[f31,eZ,b1,r1,z,jR,nth,b3,a,Z,bF o rfl,m▸O,f0,f1,a0,a9,U]
  | false=>
   rw[m]at f0 z a o;simp(maxSteps:=999999)(disch:=omega) only[f31,eZ,b1,r1,z,jR,nth,b3,a,Z,bF o rfl,m▸O,f0,f1,a0,U]
 .cases h with
  | zero=>
   obtain⟨rfl,_⟩:=hr;obtain⟨x,T,rfl⟩:=qK.1 hm;exact zFH (i.2 x T).1
  | succ h=>
   rw[hr.2.1]at hm;exact zFH (i.1 key hm).2.1.low
 .cases h with
  | zero=>
   obtain⟨rfl,_⟩:=hr;obtain⟨x,T,rfl⟩:=qK.1 hm;exact zJI (i.2 x T).2.1
  | succ h=>
   rw[hr.2.1]at hm;exact zJI (i.1 key hm).2.2
 .cases h with
  | zero=>obtain⟨rfl,_⟩:=hr;cases hl
  | succ h=>
   rw[hr.2.1]at hm;exact zLa (i.1 key hm).1 (i.1 key hm).2.1
theorem zI3: ∀h,ShOK h:=by
 intro h
 induction h with
 | zero=>
  unfold ShOK;intro k n E H z M b3 d c dr root es q p s t S0 lo hi top hb hk hn V hq hr L a5;obtain⟨H',f,ks,vs,C,e,F,N,nv⟩:=WT k n (by omega) hn V hq hr L;refine⟨H', ?_,F⟩;rw[e];obtain⟨rfl,_⟩:=hr;have f0:Eng.ld1 (.ptr f 0) H'=some (.bool true):=by rw[jP N];rfl
  simp(maxSteps:=999999)(disch:=omega) only[zII,eZ,f0]
 | succ h ih=>
  unfold ShOK;intro k n E H z M b3 d c dr root es q p s t S0 lo hi top hb hk hn V hq hr L a5;obtain⟨G,f,ks,vs,C,e,F,N,nv⟩:=WT k n (by omega) hn V hq hr L;obtain⟨k,rfl⟩: ∃k',k=k'+1:=⟨k - 1,by omega⟩;obtain⟨r1,r2,r3,r4⟩:=id hr;have Y:Gen (h+1) lo hi t:=by
   rcases L with⟨_,w⟩ | ⟨_,rfl,rfl,w⟩
   .exact w.gen
   .exact w.gen
  have c6:=Y.2.2.len;have c7:=r4.len;have b5:wB (h+1) t<=500:=by
   rcases L with⟨_,w⟩ | ⟨_,_,_,w⟩
   .exact w.sz
   .exact w.sz
  have c8:t.2.length<=500:=by simp only[wB,wS]at b5;omega
  obtain⟨c9,vs',d0,ee,w1,w2,w3⟩:=id nv;simp only[AV.agg.injEq,qU,and_true,true_and]at ee;obtain⟨rfl,rfl,rfl⟩:=ee;have hS:Strs G ks t.1:=by rw[<-r2];exact w1.row
  have hP:bI G C s.kids:=w3.row;have b6:=V.prs F;have lp: ∀m i o u H',i+m=t.2.length->m<o->(0<i->u=h+1)->(i=0->u=0)->Prs G H'-> ∃a6 K,kL o (zBY (dy (k+1)) n) [.ptr z 0,S (bdS lo),S (bdS hi), .ptr f 0, .int .i64 ((u:Nat):Int), .int .i64 ((i:Nat):Int)] H'=some (.exit 2 [.int .i64 ((K:Nat):Int)],a6)/\Prs G a6/\K=h+1:=by
   intro m
   induction m with
   | zero=>
    intro i o u H' b7 b8 hd b9 v;obtain⟨o,rfl⟩: ∃x,o=x+1:=⟨o - 1,by omega⟩;have Q:=zOs v F.ok N;have I:Eng.ld1 (.ptr f 3) H'=some C:=by rw[jP Q];rfl
    have T:lnSl C=some (.int .i64 s.kids.length):=hP.lnSl;have W: ¬((i:Nat):Int)< (s.kids.length:Int):=by omega
    refine⟨H',u,jZ ?_,v,hd (by omega)⟩;simp(maxSteps:=999999)(disch:=omega) only[zBY,eZ,I,T,W]
   | succ m ihm=>
    intro i o u H' b7 b8 hd b9 v;obtain⟨o,rfl⟩: ∃x,o=x+1:=⟨o - 1,by omega⟩;have c0:i<t.2.length:=by omega
    have a7:=zK c0;have wk:=KB.at Y.2.2 a7;obtain⟨pk,d1,Sa,Si,Sb,k1,k2,k3,_,_,_⟩:=r4.at a7;have Q:=zOs v F.ok N;have f1:Eng.ld1 (.ptr f 1) H'=some ks:=by rw[jP Q];rfl
    have I:Eng.ld1 (.ptr f 3) H'=some C:=by rw[jP Q];rfl
    have a0:Strs H' ks t.1:=Rw.prs hS v;have a8:bI H' C s.kids:=Rw.prs hP v;have T:lnSl C=some (.int .i64 s.kids.length):=a8.lnSl;have a3:lnSl ks=some (.int .i64 (t.1.length:Nat)):=a0.lnSl;have W:((i:Nat):Int)< (s.kids.length:Int):=by omega
    obtain⟨qk,ik,a1⟩:=a8.at (show i<s.kids.length by omega);have c1:s.kids[i]'(by omega)=pk:=by
     rw[zK (by omega)]at k1;exact y6 k1
    rw[c1]at a1;have a9:=ik .i64 _ rfl;have b4:fU t.1 hi i≠some []:=by
     simp only[fU]
     cases hc:t.1[i]? with
     | none=>exact a5
     | some x=>
      intro e;simp only[zC]at e;have hm:=List.mem_of_getElem? hc;have:=(Y.1 x hm).1;rw[e]at this;simp[Nd.mayK]at this
    obtain⟨J,e2,p2⟩:=ih k k (by omega) (by omega) (by omega) (b6.prs v) k2 k3 (.inl ⟨rfl,wk⟩) b4;obtain⟨H3,K,e3,p3,c2⟩:=ihm (i+1) o (h+1) J (by omega) (by omega) (fun _=>rfl) (fun hh=>by omega) (v.trans p2);refine⟨H3,K,(kX ?_).trans e3,p3,c2⟩;have hi1:((i:Nat):Int)+((1:Nat):Int)=((i+1:Nat):Int):=by omega
    have b0: ¬((h+1:Nat):Int)< ((0:Nat):Int):=by omega
    have b1:(dy (k+1)).fn 31 [.ptr z 0, .agg (jV pk),S (bdS (Q1 lo t.1 i)),S (bdS (fU t.1 hi i)), .bool false] H'=some (.int .i64 (h+1:Nat),J):=e2;have a4: ∀a,a=S (bdS (Q1 lo t.1 i))->zBZ (dy (k+1)) n [.ptr z 0,S (bdS lo),S (bdS hi), .ptr f 0, .int .i64 ((u:Nat):Int), .int .i64 ((i:Nat):Int),a,S (bdS hi)] H'=some (.norm [.ptr z 0,S (bdS lo),S (bdS hi), .ptr f 0, .int .i64 (h+1:Nat), .int .i64 (i+1:Nat)],J):=by
     intro a ha;subst ha;have U:zAD (dy (k+1)) n [.ptr z 0,S (bdS lo),S (bdS hi), .ptr f 0, .int .i64 ((u:Nat):Int), .int .i64 ((i:Nat):Int),S (bdS (Q1 lo t.1 i)),S (bdS (fU t.1 hi i))] H'=some (.norm [.ptr z 0,S (bdS lo),S (bdS hi), .ptr f 0, .int .i64 (h+1:Nat), .int .i64 (i+1:Nat)],J):=by
      by_cases h0:0<i
      .obtain rfl:=hd h0;have y:((0:Nat):Int)< ((i:Nat):Int):=by omega
       have c3: ¬(((h+1:Nat):Int)≠((h+1:Nat):Int)):=by omega
       simp(maxSteps:=999999)(disch:=omega) only[zAD,eZ,I,a9,a1,b1,b0,y,c3,hi1]
      .have y: ¬((0:Nat):Int)< ((i:Nat):Int):=by omega
       simp(maxSteps:=999999)(disch:=omega) only[zAD,eZ,I,a9,a1,b1,b0,y,hi1]
     by_cases b2:i<t.1.length
     .have Z:((i:Nat):Int)< ((t.1.length:Nat):Int):=by omega
      obtain⟨q1,j1,j2⟩:=a0.at b2;have a2:=j1 .i64 _ rfl;have hb:bdS (fU t.1 hi i)=t.1[i]:=by simp only[fU,zK b2,bdS]
      rw[hb]at U;simp(maxSteps:=999999)(disch:=omega) only[zBZ,eZ,f1,a3,Z,a2,j2,U]
     .have Z: ¬((i:Nat):Int)< ((t.1.length:Nat):Int):=by omega
      have hb:bdS (fU t.1 hi i)=bdS hi:=by simp only[fU,List.getElem?_eq_none (show t.1.length<=i by omega)]
      rw[hb]at U;simp(maxSteps:=999999)(disch:=omega) only[zBZ,eZ,f1,a3,Z,U]
    by_cases h0:0<i
    .have y:((0:Nat):Int)< ((i:Nat):Int):=by omega
     have c4:((i:Nat):Int) - ((1:Nat):Int)=((i - 1:Nat):Int):=by omega
     obtain⟨q1,j1,j2⟩:=a0.at (show i - 1<t.1.length by omega);have a2:=j1 .i64 _ rfl;have hb:bdS (Q1 lo t.1 i)=t.1[i - 1]'(by omega):=by
      obtain⟨j,rfl⟩: ∃j,i=j+1:=⟨i - 1,by omega⟩;simp only[Q1,zK (show j<t.1.length by omega),bdS];rfl
     have O:=a4 _ rfl;rw[hb]at O;simp(maxSteps:=999999)(disch:=omega) only[zBY,eZ,I,T,W,y,f1,c4,a2,j2,O]
    .have y: ¬((0:Nat):Int)< ((i:Nat):Int):=by omega
     obtain rfl:i=0:=by omega
     have hb:bdS (Q1 lo t.1 0)=bdS lo:=rfl;have O:=a4 _ rfl;rw[hb]at O;simp(maxSteps:=999999)(disch:=omega) only[zBY,eZ,I,T,W,y,O]
  obtain⟨J,K,e2,p2,rfl⟩:=lp t.2.length 0 n 0 G (by omega) (by omega) (fun hh=>by omega) (fun _=>rfl) (zOp F.ok);refine⟨J, ?_,F.trans p2⟩;rw[e];have f0:Eng.ld1 (.ptr f 0) G=some (.bool false):=by rw[jP N,r1];rfl
  have c5:((h+1:Nat):Int)+((1:Nat):Int)=((h+1+1:Nat):Int):=by omega
  simp(maxSteps:=999999)(disch:=omega) only[zII,eZ,f0,e2,zLB,c5]
theorem zDH (s:Sp)(f:Srt A):(bJ s A).length<=A.length+1:=by
 rw[bJ];split
 .split
  .cases a:lookP s.k A with
   | some v0=>
    obtain⟨h,e⟩:=(QO f).2 v0 a;rw[zJD f h s.v e];simp;omega
   | none=>
    have:=J6 s.k A;rw[JO f (ZE a)];simp;omega
  .omega
 .split
  .cases a:lookP s.k A with
   | some v0=>
    obtain⟨h,e⟩:=(QO f).2 v0 a;rw[zKa f h e];simp;omega
   | none=>rw[UI (ZE a)];omega
  .omega
def ShI (H0:AH)(f:AV)(i:Nat)(h:List AV)(H:AH):Prop:= ∃E a j m o M L txg p is V W root q kv T,h=[f, .ptr a 0, .int .i64 i]/\Wld E H a j m o M L txg p is V W root q kv T/\Sty E is T/\L<=200*i/\txg<=i/\E.ws.length<=200*txg/\kv.length<=i/\Prs H0 H/\(∀B,(W B\/V B\/B=a)->H0.next<=B)
theorem zBy (m n:Nat)(hm:400000000<=m)(hn:400000000<=n){j:List Sp}(b1:k.ok)(hv:SpR k l j)(d3: ∀s∈j,s.kd<256)(hi:h<j.length)(hl:j.length<=150)(i:ShI k l h N I):
  ∃b2 H',zAB (dy (m+2)) n N I=some (.norm b2,H')/\ShI k l (h+1) b2 H':=by
 obtain⟨E,f,Ad,As,p,M,L,txg,la,is,V,W,root,q,kv,T,rfl,w,d4,hL,g6,d5,g7,hp,C⟩:=i;have hk:=w.tx.d.okH;have b3:SpR I l j:=Rw.prs hv hp;obtain⟨A,o,i1,i2,i3,i4,i5⟩:=b3.at hi;have b4:=i1 .i64 _ rfl;have b5:(h:Int)< (j.length:Int):=by omega
 have hi1:(h:Int)+((1:Nat):Int)=((h+1:Nat):Int):=by omega
 have d6:Srt kv:=by
  obtain⟨_,_,_,_,_,_,_,_,_,hr,_⟩:=w.tx;exact hr.srt.1
 have c8:=d3 _ (yI hi);obtain⟨H1,E1,W1,T1,a3,q1,e1,G,a1,c1⟩:=zKA m n (by omega) (by omega) j[h] c8 w (by omega) (by omega);have a5:(bJ j[h] kv).length<=h+1:=by have:=zDH j[h] d6;omega
 generalize g4:bJ j[h] kv=F at*
 have a6:=d4.chd c1;have a7:E1.ws.length<=200*txg:=by rw[c1.ws];exact d5
 have N1:=a1.1.next
 have d7:Prs k H1:=⟨G.tx.d.okH,by have:=hp.next;omega,fun B u _=>by
  rw[a1.1.keep B (by have:=hp.next;omega) (fun x=>by
   have:=C B (by rcases x with x | x;exact .inl x;exact .inr (.inr x));omega),hp.keep B u (fun x=>x)]⟩
 have y: ∀B,(W1 B\/V B\/B=f)->k.next<=B:=fun B u=>by
  have:=hp.next
  rcases u with x | x | x
  .rcases a1.2 B (.inl x)with(z | z) | z
   .exact C B (.inl z)
   .exact C B (.inr (.inr z))
   .omega
  .exact C B (.inr (.inl x))
  .exact C B (.inr (.inr x))
 obtain⟨us,H0,e2,O,d8⟩:=zFW (m+1) n (by omega) G.tx (by omega) (by omega);have w2:=G.prs O;obtain⟨lv,U,d9⟩:=w2.gW;obtain⟨g8,e0,g9⟩:=G.gW;have r2:Eng.ld1 (.ptr f 2) H1=some (.ptr p 0):=by rw[jP e0];rfl
 have e5:Eng.ld1 (.ptr f 2) us=some (.ptr p 0):=by rw[jP U];rfl
 have b6:Eng.ld1 (.ptr f 4) us=some lv:=by rw[jP U];rfl
 have a8:lnSl lv=some (.int .i64 F.length):=d9.row.lnSl;have b7: ¬(((0:Nat):Int)≠((0:Nat):Int)):=by omega
 have b8:lnSl l=some (.int .i64 j.length):=b3.lnSl;have b9:QX .neq (.bool true) (.bool true)=some (.bool false):=by rw[KU];rfl
 have c0:QX .neq (.bool false) (.bool false)=some (.bool false):=by rw[KU];rfl
 have e6: ∃a,Prs us a/\ ∀ {x:Rs},(bV (cN 4 l (.int .i64 h)) fun e7=>bV (fAd 3 e7) fun e8=>bV (Eng.ld1 e8 a) fun e9=>bV (wO .rem e9 (.int .i64 (.ofNat 4))) fun f1=>bV (wO .eql f1 (.int .i64 (.ofNat 1))) fun c2=>
   jn (wnt c2 true (bR (f17 (dy (m+2)) n [.ptr f 0, .bool true] a) fun f2 I=>bV (aun .not f2) fun f3=>some (.norm [f3],I)) (some (.norm [jT],a))) fun vs I=>hd vs fun c5 vs=>bV (pk3 (some c2) (some c5) (some (.bool false))) fun f4=>
   cnd f4 (bV (some (.bool false)) fun c9=>some (.ret c9,I)) (bV (wO .add (.int .i64 h) (.int .i64 (.ofNat 1))) fun f5=>some (.norm [l, .ptr f 0,f5],I)))=x->zAB (dy (m+2)) n [l, .ptr f 0, .int .i64 h] I=x:=by
  rcases d8 with⟨h0,d0,rfl⟩ | ⟨i,nd,t,S,f6,c3,J,Y,rfl⟩
  .refine⟨us,zOp O.ok,fun {x} hx=> ?_⟩;have Z:(F.length:Int)=((0:Nat):Int):=by rw[d0];rfl
   have a0: ¬((0:Nat):Int)< ((0:Nat):Int):=by omega
   rw[<-hx];simp(maxSteps:=999999)(disch:=omega) only[zAB,eZ,b8,b5,b4,i2,e1,r2,e2,jR,nth,b7,b6,a8,Z,a0,b9,c0]
  .obtain⟨a,e3,H⟩:=zKQ (dy (m+2)) n w2.tx;obtain⟨dr,es,g5,hc,ti,z2,z3,z4,z5,z6,z7⟩:=(w2.prs H).tx;obtain⟨Q,e4,p4⟩:=zI3 i (m+2) n (lo:=none) (hi:=none) (top:=true) (by have:=J.low (by rw[Y];omega);omega) (by have:=J.low (by rw[Y];omega);omega) (by omega) ti f6 c3 (.inr ⟨rfl,rfl,rfl,J⟩) (by simp);refine⟨Q,H.trans p4,fun {x} hx=> ?_⟩;have f7:=zDc i c3 J;rw[Y]at f7;have Z: ¬(F.length:Int)=((0:Nat):Int):=by omega
   have b1: ¬((i+1:Nat):Int)=((0:Nat):Int):=by omega
   have a0:((0:Nat):Int)< ((i+1:Nat):Int):=by omega
   have c6: ¬(((i+1:Nat):Int)≠((i+1:Nat):Int)):=by omega
   have f8:=zOs H O.ok U;have f9:Eng.ld1 (.ptr f 2) a=some (.ptr p 0):=by rw[jP f8];rfl
   have ck: ∀K:Rs,chk (Eng.ld1 (.ptr f 2) a) (.ptr p 0) K=K:=fun K=>kY f9 (by simp[aveq])
   have g0:f31 (dy (m+2)) n [.ptr p 0, .agg (jV a3), .str 0 0, .str 0 0, .bool true] a=some (.int .i64 (i+1:Nat),Q):=e4;rw[<-hx];simp(maxSteps:=999999)(disch:=omega) only[zAB,eZ,b8,b5,b4,i2,e1,r2,e2,jR,nth,b7,b6,a8,Z,b1,a0,b9,c0,e5,e3,ck,g0,c6]
 obtain⟨a,H,a9⟩:=e6;have a2:=O.trans H;have w3:=G.prs a2;have v:Prs k a:=d7.trans a2;have g1:SpR a l j:=Rw.prs hv v;obtain⟨A',o',j1,j2,j3,j4,j5⟩:=g1.at hi;have c4:=j1 .i64 _ rfl;have b0:wO .rem (.int .i64 j[h].nr) (.int .i64 (4:Nat))=some (.int .i64 (j[h].nr.tmod ((4:Nat):Int))):=zDl _ _ _ (by decide);by_cases h1:j[h].nr.tmod ((4:Nat):Int)=((1:Nat):Int)
 .obtain⟨Q,h2,g2,g3,V4,c7,T4,M4,W4,e4,w4,d1,d2,a4⟩:=zDA m n (by omega) (by omega) w3 a6 (by omega) a7 (by omega);have N4:=a4.1.next;have h3:=a2.next
  refine⟨_,Q,a9 ?_,_,f,Ad,As,p,M4,L+200,txg+1,g3,g2,V4,W4,c7,[],F,T4,rfl,w4,d1,by omega,by omega,d2,a5,⟨w4.tx.d.okH,by have:=v.next;omega,fun B u _=> ?_⟩,fun B u=> ?_⟩
  .simp(maxSteps:=999999)(disch:=omega) only[eZ,c4,j5,b0,h1,e4,hi1]
  .rw[a4.1.keep B (by have:=v.next;omega) (fun x=>by
    have:=y B (by rcases x with(x | x) | x;exact .inl x;exact .inr (.inl x);exact .inr (.inr x));omega),v.keep B u (fun x=>x)]
  .have:=v.next
   rcases a4.2 B (by rcases u with x | x | x;exact .inl (.inl x);exact .inl (.inr x);exact .inr x)with(z | z) | z
   .rcases z with z | z
    .exact y B (.inl z)
    .exact y B (.inr (.inl z))
   .exact y B (.inr (.inr z))
   .omega
 .refine⟨_,a,a9 ?_,E1,f,Ad,As,p,M,L+200,txg,la,is,V,W1,a3,q1,F,T1,rfl,w3,a6,by omega,by omega,a7,a5,v,y⟩;simp(maxSteps:=999999)(disch:=omega) only[eZ,c4,j5,b0,h1,hi1]
theorem zDJ (m n:Nat)(hm:400000000<=m)(x:400000000<=n){f:List Sp}(o:k.ok)(j:SpR k l f)(p: ∀s∈f,s.kd<256)(hl:f.length<=150):
  ∀d i H0 a H,i+d=f.length->d<H0->ShI k l i a H-> ∃H',kL H0 (zAB (dy (m+2)) n) a H=some (.exit 0 [],H')/\Prs k H':=by
 intro d
 induction d with
 | zero=>
  intro i H0 a H hi y h;obtain⟨H0,rfl⟩: ∃k',H0=k'+1:=⟨H0 - 1,by omega⟩;obtain⟨E,Q,S,U,Y,M,L,txg,Z,is,V,W,root,q,kv,T,rfl,w,J,hL,K,N,O,hp,I⟩:=h;have t:SpR H l f:=Rw.prs j hp;have u: ¬((i:Nat):Int)< (f.length:Int):=by omega
  refine⟨H,jZ ?_,hp⟩;simp(maxSteps:=999999)(disch:=omega) only[zAB,eZ,t.lnSl,u]
 | succ d ih=>
  intro i H0 a H hi y h;obtain⟨H0,rfl⟩: ∃k',H0=k'+1:=⟨H0 - 1,by omega⟩;obtain⟨v,H',e,z⟩:=zBy m n hm x o j p (by omega) hl h;obtain⟨C,F,G⟩:=ih (i+1) H0 v H' (by omega) (by omega) z;exact⟨C,(kX e).trans F,G⟩
theorem treeShape_walk (m n:Nat)(hm:400000000<=m)(u:400000000<=n)(a:k.ok){H:List Sp}(i:SpR k l H)(t: ∀s∈H,s.kd<256):
  ∃H',f6z (dy (m+2)) n [l] k=some (.bool true,H')/\Prs k H':=by
 have f: ∀k:AH,z13 (dy (m+2)) n [] k=some (.bool true,k):=fun _=>rfl
 obtain⟨b,j,hb⟩:=zIy (dy (m+2)) n (by omega) i
 cases b with
 | true=>
  refine⟨k, ?_,zOp a⟩;simp(maxSteps:=999999)(disch:=omega) only[f6z,eZ,f,j]
 | false=>
  have hl:=hb rfl;obtain⟨o,p,x,y,z,M,V,W,C,F,w,q⟩:=zHb (dy (m+2)) n (by omega) a;have G:ShI k l 0 [l, .ptr p 0, .int .i64 (0:Nat)] o:=
   ⟨⟨512,[],[],fun _=>False⟩,p,x,y,z,M,0,0,0,zBI,V,W,pZ,[],[],[],rfl,w,Sty.new,by omega,by omega,by simp,by simp,F,fun B h=>q B (by
    rcases h with h | h | h
    .exact .inr (.inl h)
    .exact .inl h
    .exact .inr (.inr h))⟩
  obtain⟨I,J,K⟩:=zDJ m n hm u a i t hl H.length 0 n _ o (by omega) (by omega) G;refine⟨I, ?_,K⟩;simp(maxSteps:=999999)(disch:=omega) only[f6z,eZ,f,j,C,cq,J,zNA]
end Go.Eng.Sh
end
section
namespace Go.Proofs.YtaaflpnhdkoaeaaGreat.steps13
open Go.ChangeShapes Go.WideShapes Go.ChangeAt Go.RowKit
theorem zDe: Tryz.prog.cellsOf 29=4:=by kernel_rfl
theorem zJ0: Tryz.prog.cellsOf 5=1:=by kernel_rfl
theorem zIZ: Tryz.prog.cellsOf 3=1:=by kernel_rfl
theorem zDf: Tryz.prog.cellsOf 9=1:=by kernel_rfl
abbrev Raw:=Int×ByteArray×ByteArray×Int
def zDD (s:Raw):List Value:=[.int .u8 s.1, .string s.2.1, .string s.2.2.1, .int .i64 s.2.2.2]
def zDZ (s:Raw):Prop:=0<=s.1/\s.1<256
open Go.Eng.Sh (Sp spV SpR)
def zKF (s:Raw):Sp:=⟨s.1.toNat,s.2.1.data.toList,s.2.2.1.data.toList,s.2.2.2⟩
theorem zMS (N:Nat){s:Raw}(h:zDZ s):spV (zKF s)=(zDD s).map (Go.Eng.cellAV N):=by
 have a:((s.1.toNat:Nat):Int)=s.1:=Int.toNat_of_nonneg h.1;simp only[zDD,yE,List.map_nil,Go.Eng.cellAV_string,spV,zKF,a];rfl
set_option maxRecDepth 100000 in
theorem zKB {enc:TypeId×Value->a}{x:DataW a×List MemPlace}(H:DataW.trod enc Tryz.prog M h (fun _=>true) c e 29 R=some x): ∃s:Raw,R=zDD s/\zDZ s:=by
 obtain⟨xs,n,_,_,hl,m,f⟩:=DataW.trod_struct Tryz.underlying29 H;rw[zDe]at hl
 match R,hl with
 | [c0,c1,c2,c3],_=>
  match xs,m with
  | [y0,y1,y2,y3],_=>
   have k0:DataW.trod enc Tryz.prog M h (fun _=>true) c n 5 [c0]=some y0:=by
    have this:DataW.trod enc Tryz.prog M h (fun _=>true) c n 5 (List.take (Tryz.prog.cellsOf 5) (List.drop 0 [c0,c1,c2,c3]))=some y0:=f 0 _ rfl;rw[zJ0]at this;exact this
   have k1:DataW.trod enc Tryz.prog M h (fun _=>true) c n 9 [c1]=some y1:=by
    have this:DataW.trod enc Tryz.prog M h (fun _=>true) c n 9 (List.take (Tryz.prog.cellsOf 9) (List.drop 1 [c0,c1,c2,c3]))=some y1:=f 1 _ rfl;rw[zDf]at this;exact this
   have k2:DataW.trod enc Tryz.prog M h (fun _=>true) c n 9 [c2]=some y2:=by
    have this:DataW.trod enc Tryz.prog M h (fun _=>true) c n 9 (List.take (Tryz.prog.cellsOf 9) (List.drop 2 [c0,c1,c2,c3]))=some y2:=f 2 _ rfl;rw[zDf]at this;exact this
   have k3:DataW.trod enc Tryz.prog M h (fun _=>true) c n 3 [c3]=some y3:=by
    have this:DataW.trod enc Tryz.prog M h (fun _=>true) c n 3 (List.take (Tryz.prog.cellsOf 3) (List.drop 3 [c0,c1,c2,c3]))=some y3:=f 3 _ rfl;rw[zIZ]at this;exact this
   clear f H;obtain⟨o,p,_,i⟩:=DataW.trod_int Tryz.underlying5 k0;obtain⟨q,t,_⟩:=DataW.trod_string Tryz.underlying9 k1;obtain⟨u,v,_⟩:=DataW.trod_string Tryz.underlying9 k2;obtain⟨y,z,_⟩:=DataW.trod_int Tryz.underlying3 k3;obtain rfl:=(List.cons.inj p).1;obtain rfl:=(List.cons.inj t).1;obtain rfl:=(List.cons.inj v).1;obtain rfl:=(List.cons.inj z).1;refine⟨(o,q,u,y),rfl, ?_⟩;simp only[Lit.wf,IntKind.min,IntKind.max,IntKind.signed,IntKind.bits,zF,zQ]at i;simp only[zDZ];simp at i;omega
instance:Inhabited Raw:=⟨(0, .empty, .empty,0)⟩
set_option maxRecDepth 100000 in
theorem steps_in {enc:TypeId×Value->a}{d:DataW a}{o:List MemPlace}(p: ∃H len cap,j= .slice H len cap)(w:DataW.Trod enc Tryz.prog M h (fun _=>true) c 22 j d o):
  ∃l:List Sp,SpR (Go.Eng.H0 M) (Go.Eng.argAV M.heap.size j) l/\ ∀s∈l,s.kd<256:=by
 obtain⟨z,u,x,rfl⟩:=p;obtain⟨y,q⟩:=w;obtain⟨l,t,i⟩:=Go.Eng.srows_arg (α:=Raw) (k:=4) (by decide) (vals:=zDD) (fun _=>rfl) (good:=zDZ) Tryz.underlying22 zDe (fun w=>zKB w) q;refine⟨l.map zKF, ?_,fun s f=> ?_⟩
 .have e:(l.map zKF).flatMap spV=l.flatMap fun s=>(zDD s).map (Go.Eng.cellAV M.heap.size):=by
   have: ∀l:List Raw,(∀s∈l,zDZ s)->(l.map zKF).flatMap spV=l.flatMap fun s=>(zDD s).map (Go.Eng.cellAV M.heap.size):=by
    intro l
    induction l with
    | nil=>intro _;rfl
    | cons s l ih=>
     intro base;rw[yE,qM,qM,zMS M.heap.size (base s (zJ ..)),ih fun s f=>base s (zE _ f)]
   exact this l i
  show Go.Eng.Rw 4 _ _ (l.map zKF).length _;rw[e,jD];exact t
 .obtain⟨r,hr,rfl⟩:=qK.1 f;have:=i r hr;simp only[zKF];simp only[zDZ]at this;omega
end Go.Proofs.YtaaflpnhdkoaeaaGreat.steps13
end
section
namespace Go.Proofs.YtaaflpnhdkoaeaaGreat.treeShape
open Go.ChangeShapes Go.WideShapes Go.ChangeAt Go.RowKit
theorem own:ownKnob Tryz.prog.godebug=none:=by kernel_rfl
theorem laid:laidOutB Tryz.prog=true:=by kernel_rfl
set_option maxRecDepth 100000 in
theorem contract (H:Type)(enc:TypeId×Value->H)(W:World)(base:Nat)(args:Array Value)(u M:List (DataW H))(G:List MemPlace)
  (o: ∀(j:Nat) t v, Tryz.f6.params[j]? =some t->args[j]? =some v->Value.okWide Tryz.prog W .any base t v)
  (y:DataW.Whole enc Tryz.prog Tryz.f6.params.toList Rows.treeShapeSpec.vars false W args.toList u M G):
  Calls Tryz.prog 6 args W fun e z=> ∃v,e= .returned v/\Rows.treeShapeSpec.post enc Tryz.prog Tryz.f6 false true false false W args v z:=by
 have f:=y;obtain⟨p,q,s,N,rfl,Y,Z⟩:=y;have a:DataW.TrodAll enc Tryz.prog W 0 (fun _=>true) true Tryz.f6.params.toList args.toList u p:=s;rw[Tryz.params6]at a o;obtain⟨i,a0,d0,a1,C,q0,V,rfl,rfl,F,O⟩:=trodAll_cons a;obtain⟨rfl,rfl,rfl⟩:=trodAll_nil O;obtain rfl:args= #[i]:=by cases args;simp_all
 obtain⟨rfl,rfl⟩:=trodVars_none N;clear s;have J: ∀x∈C,x.block<W.heap.size:=fun x Q=>f.lt x (by simp[Q])
 obtain⟨l,S,L⟩:=steps13.steps_in (okWide_slice Tryz.underlying22 (o 0 22 i rfl rfl)) F;obtain⟨m,hm⟩: ∃m:Nat,400000000<=m:=⟨_,zP _⟩;obtain⟨H',K,T⟩:=Go.Eng.Sh.treeShape_walk m (m+2) hm (by omega) (Go.Eng.H0_ok W) S L;have I:=Go.Eng.calls_param (Go.Eng.Sh.f6z_ok (Go.Eng.Sh.dy_ok (m+2)) (m+2)) W (args:= #[i]) (H':=H') K (fun A a=>T.keep A a (fun x=>x));refine I.mono fun e z ⟨U,hb⟩=> ?_
 subst U;simp only[yC]at f;refine⟨_,rfl,_,_,_,[],C++[],[],f, ?_, ?_,rfl,hb.frame _,fun h=>by cases h⟩
 .exact trodAll_cons_mk (shut_bool Tryz.underlying4 _) trodAll_mk0
 .exact trodAll_cons_mk (Below.trod laid (by kernel_rfl) (of_decide_eq_true (by kernel_rfl)) F hb J) trodAll_mk0
set_option maxRecDepth 100000 in
theorem lifted (a:Os)(f:a.Started)(H:Type)(enc:TypeId×Value->H):
  ReturnsInHanded {} Tryz.checked a 6 .any (Rows.treeShapeSpec.pre6 enc Tryz.prog Tryz.f6 Rows.treeShapeRow.domain false) (Rows.treeShapeSpec.post enc Tryz.prog Tryz.f6 false true false false):=by
 refine returnsInHanded_of_change (C:= Tryz.checked) own f (by kernel_rfl) Tryz.func6
  (ChangeSpec.witness6 (enc:=enc) (C:= Tryz.checked) false ⟨#[], #[.slice none 0 0],[]⟩ 8 (by kernel_rfl) (by kernel_rfl) (by kernel_rfl) (by kernel_rfl)) ?_
 intro W base args j m h i o _ _;exact contract H enc W base args j m h i o
theorem holds:Rows.TreeShapeSaid:=
 OpenClaim.holds_of_wide 6 Tryz.f6 rfl rfl rfl rfl rfl rfl rfl ⟨rfl,rfl,rfl,rfl,rfl⟩ rfl rfl rfl rfl rfl (by kernel_rfl) Tryz.func6 (by kernel_rfl)
  (of_decide_eq_true (by kernel_rfl)) (by unfold Func.isWrapper;first | (rw[if_pos (by decide+kernel)];kernel_rfl) | (rw[if_neg (by decide+kernel)];exact⟨rfl,rfl⟩))
  (fun f a H enc _=>lifted f a H enc)
end Go.Proofs.YtaaflpnhdkoaeaaGreat.treeShape
namespace Go.Proofs.YtaaflpnhdkoaeaaGreat
theorem treeShape_holds:Rows.TreeShapeSaid:=treeShape.holds
end Go.Proofs.YtaaflpnhdkoaeaaGreat
end



